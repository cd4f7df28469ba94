import Derived.Test.YtigloobbpcnnhaaGreatDoorKB3
-- texts of this claim, packed, what nothing reaches struck (wip/tools/prune.py): HDlaw HDlines2 HDmodel FThreshingref02Line FThreshingref02Lines FThreshingref02Head FThreshingref02Number HDev3 HDref8p
section
namespace Go.Proofs.YtigloobbpcnnhaaGreatDoor.PB
open Go.RowKit Go.Proofs.YtigloobbpcnnhaaGreatDoorW.PrintWords Go.Proofs.YtigloobbpcnnhaaGreatDoorW.PrintLast Go.Proofs.YtigloobbpcnnhaaGreatDoorW.PrintMore
set_option linter.unusedVariables false
set_option linter.unusedSimpArgs false
section
variable {P : Program} {ops : Array Oper} {rest : List Oper} {o : Oper} {a : Act} {Q : Exit → Act → World → Prop}
/-- A text's bytes, as an event. -/
theorem text_event {W : World} (src dst : TypeId) {u : TypeDesc} (x : Operand) (ho : o.op = .convert src dst x) (hgd : o.guard = none) (l : List UInt8) (hx : a.eval x = .string (baOf l)) (hs : P.underlying src = some u) (hd : P.underlying dst = some (.slice 5)) (he : P.underlying 5 = some (.int .u8)) (hl : l.length ≤ 9223372036854775807)
    (h : ∀ g c w1, (Kd.int .u8).C w1 (some ⟨g, 0, none⟩) l.length (bI l) → l.length ≤ c → Below W.heap.size W w1 → wpList P ops Q rest (a.put o.dst (.slice (some ⟨g, 0, none⟩) l.length c)) w1) : wpList P ops Q (o :: rest) a W := by
  have hrun : (execOp a.eval o).run P W = .ok (.value (.slice (some ⟨W.heap.size, 0, none⟩) l.length (grownCap W (baOf l).size 0 5))) (Lib.bytesWorld W 5 (baOf l)) := by
    unfold execOp
    simp only [ho, hx]
    have := print_bytes (P := P) src dst 5 hs hd he (baOf l) W
    simp [this, Sem.run_bind, Sem.run_pure, Result.andThen, baOf_size]
  have hem := em_bytes W l hl
  obtain ⟨g, c, e, hg, hg2, hc⟩ := hem.slice
  cases e
  refine Kd.event_run hgd hrun ?_
  exact h _ _ _ hem.C hc (bytes_below (Below.refl _ _) (Nat.le_refl _) 5 (baOf l))
end
theorem sum_mem : ∀ (cs : List (List Int)) (c : List Int), c ∈ cs → c.length ≤ (cs.map List.length).sum := by
  intro cs
  induction cs with
  | nil => intro c h; cases h
  | cons d cs ih =>
    intro c h
    rw [List.map_cons, List.sum_cons]
    rcases List.mem_cons.1 h with rfl | h
    · omega
    · have := ih c h; omega
theorem dParse_small (l : List UInt8) : (dParse l).1.2.length + ((dParse l).1.2.map List.length).sum ≤ l.length ∧ ∀ c ∈ (dParse l).1.2, c.length ≤ l.length := by
  rcases dParse_kinds l with ⟨e, n, h, _⟩ | ⟨v, cs, h, _, hs⟩
  · rw [h]
    exact ⟨Nat.zero_le _, fun c hc => by cases hc⟩
  · rw [h]
    refine ⟨by show cs.length + (cs.map List.length).sum ≤ l.length; omega, fun c hc => ?_⟩
    have := sum_mem cs c hc
    omega
/-- Parse of bytes that are read somewhere. -/
theorem parse_c (w0 w : World) (ad : Addr) (l : List UInt8) (c : Nat) (hC : (Kd.int .u8).C w (some ad) l.length (bI l)) (hc : l.length ≤ c) (hl : l.length ≤ 100000) (hlt : LT w0.heap.size w0) (hB : Below w0.heap.size w0 w) :
    Calls Tryz.prog 20 #[.slice (some ad) l.length c] w fun e w' => ∃ A cc, e = .returned (.tuple #[.agg #[.int .i64 (dParse l).1.1, .slice A (dParse l).1.2.length cc], .int .i64 (dParse l).2.1, .int .i64 (dParse l).2.2]) ∧ kcs.C w' A (dParse l).1.2.length (dParse l).1.2 ∧ (dParse l).1.2.length ≤ cc ∧ Below w0.heap.size w0 w' ∧ Below w.heap.size w w' := by
  refine (parse_calls ad c l w hC hc hl (hlt.pay hB)).mono ?_
  rintro e w2 ⟨va, he, hR, hb⟩
  obtain ⟨A, cc, rfl⟩ := Kd.R_slice hR
  exact ⟨A, cc, he, (Kd.R_reads' hR).2.2, (Kd.R_reads' hR).2.1, below_step hB hb, hb⟩
/-- The same formula twice. -/
theorem same_calls (w0 w : World) (v : Int) (cs : List (List Int)) (A A' : Option Addr) (c c' : Nat) (hC : kcs.C w A cs.length cs) (hc : cs.length ≤ c) (hC' : kcs.C w A' cs.length cs) (hc' : cs.length ≤ c') (hl : cs.length ≤ 1000000000 ∧ ∀ q ∈ cs, q.length ≤ 1000000000) (hB : Below w0.heap.size w0 w) :
    Calls Tryz.prog 23 #[.agg #[.int .i64 v, .slice A cs.length c], .agg #[.int .i64 v, .slice A' cs.length c']] w fun e w' => e = .returned (.bool true) ∧ Below w0.heap.size w0 w' := by
  obtain ⟨k, hk⟩ := (sameF_ev v cs (by omega) (fun q hq => by have := hl.2 q hq; omega)).rounds
  refine (threshingkit_SameFormula.calls k v A c cs v A' c' cs true w hC hc hC' hc' hk).mono ?_
  rintro e w2 ⟨rfl, hb⟩
  exact ⟨rfl, below_step hB hb⟩
theorem works_c (w0 w : World) (hlt : LT w0.heap.size w0) (hB : Below w0.heap.size w0 w) : Calls Tryz.prog 8 #[] w fun e w' => e = .returned (.bool true) ∧ Below w0.heap.size w0 w' := by
  refine (works_calls w (hlt.pay hB)).mono ?_
  rintro e w2 ⟨rfl, hb⟩
  exact ⟨rfl, below_step hB hb⟩
theorem blank_1 (s : List UInt8) : (dParse ([10] ++ s)).1 = (dParse s).1 ∧ (dParse ([10] ++ s)).2.1 = (dParse s).2.1 ∧ (dParse ([10] ++ s)).2.2 = if (dParse s).2.1 = 0 then 0 else (dParse s).2.2 + 1 :=
  dParse_blank [] s (by decide) rfl
theorem blank_2 (s : List UInt8) : (dParse ([32, 9, 13, 10] ++ s)).1 = (dParse s).1 ∧ (dParse ([32, 9, 13, 10] ++ s)).2.1 = (dParse s).2.1 ∧ (dParse ([32, 9, 13, 10] ++ s)).2.2 = if (dParse s).2.1 = 0 then 0 else (dParse s).2.2 + 1 :=
  dParse_blank [32, 9, 13] s (by decide) rfl
theorem blank_3 (r s : List UInt8) (hr : 10 ∉ r) : (dParse (([99] ++ r ++ [10]) ++ s)).1 = (dParse s).1 ∧ (dParse (([99] ++ r ++ [10]) ++ s)).2.1 = (dParse s).2.1 ∧ (dParse (([99] ++ r ++ [10]) ++ s)).2.2 = if (dParse s).2.1 = 0 then 0 else (dParse s).2.2 + 1 := by
  have e : ([99] ++ r ++ [10]) ++ s = (99 :: r) ++ 10 :: s := by simp
  rw [e]
  refine dParse_blank (99 :: r) s (fun h => ?_) rfl
  rcases List.mem_cons.1 h with h | h
  · exact absurd h (by decide)
  · exact hr h
end Go.Proofs.YtigloobbpcnnhaaGreatDoor.PB
end
section
namespace Go.Proofs.YtigloobbpcnnhaaGreatDoor.PB
open Go.RowKit Go.Shelf Go.Proofs.YtigloobbpcnnhaaGreatDoorW.PrintWords Go.Proofs.YtigloobbpcnnhaaGreatDoorW.PrintLast Go.Proofs.YtigloobbpcnnhaaGreatDoorW.PrintMore
set_option linter.unusedVariables false
set_option linter.unusedSimpArgs false
attribute [local go_sem] Oper.semAt_some
theorem cut_calls2 (A : Option Addr) (c b2 d2 : Nat) (t : List UInt8) (w0 w : World) (hCw : (Kd.int .u8).C w A t.length (bI t)) (hC : (Kd.int .u8).C w0 A t.length (bI t)) (hc : t.length ≤ c) (hne : t ≠ []) (hs : t.length ≤ 100000) (hlt : LF w) (hb2 : w.heap[b2]? = some (.cells #[.int .u8 10] 5 (0, 0))) :
    Calls Tryz.prog 32 #[.slice A t.length c, .slice (some ⟨b2, 0, none⟩) 1 d2] w fun e w' => ∃ (l r : List UInt8) (A2 : Option Addr) (c2 : Nat) (fl : Bool), e = .returned (.tuple #[.slice A l.length c, .slice A2 r.length c2, .bool fl]) ∧ dLines t = l :: dLines r ∧ (Kd.int .u8).C w0 A l.length (bI l) ∧ l.length ≤ c ∧ (Kd.int .u8).C w0 A2 r.length (bI r) ∧ r.length ≤ c2 ∧ r.length < t.length ∧ ∃ q, w' = w.drewN q := by
  obtain ⟨m, hm⟩ := hlt.m
  have hpos : 0 < t.length := List.length_pos_iff.2 hne
  have hin2 : Lib.BytesIn w (some ⟨b2, 0, none⟩) 1 [10] := fun _ => ⟨b2, 0, rfl, fun i hi => by
    obtain rfl : i = 0 := by omega
    exact (blk_cell hb2 0).trans rfl⟩
  obtain ⟨ad, rfl, _⟩ := Kd.at_int hC 0 (by omega) (by omega)
  refine (Tryz.bytes_Cut_all (some ad) (some ⟨b2, 0, none⟩) t.length c 1 d2 (bI t) [10] m w (bI_length t) rfl (bI_mem t) (by intro y hy; rw [List.mem_singleton.1 hy]; omega) (bytesIn_C hCw) hin2 (fun e => by cases e) hc (by omega) (by omega) hm).mono ?_
  rw [bI_back, show Lib.bytesOf [10] = [10] from rfl]
  rintro e w' ⟨rfl, q, rfl⟩
  rcases split_first t with h | ⟨l, r, ht, h⟩
  · refine ⟨t, [], none, 0, false, ?_, by rw [dLines_no t hne h]; rfl, hC, hc, Kd.C_nil _ _, Nat.le_refl _, by simpa using hpos, q, rfl⟩
    unfold Lib.cutV
    rw [index_no t 10 h, if_neg (by omega)]
    rfl
  · have hlen : t.length = l.length + 1 + r.length := by rw [ht, List.length_append, List.length_cons]; omega
    have hix : Lib.index t [10] = (l.length : Int) := by rw [ht]; exact index_at l r 10 h
    have hl : t.take l.length = l := by rw [ht, List.take_left]
    have hr : t.drop (l.length + 1) = r := by
      rw [ht, ← List.drop_drop, List.drop_left]
      rfl
    have hC' := hC
    rw [← bI_length t] at hC'
    have hCl := Kd.C_take (m := l.length) hC' (by rw [bI_length]; omega)
    have hCr := Kd.C_drop (m := l.length + 1) (c := c) hC' (by rw [bI_length]; omega) (by rw [bI_length]; exact hc)
    rw [bI_take, hl, bI_length] at hCl
    rw [bI_drop, hr, bI_length, show (Kd.int .u8).sz = 1 from rfl, Nat.mul_one] at hCr
    refine ⟨l, r, _, c - (l.length + 1), true, ?_, by rw [ht]; exact dLines_cut l r h, hCl, by omega, hCr, by omega, by omega, q, rfl⟩
    unfold Lib.cutV Lib.fromV
    rw [hix, if_pos (Int.natCast_nonneg _), Int.toNat_natCast, show t.length - (l.length + 1) = r.length by omega]
/-- What a round keeps. -/
def KpS (Sy : World → Prop) (Bn : Nat) (W W' : World) : Prop := (Sy W → Sy W') ∧ W'.heap[Bn]? = W.heap[Bn]?
set_option maxRecDepth 100000 in
set_option maxHeartbeats 1000000 in
theorem lines_in2 (n : Nat) (hn : 1 ≤ n) (l Bn : Nat) (w0 : World) (A0 : Option Addr) (c0 : Nat) (s : List UInt8) (hs : s.length ≤ 100000) (hC0 : (Kd.int .u8).C w0 A0 s.length (bI s)) (hc0 : s.length ≤ c0) (J Jx : List LR → World → Prop) (hJ : AbidesBox Bn J) (Sy : World → Prop) (hSl : ∀ W, Sy W → LF W) (hSc : ∀ (W : World) (A : Option Addr) (t : List UInt8), Sy W → (Kd.int .u8).C w0 A t.length (bI t) → (Kd.int .u8).C W A t.length (bI t)) (hSb : ∀ W W', Sy W → Below W.heap.size W W' → Sy W') (hSs : ∀ (W : World) (v : Value), Sy W → Sy (W.setCell ⟨Bn, 0, none⟩ v))
    (hY : ∀ pre x W, J pre W → LOK w0 s (pre ++ [x]) → YieldAt Fence.wide (n - 1) Tryz.prog l x.enc W fun e W' =>
      (e = .returned (.bool true) ∧ J (pre ++ [x]) W' ∧ KpS Sy Bn W W') ∨ (e = .returned (.bool false) ∧ Jx (pre ++ [x]) W'))
    (W : World) (hBn : W.heap[Bn]? = some (.cells #[.slice A0 s.length c0] 46 (0, 0))) (hW : Sy W) (h0 : J [] W) :
    CallsIn Fence.wide n Tryz.prog 31 #[.func (.yield l) #[] #[], .pointer (some ⟨Bn, 0, none⟩)] W fun e W' => (∃ v, e = .returned v) ∧
      ((∃ ys, (ys.map (·.l) = dLines s ∧ LOK w0 s ys) ∧ J ys W') ∨ (∃ pre, LOK w0 s pre ∧ Jx pre W')) := by
  refine callsIn_of_wp Tryz.func31 rfl trivial ?_ rfl
  simp only [Tryz.ntmps31, List.size_toArray, List.length_cons, List.length_nil, Nat.reduceAdd, Nat.reduceSub, Array.replicate_succ, Array.replicate_zero, List.push_toArray, List.append_toArray, List.nil_append, List.cons_append]
  have HBN := Aside0.mk hBn
  have HSL := Aside0.mk hSl
  have HSC := Aside0.mk hSc
  have HSB := Aside0.mk hSb
  have HSS := Aside0.mk hSs
  have HS := Aside0.mk hs
  have H0 := Aside0.mk h0
  have HY := Aside0.mk hY
  have HJ := Aside0.mk hJ
  have HC0 := Aside0.mk hC0
  have HL0 := Aside0.mk hc0
  have HW := Aside0.mk hW
  clear hBn hSl hSc hSb hSs hs h0 hY hJ hC0 hc0 hW
  gi_wp2
  gi_loopw [3] (fun v wr => ∃ (pre : List LR) (t : List UInt8) (A : Option Addr) (c : Nat), v = .int .i64 ((pre.length : Int) + 1) ∧ Aside0 (t.length ≤ s.length ∧ pre.length + t.length ≤ s.length) ∧ Aside0 (dLines s = pre.map (·.l) ++ dLines t) ∧ Aside0 (LOK w0 s pre) ∧ Aside0 ((Kd.int .u8).C w0 A t.length (bI t)) ∧ t.length ≤ c ∧ Aside0 (wr.heap[Bn]? = some (.cells #[.slice A t.length c] 46 (0, 0))) ∧ Aside0 (Sy wr) ∧ Aside0 (J pre wr))
    (fun _ wr => boxLen Bn wr)
  case atStart => exact ⟨[], s, A0, c0, rfl, ⟨Nat.le_refl _, by simp⟩, ⟨rfl⟩, ⟨LOK.nil _ _⟩, HC0, HL0.out, HBN, HW, H0⟩
  case round =>
    clear HBN H0 HC0 HL0 HW
    obtain ⟨pre, t, A, c, rfl, HT, HQ, HOK, HC, hc, HBN, HW, HJJ⟩ := hrel
    have hcz := (blk_cell HBN.out 0).trans (show _ = some (Value.slice A t.length c) from rfl)
    have hf := blk_frozen HBN.out 0
    have hps : pre.length ≤ 100000 := by have := HT.out; have := HS.out; omega
    have hts : t.length ≤ 100000 := by have := HT.out; have := HS.out; omega
    by_cases hz : t = []
    · have hz1 : decide (0 < (t.length : Int)) = false := by rw [hz]; rfl
      have hz2 : decide (0 < t.length) = false := by rw [hz]; rfl
      have hz3 := Aside0.mk hz
      clear hz
      gi_wp2
      go_end0
      exact ⟨⟨_, rfl⟩, .inl ⟨pre, ⟨by rw [HQ.out, hz3.out, dLines_nil, List.append_nil], HOK.out⟩, HJJ.out⟩⟩
    · have hpos : 0 < t.length := List.length_pos_iff.2 hz
      have hz1 : decide (0 < (t.length : Int)) = true := decide_eq_true (by omega)
      have hz2 : decide (0 < t.length) = true := decide_eq_true hpos
      have HNE := Aside0.mk hz
      clear hz
      gi_wp2_with ((refine ⟨trivial, ?_⟩; gi_at_call 32; refine (callsIn_wide.2 (cut_calls2 A c wr.heap.size 1 t w0 _ (HSC.out _ A t (HSB.out _ _ HW.out (below_alloc (Below.refl _ _) _)) HC.out) HC.out hc HNE.out hts (HSL.out _ (HSB.out _ _ HW.out (below_alloc (Below.refl _ _) _))) (blk_new wr _))).mono ?_; rintro e w2 ⟨q, r, A2, c2, fl, rfl, hd, hCl, hlc, hCr, hrc, hrt, nd, rfl⟩; have HD := Aside0.mk hd; have HRT := Aside0.mk hrt; have HOKX := Aside0.mk (show LOK w0 s (pre ++ [⟨pre.length + 1, A, c, q⟩]) from HOK.out.snoc ⟨dLines r, by rw [HQ.out, HD.out]; simp⟩ ⟨hCl, hlc⟩ rfl); obtain ⟨fn, tmps, assign, body, hy, hR⟩ := HY.out pre ⟨pre.length + 1, A, c, q⟩ _ (HJ.out _ _ _ none (HJ.out _ _ _ none HJJ.out (World.grownBy_alloc wr (.cells #[.int .u8 10] 5) none) (fun r e => by cases e)) (grown_drewN (wr.alloc (.cells #[.int .u8 10] 5)) nd) (fun r e => by cases e)) HOKX.out; have HRR := Aside0.mk hR; replace hy : (Instr.yield l #[.int .i64 ((pre.length : Int) + 1), .slice A q.length c]).run Tryz.prog _ = _ := hy; have HRC := Aside0.mk hCr; clear hR hd hCr hCl hrt))
      refine HRR.out.mono ?_
      have HB2 := Aside0.mk (show Sy ((wr.alloc (.cells #[.int .u8 10] 5)).drewN nd) from HSB.out _ _ HW.out (pw_below_drewN (below_alloc (Below.refl _ _) _) nd))
      have HBN2 := Aside0.mk (show ((wr.alloc (.cells #[.int .u8 10] 5)).drewN nd).heap[Bn]? = some (.cells #[.slice A t.length c] 46 (0, 0)) from blk_drewN (blk_alloc HBN.out _) nd)
      rintro e W3 (⟨rfl, hJ3, hk3, hb3⟩ | ⟨rfl, hJx3⟩)
      · have HB3 := Aside0.mk (show W3.heap[Bn]? = some (.cells #[.slice A t.length c] 46 (0, 0)) from hb3.trans HBN2.out)
        have HW3 := Aside0.mk (hk3 HB2.out)
        have hc3 := (blk_cell HB3.out 0).trans (show _ = some (Value.slice A t.length c) from rfl)
        have hf3 := blk_frozen HB3.out 0
        have HJ3 := Aside0.mk hJ3
        clear hJ3 hk3 hb3
        gi_wp2
        go_roundw
        case rel => exact ⟨pre ++ [⟨pre.length + 1, A, c, q⟩], r, A2, c2, (by rw [List.length_append, List.length_singleton]; rfl), ⟨by have h1 := HRT.out; have h2 := HT.out; rw [List.length_append, List.length_singleton]; omega⟩, ⟨by rw [HQ.out, HD.out]; simp⟩, HOKX, HRC, hrc, ⟨blk_put HB3.out 0 _ rfl⟩, ⟨HSS.out _ _ HW3.out⟩, ⟨HJ.out _ _ _ (some Bn) HJ3.out (grown_set W3 Bn 0 _) (fun r e => by cases e; rfl)⟩⟩
        case measure => rw [boxLen_eq (blk_put HB3.out 0 _ rfl), boxLen_eq HBN.out]; exact HRT.out
      · gi_wp2
        refine bodyPost_ret (results_none rfl _ _ _) rfl ?_
        exact ⟨⟨_, rfl⟩, .inr ⟨pre ++ [⟨pre.length + 1, A, c, q⟩], HOKX.out, hJx3⟩⟩
/-- As in w0, but block gm; as in w below. -/
structure SY (w w0 : World) (gm : Nat) (W : World) : Prop where
  bw : Below w.heap.size w W
  sz : w0.heap.size ≤ W.heap.size
  blk : ∀ k, k < w0.heap.size → k ≠ gm → W.heap[k]? = w0.heap[k]?
theorem SY.below {w w0 W W' : World} {gm : Nat} (h : SY w w0 gm W) (hb : Below W.heap.size W W') : SY w w0 gm W' :=
  ⟨below_step h.bw hb, Nat.le_trans h.sz hb.size, fun k hk hne => (hb.block k (Nat.lt_of_lt_of_le hk h.sz)).trans (h.blk k hk hne)⟩
theorem SY.other {w w0 W W' : World} {gm g : Nat} (h : SY w w0 gm W) (hs : SameBut g W W') (hg : g = gm ∨ w0.heap.size ≤ g) (hl : w.heap.size ≤ g) : SY w w0 gm W' :=
  ⟨hs.below h.bw hl, Nat.le_trans h.sz (Nat.le_of_eq hs.size.symm), fun k hk hne => (hs.blk k (by rcases hg with rfl | hg; exact hne; omega)).trans (h.blk k hk hne)⟩
theorem SY.set {w w0 W : World} {gm Bn : Nat} (h : SY w w0 gm W) (hB : w0.heap.size ≤ Bn) (hw : w.heap.size ≤ Bn) (v : Value) : SY w w0 gm (W.setCell ⟨Bn, 0, none⟩ v) :=
  ⟨h.bw.trans (below_set_box hw v), by rw [show (W.setCell ⟨Bn, 0, none⟩ v).heap.size = W.heap.size by simp [World.setCell]]; exact h.sz, fun k hk hne => (Below.heap_setCell W ⟨Bn, 0, none⟩ v k (by show k ≠ Bn; omega)).trans (h.blk k hk hne)⟩
theorem SY.put {w w0 W : World} {gm l : Nat} (h : SY w w0 gm W) (hl : w0.heap.size ≤ l) (hw : w.heap.size ≤ l) (o : Obj) : SY w w0 gm (W.putObj l o) := by
  refine ⟨h.bw.grown (grownBy_putObj' W l o) h.bw.size (fun k e => by cases e; exact hw), Nat.le_trans h.sz (grownBy_putObj' W l o).size, fun k hk hne => (World.putObj_heap_other (by omega)).trans (h.blk k hk hne)⟩
theorem SY.C {w w0 W : World} {gm : Nat} {cs : Array Value} (h : SY w w0 gm W) (hm : w0.heap[gm]? = some (.cells cs 4 (0, 0))) (hcs : ∀ u ∈ cs, ∃ b, u = Value.bool b) {A : Option Addr} {t : List UInt8} (hC : (Kd.int .u8).C w0 A t.length (bI t)) : (Kd.int .u8).C W A t.length (bI t) := by
  obtain ⟨e, hl, hr⟩ := Kd.reads_of_C (enc := Value.int .u8) (d := (0 : Int)) (h1 := fun _ => rfl) hC
  refine Kd.C_of_reads (d := (0 : Int)) (h1 := fun _ => rfl) ⟨e, hl, fun hp => ?_⟩
  obtain ⟨ad, rfl, hc⟩ := hr hp
  refine ⟨ad, rfl, fun j hj => ?_⟩
  have h1 := hc j hj
  have hne : (ad.add j).block ≠ gm := by
    intro e
    have h2 := h1
    unfold World.cell? at h2
    rw [e, hm] at h2
    simp only at h2
    split at h2
    · cases h2
    · obtain ⟨b, hb⟩ := hcs _ (Array.mem_of_getElem? h2)
      cases hb
  have hlt : (ad.add j).block < w0.heap.size := World.block_lt_of_cell? w0 _ h1
  unfold World.cell? at h1 ⊢
  rw [h.blk _ hlt hne]
  exact h1
end Go.Proofs.YtigloobbpcnnhaaGreatDoor.PB
end
section
namespace Go.Proofs.YtigloobbpcnnhaaGreatDoor.PB
open Go.RowKit Go.Shelf Go.Proofs.YtigloobbpcnnhaaGreatDoorW.PrintWords Go.Proofs.YtigloobbpcnnhaaGreatDoorW.PrintLast Go.Proofs.YtigloobbpcnnhaaGreatDoorW.PrintMore
set_option linter.unusedVariables false
set_option linter.unusedSimpArgs false
attribute [local go_sem] Oper.semAt_some
theorem nsz33 : (Tryz.prog.info? 23).map (·.size) = some 1 := by kernel_rfl
theorem info4 : (Tryz.prog.info? 4).map (fun i => (i.zero, i.size, i.bytes)) = some (some (.bool false), 1, 1) := by kernel_rfl
section
variable {n l : Nat} {ops ops0 : Array Oper} {rest : List Oper} {o : Oper} {a : Act} {W : World} {Q : Exit → Act → World → Prop} {F : Fence}
def boolsA (m : List Bool) : Array Value := (m.map Value.bool).toArray
theorem made_bools (k : Nat) : madeCells #[.bool false] k = boolsA (List.replicate k false) := by
  unfold madeCells boolsA
  apply Array.ext'
  simp only [Array.toList_map, Array.toList_range, List.map_replicate]
  apply List.ext_getElem
  · simp
  · intro i h1 h2
    have : i % 1 = 0 := Nat.mod_one i
    simp [this]
theorem make_in (hF : WF F) (hgd : o.guard = none) (t : TypeId) (x : Operand) (ho : o.op = .makeSlice t x x) (ht : Tryz.prog.underlying t = some (.slice 4)) (k : Nat) (hk : k ≤ 2000000) (hx : a.eval x = .int .i64 (k : Int))
    (h : ∀ g w1, g = W.heap.size → w1.heap[g]? = some (.cells (boolsA (List.replicate k false)) 4 (0, 0)) → Below W.heap.size W w1 → wpListIn F n Tryz.prog ops Q rest (a.put o.dst (.slice (some ⟨g, 0, none⟩) k k)) w1) : wpListIn F n Tryz.prog ops Q (o :: rest) a W := by
  have hrun : (execOp a.eval o).run Tryz.prog W = .ok (.value (.slice (some ⟨W.heap.size, 0, none⟩) k k)) (W.alloc (.cells (boolsA (List.replicate k false)) 4)) := by
    unfold execOp
    have hm := print_make_of (P := Tryz.prog) t 4 (.bool false) 1 ht info4 rfl (by omega) k (by omega) W
    rw [made_bools] at hm
    simp only [ho, hx]
    simp [hm, Sem.run_bind, Sem.run_pure, Result.andThen]
  exact list_in hF (ops0 := #[]) hgd (by intro c hc; rw [ho] at hc; cases hc) (φ := fun a' w' => a' = a.put o.dst (.slice (some ⟨W.heap.size, 0, none⟩) k k) ∧ w' = W.alloc (.cells (boolsA (List.replicate k false)) 4)) (Kd.event_run hgd hrun ⟨rfl, rfl, rfl⟩) (by rintro a' w' ⟨rfl, rfl⟩; exact h _ _ rfl (blk_new W _) (below_alloc (Below.refl _ _) _))
theorem text_in (hF : WF F) (src dst : TypeId) {u : TypeDesc} (x : Operand) (ho : o.op = .convert src dst x) (hgd : o.guard = none) (l : List UInt8) (hx : a.eval x = .string (baOf l)) (hs : Tryz.prog.underlying src = some u) (hd : Tryz.prog.underlying dst = some (.slice 5)) (he : Tryz.prog.underlying 5 = some (.int .u8)) (hl : l.length ≤ 9223372036854775807)
    (h : ∀ g c w1, (Kd.int .u8).C w1 (some ⟨g, 0, none⟩) l.length (bI l) → l.length ≤ c → Below W.heap.size W w1 → wpListIn F n Tryz.prog ops Q rest (a.put o.dst (.slice (some ⟨g, 0, none⟩) l.length c)) w1) : wpListIn F n Tryz.prog ops Q (o :: rest) a W :=
  list_in hF (ops0 := #[]) hgd (by intro c hc; rw [ho] at hc; cases hc) (φ := fun a' w' => ∃ g c, a' = a.put o.dst (.slice (some ⟨g, 0, none⟩) l.length c) ∧ (Kd.int .u8).C w' (some ⟨g, 0, none⟩) l.length (bI l) ∧ l.length ≤ c ∧ Below W.heap.size W w') (text_event src dst x ho hgd l hx hs hd he hl (fun g c w1 h1 h2 h3 => ⟨rfl, g, c, rfl, h1, h2, h3⟩)) (by rintro a' w' ⟨g, c, rfl, h1, h2, h3⟩; exact h g c w' h1 h2 h3)
end
/-- Everything but block gm stays. -/
structure GB (gm : Nat) (A C : World) : Prop where
  sz : A.heap.size ≤ C.heap.size
  blk : ∀ k, k < A.heap.size → k ≠ gm → C.heap[k]? = A.heap[k]?
theorem GB.refl (gm : Nat) (A : World) : GB gm A A := ⟨Nat.le_refl _, fun _ _ _ => rfl⟩
theorem GB.below {gm : Nat} {A B C : World} (h : GB gm A B) (hb : Below B.heap.size B C) : GB gm A C := ⟨Nat.le_trans h.sz hb.size, fun k hk hne => (hb.block k (Nat.lt_of_lt_of_le hk h.sz)).trans (h.blk k hk hne)⟩
theorem GB.same {gm : Nat} {A B C : World} (h : GB gm A B) (hs : SameBut gm B C) : GB gm A C := ⟨Nat.le_trans h.sz (Nat.le_of_eq hs.size.symm), fun k hk hne => (hs.blk k hne).trans (h.blk k hk hne)⟩
theorem GB.keeps {gm B : Nat} {A C : World} {cs : Array Value} {t : TypeId} (h : GB gm A C) (hg : A.heap[gm]? = some (.cells cs t (0, 0))) : KeepsFrom B A C :=
  ⟨h.sz, fun k o _ hk ho => by
    by_cases e : k = gm
    · subst e; rw [hg] at hk; cases hk; cases ho
    · exact (h.blk k (Array.getElem?_eq_some_iff.1 hk).1 e).trans hk⟩
theorem gb_R {gm : Nat} {w w' : World} {base : Nat} {v : Value} {xs : List ByteArray} {cs : Array Value} (h : Kd.string.R 9 w base (fun _ => True) v xs) (hg : w.heap[gm]? = some (.cells cs 4 (0, 0))) (hk : GB gm w w') : Kd.string.R 9 w' base (fun _ => True) v xs :=
  Kd.R_mono (Kd.R_step (Kd.R_bound h) (fun k hk2 _ => by
    obtain ⟨_, _, hlt, q, hq, cells, hc⟩ := hk2
    simp only [Kd.string, Kd.scalar, List.mem_cons, List.not_mem_nil, or_false] at hq
    subst hq
    refine hk.blk k hlt (fun e => ?_)
    subst e
    rw [hg] at hc
    cases hc)) (fun _ _ => trivial)
/-- The marks of the lines that have come. -/
abbrev mOf (vars : Int) (k : Nat) (pre : List LR) : List Bool := ((pre.map (·.l)).flatMap dWords).foldl (dMark vars) (List.replicate k false)
theorem dMark_len (vars : Int) : ∀ (ws : List (List UInt8)) (m : List Bool), (ws.foldl (dMark vars) m).length = m.length := by
  intro ws
  induction ws with
  | nil => intro m; rfl
  | cons x ws ih =>
    intro m
    rw [List.foldl_cons, ih]
    unfold dMark
    split <;> simp
theorem mOf_len (vars : Int) (k : Nat) (pre : List LR) : (mOf vars k pre).length = k := by rw [dMark_len]; simp
theorem mOf_snoc (vars : Int) (k : Nat) (pre : List LR) (x : LR) : mOf vars k (pre ++ [x]) = (dWords x.l).foldl (dMark vars) (mOf vars k pre) := by
  unfold mOf
  rw [List.map_append, List.flatMap_append, List.foldl_append]
  simp
/-- Between two rounds. -/
structure MI (w w0 : World) (vars : Int) (kv gm Bn : Nat) (pre : List LR) (W : World) : Prop where
  sy : SY w w0 gm W
  bn : Bn < W.heap.size
  rm : W.heap[gm]? = some (.cells (boolsA (mOf vars kv pre)) 4 (0, 0))
theorem MI.own {w w0 : World} {vars : Int} {kv gm Bn B : Nat} (hg : gm < w0.heap.size) (hB : w0.heap.size ≤ Bn) (hB2 : w0.heap.size ≤ B) (hw : w.heap.size ≤ w0.heap.size) : OwnBox B Bn (MI w w0 vars kv gm Bn) := by
  intro pre W W' row h hgr hr
  refine ⟨⟨h.sy.bw.grown hgr h.sy.bw.size (fun k e => ?_), Nat.le_trans h.sy.sz hgr.size, fun k hk hne => (hgr.block k (Nat.lt_of_lt_of_le hk h.sy.sz) (fun e => ?_)).trans (h.sy.blk k hk hne)⟩, Nat.lt_of_lt_of_le h.bn hgr.size, blk_row hgr hr h.rm (by omega)⟩
  · rcases hr k e with e2 | ⟨e2, _⟩ <;> omega
  · rcases hr k e.symm with e2 | ⟨e2, _⟩ <;> omega
theorem dNum_le (x : List UInt8) (top : Int) (h0 : 0 ≤ top) (h : (dNum x true top).2.2 = true) : (dNum x true top).1 ≤ top := by
  rw [dNum_eq] at h ⊢
  split at h
  · cases h
  · rename_i h1
    rw [if_neg h1]
    split at h
    · cases h
    · rename_i h2
      rw [if_neg h2]
      simp only
      split <;> omega
theorem bools_set (m : List Bool) (q : Nat) : (boolsA m).setIfInBounds q (.bool true) = boolsA (m.set q true) := by
  unfold boolsA
  apply Array.ext'
  simp [List.map_set]
theorem boolsA_size (m : List Bool) : (boolsA m).size = m.length := by simp [boolsA]
set_option maxRecDepth 100000 in
set_option maxHeartbeats 2000000 in
theorem model_calls (s : List UInt8) (vars : Int) (w : World) (hs : s.length ≤ 100000) (hv : -9223372036854775808 ≤ vars ∧ vars ≤ 9223372036854775807) (hlt : LT w.heap.size w) :
    Calls Tryz.prog 5 #[.string (baOf s), .int .i64 vars] w fun e w' => ∃ A c, e = .returned (.tuple #[.slice A (dModel s vars).1.length c, .int .i64 (dModel s vars).2]) ∧ Kd.bool.C w' A (dModel s vars).1.length (dModel s vars).1 ∧ (dModel s vars).1.length ≤ c ∧ Below w.heap.size w w' := by
  have HLT := Aside0.mk hlt
  have HS := Aside0.mk hs
  obtain ⟨sB, hsB⟩ : ∃ sB, sB = baOf s := ⟨_, rfl⟩
  have HSB := Aside0.mk hsB
  rw [← hsB]
  clear hlt hs hsB
  by_cases hz : vars < 0 ∨ 1048576 < vars
  · have hd : dModel s vars = ([], 2) := by unfold dModel; rw [if_pos hz]
    have HD := Aside0.mk hd
    clear hd
    by_cases h1 : vars < 0
    · have t1 : decide (vars < 0) = true := decide_eq_true h1
      go_enter Tryz.func5, Tryz.ntmps5
      go_wp2_with fail
      go_ret2
      rw [HD.out]
      exact ⟨none, 0, rfl, Kd.C_nil _ _, Nat.le_refl _, below_alloc (Below.refl _ _) _⟩
    · have t1 : decide (vars < 0) = false := decide_eq_false h1
      have t2 : decide (1048576 < vars) = true := decide_eq_true (by omega)
      go_enter Tryz.func5, Tryz.ntmps5
      go_wp2_with fail
      go_ret2
      rw [HD.out]
      exact ⟨none, 0, rfl, Kd.C_nil _ _, Nat.le_refl _, below_alloc (Below.refl _ _) _⟩
  have t1 : decide (vars < 0) = false := decide_eq_false (by omega)
  have t2 : decide (1048576 < vars) = false := decide_eq_false (by omega)
  obtain ⟨kv, rfl⟩ : ∃ kv : Nat, vars = (kv : Int) := ⟨vars.toNat, by omega⟩
  have HKV := Aside0.mk (show kv ≤ 1048576 by omega)
  have HZ := Aside0.mk hz
  clear hz
  obtain ⟨W1, hW1⟩ : ∃ W1, W1 = w.alloc (.cells #[.int .i64 (kv : Int)] 3) := ⟨_, rfl⟩
  obtain ⟨g3, hg3⟩ : ∃ g3, g3 = w.heap.size := ⟨_, rfl⟩
  have HG3 := Aside0.mk (show W1.heap[g3]? = some (.cells #[.int .i64 (kv : Int)] 3 (0, 0)) by rw [hW1, hg3]; exact blk_new w _)
  have HB3 := Aside0.mk (show Below w.heap.size w W1 by rw [hW1]; exact below_alloc (Below.refl _ _) _)
  have HL3 := Aside0.mk (show w.heap.size ≤ g3 by rw [hg3]; exact Nat.le_refl _)
  refine (callsIn_wide (n := 5)).1 ?_
  refine callsIn_of_wp_marks Tryz.func5 rfl trivial ?_ rfl
  simp only [Tryz.ntmps5, List.size_toArray, List.length_cons, List.length_nil, Nat.reduceAdd, Nat.reduceSub, Array.replicate_succ, Array.replicate_zero, List.push_toArray, List.append_toArray, List.nil_append, List.cons_append]
  gi_wp2_with (first | ((with_reducible refine gin_dst (N := 21) rfl ?_); rw [← hW1, ← hg3]; refine make_in (.inl rfl) rfl 23 (.tmp 20) rfl Tryz.underlying23 kv (by have := HKV.out; omega) rfl ?_; intro gm Wm hgb hbox hb; have HGM := Aside0.mk hbox; have HBM := Aside0.mk (below_step HB3.out hb); have HG3m := Aside0.mk (blk_below HG3.out hb); have HLM := Aside0.mk (show w.heap.size ≤ gm by rw [hgb]; exact HB3.out.size); have hcz3 := (blk_cell HG3m.out 0).trans (show _ = some (Value.int .i64 (kv : Int)) from rfl); clear hbox hb hgb HG3 hW1 hg3) | ((with_reducible refine gin_dst (N := 6) rfl ?_); refine box_in (.inl rfl) ?hg (by intro c hc; cases hc) (N := 6) ?hd (cs := #[.slice none 0 0]) (t := 23) ?hr ?_; (case hd => rfl); (case hg => rfl); (case hr => first | (go_simp; done) | (go_simp; rfl)); intro g6 hgb Wg6 hbox hb; have HG6 := Aside0.mk hbox; have HB6 := Aside0.mk (below_step HBM.out hb); have HGM6 := Aside0.mk (blk_below HGM.out hb); have HG36 := Aside0.mk (blk_below HG3m.out hb); have HL6 := Aside0.mk (show w.heap.size ≤ g6 by rw [hgb]; exact HBM.out.size); have HNE := Aside0.mk (blk_ne HGM6.out hbox (by decide)); clear hcz3 hbox hb hgb HGM HG3m) | ((with_reducible refine gin_store (t := 23) (p := 6) rfl ?_); refine store_one_in (.inl rfl) 23 6 (.tmp 21) rfl rfl rfl (.slice (some ⟨gm, 0, none⟩) kv kv) #[.slice (some ⟨gm, 0, none⟩) kv kv] rfl rfl HG6.out rfl nsz33 (show 0 + 1 ≤ 1 by omega) rfl rfl ?_; intro W6 hw hsb; have HG6s := Aside0.mk hw; have HGMs := Aside0.mk (hsb.other HGM6.out HNE.out); have HG3s := Aside0.mk (hsb.other HG36.out (blk_ne HG36.out HG6.out (by decide))); have HB6s := Aside0.mk (hsb.below HB6.out HL6.out); clear hw hsb HG6 HGM6 HG36) | ((with_reducible refine gin_dst (N := 23) rfl ?_); refine text_in (.inl rfl) 9 46 (.tmp 22) rfl rfl s ?hx Tryz.underlying9 Tryz.underlying46 Tryz.underlying5 (by have := HS.out; omega) ?_; (case hx => rw [← HSB.out]; rfl); intro gb cb w0 hC1 hc1 hb; have HC := Aside0.mk hC1; have HCC := Aside0.mk hc1; have HB0 := Aside0.mk (below_step HB6s.out hb); have HG6t := Aside0.mk (blk_below HG6s.out hb); have HGMt := Aside0.mk (blk_below HGMs.out hb); have HG3t := Aside0.mk (blk_below HG3s.out hb); clear hC1 hc1 hb HG6s HGMs HG3s) | (refine ⟨trivial, ?_⟩; gi_at_call 14; refine (callsIn_wide.2 (lines_calls (some ⟨gb, 0, none⟩) s.length cb w0)).mono ?_; rintro e W0 ⟨Bn, hBnS, rfl, hBn, hb⟩; have HBN := Aside0.mk hBn; have HBNL := Aside0.mk (show w0.heap.size ≤ Bn by rw [hBnS]; exact Nat.le_refl _); have HBW := Aside0.mk hb; clear hBn hb hBnS))
  have HRV := Aside0.mk (show ∀ W, SY w w0 gm W → LF W from fun W h => (HLT.out.on h.bw).here)
  refine wpIn_range_box rfl (by omega) (gf := 31) (lb := #[.pointer (some ⟨Bn, 0, none⟩)]) rfl trivial (enters_of Tryz.func31 (by kernel_rfl) rfl)
    (encs := LR.enc) (Kp := KpS (SY w w0 gm) Bn) (S := fun ys => ys.map (·.l) = dLines s ∧ LOK w0 s ys) (Sp := fun pre => LOK w0 s pre) (Bn := Bn) (blk_lt HBN.out) ?seq (fun h k => ⟨fun e => k.1 (h.1 e), k.2.trans h.2⟩) ?kb (fun _ => rfl)
    (MI w w0 (kv : Int) kv gm Bn) (fun c pre W => False) (MI.own (blk_lt HGMt.out) HBNL.out HBW.out.size HB0.out.size) (fun c s A B row h hg hr => h.elim) ?start
    (fun x => { tmps := #[.string sB, .int .i64 (kv : Int), undef, .pointer (some ⟨g3, 0, none⟩), .slice none 0 0, .int .i64 0, .pointer (some ⟨g6, 0, none⟩), undef, .slice x.A x.l.length x.c, undef, undef, undef, undef, undef, .int .i64 (kv : Int), .bool false, .bool false, .int .i64 (kv : Int), .bool false, .bool false, .int .i64 (kv : Int), .slice (some ⟨gm, 0, none⟩) kv kv, .string sB, .slice (some ⟨gb, 0, none⟩) s.length cb, .func (.func 31) #[] #[.pointer (some ⟨Bn, 0, none⟩)], .int .i64 (x.n : Int), .slice x.A x.l.length x.c, undef, undef, undef, undef, undef, undef, undef, undef, undef, undef, undef, undef, undef, undef, undef, undef, undef, undef, undef, undef, undef, undef, undef, undef, undef, undef, undef, undef, undef, undef, undef, undef], defers := [] }) ?assign ?body ?done ?stop
  case start =>
    exact ⟨⟨below_step HB0.out HBW.out, HBW.out.size, fun k hk _ => HBW.out.block k hk⟩, blk_lt HBN.out, blk_below HGMt.out HBW.out⟩
  case stop =>
    rintro D c0 pre W hD hok h hK
    exact h.elim
  case assign =>
    rintro l ⟨xn, xA, xc, xl⟩ W K hK
    simp only [LR.enc]
    gi_wp2
    exact hK
  case kb =>
    intro W l o o' hl hW _ _
    refine ⟨fun h => h.put (by have := HBW.out.size; omega) (by have := HBW.out.size; have := HB0.out.size; omega) o', World.putObj_heap_other ?_⟩
    have := blk_lt HBN.out
    omega
  case seq =>
    intro l J Jx W hb hJ hJx hY h0
    have hsy : SY w w0 gm W := (show SY w w0 gm W0 from ⟨below_step HB0.out HBW.out, HBW.out.size, fun k hk _ => HBW.out.block k hk⟩).below hb
    exact lines_in2 4 (by omega) l Bn w0 (some ⟨gb, 0, none⟩) cb s HS.out HC.out HCC.out J Jx hJ (SY w w0 gm) HRV.out (fun W A t h hC => h.C HGMt.out (by
      intro u hu
      have : u ∈ (List.replicate kv false).map Value.bool := by simpa [boolsA] using hu
      obtain ⟨b, _, rfl⟩ := List.mem_map.1 this
      exact ⟨b, rfl⟩) hC) (fun W W' h hb => h.below hb) (fun W v h => h.set HBNL.out (by have := HBNL.out; have := HB0.out.size; omega) v) hY W ((hb.block Bn (blk_lt HBN.out)).trans HBN.out) hsy h0
  case body =>
    rintro l pre ⟨xn, xA, xc, xl⟩ W hI hok
    have HI := Aside0.mk hI
    have hxl : xl ∈ dLines s := hok.px.subset (List.mem_map.2 ⟨⟨xn, xA, xc, xl⟩, List.mem_append_right _ (List.mem_singleton.2 rfl), rfl⟩)
    have hxs : xl.length ≤ 100000 := Nat.le_trans (dLines_mem s xl hxl) HS.out
    have hat := hok.at_ ⟨xn, xA, xc, xl⟩ (List.mem_append_right _ (List.mem_singleton.2 rfl))
    have HCX := Aside0.mk (show (Kd.int .u8).C W xA xl.length (bI xl) from hI.sy.C HGMt.out (by
      intro u hu
      have : u ∈ (List.replicate kv false).map Value.bool := by simpa [boolsA] using hu
      obtain ⟨b, _, rfl⟩ := List.mem_map.1 this
      exact ⟨b, rfl⟩) hat.1)
    have hxc : xl.length ≤ xc := hat.2
    obtain ⟨m0, hm0⟩ : ∃ m0, m0 = mOf (kv : Int) kv pre := ⟨_, rfl⟩
    have HM0L := Aside0.mk (show m0.length = kv by rw [hm0]; exact mOf_len _ _ _)
    have HMS := Aside0.mk (show mOf (kv : Int) kv (pre ++ [⟨xn, xA, xc, xl⟩]) = (dWords xl).foldl (dMark (kv : Int)) m0 by rw [hm0, mOf_snoc])
    have HM0 := Aside0.mk (show W.heap[gm]? = some (.cells (boolsA m0) 4 (0, 0)) by rw [hm0]; exact hI.rm)
    obtain ⟨ws, hws⟩ : ∃ ws, ws = dWords xl := ⟨_, rfl⟩
    have HWS := Aside0.mk hws
    have hwl : ws.length ≤ 100000 := by rw [hws]; exact Nat.le_trans (dWords_len xl) hxs
    have HWM := Aside0.mk (show ∀ x ∈ ws, x.length ≤ 100000 by rw [hws]; exact fun x hx => Nat.le_trans (dWords_mem xl x hx).2 hxs)
    have HX6 := Aside0.mk (blk_lt HG6t.out)
    have HX3 := Aside0.mk (blk_lt HG3t.out)
    have HN6 := Aside0.mk (blk_ne HG6t.out HGMt.out (by decide))
    have HN3 := Aside0.mk (blk_ne HG3t.out HGMt.out (by decide))
    clear hI hok hxl hat hm0 hws
    gi_wp2_with ((refine ⟨trivial, ?_⟩; gi_at_call 15; refine (CallsIn.inRound l (callsIn_wide.2 (words_calls xA xc xl W HCX.out hxc hxs))).mono ?_; rw [← HWS.out]; rintro e W1 ⟨v, rfl, hR, hb⟩; obtain ⟨Aw, cw, ev⟩ := Kd.R_slice hR; rw [List.length_map] at ev; subst ev; have HR := Aside0.mk hR; have HB1 := Aside0.mk hb; have HS1 := Aside0.mk (HI.out.sy.below hb); have HM1 := Aside0.mk (blk_below HM0.out hb); clear hR hb))
    gi_loopw [30] (fun v30 wr => ∃ (j : Nat), v30 = .int .i64 (j : Int) ∧ j ≤ ws.length ∧ Aside0 (SY w w0 gm wr) ∧ Aside0 (wr.heap[gm]? = some (.cells (boolsA ((ws.take j).foldl (dMark (kv : Int)) m0)) 4 (0, 0))) ∧ Aside0 (GB gm W1 wr)) (fun v _ => ws.length - (intOf v).toNat)
    case atStart => exact ⟨0, rfl, Nat.zero_le _, HS1, ⟨by rw [List.take_zero]; exact HM1.out⟩, ⟨GB.refl _ _⟩⟩
    case round =>
      obtain ⟨j, rfl, hj, HSJ, HMJ, HKJ⟩ := hrel
      by_cases hlt : j < ws.length
      · have t5 : decide ((j : Int) < (ws.length : Int)) = true := decide_eq_true (by omega)
        have t6 : decide (j < ws.length) = true := decide_eq_true hlt
        obtain ⟨x, hx⟩ : ∃ x, x = ws[j] := ⟨_, rfl⟩
        have HXZ := Aside0.mk (show x.length ≤ 100000 from HWM.out x (by rw [hx]; exact List.getElem_mem hlt))
        have HRJ := Aside0.mk (gb_R HR.out HM1.out HKJ.out)
        obtain ⟨aw, e1, hxw⟩ := Kd.at_string (Kd.R_reads' HRJ.out).2.2 (j : Int) (by omega) (by rw [List.length_map]; omega)
        cases e1
        rw [Int.toNat_natCast, show rdOf ByteArray.empty (ws.map baOf) (j : Int) = baOf x by
          unfold rdOf
          rw [Int.toNat_natCast, List.getD_eq_getElem?_getD, List.getElem?_map, List.getElem?_eq_getElem hlt, hx]
          rfl] at hxw
        have hc3 := (blk_cell ((HSJ.out.blk g3 HX3.out HN3.out).trans HG3t.out) 0).trans (show _ = some (Value.int .i64 (kv : Int)) from rfl)
        have hc6 := (blk_cell ((HSJ.out.blk g6 HX6.out HN6.out).trans HG6t.out) 0).trans (show _ = some (Value.slice (some ⟨gm, 0, none⟩) kv kv) from rfl)
        have hji : (0 : Int) ≤ (j : Int) := Int.natCast_nonneg _
        have hjl : (j : Int) < (ws.length : Int) := by omega
        have hj1 : (j : Int) + 1 ≤ 100000 := by omega
        obtain ⟨mj, hmj⟩ : ∃ mj, mj = (ws.take j).foldl (dMark (kv : Int)) m0 := ⟨_, rfl⟩
        have HMLEN := Aside0.mk (show mj.length = kv by rw [hmj, dMark_len]; exact HM0L.out)
        have hms : (ws.take (j + 1)).foldl (dMark (kv : Int)) m0 = dMark (kv : Int) mj x := by
          rw [List.take_succ_eq_append_getElem hlt, List.foldl_append, ← hmj, ← hx]
          rfl
        rw [← hmj] at HMJ
        obtain ⟨nv, b1, b2, hn⟩ : ∃ nv b1 b2, dNum x true (kv : Int) = (nv, b1, b2) := ⟨_, _, _, rfl⟩
        have HN := Aside0.mk hn
        have hle := dNum_le x (kv : Int) (Int.natCast_nonneg _)
        rw [hn] at hle
        have hdm : dMark (kv : Int) mj x = if b1 = true ∧ b2 = true ∧ 0 < nv then mj.set (nv - 1).toNat true else mj := by unfold dMark; rw [hn]
        rw [hdm] at hms
        simp only at hle
        clear hdm
        clear hmj hn hx
        by_cases hgo : b1 = true ∧ b2 = true ∧ 0 < nv
        · obtain ⟨rfl, rfl, hnp⟩ := hgo
          rw [if_pos ⟨rfl, rfl, hnp⟩] at hms
          obtain ⟨q, rfl⟩ : ∃ q : Nat, nv = (q : Int) + 1 := ⟨(nv - 1).toNat, by omega⟩
          have hqk := hle rfl
          have HQK := Aside0.mk (show q + 1 ≤ kv by omega)
          rw [show ((q : Int) + 1 - 1).toNat = q by omega] at hms
          have HMK := Aside0.mk hms
          have t7 : decide (0 < (q : Int) + 1) = true := decide_eq_true (by omega)
          have hq0 : (0 : Int) ≤ (q : Int) := Int.natCast_nonneg _
          have hq1 : (q : Int) < (kv : Int) := by omega
          have hq2 : (q : Int) + 1 ≤ 1048576 := by have := HKV.out; omega
          clear hms hle hnp
          gi_wp2_with (first | (refine ⟨trivial, ?_⟩; gi_at_call 16; have hp := number_calls (baOf x) true (kv : Int) (Int.natCast_nonneg _) (by have := HKV.out; omega) (show x.length ≤ 100000 by exact HXZ.out) wr ((HLT.out.on HSJ.out.bw).up HSJ.out.bw.size); rw [baOf_data, HN.out] at hp; refine (CallsIn.inRound l (callsIn_wide.2 hp)).mono ?_; clear hp; rintro e2 W2 ⟨rfl, hb⟩; have HS2 := Aside0.mk (HSJ.out.below hb); have HM2 := Aside0.mk (blk_below HMJ.out hb); have HK2 := Aside0.mk (HKJ.out.below hb); clear hc3 hc6; have hc6 := (blk_cell ((HS2.out.blk g6 HX6.out HN6.out).trans HG6t.out) 0).trans (show _ = some (Value.slice (some ⟨gm, 0, none⟩) kv kv) from rfl); clear hb hxw) | ((with_reducible refine gin_store (t := 4) (p := 52) rfl ?_); refine store_one_in (.inr ⟨l, rfl⟩) 4 52 (.const (.bool true)) rfl rfl rfl (off := q) (.bool true) (boolsA (mj.set q true)) rfl rfl HM2.out rfl nsz4 (show q + 1 ≤ (boolsA mj).size by rw [boolsA_size, HMLEN.out]; exact HQK.out) rfl (bools_set mj q) ?_; intro V2 hw hsb; have HV2 := Aside0.mk hw; have HSV2 := Aside0.mk hsb; clear hw hsb))
          go_roundw
          case rel => exact ⟨j + 1, by go_num, by omega, ⟨HS2.out.other HSV2.out (.inl rfl) HLM.out⟩, ⟨by rw [HMK.out]; exact HV2.out⟩, ⟨HK2.out.same HSV2.out⟩⟩
          case measure => simp [intOf]; omega
        · rw [if_neg hgo] at hms
          have HMK := Aside0.mk hms
          clear hms hle
          rcases b1 with _ | _
          · gi_wp2_with (refine ⟨trivial, ?_⟩; gi_at_call 16; have hp := number_calls (baOf x) true (kv : Int) (Int.natCast_nonneg _) (by have := HKV.out; omega) (show x.length ≤ 100000 by exact HXZ.out) wr ((HLT.out.on HSJ.out.bw).up HSJ.out.bw.size); rw [baOf_data, HN.out] at hp; refine (CallsIn.inRound l (callsIn_wide.2 hp)).mono ?_; clear hp; rintro e2 W2 ⟨rfl, hb⟩; have HS2 := Aside0.mk (HSJ.out.below hb); have HM2 := Aside0.mk (blk_below HMJ.out hb); have HK2 := Aside0.mk (HKJ.out.below hb); clear hc3 hc6; have hc6 := (blk_cell ((HS2.out.blk g6 HX6.out HN6.out).trans HG6t.out) 0).trans (show _ = some (Value.slice (some ⟨gm, 0, none⟩) kv kv) from rfl); clear hb hxw)
            go_roundw
            case rel => exact ⟨j + 1, by go_num, by omega, HS2, ⟨by rw [HMK.out]; exact HM2.out⟩, HK2⟩
            case measure => simp [intOf]; omega
          · rcases b2 with _ | _
            · gi_wp2_with (refine ⟨trivial, ?_⟩; gi_at_call 16; have hp := number_calls (baOf x) true (kv : Int) (Int.natCast_nonneg _) (by have := HKV.out; omega) (show x.length ≤ 100000 by exact HXZ.out) wr ((HLT.out.on HSJ.out.bw).up HSJ.out.bw.size); rw [baOf_data, HN.out] at hp; refine (CallsIn.inRound l (callsIn_wide.2 hp)).mono ?_; clear hp; rintro e2 W2 ⟨rfl, hb⟩; have HS2 := Aside0.mk (HSJ.out.below hb); have HM2 := Aside0.mk (blk_below HMJ.out hb); have HK2 := Aside0.mk (HKJ.out.below hb); clear hc3 hc6; have hc6 := (blk_cell ((HS2.out.blk g6 HX6.out HN6.out).trans HG6t.out) 0).trans (show _ = some (Value.slice (some ⟨gm, 0, none⟩) kv kv) from rfl); clear hb hxw)
              go_roundw
              case rel => exact ⟨j + 1, by go_num, by omega, HS2, ⟨by rw [HMK.out]; exact HM2.out⟩, HK2⟩
              case measure => simp [intOf]; omega
            · have t7 : decide (0 < nv) = false := decide_eq_false (fun h => hgo ⟨rfl, rfl, h⟩)
              clear hgo
              gi_wp2_with (refine ⟨trivial, ?_⟩; gi_at_call 16; have hp := number_calls (baOf x) true (kv : Int) (Int.natCast_nonneg _) (by have := HKV.out; omega) (show x.length ≤ 100000 by exact HXZ.out) wr ((HLT.out.on HSJ.out.bw).up HSJ.out.bw.size); rw [baOf_data, HN.out] at hp; refine (CallsIn.inRound l (callsIn_wide.2 hp)).mono ?_; clear hp; rintro e2 W2 ⟨rfl, hb⟩; have HS2 := Aside0.mk (HSJ.out.below hb); have HM2 := Aside0.mk (blk_below HMJ.out hb); have HK2 := Aside0.mk (HKJ.out.below hb); clear hc3 hc6; have hc6 := (blk_cell ((HS2.out.blk g6 HX6.out HN6.out).trans HG6t.out) 0).trans (show _ = some (Value.slice (some ⟨gm, 0, none⟩) kv kv) from rfl); clear hb hxw)
              go_roundw
              case rel => exact ⟨j + 1, by go_num, by omega, HS2, ⟨by rw [HMK.out]; exact HM2.out⟩, HK2⟩
              case measure => simp [intOf]; omega
      · have t5 : decide ((j : Int) < (ws.length : Int)) = false := decide_eq_false (by omega)
        have t6 : decide (j < ws.length) = false := decide_eq_false hlt
        obtain rfl : j = ws.length := by omega
        gi_wp2
        have hgw : GB gm W wr := ⟨Nat.le_trans HB1.out.size HKJ.out.sz, fun k hk hne => (HKJ.out.blk k (Nat.lt_of_lt_of_le hk HB1.out.size) hne).trans (HB1.out.block k hk)⟩
        refine ⟨hgw.keeps HM0.out, ⟨fun _ => HSJ.out, hgw.blk Bn HI.out.bn (by have := HBNL.out; have := blk_lt HGMt.out; omega)⟩, HSJ.out, Nat.lt_of_lt_of_le HI.out.bn hgw.sz, ?_⟩
        have h := HMJ.out
        rw [List.take_length] at h
        rw [HMS.out, ← HWS.out]
        exact h
  case done =>
    rintro D xs W hD ⟨hxs1, hok⟩ hI hK
    obtain ⟨m, hm⟩ : ∃ m, m = mOf (kv : Int) kv xs := ⟨_, rfl⟩
    have HML := Aside0.mk (show m.length = kv by rw [hm]; exact mOf_len _ _ _)
    have hm2 : m = ((dLines s).flatMap dWords).foldl (dMark (kv : Int)) (List.replicate kv false) := by rw [hm, ← hxs1]
    have HMD := Aside0.mk (show dModel s (kv : Int) = if dValues m = s then (m, 0) else ([], 21) by
      unfold dModel
      rw [if_neg HZ.out, Int.toNat_natCast, ← hm2])
    have HRM := Aside0.mk (show W.heap[gm]? = some (.cells (boolsA m) 4 (0, 0)) by rw [hm]; exact hI.rm)
    have HI := Aside0.mk hI
    have HK := Aside0.mk hK
    have HCB := Aside0.mk (show Kd.bool.C W (some ⟨gm, 0, none⟩) m.length m from C_bools m W gm (boolsA m) (by simp [boolsA]) HRM.out (by have := HML.out; have := HKV.out; omega))
    have hc6 := (blk_cell ((HI.out.sy.blk g6 (blk_lt HG6t.out) (blk_ne HG6t.out HGMt.out (by decide))).trans HG6t.out) 0).trans (show _ = some (Value.slice (some ⟨gm, 0, none⟩) kv kv) from rfl)
    obtain ⟨vB, hvB⟩ : ∃ vB, vB = baOf (dValues m) := ⟨_, rfl⟩
    have HVB := Aside0.mk hvB
    clear hxs1 hok hI hK hm hm2 hvB
    by_cases hq : dValues m = s
    · have hvs : vB = sB := by rw [HVB.out, HSB.out, hq]
      have HQ := Aside0.mk hq
      clear hq
      gi_wp2_with (refine ⟨trivial, ?_⟩; gi_at_call 12; have hp := values_calls (some ⟨gm, 0, none⟩) kv m W HCB.out (by rw [HML.out]; exact Nat.le_refl _) (by have := HML.out; have := HKV.out; omega) ((HLT.out.on HI.out.sy.bw).up HI.out.sy.bw.size); rw [HML.out, ← HVB.out] at hp; refine (callsIn_wide.2 hp).mono ?_; clear hp; rintro e W2 ⟨rfl, hb⟩; have HB2 := Aside0.mk hb; have HK2 := Aside0.mk (blk_below HK.out hb); have HRM2 := Aside0.mk (blk_below HRM.out hb); have hc6' := (blk_cell (blk_below ((HI.out.sy.blk g6 (blk_lt HG6t.out) (blk_ne HG6t.out HGMt.out (by decide))).trans HG6t.out) hb) 0).trans (show _ = some (Value.slice (some ⟨gm, 0, none⟩) kv kv) from rfl); clear hb hc6)
      refine ⟨by simp, .inl ⟨_, _, rfl, run_takeDeferred HK2.out, ?_⟩⟩
      refine ⟨.tuple #[.slice (some ⟨gm, 0, none⟩) kv kv, .int .i64 0], by simp [results, Tryz.f5, go_sem], ?_⟩
      have hD : w.heap.size ≤ D ∧ gm < D := by have h1 := blk_lt HGMt.out; have h2 := HB0.out.size; have h3 := HBW.out.size; omega
      have hbf : Below w.heap.size w (W2.putObj D (.deferred none)) := (below_step HI.out.sy.bw HB2.out).grown (grownBy_putObj' _ D (.deferred none)) (below_step HI.out.sy.bw HB2.out).size (fun k e => by cases e; exact hD.1)
      rw [HMD.out, if_pos HQ.out]
      have hk := HML.out
      subst hk
      exact ⟨_, _, rfl, C_bools m _ gm (boolsA m) (by simp [boolsA]) ((World.putObj_heap_other (by omega)).trans HRM2.out) (by have := HKV.out; omega), Nat.le_refl _, hbf⟩
    · have hne : vB ≠ sB := by
        intro e
        rw [HVB.out, HSB.out] at e
        exact hq (by have := congrArg (fun z : ByteArray => z.data.toList) e; simpa [baOf_data] using this)
      have hvs1 : (vB.toList == sB.toList) = false := by
        rw [HVB.out, HSB.out, beq_eq_false_iff_ne]
        intro e
        have h1 := word_eq (dValues m) (baOf s).toList
        have h2 := word_eq s (baOf s).toList
        rw [e, beq_self_eq_true] at h1
        rw [beq_self_eq_true] at h2
        exact hq ((of_decide_eq_true h1.symm).trans (of_decide_eq_true h2.symm).symm)
      have HQ := Aside0.mk hq
      clear hq
      gi_wp2_with (refine ⟨trivial, ?_⟩; gi_at_call 12; have hp := values_calls (some ⟨gm, 0, none⟩) kv m W HCB.out (by rw [HML.out]; exact Nat.le_refl _) (by have := HML.out; have := HKV.out; omega) ((HLT.out.on HI.out.sy.bw).up HI.out.sy.bw.size); rw [HML.out, ← HVB.out] at hp; refine (callsIn_wide.2 hp).mono ?_; clear hp; rintro e W2 ⟨rfl, hb⟩; have HB2 := Aside0.mk hb; have HK2 := Aside0.mk (blk_below HK.out hb); have HRM2 := Aside0.mk (blk_below HRM.out hb); have hc6' := (blk_cell (blk_below ((HI.out.sy.blk g6 (blk_lt HG6t.out) (blk_ne HG6t.out HGMt.out (by decide))).trans HG6t.out) hb) 0).trans (show _ = some (Value.slice (some ⟨gm, 0, none⟩) kv kv) from rfl); clear hb hc6)
      refine ⟨by simp, .inl ⟨_, _, rfl, run_takeDeferred HK2.out, ?_⟩⟩
      refine ⟨.tuple #[.slice none 0 0, .int .i64 21], by simp [results, Tryz.f5, go_sem], ?_⟩
      have hD : w.heap.size ≤ D ∧ gm < D := by have h1 := blk_lt HGMt.out; have h2 := HB0.out.size; have h3 := HBW.out.size; omega
      have hbf : Below w.heap.size w (W2.putObj D (.deferred none)) := (below_step HI.out.sy.bw HB2.out).grown (grownBy_putObj' _ D (.deferred none)) (below_step HI.out.sy.bw HB2.out).size (fun k e => by cases e; exact hD.1)
      rw [HMD.out, if_neg HQ.out]
      exact ⟨none, 0, rfl, Kd.C_nil _ _, Nat.le_refl _, hbf⟩
end Go.Proofs.YtigloobbpcnnhaaGreatDoor.PB
end
section
namespace Go.Proofs.YtigloobbpcnnhaaGreatDoor.PB
open Go.RowKit Go.Proofs.YtigloobbpcnnhaaGreatDoorW.PrintWords Go.Proofs.YtigloobbpcnnhaaGreatDoorW.PrintLast Go.Proofs.YtigloobbpcnnhaaGreatDoorW.PrintMore
attribute [local go_sem] max2_int min2_int max_two min_two max_three min_three max_four min_four   -- for this text's walks alone
set_option linter.unusedVariables false
set_option linter.unusedSimpArgs false
mutual
def threshingref02_line.j0 : Nat → List Int → Bool → Option (List ByteArray × Bool)
  | 0, _, _ => none
  | k + 1, x0, x14 => if x14 = true then (some (([] : List ByteArray), true)) else (threshingref02_line.l0 k x0 (⟨#[]⟩ : ByteArray) 0 ([] : List ByteArray) false)
def threshingref02_line.l0 : Nat → List Int → ByteArray → Int → List ByteArray → Bool → Option (List ByteArray × Bool)
  | 0, _, _, _, _, _ => none
  | k + 1, x0, x4, x5, x104000, x104001 => if x5 ≤ (x0.length : Int) then (if x5 < (x0.length : Int) then (if 0 ≤ x5 then (if (rd x0 x5) = 32 then (threshingref02_line.j2 k x0 x4 x5 false x104000 x104001) else (if (rd x0 x5) = 9 then (threshingref02_line.j2 k x0 x4 x5 false x104000 x104001) else (threshingref02_line.j2 k x0 x4 x5 ((rd x0 x5) != 13) x104000 x104001))) else (none)) else (threshingref02_line.j2 k x0 x4 x5 false x104000 x104001)) else (some (x104000, x104001))
def threshingref02_line.j2 : Nat → List Int → ByteArray → Int → Bool → List ByteArray → Bool → Option (List ByteArray × Bool)
  | 0, _, _, _, _, _, _ => none
  | k + 1, x0, x4, x5, x46, x104000, x104001 => if x46 = true then (if 0 ≤ x5 then (if x5 ≤ (wrap64 (x5 + 1)) then (if (wrap64 (x5 + 1)) ≤ (x0.length : Int) then (if x4.size + (strOfNums ((x0.take ((wrap64 (x5 + 1)) : Int).toNat).drop (x5 : Int).toNat)).size ≤ 9223372036854775807 then (threshingref02_line.l0 k x0 (x4 ++ (strOfNums ((x0.take ((wrap64 (x5 + 1)) : Int).toNat).drop (x5 : Int).toNat))) (wrap64 (x5 + 1)) x104000 x104001) else (none)) else (none)) else (none)) else (none)) else (if x4.toList = ([] : List UInt8) then (threshingref02_line.l0 k x0 (⟨#[]⟩ : ByteArray) (wrap64 (x5 + 1)) x104000 x104001) else (if x104000.length < 8796093022208 then (threshingref02_line.l0 k x0 (⟨#[]⟩ : ByteArray) (wrap64 (x5 + 1)) (x104000 ++ [x4]) x104001) else (none)))
end
def threshingref02_line.f (k : Nat) (l0 : List Int) : Option (List ByteArray × Bool) := if (l0.length : Int) > 0 then (if 0 < (l0.length : Int) then (threshingref02_line.j0 k l0 ((rd l0 0) == 99)) else (none)) else (threshingref02_line.j0 k l0 false)
theorem threshingref02_line.mono_l : ∀ k, (∀ y0 y1, LeO (threshingref02_line.j0 k y0 y1) (threshingref02_line.j0 (k + 1) y0 y1)) ∧ (∀ y0 y1 y2 y3 y4, LeO (threshingref02_line.l0 k y0 y1 y2 y3 y4) (threshingref02_line.l0 (k + 1) y0 y1 y2 y3 y4)) ∧ (∀ y0 y1 y2 y3 y4 y5, LeO (threshingref02_line.j2 k y0 y1 y2 y3 y4 y5) (threshingref02_line.j2 (k + 1) y0 y1 y2 y3 y4 y5))
  | 0 => ⟨fun _ _ r h => by simp [threshingref02_line.j0] at h, fun _ _ _ _ _ r h => by simp [threshingref02_line.l0] at h, fun _ _ _ _ _ _ r h => by simp [threshingref02_line.j2] at h⟩
  | k + 1 => by
    obtain ⟨ih0, ih1, ih2⟩ := threshingref02_line.mono_l k
    refine ⟨?_, ?_, ?_⟩
    · intro y0 y1
      unfold threshingref02_line.j0
      repeat' first
      | (with_reducible exact ih0 _ _)
      | (with_reducible exact ih1 _ _ _ _ _)
      | (with_reducible exact ih2 _ _ _ _ _ _)
      | (with_reducible exact LeO.refl _)
      | (with_reducible exact LeO.none _)
      | (with_reducible refine LeO.ite ?_ ?_)
      | (with_reducible refine LeO.bind ?_ (fun _ => ?_))
      | exact ih0 _ _
      | exact ih1 _ _ _ _ _
      | exact ih2 _ _ _ _ _ _
      | exact LeO.none _
      | refine LeO.ite ?_ ?_
      | refine LeO.bind ?_ (fun _ => ?_)
    · intro y0 y1 y2 y3 y4
      unfold threshingref02_line.l0
      repeat' first
      | (with_reducible exact ih0 _ _)
      | (with_reducible exact ih1 _ _ _ _ _)
      | (with_reducible exact ih2 _ _ _ _ _ _)
      | (with_reducible exact LeO.refl _)
      | (with_reducible exact LeO.none _)
      | (with_reducible refine LeO.ite ?_ ?_)
      | (with_reducible refine LeO.bind ?_ (fun _ => ?_))
      | exact ih0 _ _
      | exact ih1 _ _ _ _ _
      | exact ih2 _ _ _ _ _ _
      | exact LeO.none _
      | refine LeO.ite ?_ ?_
      | refine LeO.bind ?_ (fun _ => ?_)
    · intro y0 y1 y2 y3 y4 y5
      unfold threshingref02_line.j2
      repeat' first
      | (with_reducible exact ih0 _ _)
      | (with_reducible exact ih1 _ _ _ _ _)
      | (with_reducible exact ih2 _ _ _ _ _ _)
      | (with_reducible exact LeO.refl _)
      | (with_reducible exact LeO.none _)
      | (with_reducible refine LeO.ite ?_ ?_)
      | (with_reducible refine LeO.bind ?_ (fun _ => ?_))
      | exact ih0 _ _
      | exact ih1 _ _ _ _ _
      | exact ih2 _ _ _ _ _ _
      | exact LeO.none _
      | refine LeO.ite ?_ ?_
      | refine LeO.bind ?_ (fun _ => ?_)
theorem threshingref02_line.mono : ∀ a0 k, LeO (threshingref02_line.f k a0) (threshingref02_line.f (k + 1) a0) := by
  intro a0 k
  obtain ⟨ih0, ih1, ih2⟩ := threshingref02_line.mono_l k
  unfold threshingref02_line.f
  repeat' first
      | (with_reducible exact ih0 _ _)
      | (with_reducible exact ih1 _ _ _ _ _)
      | (with_reducible exact ih2 _ _ _ _ _ _)
      | (with_reducible exact LeO.refl _)
      | (with_reducible exact LeO.none _)
      | (with_reducible refine LeO.ite ?_ ?_)
      | (with_reducible refine LeO.bind ?_ (fun _ => ?_))
      | exact ih0 _ _
      | exact ih1 _ _ _ _ _
      | exact ih2 _ _ _ _ _ _
      | exact LeO.none _
      | refine LeO.ite ?_ ?_
      | refine LeO.bind ?_ (fun _ => ?_)
set_option maxHeartbeats 8000000 in
set_option maxRecDepth 100000 in
theorem threshingref02_line.calls (k : Nat) (A0 : Option Addr) (c0 : Nat) (l0 : List Int) (r1 : List ByteArray) (r2 : Bool) (w : World) (hr0 : Kd.C (Kd.int .u8) w A0 l0.length l0) (hc0 : l0.length ≤ c0) (h : threshingref02_line.f k l0 = some (r1, r2)) :
    Calls Tryz.prog 38 #[.slice A0 l0.length c0] w fun e w' => ∃ v0_ : Value, e = .returned (.agg #[v0_, .bool r2]) ∧ Kd.R Kd.string 9 w' w.heap.size (fun _ => True) v0_ r1 ∧ Below w.heap.size w w' := by
  have hu64 := Tryz.underlying53
  have HR0 := Aside0.mk hr0
  have HC0 := Aside0.mk hc0
  clear hr0 hc0
  have HB := Aside0.mk (Below.refl w.heap.size w)
  have H : (if (l0.length : Int) > 0 then (if 0 < (l0.length : Int) then (threshingref02_line.j0 k l0 ((rd l0 0) == 99)) else (none)) else (threshingref02_line.j0 k l0 false)) = some (r1, r2) := h
  clear h
  have HC2 := Aside0.mk H
  clear H
  go_enter Tryz.func38, Tryz.ntmps38
  go_upto_region 1 with (first | ((with_reducible refine gate_dst (N := 2) rfl ?_); refine box_event ?hg (N := 2) ?hd (cs := #[.slice none 0 0, .bool false]) (t := 53) ?hr ?_; (case hd => rfl); (case hg => rfl); (case hr => first | (go_simp; done) | (go_simp; rfl)); intro gb101 hg w3 hbox hb; have n0_ := Aside0.mk (below_step (by repeat (first | (with_reducible first | exact HB.out | apply below_alloc | apply pw_below_drewN | apply below_drew1) | exact HB.out)) hb); have n1_ := Aside0.mk (hbox); have n2_ := Aside0.mk ((by rw [hg]; exact (below_size (by repeat (first | (with_reducible first | exact HB.out | apply below_alloc | apply pw_below_drewN | apply below_drew1) | exact HB.out))) : w.heap.size ≤ gb101)); have n3_ := Aside0.mk ((by rw [hg]; exact (below_size (by repeat (first | (with_reducible first | exact HB.out | apply below_alloc | apply pw_below_drewN | apply below_drew1) | exact HB.out))) : w.heap.size ≤ gb101)); clear HB; have HB := n0_; have BK101 := n1_; have GW101 := n2_; have GE101 := n3_; clear n0_ n1_ n2_ n3_; clear hb hbox hg))
  (try simp only [Act.put, List.setIfInBounds_toArray, List.set_cons_zero, List.set_cons_succ])
  go_cut [14] (fun v14 wc => ∃ (kq : Nat) (x14_1 : Bool), v14 = .bool x14_1 ∧ Aside0 (threshingref02_line.j0 kq l0 x14_1 = some (r1, r2)) ∧ Aside0 (kq ≤ k) ∧ Aside0 (wc.heap[gb101]? = some (.cells #[(.slice none 0 0), .bool false] 53 (0, 0))) ∧ Aside0 (Below w.heap.size w wc))
  case first =>
    have H := HC2.out
    clear HC2
    by_cases c4 : (l0.length : Int) > 0
    · rw [if_pos c4] at H
      have c4b0 : decide (0 < (l0.length : Int)) = true := decide_eq_true c4
      have c4b1 : decide (0 < l0.length) = true := decide_eq_true (by omega)
      clear c4
      (first | rw [c4b0] | (simp only [i64_w, i32_w]; rw [c4b0]) | skip)
      by_cases c5 : 0 < (l0.length : Int)
      · rw [if_pos c5] at H
        have c5b0 : decide (0 < (l0.length : Int)) = true := decide_eq_true c5
        have c5b1 : decide (0 < l0.length) = true := decide_eq_true (by omega)
        clear c5
        have H' := Aside0.mk H
        clear H
        have p102 : 0 ≤ (0 : Int) := (by omega)
        have q102 : 0 < (l0.length : Int) := of_decide_eq_true (by first | (with_reducible assumption) | assumption)
        obtain ⟨ad102, e102, hx102_0⟩ := Kd.at_int HR0.out 0 p102 q102
        cases e102
        have qi102 : (0 < l0.length) = True := eq_true (by omega)
        (try rw [show ((0 : Int)).toNat = 0 from rfl] at hx102_0)
        (try rw [Addr.add_zero'] at hx102_0)
        replace hx102_0 := (HB.out.cell (World.block_lt_of_cell? w _ hx102_0)).trans hx102_0
        replace p102 := eq_true p102
        replace q102 := eq_true q102
        go_wp2
        go_meet
        case rel => exact ⟨_, (((rd l0 0) == 99)), (by first | rfl | (simp; done) | (simp [*]; done)), H', ⟨by first | omega | exact Nat.le_refl _⟩, ⟨by (with_reducible repeat (first | refine blk_drewN ?_ _ | refine blk_drew ?_ | refine blk_alloc ?_ _)); exact BK101.out⟩, ⟨by repeat (first | (with_reducible first | exact HB.out | apply below_alloc | apply pw_below_drewN | apply below_drew1 | refine below_set ?_ GE101.out) | exact HB.out)⟩⟩
      · rw [if_neg c5] at H
        exact absurd H (by simp)
    · rw [if_neg c4] at H
      have c4b0 : decide (0 < (l0.length : Int)) = false := decide_eq_false c4
      have c4b1 : decide (0 < l0.length) = false := decide_eq_false (by omega)
      clear c4
      (first | rw [c4b0] | (simp only [i64_w, i32_w]; rw [c4b0]) | skip)
      have H' := Aside0.mk H
      clear H
      go_wp2
      go_meet
      case rel => exact ⟨_, (false), (by first | rfl | (simp; done) | (simp [*]; done)), H', ⟨by first | omega | exact Nat.le_refl _⟩, ⟨by (with_reducible repeat (first | refine blk_drewN ?_ _ | refine blk_drew ?_ | refine blk_alloc ?_ _)); exact BK101.out⟩, ⟨by repeat (first | (with_reducible first | exact HB.out | apply below_alloc | apply pw_below_drewN | apply below_drew1 | refine below_set ?_ GE101.out) | exact HB.out)⟩⟩
  case rest =>
    clear HC2
    try clear p1
    try clear q1
    try clear hx1
    try clear qi1
    try clear p2
    try clear c4
    try clear c4b0
    try clear c4b1
    try clear c5
    try clear c5b0
    try clear c5b1
    try clear hx102_0
    try clear p102
    try clear q102
    obtain ⟨kq, x14_1, rfl, HA, HJ1, BK101, HB⟩ := hcut
    cases kq with
    | zero => exact absurd HA.out (by simp [threshingref02_line.j0])
    | succ kj1 =>
      have H := HA.out
      clear HA
      simp only [threshingref02_line.j0] at H
      by_cases c6 : x14_1 = true
      · subst c6
        have H1 : (some (([] : List ByteArray), true)) = some (r1, r2) := by rw [if_pos rfl] at H; exact H
        clear H
        have H := H1
        clear H1
        simp only [Option.some.injEq, Prod.mk.injEq] at H
        obtain ⟨rfl, rfl⟩ := H
        have hcz7_0 : wc.cell? ⟨gb101, 0, none⟩ = some (.slice none 0 0) := (blk_cell BK101.out 0).trans rfl
        have hcz7_1 : wc.cell? ⟨gb101, 1, none⟩ = some (.bool false) := (blk_cell BK101.out 1).trans rfl
        have hfz7_0 := blk_frozen BK101.out 0
        have hfz7_1 := blk_frozen BK101.out 1
        go_wp2
        refine bodyPost_ret (results_cell_row rfl _ _ gb101 53 #[.slice none 0 0, .bool true] (0, 0) _ rfl (by (with_reducible repeat (first | refine blk_drewN ?_ _ | refine blk_drew ?_ | refine blk_alloc ?_ _)); refine blk_put (cs := #[.slice none 0 0, .bool false]) ?_ 1 _ rfl; (with_reducible repeat (first | refine blk_drewN ?_ _ | refine blk_drew ?_ | refine blk_alloc ?_ _)); refine blk_put (cs := #[.slice none 0 0, .bool false]) ?_ 0 _ rfl; (with_reducible repeat (first | refine blk_drewN ?_ _ | refine blk_drew ?_ | refine blk_alloc ?_ _)); exact BK101.out) Tryz.underlying53 rfl (by kernel_rfl)) rfl ?_
        exact ⟨_, by first | rfl | (simp [errW_none, errW_some] <;> rfl) | (simp [*, errW_none, errW_some] <;> rfl), by first | exact Kd.R_nil _ _ _ _ _ | exact Kd.N_nil _ _ _ _ _ | exact Kd.V_nil _ _ _ _ _ | exact Kd.Q_nil _ _ _ _ _ | exact Kd.S_nil _ _ _ _ _, by repeat (first | (with_reducible first | exact HB.out | apply below_alloc | apply pw_below_drewN | apply below_drew1 | refine below_set ?_ GE101.out) | exact HB.out)⟩
      · replace c6 := Bool.eq_false_iff.mpr c6
        subst c6
        have H1 : (threshingref02_line.l0 kj1 l0 (⟨#[]⟩ : ByteArray) 0 ([] : List ByteArray) false) = some (r1, r2) := by rw [if_neg (show ¬ (false = true) by decide)] at H; exact H
        clear H
        have H := H1
        clear H1
        have H' := Aside0.mk H
        clear H
        go_wp2_with (first | ((with_reducible refine gate_dst (N := 3) rfl ?_); refine box_event ?hg (N := 3) ?hd (cs := #[.slice none 0 0, .bool false]) (t := 53) ?hr ?_; (case hd => rfl); (case hg => rfl); (case hr => first | (go_simp; done) | (go_simp; rfl)); intro gb103 hg w8 hbox hb; have n0_ := Aside0.mk (blk_below (g := gb101) (o := .cells #[.slice none 0 0, .bool false] 53 (0, 0)) (by (with_reducible repeat (first | refine blk_drewN ?_ _ | refine blk_drew ?_ | refine blk_alloc ?_ _)); exact BK101.out) hb); have n1_ := Aside0.mk (below_step (by repeat (first | (with_reducible first | exact HB.out | apply below_alloc | apply pw_below_drewN | apply below_drew1 | refine below_set ?_ GE101.out) | exact HB.out)) hb); have n2_ := Aside0.mk (hbox); have n3_ := Aside0.mk ((by rw [hg]; exact (below_size (by repeat (first | (with_reducible first | exact HB.out | apply below_alloc | apply pw_below_drewN | apply below_drew1 | refine below_set ?_ GE101.out) | exact HB.out))) : w.heap.size ≤ gb103)); have n4_ := Aside0.mk ((by rw [hg]; exact (below_size (by repeat (first | (with_reducible first | exact HB.out | apply below_alloc | apply pw_below_drewN | apply below_drew1 | refine below_set ?_ GE101.out) | exact HB.out))) : w.heap.size ≤ gb103)); have n5_ := Aside0.mk ((by rw [hg]; exact Nat.ne_of_lt (blk_lt (g := gb101) (o := .cells #[.slice none 0 0, .bool false] 53 (0, 0)) (by (with_reducible repeat (first | refine blk_drewN ?_ _ | refine blk_drew ?_ | refine blk_alloc ?_ _)); exact BK101.out)) : gb101 ≠ gb103)); have n6_ := Aside0.mk ((by rw [hg]; exact Nat.ne_of_gt (blk_lt (g := gb101) (o := .cells #[.slice none 0 0, .bool false] 53 (0, 0)) (by (with_reducible repeat (first | refine blk_drewN ?_ _ | refine blk_drew ?_ | refine blk_alloc ?_ _)); exact BK101.out)) : gb103 ≠ gb101)); clear BK101; clear HB; have BK101 := n0_; have HB := n1_; have BK103 := n2_; have GW103 := n3_; have GE103 := n4_; have NB101_103 := n5_; have NB103_101 := n6_; clear n0_ n1_ n2_ n3_ n4_ n5_ n6_; clear hb hbox hg))
        go_loopg [4, 5] kj1 (fun kq v4 v5 w' => ∃ (x4_2 : ByteArray) (x5_2 : Int) (x104000_2 : List ByteArray) (u104000 : Value), v4 = .string x4_2 ∧ v5 = .int .i64 x5_2 ∧ Aside0 (threshingref02_line.l0 kq l0 x4_2 x5_2 x104000_2 false = some (r1, r2)) ∧ Aside0 (kq ≤ kj1) ∧ Aside0 (Kd.R Kd.string 9 w' w.heap.size (fun _ => True) u104000 x104000_2) ∧ Aside0 (w'.heap[gb101]? = some (.cells #[(.slice none 0 0), .bool false] 53 (0, 0))) ∧ Aside0 (w'.heap[gb103]? = some (.cells #[u104000, .bool false] 53 (0, 0))) ∧ Aside0 (Below w.heap.size w w'))
        case atStart => exact ⟨((⟨#[]⟩ : ByteArray)), (0), (([] : List ByteArray)), (.slice none 0 0), (by first | rfl | (simp; done) | (simp [*]; done)), (by first | rfl | (simp; done) | (simp [*]; done)), H', ⟨Nat.le_refl _⟩, ⟨by first | exact Kd.R_nil _ _ _ _ _ | exact Kd.N_nil _ _ _ _ _ | exact Kd.V_nil _ _ _ _ _ | exact Kd.Q_nil _ _ _ _ _ | exact Kd.S_nil _ _ _ _ _⟩, ⟨by (with_reducible repeat (first | refine blk_drewN ?_ _ | refine blk_drew ?_ | refine blk_alloc ?_ _)); exact BK101.out⟩, ⟨by (with_reducible repeat (first | refine blk_drewN ?_ _ | refine blk_drew ?_ | refine blk_alloc ?_ _)); exact BK103.out⟩, ⟨by repeat (first | (with_reducible first | exact HB.out | apply below_alloc | apply pw_below_drewN | apply below_drew1 | refine below_set ?_ GE101.out | refine below_set ?_ GE103.out) | exact HB.out)⟩⟩
        case round =>
          clear H'
          try clear p1
          try clear q1
          try clear hx1
          try clear qi1
          try clear p2
          try clear c4
          try clear c4b0
          try clear c4b1
          try clear c5
          try clear c5b0
          try clear c5b1
          try clear c6
          try clear hcz7_0
          try clear hcz7_1
          try clear hfz7_0
          try clear hfz7_1
          try clear hx102_0
          try clear p1
          try clear p102
          try clear p2
          try clear q1
          try clear q102
          obtain ⟨x4_2, x5_2, x104000_2, u104000, rfl, rfl, HA, HK2, HO_104000, BK101, BK103, HB⟩ := hrel
          cases gk with
          | zero => exact absurd HA.out (by simp [threshingref02_line.l0])
          | succ k2 =>
            have H := HA.out
            clear HA
            simp only [threshingref02_line.l0] at H
            by_cases c9 : x5_2 ≤ (l0.length : Int)
            · rw [if_pos c9] at H
              have c9b0 : decide (x5_2 ≤ (l0.length : Int)) = true := decide_eq_true c9
              clear c9
              have HC10 := Aside0.mk H
              clear H
              go_upto_region 8 with (fail)
              go_cut [46] (fun v46 wc => ∃ (kq : Nat) (x46_9 : Bool), v46 = .bool x46_9 ∧ Aside0 (threshingref02_line.j2 kq l0 x4_2 x5_2 x46_9 x104000_2 false = some (r1, r2)) ∧ Aside0 (kq ≤ k2) ∧ Aside0 (Kd.R Kd.string 9 wc w.heap.size (fun _ => True) u104000 x104000_2) ∧ Aside0 (wc.heap[gb101]? = some (.cells #[(.slice none 0 0), .bool false] 53 (0, 0))) ∧ Aside0 (wc.heap[gb103]? = some (.cells #[u104000, .bool false] 53 (0, 0))) ∧ Aside0 (Below w.heap.size w wc))
              case first =>
                have H := HC10.out
                clear HC10
                by_cases c11 : x5_2 < (l0.length : Int)
                · rw [if_pos c11] at H
                  have c11b0 : decide (x5_2 < (l0.length : Int)) = true := decide_eq_true c11
                  clear c11
                  (first | rw [c11b0] | (simp only [i64_w, i32_w]; rw [c11b0]) | skip)
                  by_cases c12 : 0 ≤ x5_2
                  · rw [if_pos c12] at H
                    have c12b0 : decide (0 ≤ x5_2) = true := decide_eq_true c12
                    clear c12
                    by_cases c13 : (rd l0 x5_2) = 32
                    · rw [if_pos c13] at H
                      have c13b0 : ((rd l0 x5_2) == 32) = true := beq_iff_eq.mpr c13
                      have c13b1 : ((rd l0 x5_2) != 32) = false := bne_eq_false_iff_eq.mpr c13
                      clear c13
                      have H' := Aside0.mk H
                      clear H
                      have p104 : 0 ≤ (x5_2 : Int) := of_decide_eq_true (by first | (with_reducible assumption) | assumption)
                      have q104 : x5_2 < (l0.length : Int) := of_decide_eq_true (by first | (with_reducible assumption) | assumption)
                      obtain ⟨ad104, e104, hx104_0⟩ := Kd.at_int HR0.out x5_2 p104 q104
                      cases e104
                      replace hx104_0 := (HB.out.cell (World.block_lt_of_cell? w _ hx104_0)).trans hx104_0
                      replace p104 := eq_true p104
                      replace q104 := eq_true q104
                      go_wp2
                      go_meet
                      case rel => exact ⟨_, (false), (by first | rfl | (simp; done) | (simp [*]; done)), H', ⟨by have := HJ1.out; have := HK2.out; first | omega | exact Nat.le_refl _⟩, ⟨by (with_reducible repeat (first | apply Kd.R_alloc | apply Kd.R_drewN | apply Kd.R_drew)); exact HO_104000.out⟩, ⟨by (with_reducible repeat (first | refine blk_drewN ?_ _ | refine blk_drew ?_ | refine blk_alloc ?_ _)); exact BK101.out⟩, ⟨by (with_reducible repeat (first | refine blk_drewN ?_ _ | refine blk_drew ?_ | refine blk_alloc ?_ _)); exact BK103.out⟩, ⟨by repeat (first | (with_reducible first | exact HB.out | apply below_alloc | apply pw_below_drewN | apply below_drew1 | refine below_set ?_ GE101.out | refine below_set ?_ GE103.out) | exact HB.out)⟩⟩
                    · rw [if_neg c13] at H
                      have c13b0 : ((rd l0 x5_2) == 32) = false := beq_eq_false_iff_ne.mpr c13
                      have c13b1 : ((rd l0 x5_2) != 32) = true := bne_iff_ne.mpr c13
                      by_cases c14 : (rd l0 x5_2) = 9
                      · rw [if_pos c14] at H
                        have c14b0 : ((rd l0 x5_2) == 9) = true := beq_iff_eq.mpr c14
                        have c14b1 : ((rd l0 x5_2) != 9) = false := bne_eq_false_iff_eq.mpr c14
                        clear c14
                        have H' := Aside0.mk H
                        clear H
                        have p104 : 0 ≤ (x5_2 : Int) := of_decide_eq_true (by first | (with_reducible assumption) | assumption)
                        have q104 : x5_2 < (l0.length : Int) := of_decide_eq_true (by first | (with_reducible assumption) | assumption)
                        obtain ⟨ad104, e104, hx104_0⟩ := Kd.at_int HR0.out x5_2 p104 q104
                        cases e104
                        replace hx104_0 := (HB.out.cell (World.block_lt_of_cell? w _ hx104_0)).trans hx104_0
                        replace p104 := eq_true p104
                        replace q104 := eq_true q104
                        have p105 : 0 ≤ (x5_2 : Int) := of_decide_eq_true (by first | (with_reducible assumption) | assumption)
                        have q105 : x5_2 < (l0.length : Int) := of_decide_eq_true (by first | (with_reducible assumption) | assumption)
                        obtain ⟨ad105, e105, hx105_0⟩ := Kd.at_int HR0.out x5_2 p105 q105
                        obtain rfl : ad104 = ad105 := (by injection e105)
                        replace hx105_0 := (HB.out.cell (World.block_lt_of_cell? w _ hx105_0)).trans hx105_0
                        replace p105 := eq_true p105
                        replace q105 := eq_true q105
                        go_wp2
                        go_meet
                        case rel => exact ⟨_, (false), (by first | rfl | (simp; done) | (simp [*]; done)), H', ⟨by have := HJ1.out; have := HK2.out; first | omega | exact Nat.le_refl _⟩, ⟨by (with_reducible repeat (first | apply Kd.R_alloc | apply Kd.R_drewN | apply Kd.R_drew)); exact HO_104000.out⟩, ⟨by (with_reducible repeat (first | refine blk_drewN ?_ _ | refine blk_drew ?_ | refine blk_alloc ?_ _)); exact BK101.out⟩, ⟨by (with_reducible repeat (first | refine blk_drewN ?_ _ | refine blk_drew ?_ | refine blk_alloc ?_ _)); exact BK103.out⟩, ⟨by repeat (first | (with_reducible first | exact HB.out | apply below_alloc | apply pw_below_drewN | apply below_drew1 | refine below_set ?_ GE101.out | refine below_set ?_ GE103.out) | exact HB.out)⟩⟩
                      · rw [if_neg c14] at H
                        have c14b0 : ((rd l0 x5_2) == 9) = false := beq_eq_false_iff_ne.mpr c14
                        have c14b1 : ((rd l0 x5_2) != 9) = true := bne_iff_ne.mpr c14
                        have H' := Aside0.mk H
                        clear H
                        have p104 : 0 ≤ (x5_2 : Int) := of_decide_eq_true (by first | (with_reducible assumption) | assumption)
                        have q104 : x5_2 < (l0.length : Int) := of_decide_eq_true (by first | (with_reducible assumption) | assumption)
                        obtain ⟨ad104, e104, hx104_0⟩ := Kd.at_int HR0.out x5_2 p104 q104
                        cases e104
                        replace hx104_0 := (HB.out.cell (World.block_lt_of_cell? w _ hx104_0)).trans hx104_0
                        replace p104 := eq_true p104
                        replace q104 := eq_true q104
                        have p105 : 0 ≤ (x5_2 : Int) := of_decide_eq_true (by first | (with_reducible assumption) | assumption)
                        have q105 : x5_2 < (l0.length : Int) := of_decide_eq_true (by first | (with_reducible assumption) | assumption)
                        obtain ⟨ad105, e105, hx105_0⟩ := Kd.at_int HR0.out x5_2 p105 q105
                        obtain rfl : ad104 = ad105 := (by injection e105)
                        replace hx105_0 := (HB.out.cell (World.block_lt_of_cell? w _ hx105_0)).trans hx105_0
                        replace p105 := eq_true p105
                        replace q105 := eq_true q105
                        have p106 : 0 ≤ (x5_2 : Int) := of_decide_eq_true (by first | (with_reducible assumption) | assumption)
                        have q106 : x5_2 < (l0.length : Int) := of_decide_eq_true (by first | (with_reducible assumption) | assumption)
                        obtain ⟨ad106, e106, hx106_0⟩ := Kd.at_int HR0.out x5_2 p106 q106
                        obtain rfl : ad104 = ad106 := (by injection e106)
                        replace hx106_0 := (HB.out.cell (World.block_lt_of_cell? w _ hx106_0)).trans hx106_0
                        replace p106 := eq_true p106
                        replace q106 := eq_true q106
                        go_wp2
                        go_meet
                        case rel => exact ⟨_, (((rd l0 x5_2) != 13)), (by first | rfl | (simp; done) | (simp [*]; done)), H', ⟨by have := HJ1.out; have := HK2.out; first | omega | exact Nat.le_refl _⟩, ⟨by (with_reducible repeat (first | apply Kd.R_alloc | apply Kd.R_drewN | apply Kd.R_drew)); exact HO_104000.out⟩, ⟨by (with_reducible repeat (first | refine blk_drewN ?_ _ | refine blk_drew ?_ | refine blk_alloc ?_ _)); exact BK101.out⟩, ⟨by (with_reducible repeat (first | refine blk_drewN ?_ _ | refine blk_drew ?_ | refine blk_alloc ?_ _)); exact BK103.out⟩, ⟨by repeat (first | (with_reducible first | exact HB.out | apply below_alloc | apply pw_below_drewN | apply below_drew1 | refine below_set ?_ GE101.out | refine below_set ?_ GE103.out) | exact HB.out)⟩⟩
                  · rw [if_neg c12] at H
                    exact absurd H (by simp)
                · rw [if_neg c11] at H
                  have c11b0 : decide (x5_2 < (l0.length : Int)) = false := decide_eq_false c11
                  clear c11
                  (first | rw [c11b0] | (simp only [i64_w, i32_w]; rw [c11b0]) | skip)
                  have H' := Aside0.mk H
                  clear H
                  go_wp2
                  go_meet
                  case rel => exact ⟨_, (false), (by first | rfl | (simp; done) | (simp [*]; done)), H', ⟨by have := HJ1.out; have := HK2.out; first | omega | exact Nat.le_refl _⟩, ⟨by (with_reducible repeat (first | apply Kd.R_alloc | apply Kd.R_drewN | apply Kd.R_drew)); exact HO_104000.out⟩, ⟨by (with_reducible repeat (first | refine blk_drewN ?_ _ | refine blk_drew ?_ | refine blk_alloc ?_ _)); exact BK101.out⟩, ⟨by (with_reducible repeat (first | refine blk_drewN ?_ _ | refine blk_drew ?_ | refine blk_alloc ?_ _)); exact BK103.out⟩, ⟨by repeat (first | (with_reducible first | exact HB.out | apply below_alloc | apply pw_below_drewN | apply below_drew1 | refine below_set ?_ GE101.out | refine below_set ?_ GE103.out) | exact HB.out)⟩⟩
              case rest =>
                clear HC10
                try clear c1
                try clear p1
                try clear q1
                try clear hx1
                try clear qi1
                try clear p2
                try clear c4
                try clear c4b0
                try clear c4b1
                try clear c5
                try clear c5b0
                try clear c5b1
                try clear c6
                try clear c9
                try clear c9b0
                try clear p10
                try clear q10
                try clear hx10
                try clear qi10
                try clear c11
                try clear c11b0
                try clear c12
                try clear c12b0
                try clear c13
                try clear c13b0
                try clear c13b1
                try clear c14
                try clear c14b0
                try clear c14b1
                try clear hcz7_0
                try clear hcz7_1
                try clear hfz7_0
                try clear hfz7_1
                try clear hx102_0
                try clear hx104_0
                try clear hx105_0
                try clear hx106_0
                try clear p1
                try clear p102
                try clear p104
                try clear p105
                try clear p106
                try clear p2
                try clear q1
                try clear q102
                try clear q104
                try clear q105
                try clear q106
                obtain ⟨kq, x46_9, rfl, HA, HJ9, HO_104000, BK101, BK103, HB⟩ := hcut
                cases kq with
                | zero => exact absurd HA.out (by simp [threshingref02_line.j2])
                | succ kj9 =>
                  have H := HA.out
                  clear HA
                  simp only [threshingref02_line.j2] at H
                  by_cases c15 : x46_9 = true
                  · subst c15
                    have H1 : (if 0 ≤ x5_2 then (if x5_2 ≤ (wrap64 (x5_2 + 1)) then (if (wrap64 (x5_2 + 1)) ≤ (l0.length : Int) then (if x4_2.size + (strOfNums ((l0.take ((wrap64 (x5_2 + 1)) : Int).toNat).drop (x5_2 : Int).toNat)).size ≤ 9223372036854775807 then (threshingref02_line.l0 kj9 l0 (x4_2 ++ (strOfNums ((l0.take ((wrap64 (x5_2 + 1)) : Int).toNat).drop (x5_2 : Int).toNat))) (wrap64 (x5_2 + 1)) x104000_2 false) else (none)) else (none)) else (none)) else (none)) = some (r1, r2) := by rw [if_pos rfl] at H; exact H
                    clear H
                    have H := H1
                    clear H1
                    by_cases c16 : 0 ≤ x5_2
                    · rw [if_pos c16] at H
                      have c16b0 := eq_true c16
                      have c16b1 : decide (0 ≤ x5_2) = true := decide_eq_true c16
                      clear c16
                      by_cases c17 : x5_2 ≤ (wrap64 (x5_2 + 1))
                      · rw [if_pos c17] at H
                        have c17b0 := eq_true c17
                        have c17b1 : decide (x5_2 ≤ (wrap64 (x5_2 + 1))) = true := decide_eq_true c17
                        by_cases c18 : (wrap64 (x5_2 + 1)) ≤ (l0.length : Int)
                        · rw [if_pos c18] at H
                          have c18b0 := eq_true c18
                          have c18b1 : decide ((wrap64 (x5_2 + 1)) ≤ (l0.length : Int)) = true := decide_eq_true c18
                          by_cases c19 : x4_2.size + (strOfNums ((l0.take ((wrap64 (x5_2 + 1)) : Int).toNat).drop (x5_2 : Int).toNat)).size ≤ 9223372036854775807
                          · rw [if_pos c19] at H
                            have c19b0 := eq_true c19
                            have c19b1 : decide (x4_2.size + (strOfNums ((l0.take ((wrap64 (x5_2 + 1)) : Int).toNat).drop (x5_2 : Int).toNat)).size ≤ 9223372036854775807) = true := decide_eq_true c19
                            try have c19b2 : (9223372036854775807 < x4_2.size + (strOfNums ((l0.take ((wrap64 (x5_2 + 1)) : Int).toNat).drop (x5_2 : Int).toNat)).size) = False := eq_false (Nat.not_lt.2 c19)
                            have H' := Aside0.mk H
                            clear H
                            obtain ⟨i020, hi020, _, hsz20, _⟩ := info_parts info5
                            obtain ⟨A20, hcut20, hA20, hC20⟩ := print_mid_of (P := Tryz.prog) (Value.int .u8) 0 46 5 .i64 .i64 Tryz.underlying46 hi020 hsz20 A0 c0 l0 x5_2 (wrap64 (x5_2 + 1)) (of_decide_eq_true (by first | (with_reducible assumption) | assumption)) (by first | omega | exact of_decide_eq_true (by first | (with_reducible assumption) | assumption)) (of_decide_eq_true (by first | (with_reducible assumption) | assumption)) HC0.out
                            have HR107 := Aside0.mk (Kd.C_of_reads (h1 := fun _ => rfl) (hA20 _ (Kd.reads_of_C HR0.out)))
                            have HC107 := Aside0.mk hC20
                            clear hA20 hC20 hi020 hsz20
                            have hcv21 := Kd.C_string (P := Tryz.prog) (A := A20) (c := (c0 - x5_2.toNat)) Tryz.underlying46 Tryz.underlying5 Tryz.underlying9 (Kd.C_below HR107.out HB.out)
                            have hlen21 : (List.drop x5_2.toNat (List.take (wrap64 (x5_2 + 1)).toNat l0)).length = (wrap64 (x5_2 + 1)).toNat - x5_2.toNat := by rw [List.length_drop, List.length_take]; have := of_eq_true c18b0; omega
                            rw [hlen21] at hcv21
                            go_wp2
                            go_roundg kj9
                            case measure => have := HJ1.out; have := HK2.out; have := HJ9.out; omega
                            case rel => exact ⟨(x4_2 ++ (strOfNums ((l0.take ((wrap64 (x5_2 + 1)) : Int).toNat).drop (x5_2 : Int).toNat))), (wrap64 (x5_2 + 1)), (x104000_2), (u104000), (by first | rfl | (simp; done) | (simp [*]; done)), (by first | rfl | (simp; done) | (simp [*]; done)), H', ⟨by have := HJ1.out; have := HK2.out; have := HJ9.out; omega⟩, ⟨by (with_reducible repeat (first | apply Kd.R_alloc | apply Kd.R_drewN | apply Kd.R_drew)); exact HO_104000.out⟩, ⟨by (with_reducible repeat (first | refine blk_drewN ?_ _ | refine blk_drew ?_ | refine blk_alloc ?_ _)); exact BK101.out⟩, ⟨by (with_reducible repeat (first | refine blk_drewN ?_ _ | refine blk_drew ?_ | refine blk_alloc ?_ _)); exact BK103.out⟩, ⟨by repeat (first | (with_reducible first | exact HB.out | apply below_alloc | apply pw_below_drewN | apply below_drew1 | refine below_set ?_ GE101.out | refine below_set ?_ GE103.out) | exact HB.out)⟩⟩
                          · rw [if_neg c19] at H
                            exact absurd H (by simp)
                        · rw [if_neg c18] at H
                          exact absurd H (by simp)
                      · rw [if_neg c17] at H
                        exact absurd H (by simp)
                    · rw [if_neg c16] at H
                      exact absurd H (by simp)
                  · replace c15 := Bool.eq_false_iff.mpr c15
                    subst c15
                    have H1 : (if x4_2.toList = ([] : List UInt8) then (threshingref02_line.l0 kj9 l0 (⟨#[]⟩ : ByteArray) (wrap64 (x5_2 + 1)) x104000_2 false) else (if x104000_2.length < 8796093022208 then (threshingref02_line.l0 kj9 l0 (⟨#[]⟩ : ByteArray) (wrap64 (x5_2 + 1)) (x104000_2 ++ [x4_2]) false) else (none))) = some (r1, r2) := by rw [if_neg (show ¬ (false = true) by decide)] at H; exact H
                    clear H
                    have H := H1
                    clear H1
                    by_cases c22 : x4_2.toList = ([] : List UInt8)
                    · rw [if_pos c22] at H
                      have c22b0 : (x4_2.toList == ([] : List UInt8)) = true := beq_iff_eq.mpr c22
                      have c22b1 : (x4_2.toList != ([] : List UInt8)) = false := bne_eq_false_iff_eq.mpr c22
                      clear c22
                      have H' := Aside0.mk H
                      clear H
                      go_wp2
                      go_roundg kj9
                      case measure => have := HJ1.out; have := HK2.out; have := HJ9.out; omega
                      case rel => exact ⟨((⟨#[]⟩ : ByteArray)), (wrap64 (x5_2 + 1)), (x104000_2), (u104000), (by first | rfl | (simp; done) | (simp [*]; done)), (by first | rfl | (simp; done) | (simp [*]; done)), H', ⟨by have := HJ1.out; have := HK2.out; have := HJ9.out; omega⟩, ⟨by (with_reducible repeat (first | apply Kd.R_alloc | apply Kd.R_drewN | apply Kd.R_drew)); exact HO_104000.out⟩, ⟨by (with_reducible repeat (first | refine blk_drewN ?_ _ | refine blk_drew ?_ | refine blk_alloc ?_ _)); exact BK101.out⟩, ⟨by (with_reducible repeat (first | refine blk_drewN ?_ _ | refine blk_drew ?_ | refine blk_alloc ?_ _)); exact BK103.out⟩, ⟨by repeat (first | (with_reducible first | exact HB.out | apply below_alloc | apply pw_below_drewN | apply below_drew1 | refine below_set ?_ GE101.out | refine below_set ?_ GE103.out) | exact HB.out)⟩⟩
                    · rw [if_neg c22] at H
                      have c22b0 : (x4_2.toList == ([] : List UInt8)) = false := beq_eq_false_iff_ne.mpr c22
                      have c22b1 : (x4_2.toList != ([] : List UInt8)) = true := bne_iff_ne.mpr c22
                      by_cases c23 : x104000_2.length < 8796093022208
                      · rw [if_pos c23] at H
                        have LMc23 := Aside0.mk c23
                        clear c23
                        obtain ⟨y108, hy108⟩ : ∃ y_ : List ByteArray, y_ = (x104000_2 ++ [x4_2]) := ⟨_, rfl⟩
                        replace H : (threshingref02_line.l0 kj9 l0 (⟨#[]⟩ : ByteArray) (wrap64 (x5_2 + 1)) y108 false) = some (r1, r2) := by first | (rw [hy108]; with_reducible exact H) | (have H2_ := (Option.bind_some _ _).symm.trans H; rw [hy108]; with_reducible exact H2_) | (have H2_ := (Option.bind_some _ _).symm.trans H; with_reducible exact H2_) | with_reducible exact H | (rw [hy108]; exact H) | exact H
                        have Ny108 := Aside0.mk hy108
                        clear hy108
                        have H' := Aside0.mk H
                        clear H
                        have hnb24 := NB103_101.out
                        have hnc24 := NB101_103.out
                        have hcz25_0 : wc.cell? ⟨gb103, 0, none⟩ = some (u104000) := (blk_cell BK103.out 0).trans rfl
                        have hcz25_1 : wc.cell? ⟨gb103, 1, none⟩ = some (.bool false) := (blk_cell BK103.out 1).trans rfl
                        have hfz25_0 := blk_frozen BK103.out 0
                        have hfz25_1 := blk_frozen BK103.out 1
                        go_wp2_with (first | ((with_reducible refine gate_builtin (b := .append) (xs := #[.tmp 58, .tmp 60]) rfl ?_); at_builtin; refine Kd.R_append Kd.string (w0 := w) w.heap.size rfl (.tmp 58) (.tmp 60) 30 9 (.string ⟨#[]⟩) 16 rfl Tryz.underlying30 info9 rfl (by decide) (by omega) u104000 x104000_2 x4_2 [.string x4_2] (fun _ => True) (fun _ => False) rfl rfl ?aP (fun _ hk => hk.elim) ?aF ?aO ?aB ?aS ?aL ?_; (case aP => exact rfl); (case aB => exact (by repeat (first | (with_reducible first | exact HB.out | apply below_alloc | apply pw_below_drewN | apply below_drew1 | refine below_set ?_ GE101.out | refine below_set ?_ GE103.out) | exact HB.out))); (case aF => exact (fun _ _ => trivial)); (case aO => exact (by (with_reducible repeat (first | apply Kd.R_alloc | apply Kd.R_drewN | apply Kd.R_drew)); exact HO_104000.out)); (case aS => exact (below_size (by repeat (first | (with_reducible first | exact HB.out | apply below_alloc | apply pw_below_drewN | apply below_drew1 | refine below_set ?_ GE101.out | refine below_set ?_ GE103.out) | exact HB.out)))); (case aL => have := LMc23.out; omega); intro v109 w26 ho hb hg hat; rw [← Ny108.out] at ho; have n0_ := Aside0.mk (blk_grown (g := gb101) (o := .cells #[.slice none 0 0, .bool false] 53 (0, 0)) (by (with_reducible repeat (first | refine blk_drewN ?_ _ | refine blk_drew ?_ | refine blk_alloc ?_ _)); exact BK101.out) hg (Kd.R_ne HO_104000.out BK101.out (by decide))); have n1_ := Aside0.mk (blk_grown (g := gb103) (o := .cells #[u104000, .bool false] 53 (0, 0)) (by (with_reducible repeat (first | refine blk_drewN ?_ _ | refine blk_drew ?_ | refine blk_alloc ?_ _)); exact BK103.out) hg (Kd.R_ne HO_104000.out BK103.out (by decide))); have n2_ := Aside0.mk (hb); have n3_ := Aside0.mk (ho); clear BK101; clear BK103; clear HB; clear HO_104000; have BK101 := n0_; have BK103 := n1_; have HB := n2_; have HO110 := n3_; clear n0_ n1_ n2_ n3_; clear ho hb hg hat; obtain ⟨Ao27, co27, eo27⟩ := Kd.R_slice HO110.out; subst eo27; have hcz28_0 : w26.cell? ⟨gb103, 0, none⟩ = some (u104000) := (blk_cell BK103.out 0).trans rfl; have hcz28_1 : w26.cell? ⟨gb103, 1, none⟩ = some (.bool false) := (blk_cell BK103.out 1).trans rfl; have hfz28_0 := blk_frozen BK103.out 0; have hfz28_1 := blk_frozen BK103.out 1))
                        go_roundg kj9
                        case measure => have := HJ1.out; have := HK2.out; have := HJ9.out; omega
                        case rel => exact ⟨((⟨#[]⟩ : ByteArray)), (wrap64 (x5_2 + 1)), (y108), (.slice Ao27 y108.length co27), (by first | rfl | (simp; done) | (simp [*]; done)), (by first | rfl | (simp; done) | (simp [*]; done)), H', ⟨by have := HJ1.out; have := HK2.out; have := HJ9.out; omega⟩, ⟨by (with_reducible repeat (first | apply Kd.R_alloc | apply Kd.R_drewN | apply Kd.R_drew)); exact Kd.R_mono (Kd.R_far (p := ⟨gb103, 0, none⟩) (Kd.R_types HO110.out BK103.out (by decide)) (fun _ hk => hk.2) (.slice Ao27 y108.length co27)) (fun _ hk => trivial)⟩, ⟨by (with_reducible repeat (first | refine blk_drewN ?_ _ | refine blk_drew ?_ | refine blk_alloc ?_ _)); refine blk_far ?_ NB101_103.out _; (with_reducible repeat (first | refine blk_drewN ?_ _ | refine blk_drew ?_ | refine blk_alloc ?_ _)); exact BK101.out⟩, ⟨by (with_reducible repeat (first | refine blk_drewN ?_ _ | refine blk_drew ?_ | refine blk_alloc ?_ _)); refine blk_put (cs := #[u104000, .bool false]) ?_ 0 _ rfl; (with_reducible repeat (first | refine blk_drewN ?_ _ | refine blk_drew ?_ | refine blk_alloc ?_ _)); exact BK103.out⟩, ⟨by repeat (first | (with_reducible first | exact HB.out | apply below_alloc | apply pw_below_drewN | apply below_drew1 | refine below_set ?_ GE101.out | refine below_set ?_ GE103.out) | exact HB.out)⟩⟩
                      · rw [if_neg c23] at H
                        exact absurd H (by simp)
            · rw [if_neg c9] at H
              have c9b0 : decide (x5_2 ≤ (l0.length : Int)) = false := decide_eq_false c9
              clear c9
              simp only [Option.some.injEq, Prod.mk.injEq] at H
              obtain ⟨rfl, rfl⟩ := H
              have hnb29 := NB103_101.out
              have hnc29 := NB101_103.out
              have hcz30_0 : wr.cell? ⟨gb103, 0, none⟩ = some (u104000) := (blk_cell BK103.out 0).trans rfl
              have hcz30_1 : wr.cell? ⟨gb103, 1, none⟩ = some (.bool false) := (blk_cell BK103.out 1).trans rfl
              have hfz30_0 := blk_frozen BK103.out 0
              have hfz30_1 := blk_frozen BK103.out 1
              obtain ⟨Ao31, co31, eo31⟩ := Kd.R_slice HO_104000.out
              subst eo31
              have hcz32_0 : wr.cell? ⟨gb101, 0, none⟩ = some (.slice none 0 0) := (blk_cell BK101.out 0).trans rfl
              have hcz32_1 : wr.cell? ⟨gb101, 1, none⟩ = some (.bool false) := (blk_cell BK101.out 1).trans rfl
              have hfz32_0 := blk_frozen BK101.out 0
              have hfz32_1 := blk_frozen BK101.out 1
              go_wp2
              refine bodyPost_ret (results_cell_row rfl _ _ gb101 53 #[.slice Ao31 x104000_2.length co31, .bool false] (0, 0) _ rfl (by (with_reducible repeat (first | refine blk_drewN ?_ _ | refine blk_drew ?_ | refine blk_alloc ?_ _)); refine blk_put (cs := #[.slice Ao31 x104000_2.length co31, .bool false]) ?_ 1 _ rfl; (with_reducible repeat (first | refine blk_drewN ?_ _ | refine blk_drew ?_ | refine blk_alloc ?_ _)); refine blk_put (cs := #[.slice none 0 0, .bool false]) ?_ 0 _ rfl; (with_reducible repeat (first | refine blk_drewN ?_ _ | refine blk_drew ?_ | refine blk_alloc ?_ _)); exact BK101.out) Tryz.underlying53 rfl (by kernel_rfl)) rfl ?_
              exact ⟨_, by first | rfl | (simp [errW_none, errW_some] <;> rfl) | (simp [*, errW_none, errW_some] <;> rfl), by (with_reducible repeat (first | apply Kd.R_alloc | apply Kd.R_drewN | apply Kd.R_drew)); exact Kd.R_mono (Kd.R_far (p := ⟨gb101, 1, none⟩) (Kd.R_far (p := ⟨gb101, 0, none⟩) (Kd.R_types HO_104000.out BK101.out (by decide)) (fun _ hk => hk.2) (.slice Ao31 x104000_2.length co31)) (fun _ hk => hk.2) (.bool false)) (fun _ hk => trivial), by repeat (first | (with_reducible first | exact HB.out | apply below_alloc | apply pw_below_drewN | apply below_drew1 | refine below_set ?_ GE101.out | refine below_set ?_ GE103.out) | exact HB.out)⟩
end Go.Proofs.YtigloobbpcnnhaaGreatDoor.PB
end
section
namespace Go.Proofs.YtigloobbpcnnhaaGreatDoor.PB
open Go.RowKit Go.Proofs.YtigloobbpcnnhaaGreatDoorW.PrintWords Go.Proofs.YtigloobbpcnnhaaGreatDoorW.PrintLast Go.Proofs.YtigloobbpcnnhaaGreatDoorW.PrintMore
attribute [local go_sem] max2_int min2_int max_two min_two max_three min_three max_four min_four   -- for this text's walks alone
set_option linter.unusedVariables false
set_option linter.unusedSimpArgs false
def threshingref02_Lines.l0 : Nat → List Int → List (S64) → Int → Int → Option ((List (S64)))
  | 0, _, _, _, _ => none
  | k + 1, x0, x3, x4, x5 => if x5 ≤ (x0.length : Int) then (if x5 = (x0.length : Int) then (if x4 = x5 then (threshingref02_Lines.l0 k x0 x3 x4 (wrap64 (x5 + 1))) else (if x5 < (x0.length : Int) then (if 0 ≤ x5 then (if (rd x0 x5) = 10 then (if 0 ≤ x4 then (if x4 ≤ x5 then ((threshingref02_line.f k ((x0.take (x5 : Int).toNat).drop (x4 : Int).toNat)).bind fun bt113 => (if x3.length < 4398046511104 then (threshingref02_Lines.l0 k x0 (x3 ++ [(⟨bt113.1, bt113.2⟩ : S64)]) (wrap64 (x5 + 1)) (wrap64 (x5 + 1))) else (none))) else (none)) else (none)) else (threshingref02_Lines.l0 k x0 x3 x4 (wrap64 (x5 + 1)))) else (none)) else (if 0 ≤ x4 then (if x4 ≤ x5 then ((threshingref02_line.f k ((x0.take (x5 : Int).toNat).drop (x4 : Int).toNat)).bind fun bt121 => (if x3.length < 4398046511104 then (threshingref02_Lines.l0 k x0 (x3 ++ [(⟨bt121.1, bt121.2⟩ : S64)]) (wrap64 (x5 + 1)) (wrap64 (x5 + 1))) else (none))) else (none)) else (none)))) else (if x5 < (x0.length : Int) then (if 0 ≤ x5 then (if (rd x0 x5) = 10 then (if 0 ≤ x4 then (if x4 ≤ x5 then ((threshingref02_line.f k ((x0.take (x5 : Int).toNat).drop (x4 : Int).toNat)).bind fun bt130 => (if x3.length < 4398046511104 then (threshingref02_Lines.l0 k x0 (x3 ++ [(⟨bt130.1, bt130.2⟩ : S64)]) (wrap64 (x5 + 1)) (wrap64 (x5 + 1))) else (none))) else (none)) else (none)) else (threshingref02_Lines.l0 k x0 x3 x4 (wrap64 (x5 + 1)))) else (none)) else (if 0 ≤ x4 then (if x4 ≤ x5 then ((threshingref02_line.f k ((x0.take (x5 : Int).toNat).drop (x4 : Int).toNat)).bind fun bt138 => (if x3.length < 4398046511104 then (threshingref02_Lines.l0 k x0 (x3 ++ [(⟨bt138.1, bt138.2⟩ : S64)]) (wrap64 (x5 + 1)) (wrap64 (x5 + 1))) else (none))) else (none)) else (none)))) else (some x3)
def threshingref02_Lines.f (k : Nat) (l0 : List Int) : Option ((List (S64))) := threshingref02_Lines.l0 k l0 ([] : List (S64)) 0 0
theorem threshingref02_Lines.mono_l : ∀ k, (∀ y0 y1 y2 y3, LeO (threshingref02_Lines.l0 k y0 y1 y2 y3) (threshingref02_Lines.l0 (k + 1) y0 y1 y2 y3))
  | 0 => fun _ _ _ _ r h => by simp [threshingref02_Lines.l0] at h
  | k + 1 => by
    have ih0 := threshingref02_Lines.mono_l k
    · intro y0 y1 y2 y3
      unfold threshingref02_Lines.l0
      repeat' first
      | (with_reducible exact ih0 _ _ _ _)
      | (with_reducible exact threshingref02_line.mono _ _)
      | (with_reducible exact LeO.refl _)
      | (with_reducible exact LeO.none _)
      | (with_reducible refine LeO.ite ?_ ?_)
      | (with_reducible refine LeO.bind ?_ (fun _ => ?_))
      | exact ih0 _ _ _ _
      | exact threshingref02_line.mono _ _
      | exact LeO.none _
      | refine LeO.ite ?_ ?_
      | refine LeO.bind ?_ (fun _ => ?_)
theorem threshingref02_Lines.mono : ∀ a0 k, LeO (threshingref02_Lines.f k a0) (threshingref02_Lines.f (k + 1) a0) := by
  intro a0 k
  have ih0 := threshingref02_Lines.mono_l k
  unfold threshingref02_Lines.f
  repeat' first
      | (with_reducible exact ih0 _ _ _ _)
      | (with_reducible exact threshingref02_line.mono _ _)
      | (with_reducible exact LeO.refl _)
      | (with_reducible exact LeO.none _)
      | (with_reducible refine LeO.ite ?_ ?_)
      | (with_reducible refine LeO.bind ?_ (fun _ => ?_))
      | exact ih0 _ _ _ _
      | exact threshingref02_line.mono _ _
      | exact LeO.none _
      | refine LeO.ite ?_ ?_
      | refine LeO.bind ?_ (fun _ => ?_)
set_option maxHeartbeats 8000000 in
set_option maxRecDepth 100000 in
theorem threshingref02_Lines.calls (k : Nat) (A0 : Option Addr) (c0 : Nat) (l0 : List Int) (r : List (S64)) (w : World) (hr0 : Kd.C (Kd.int .u8) w A0 l0.length l0) (hc0 : l0.length ≤ c0) (h : threshingref02_Lines.f k l0 = some r) :
    Calls Tryz.prog 17 #[.slice A0 l0.length c0] w fun e w' => ∃ v0_ : Value, e = .returned (v0_) ∧ Kd.S k64 53 w' w.heap.size (fun _ => True) v0_ r ∧ Below w.heap.size w w' := by
  have HR0 := Aside0.mk hr0
  have HC0 := Aside0.mk hc0
  clear hr0 hc0
  have HB := Aside0.mk (Below.refl w.heap.size w)
  have H : (threshingref02_Lines.l0 k l0 ([] : List (S64)) 0 0) = some r := h
  clear h
  have H' := Aside0.mk H
  clear H
  go_enter Tryz.func17, Tryz.ntmps17
  go_wp2
  go_loopg [3, 4, 5] k (fun kq v3 v4 v5 w' => ∃ (x3_1 : List (S64)) (x4_1 : Int) (x5_1 : Int), v4 = .int .i64 x4_1 ∧ v5 = .int .i64 x5_1 ∧ Aside0 (threshingref02_Lines.l0 kq l0 x3_1 x4_1 x5_1 = some r) ∧ Aside0 (kq ≤ k) ∧ Aside0 (Kd.S k64 53 w' w.heap.size (fun _ => True) v3 x3_1) ∧ Aside0 (Below w.heap.size w w'))
  case atStart => exact ⟨(([] : List (S64))), (0), (0), (by first | rfl | (simp; done) | (simp [*]; done)), (by first | rfl | (simp; done) | (simp [*]; done)), H', ⟨Nat.le_refl _⟩, ⟨by first | exact Kd.S_nil _ _ _ _ _ | exact Kd.N_nil _ _ _ _ _ | exact Kd.V_nil _ _ _ _ _ | exact Kd.Q_nil _ _ _ _ _ | exact Kd.R_nil _ _ _ _ _⟩, ⟨by repeat (first | (with_reducible first | exact HB.out | apply below_alloc | apply pw_below_drewN | apply below_drew1) | exact HB.out)⟩⟩
  case round =>
    clear H'
    obtain ⟨x3_1, x4_1, x5_1, rfl, rfl, HA, HK1, HO_3, HB⟩ := hrel
    cases gk with
    | zero => exact absurd HA.out (by simp [threshingref02_Lines.l0])
    | succ k1 =>
      have H := HA.out
      clear HA
      simp only [threshingref02_Lines.l0] at H
      by_cases c2 : x5_1 ≤ (l0.length : Int)
      · rw [if_pos c2] at H
        have c2b0 : decide (x5_1 ≤ (l0.length : Int)) = true := decide_eq_true c2
        clear c2
        by_cases c3 : x5_1 = (l0.length : Int)
        · rw [if_pos c3] at H
          have c3b0 : (x5_1 == (l0.length : Int)) = true := beq_iff_eq.mpr c3
          have c3b1 : (x5_1 != (l0.length : Int)) = false := bne_eq_false_iff_eq.mpr c3
          clear c3
          by_cases c4 : x4_1 = x5_1
          · rw [if_pos c4] at H
            have c4b0 : (x4_1 == x5_1) = true := beq_iff_eq.mpr c4
            have c4b1 : (x4_1 != x5_1) = false := bne_eq_false_iff_eq.mpr c4
            clear c4
            have H' := Aside0.mk H
            clear H
            go_wp2
            go_roundg k1
            case measure => have := HK1.out; omega
            case rel => exact ⟨(x3_1), (x4_1), (wrap64 (x5_1 + 1)), (by first | rfl | (simp; done) | (simp [*]; done)), (by first | rfl | (simp; done) | (simp [*]; done)), H', ⟨by have := HK1.out; omega⟩, ⟨by (with_reducible repeat (first | apply Kd.S_alloc | apply Kd.S_drewN | apply Kd.S_drew)); exact HO_3.out⟩, ⟨by repeat (first | (with_reducible first | exact HB.out | apply below_alloc | apply pw_below_drewN | apply below_drew1) | exact HB.out)⟩⟩
          · rw [if_neg c4] at H
            have c4b0 : (x4_1 == x5_1) = false := beq_eq_false_iff_ne.mpr c4
            have c4b1 : (x4_1 != x5_1) = true := bne_iff_ne.mpr c4
            by_cases c5 : x5_1 < (l0.length : Int)
            · rw [if_pos c5] at H
              have c5b0 : decide (x5_1 < (l0.length : Int)) = true := decide_eq_true c5
              clear c5
              by_cases c6 : 0 ≤ x5_1
              · rw [if_pos c6] at H
                have c6b0 : decide (0 ≤ x5_1) = true := decide_eq_true c6
                clear c6
                by_cases c7 : (rd l0 x5_1) = 10
                · rw [if_pos c7] at H
                  have c7b0 : ((rd l0 x5_1) == 10) = true := beq_iff_eq.mpr c7
                  have c7b1 : ((rd l0 x5_1) != 10) = false := bne_eq_false_iff_eq.mpr c7
                  clear c7
                  by_cases c8 : 0 ≤ x4_1
                  · rw [if_pos c8] at H
                    have c8b0 := eq_true c8
                    have c8b1 : decide (0 ≤ x4_1) = true := decide_eq_true c8
                    clear c8
                    by_cases c9 : x4_1 ≤ x5_1
                    · rw [if_pos c9] at H
                      have c9b0 := eq_true c9
                      have c9b1 : decide (x4_1 ≤ x5_1) = true := decide_eq_true c9
                      clear c9
                      have c10b0 := eq_true (of_decide_eq_true (by first | (with_reducible assumption) | assumption) : x5_1 ≤ (l0.length : Int))
                      replace H := Option.bind_eq_some_iff.mp H
                      obtain ⟨⟨t113, t116⟩, A110, H⟩ := H
                      replace H : (if x3_1.length < 4398046511104 then (threshingref02_Lines.l0 k1 l0 (x3_1 ++ [(⟨t113, t116⟩ : S64)]) (wrap64 (x5_1 + 1)) (wrap64 (x5_1 + 1))) else (none)) = some r := H
                      have A11 := Aside0.mk A110
                      clear A110
                      by_cases c12 : x3_1.length < 4398046511104
                      · rw [if_pos c12] at H
                        have LMc12 := Aside0.mk c12
                        clear c12
                        obtain ⟨y117, hy117⟩ : ∃ y_ : List (S64), y_ = (x3_1 ++ [(⟨t113, t116⟩ : S64)]) := ⟨_, rfl⟩
                        replace H : (threshingref02_Lines.l0 k1 l0 y117 (wrap64 (x5_1 + 1)) (wrap64 (x5_1 + 1))) = some r := by first | (rw [hy117]; with_reducible exact H) | (have H2_ := (Option.bind_some _ _).symm.trans H; rw [hy117]; with_reducible exact H2_) | (have H2_ := (Option.bind_some _ _).symm.trans H; with_reducible exact H2_) | with_reducible exact H | (rw [hy117]; exact H) | exact H
                        have Ny117 := Aside0.mk hy117
                        clear hy117
                        have H' := Aside0.mk H
                        clear H
                        have p111 : 0 ≤ (x5_1 : Int) := of_decide_eq_true (by first | (with_reducible assumption) | assumption)
                        have q111 : x5_1 < (l0.length : Int) := of_decide_eq_true (by first | (with_reducible assumption) | assumption)
                        obtain ⟨ad111, e111, hx111_0⟩ := Kd.at_int HR0.out x5_1 p111 q111
                        cases e111
                        replace hx111_0 := (HB.out.cell (World.block_lt_of_cell? w _ hx111_0)).trans hx111_0
                        replace p111 := eq_true p111
                        replace q111 := eq_true q111
                        obtain ⟨i013, hi013, _, hsz13, _⟩ := info_parts info5
                        obtain ⟨A13, hcut13, hA13, hC13⟩ := print_mid_of (P := Tryz.prog) (Value.int .u8) 0 46 5 .i64 .i64 Tryz.underlying46 hi013 hsz13 (some ad111) c0 l0 x4_1 x5_1 (of_decide_eq_true (by first | (with_reducible assumption) | assumption)) (by first | omega | exact of_decide_eq_true (by first | (with_reducible assumption) | assumption)) (of_decide_eq_true (by first | (with_reducible assumption) | assumption)) HC0.out
                        have HR112 := Aside0.mk (Kd.C_of_reads (h1 := fun _ => rfl) (hA13 _ (Kd.reads_of_C HR0.out)))
                        have HC112 := Aside0.mk hC13
                        clear hA13 hC13 hi013 hsz13
                        go_wp2_with (first | ((with_reducible refine gate_callee (f := 38) rfl ?_); refine goesL_ (some 39) rfl rfl Tryz.func38 (by kernel_rfl) rfl #[.slice A13 ((l0.take (x5_1 : Int).toNat).drop (x4_1 : Int).toNat).length (c0 - x4_1.toNat)] rfl (by (try simp only [List.map_toArray, List.map_cons, List.map_nil]); first | done | (rw [show ((l0.take (x5_1 : Int).toNat).drop (x4_1 : Int).toNat).length = (x5_1.toNat - x4_1.toNat) from (by rw [List.length_drop, List.length_take]; have h_ : (x5_1 : Int) ≤ (l0.length : Int) := of_decide_eq_true (by first | (with_reducible assumption) | assumption); omega)] <;> rfl) | rfl | (simp only [List.length_drop, List.length_take]; rfl)) ?_; (with_reducible refine (threshingref02_line.calls k1 _ _ ((l0.take (x5_1 : Int).toNat).drop (x4_1 : Int).toNat) t113 t116 _ ?side1 ?side2 A11.out).mono ?_); (case side1 => repeat (first | exact (Kd.C_below HR112.out HB.out) | (with_reducible refine Kd.C_alloc ?_ _) | (with_reducible refine Kd.C_drewN ?_ _) | (with_reducible refine Kd.C_drew ?_))); (case side2 => exact HC112.out); rintro e w14 ⟨v114, rfl, ho0, hb⟩; refine ⟨_, rfl, ?_⟩; have n0_ := Aside0.mk (Kd.S_elder' (by (with_reducible repeat (first | apply Kd.S_alloc | apply Kd.S_drewN | apply Kd.S_drew)); exact HO_3.out) (Kd.R_base ho0) hb); have n1_ := Aside0.mk (Kd.R_lower ho0 (below_size (by repeat (first | (with_reducible first | exact HB.out | apply below_alloc | apply pw_below_drewN | apply below_drew1) | exact HB.out)))); have n2_ := Aside0.mk (below_step (by repeat (first | (with_reducible first | exact HB.out | apply below_alloc | apply pw_below_drewN | apply below_drew1) | exact HB.out)) hb); clear HO_3; clear HB; have HO_3 := n0_; have HO115 := n1_; have HB := n2_; clear n0_ n1_ n2_; (try clear hb); (try clear hb2); (try clear hk); (try clear hi); (try clear ho0); obtain ⟨Ao16, co16, eo16⟩ := Kd.R_slice HO115.out; subst eo16) | ((with_reducible refine gate_builtin (b := .append) (xs := #[.tmp 34, .tmp 40]) rfl ?_); (try (refine gate_guard (by rfl) ?_; dsimp only)); at_builtin; refine Kd.S_append k64 (w0 := w) w.heap.size rfl (.tmp 34) (.tmp 40) 50 53 (.agg #[(.slice none 0 0), (.bool false)]) 32 rfl Tryz.underlying50 info64 rfl (by decide) (by omega) u3 x3_1 (⟨t113, t116⟩ : S64) [.slice Ao16 t113.length co16, .bool t116] (fun _ => True) (fun k_ => some k_ = (.slice Ao16 t113.length co16 : Value).ownBlock) rfl rfl ?aP (fun k_ hk_ => ((Kd.R_mono (ok' := fun k_ => ((fun _ => True)) k_ ∧ some k_ ≠ (u3 : Value).ownBlock) (Kd.R_apart' (HO115.out) (Kd.S_typed HO_3.out) (by decide)) (fun k_ hk => ⟨trivial, hk.2⟩))).1 k_ hk_.symm) ?aF ?aO ?aB ?aS ?aL ?_; (case aP => exact k64_mkM _ _ _ (⟨t113, t116⟩ : S64) (Kd.R_mono (Kd.R_tight rfl (Kd.R_mono (ok' := fun k_ => ((fun _ => True)) k_ ∧ some k_ ≠ (u3 : Value).ownBlock) (Kd.R_apart' (HO115.out) (Kd.S_typed HO_3.out) (by decide)) (fun k_ hk => ⟨trivial, hk.2⟩))) (fun _ h_ => h_))); (case aB => exact (by repeat (first | (with_reducible first | exact HB.out | apply below_alloc | apply pw_below_drewN | apply below_drew1) | exact HB.out))); (case aF => exact (fun _ _ => trivial)); (case aO => exact (by (with_reducible repeat (first | apply Kd.S_alloc | apply Kd.S_drewN | apply Kd.S_drew)); exact Kd.S_mono HO_3.out (fun k_ hk => ⟨trivial, fun e_ => hk.2 e_⟩))); (case aS => exact (below_size (by repeat (first | (with_reducible first | exact HB.out | apply below_alloc | apply pw_below_drewN | apply below_drew1) | exact HB.out)))); (case aL => have := LMc12.out; omega); intro v118 w15 ho hb hg hat; rw [← Ny117.out] at ho; have n0_ := Aside0.mk (hb); have n1_ := Aside0.mk (ho); clear HB; clear HO_3; clear HO115; have HB := n0_; have HO119 := n1_; clear n0_ n1_; clear ho hb hg hat))
                        go_roundg k1
                        case measure => have := HK1.out; omega
                        case rel => exact ⟨(y117), (wrap64 (x5_1 + 1)), (wrap64 (x5_1 + 1)), (by first | rfl | (simp; done) | (simp [*]; done)), (by first | rfl | (simp; done) | (simp [*]; done)), H', ⟨by have := HK1.out; omega⟩, ⟨by (with_reducible repeat (first | apply Kd.S_alloc | apply Kd.S_drewN | apply Kd.S_drew)); exact HO119.out⟩, ⟨by repeat (first | (with_reducible first | exact HB.out | apply below_alloc | apply pw_below_drewN | apply below_drew1) | exact HB.out)⟩⟩
                      · rw [if_neg c12] at H
                        exact absurd H (by simp)
                    · rw [if_neg c9] at H
                      exact absurd H (by simp)
                  · rw [if_neg c8] at H
                    exact absurd H (by simp)
                · rw [if_neg c7] at H
                  have c7b0 : ((rd l0 x5_1) == 10) = false := beq_eq_false_iff_ne.mpr c7
                  have c7b1 : ((rd l0 x5_1) != 10) = true := bne_iff_ne.mpr c7
                  have H' := Aside0.mk H
                  clear H
                  have p111 : 0 ≤ (x5_1 : Int) := of_decide_eq_true (by first | (with_reducible assumption) | assumption)
                  have q111 : x5_1 < (l0.length : Int) := of_decide_eq_true (by first | (with_reducible assumption) | assumption)
                  obtain ⟨ad111, e111, hx111_0⟩ := Kd.at_int HR0.out x5_1 p111 q111
                  cases e111
                  replace hx111_0 := (HB.out.cell (World.block_lt_of_cell? w _ hx111_0)).trans hx111_0
                  replace p111 := eq_true p111
                  replace q111 := eq_true q111
                  go_wp2
                  go_roundg k1
                  case measure => have := HK1.out; omega
                  case rel => exact ⟨(x3_1), (x4_1), (wrap64 (x5_1 + 1)), (by first | rfl | (simp; done) | (simp [*]; done)), (by first | rfl | (simp; done) | (simp [*]; done)), H', ⟨by have := HK1.out; omega⟩, ⟨by (with_reducible repeat (first | apply Kd.S_alloc | apply Kd.S_drewN | apply Kd.S_drew)); exact HO_3.out⟩, ⟨by repeat (first | (with_reducible first | exact HB.out | apply below_alloc | apply pw_below_drewN | apply below_drew1) | exact HB.out)⟩⟩
              · rw [if_neg c6] at H
                exact absurd H (by simp)
            · rw [if_neg c5] at H
              have c5b0 : decide (x5_1 < (l0.length : Int)) = false := decide_eq_false c5
              clear c5
              by_cases c17 : 0 ≤ x4_1
              · rw [if_pos c17] at H
                have c17b0 := eq_true c17
                have c17b1 : decide (0 ≤ x4_1) = true := decide_eq_true c17
                clear c17
                by_cases c18 : x4_1 ≤ x5_1
                · rw [if_pos c18] at H
                  have c18b0 := eq_true c18
                  have c18b1 : decide (x4_1 ≤ x5_1) = true := decide_eq_true c18
                  clear c18
                  have c19b0 := eq_true (of_decide_eq_true (by first | (with_reducible assumption) | assumption) : x5_1 ≤ (l0.length : Int))
                  replace H := Option.bind_eq_some_iff.mp H
                  obtain ⟨⟨t121, t124⟩, A200, H⟩ := H
                  replace H : (if x3_1.length < 4398046511104 then (threshingref02_Lines.l0 k1 l0 (x3_1 ++ [(⟨t121, t124⟩ : S64)]) (wrap64 (x5_1 + 1)) (wrap64 (x5_1 + 1))) else (none)) = some r := H
                  have A20 := Aside0.mk A200
                  clear A200
                  by_cases c21 : x3_1.length < 4398046511104
                  · rw [if_pos c21] at H
                    have LMc21 := Aside0.mk c21
                    clear c21
                    obtain ⟨y125, hy125⟩ : ∃ y_ : List (S64), y_ = (x3_1 ++ [(⟨t121, t124⟩ : S64)]) := ⟨_, rfl⟩
                    replace H : (threshingref02_Lines.l0 k1 l0 y125 (wrap64 (x5_1 + 1)) (wrap64 (x5_1 + 1))) = some r := by first | (rw [hy125]; with_reducible exact H) | (have H2_ := (Option.bind_some _ _).symm.trans H; rw [hy125]; with_reducible exact H2_) | (have H2_ := (Option.bind_some _ _).symm.trans H; with_reducible exact H2_) | with_reducible exact H | (rw [hy125]; exact H) | exact H
                    have Ny125 := Aside0.mk hy125
                    clear hy125
                    have H' := Aside0.mk H
                    clear H
                    obtain ⟨i022, hi022, _, hsz22, _⟩ := info_parts info5
                    obtain ⟨A22, hcut22, hA22, hC22⟩ := print_mid_of (P := Tryz.prog) (Value.int .u8) 0 46 5 .i64 .i64 Tryz.underlying46 hi022 hsz22 A0 c0 l0 x4_1 x5_1 (of_decide_eq_true (by first | (with_reducible assumption) | assumption)) (by first | omega | exact of_decide_eq_true (by first | (with_reducible assumption) | assumption)) (of_decide_eq_true (by first | (with_reducible assumption) | assumption)) HC0.out
                    have HR120 := Aside0.mk (Kd.C_of_reads (h1 := fun _ => rfl) (hA22 _ (Kd.reads_of_C HR0.out)))
                    have HC120 := Aside0.mk hC22
                    clear hA22 hC22 hi022 hsz22
                    go_wp2_with (first | ((with_reducible refine gate_callee (f := 38) rfl ?_); refine goesL_ (some 39) rfl rfl Tryz.func38 (by kernel_rfl) rfl #[.slice A22 ((l0.take (x5_1 : Int).toNat).drop (x4_1 : Int).toNat).length (c0 - x4_1.toNat)] rfl (by (try simp only [List.map_toArray, List.map_cons, List.map_nil]); first | done | (rw [show ((l0.take (x5_1 : Int).toNat).drop (x4_1 : Int).toNat).length = (x5_1.toNat - x4_1.toNat) from (by rw [List.length_drop, List.length_take]; have h_ : (x5_1 : Int) ≤ (l0.length : Int) := of_decide_eq_true (by first | (with_reducible assumption) | assumption); omega)] <;> rfl) | rfl | (simp only [List.length_drop, List.length_take]; rfl)) ?_; (with_reducible refine (threshingref02_line.calls k1 _ _ ((l0.take (x5_1 : Int).toNat).drop (x4_1 : Int).toNat) t121 t124 _ ?side1 ?side2 A20.out).mono ?_); (case side1 => repeat (first | exact (Kd.C_below HR120.out HB.out) | (with_reducible refine Kd.C_alloc ?_ _) | (with_reducible refine Kd.C_drewN ?_ _) | (with_reducible refine Kd.C_drew ?_))); (case side2 => exact HC120.out); rintro e w23 ⟨v122, rfl, ho0, hb⟩; refine ⟨_, rfl, ?_⟩; have n0_ := Aside0.mk (Kd.S_elder' (by (with_reducible repeat (first | apply Kd.S_alloc | apply Kd.S_drewN | apply Kd.S_drew)); exact HO_3.out) (Kd.R_base ho0) hb); have n1_ := Aside0.mk (Kd.R_lower ho0 (below_size (by repeat (first | (with_reducible first | exact HB.out | apply below_alloc | apply pw_below_drewN | apply below_drew1) | exact HB.out)))); have n2_ := Aside0.mk (below_step (by repeat (first | (with_reducible first | exact HB.out | apply below_alloc | apply pw_below_drewN | apply below_drew1) | exact HB.out)) hb); clear HO_3; clear HB; have HO_3 := n0_; have HO123 := n1_; have HB := n2_; clear n0_ n1_ n2_; (try clear hb); (try clear hb2); (try clear hk); (try clear hi); (try clear ho0); obtain ⟨Ao25, co25, eo25⟩ := Kd.R_slice HO123.out; subst eo25) | ((with_reducible refine gate_builtin (b := .append) (xs := #[.tmp 34, .tmp 40]) rfl ?_); (try (refine gate_guard (by rfl) ?_; dsimp only)); at_builtin; refine Kd.S_append k64 (w0 := w) w.heap.size rfl (.tmp 34) (.tmp 40) 50 53 (.agg #[(.slice none 0 0), (.bool false)]) 32 rfl Tryz.underlying50 info64 rfl (by decide) (by omega) u3 x3_1 (⟨t121, t124⟩ : S64) [.slice Ao25 t121.length co25, .bool t124] (fun _ => True) (fun k_ => some k_ = (.slice Ao25 t121.length co25 : Value).ownBlock) rfl rfl ?aP (fun k_ hk_ => ((Kd.R_mono (ok' := fun k_ => ((fun _ => True)) k_ ∧ some k_ ≠ (u3 : Value).ownBlock) (Kd.R_apart' (HO123.out) (Kd.S_typed HO_3.out) (by decide)) (fun k_ hk => ⟨trivial, hk.2⟩))).1 k_ hk_.symm) ?aF ?aO ?aB ?aS ?aL ?_; (case aP => exact k64_mkM _ _ _ (⟨t121, t124⟩ : S64) (Kd.R_mono (Kd.R_tight rfl (Kd.R_mono (ok' := fun k_ => ((fun _ => True)) k_ ∧ some k_ ≠ (u3 : Value).ownBlock) (Kd.R_apart' (HO123.out) (Kd.S_typed HO_3.out) (by decide)) (fun k_ hk => ⟨trivial, hk.2⟩))) (fun _ h_ => h_))); (case aB => exact (by repeat (first | (with_reducible first | exact HB.out | apply below_alloc | apply pw_below_drewN | apply below_drew1) | exact HB.out))); (case aF => exact (fun _ _ => trivial)); (case aO => exact (by (with_reducible repeat (first | apply Kd.S_alloc | apply Kd.S_drewN | apply Kd.S_drew)); exact Kd.S_mono HO_3.out (fun k_ hk => ⟨trivial, fun e_ => hk.2 e_⟩))); (case aS => exact (below_size (by repeat (first | (with_reducible first | exact HB.out | apply below_alloc | apply pw_below_drewN | apply below_drew1) | exact HB.out)))); (case aL => have := LMc21.out; omega); intro v126 w24 ho hb hg hat; rw [← Ny125.out] at ho; have n0_ := Aside0.mk (hb); have n1_ := Aside0.mk (ho); clear HB; clear HO_3; clear HO123; have HB := n0_; have HO127 := n1_; clear n0_ n1_; clear ho hb hg hat))
                    go_roundg k1
                    case measure => have := HK1.out; omega
                    case rel => exact ⟨(y125), (wrap64 (x5_1 + 1)), (wrap64 (x5_1 + 1)), (by first | rfl | (simp; done) | (simp [*]; done)), (by first | rfl | (simp; done) | (simp [*]; done)), H', ⟨by have := HK1.out; omega⟩, ⟨by (with_reducible repeat (first | apply Kd.S_alloc | apply Kd.S_drewN | apply Kd.S_drew)); exact HO127.out⟩, ⟨by repeat (first | (with_reducible first | exact HB.out | apply below_alloc | apply pw_below_drewN | apply below_drew1) | exact HB.out)⟩⟩
                  · rw [if_neg c21] at H
                    exact absurd H (by simp)
                · rw [if_neg c18] at H
                  exact absurd H (by simp)
              · rw [if_neg c17] at H
                exact absurd H (by simp)
        · rw [if_neg c3] at H
          have c3b0 : (x5_1 == (l0.length : Int)) = false := beq_eq_false_iff_ne.mpr c3
          have c3b1 : (x5_1 != (l0.length : Int)) = true := bne_iff_ne.mpr c3
          by_cases c26 : x5_1 < (l0.length : Int)
          · rw [if_pos c26] at H
            have c26b0 : decide (x5_1 < (l0.length : Int)) = true := decide_eq_true c26
            clear c26
            by_cases c27 : 0 ≤ x5_1
            · rw [if_pos c27] at H
              have c27b0 : decide (0 ≤ x5_1) = true := decide_eq_true c27
              clear c27
              by_cases c28 : (rd l0 x5_1) = 10
              · rw [if_pos c28] at H
                have c28b0 : ((rd l0 x5_1) == 10) = true := beq_iff_eq.mpr c28
                have c28b1 : ((rd l0 x5_1) != 10) = false := bne_eq_false_iff_eq.mpr c28
                clear c28
                by_cases c29 : 0 ≤ x4_1
                · rw [if_pos c29] at H
                  have c29b0 := eq_true c29
                  have c29b1 : decide (0 ≤ x4_1) = true := decide_eq_true c29
                  clear c29
                  by_cases c30 : x4_1 ≤ x5_1
                  · rw [if_pos c30] at H
                    have c30b0 := eq_true c30
                    have c30b1 : decide (x4_1 ≤ x5_1) = true := decide_eq_true c30
                    clear c30
                    have c31b0 := eq_true (of_decide_eq_true (by first | (with_reducible assumption) | assumption) : x5_1 ≤ (l0.length : Int))
                    replace H := Option.bind_eq_some_iff.mp H
                    obtain ⟨⟨t130, t133⟩, A320, H⟩ := H
                    replace H : (if x3_1.length < 4398046511104 then (threshingref02_Lines.l0 k1 l0 (x3_1 ++ [(⟨t130, t133⟩ : S64)]) (wrap64 (x5_1 + 1)) (wrap64 (x5_1 + 1))) else (none)) = some r := H
                    have A32 := Aside0.mk A320
                    clear A320
                    by_cases c33 : x3_1.length < 4398046511104
                    · rw [if_pos c33] at H
                      have LMc33 := Aside0.mk c33
                      clear c33
                      obtain ⟨y134, hy134⟩ : ∃ y_ : List (S64), y_ = (x3_1 ++ [(⟨t130, t133⟩ : S64)]) := ⟨_, rfl⟩
                      replace H : (threshingref02_Lines.l0 k1 l0 y134 (wrap64 (x5_1 + 1)) (wrap64 (x5_1 + 1))) = some r := by first | (rw [hy134]; with_reducible exact H) | (have H2_ := (Option.bind_some _ _).symm.trans H; rw [hy134]; with_reducible exact H2_) | (have H2_ := (Option.bind_some _ _).symm.trans H; with_reducible exact H2_) | with_reducible exact H | (rw [hy134]; exact H) | exact H
                      have Ny134 := Aside0.mk hy134
                      clear hy134
                      have H' := Aside0.mk H
                      clear H
                      have p128 : 0 ≤ (x5_1 : Int) := of_decide_eq_true (by first | (with_reducible assumption) | assumption)
                      have q128 : x5_1 < (l0.length : Int) := of_decide_eq_true (by first | (with_reducible assumption) | assumption)
                      obtain ⟨ad128, e128, hx128_0⟩ := Kd.at_int HR0.out x5_1 p128 q128
                      cases e128
                      replace hx128_0 := (HB.out.cell (World.block_lt_of_cell? w _ hx128_0)).trans hx128_0
                      replace p128 := eq_true p128
                      replace q128 := eq_true q128
                      obtain ⟨i034, hi034, _, hsz34, _⟩ := info_parts info5
                      obtain ⟨A34, hcut34, hA34, hC34⟩ := print_mid_of (P := Tryz.prog) (Value.int .u8) 0 46 5 .i64 .i64 Tryz.underlying46 hi034 hsz34 (some ad128) c0 l0 x4_1 x5_1 (of_decide_eq_true (by first | (with_reducible assumption) | assumption)) (by first | omega | exact of_decide_eq_true (by first | (with_reducible assumption) | assumption)) (of_decide_eq_true (by first | (with_reducible assumption) | assumption)) HC0.out
                      have HR129 := Aside0.mk (Kd.C_of_reads (h1 := fun _ => rfl) (hA34 _ (Kd.reads_of_C HR0.out)))
                      have HC129 := Aside0.mk hC34
                      clear hA34 hC34 hi034 hsz34
                      go_wp2_with (first | ((with_reducible refine gate_callee (f := 38) rfl ?_); refine goesL_ (some 39) rfl rfl Tryz.func38 (by kernel_rfl) rfl #[.slice A34 ((l0.take (x5_1 : Int).toNat).drop (x4_1 : Int).toNat).length (c0 - x4_1.toNat)] rfl (by (try simp only [List.map_toArray, List.map_cons, List.map_nil]); first | done | (rw [show ((l0.take (x5_1 : Int).toNat).drop (x4_1 : Int).toNat).length = (x5_1.toNat - x4_1.toNat) from (by rw [List.length_drop, List.length_take]; have h_ : (x5_1 : Int) ≤ (l0.length : Int) := of_decide_eq_true (by first | (with_reducible assumption) | assumption); omega)] <;> rfl) | rfl | (simp only [List.length_drop, List.length_take]; rfl)) ?_; (with_reducible refine (threshingref02_line.calls k1 _ _ ((l0.take (x5_1 : Int).toNat).drop (x4_1 : Int).toNat) t130 t133 _ ?side1 ?side2 A32.out).mono ?_); (case side1 => repeat (first | exact (Kd.C_below HR129.out HB.out) | (with_reducible refine Kd.C_alloc ?_ _) | (with_reducible refine Kd.C_drewN ?_ _) | (with_reducible refine Kd.C_drew ?_))); (case side2 => exact HC129.out); rintro e w35 ⟨v131, rfl, ho0, hb⟩; refine ⟨_, rfl, ?_⟩; have n0_ := Aside0.mk (Kd.S_elder' (by (with_reducible repeat (first | apply Kd.S_alloc | apply Kd.S_drewN | apply Kd.S_drew)); exact HO_3.out) (Kd.R_base ho0) hb); have n1_ := Aside0.mk (Kd.R_lower ho0 (below_size (by repeat (first | (with_reducible first | exact HB.out | apply below_alloc | apply pw_below_drewN | apply below_drew1) | exact HB.out)))); have n2_ := Aside0.mk (below_step (by repeat (first | (with_reducible first | exact HB.out | apply below_alloc | apply pw_below_drewN | apply below_drew1) | exact HB.out)) hb); clear HO_3; clear HB; have HO_3 := n0_; have HO132 := n1_; have HB := n2_; clear n0_ n1_ n2_; (try clear hb); (try clear hb2); (try clear hk); (try clear hi); (try clear ho0); obtain ⟨Ao37, co37, eo37⟩ := Kd.R_slice HO132.out; subst eo37) | ((with_reducible refine gate_builtin (b := .append) (xs := #[.tmp 34, .tmp 40]) rfl ?_); (try (refine gate_guard (by rfl) ?_; dsimp only)); at_builtin; refine Kd.S_append k64 (w0 := w) w.heap.size rfl (.tmp 34) (.tmp 40) 50 53 (.agg #[(.slice none 0 0), (.bool false)]) 32 rfl Tryz.underlying50 info64 rfl (by decide) (by omega) u3 x3_1 (⟨t130, t133⟩ : S64) [.slice Ao37 t130.length co37, .bool t133] (fun _ => True) (fun k_ => some k_ = (.slice Ao37 t130.length co37 : Value).ownBlock) rfl rfl ?aP (fun k_ hk_ => ((Kd.R_mono (ok' := fun k_ => ((fun _ => True)) k_ ∧ some k_ ≠ (u3 : Value).ownBlock) (Kd.R_apart' (HO132.out) (Kd.S_typed HO_3.out) (by decide)) (fun k_ hk => ⟨trivial, hk.2⟩))).1 k_ hk_.symm) ?aF ?aO ?aB ?aS ?aL ?_; (case aP => exact k64_mkM _ _ _ (⟨t130, t133⟩ : S64) (Kd.R_mono (Kd.R_tight rfl (Kd.R_mono (ok' := fun k_ => ((fun _ => True)) k_ ∧ some k_ ≠ (u3 : Value).ownBlock) (Kd.R_apart' (HO132.out) (Kd.S_typed HO_3.out) (by decide)) (fun k_ hk => ⟨trivial, hk.2⟩))) (fun _ h_ => h_))); (case aB => exact (by repeat (first | (with_reducible first | exact HB.out | apply below_alloc | apply pw_below_drewN | apply below_drew1) | exact HB.out))); (case aF => exact (fun _ _ => trivial)); (case aO => exact (by (with_reducible repeat (first | apply Kd.S_alloc | apply Kd.S_drewN | apply Kd.S_drew)); exact Kd.S_mono HO_3.out (fun k_ hk => ⟨trivial, fun e_ => hk.2 e_⟩))); (case aS => exact (below_size (by repeat (first | (with_reducible first | exact HB.out | apply below_alloc | apply pw_below_drewN | apply below_drew1) | exact HB.out)))); (case aL => have := LMc33.out; omega); intro v135 w36 ho hb hg hat; rw [← Ny134.out] at ho; have n0_ := Aside0.mk (hb); have n1_ := Aside0.mk (ho); clear HB; clear HO_3; clear HO132; have HB := n0_; have HO136 := n1_; clear n0_ n1_; clear ho hb hg hat))
                      go_roundg k1
                      case measure => have := HK1.out; omega
                      case rel => exact ⟨(y134), (wrap64 (x5_1 + 1)), (wrap64 (x5_1 + 1)), (by first | rfl | (simp; done) | (simp [*]; done)), (by first | rfl | (simp; done) | (simp [*]; done)), H', ⟨by have := HK1.out; omega⟩, ⟨by (with_reducible repeat (first | apply Kd.S_alloc | apply Kd.S_drewN | apply Kd.S_drew)); exact HO136.out⟩, ⟨by repeat (first | (with_reducible first | exact HB.out | apply below_alloc | apply pw_below_drewN | apply below_drew1) | exact HB.out)⟩⟩
                    · rw [if_neg c33] at H
                      exact absurd H (by simp)
                  · rw [if_neg c30] at H
                    exact absurd H (by simp)
                · rw [if_neg c29] at H
                  exact absurd H (by simp)
              · rw [if_neg c28] at H
                have c28b0 : ((rd l0 x5_1) == 10) = false := beq_eq_false_iff_ne.mpr c28
                have c28b1 : ((rd l0 x5_1) != 10) = true := bne_iff_ne.mpr c28
                have H' := Aside0.mk H
                clear H
                have p128 : 0 ≤ (x5_1 : Int) := of_decide_eq_true (by first | (with_reducible assumption) | assumption)
                have q128 : x5_1 < (l0.length : Int) := of_decide_eq_true (by first | (with_reducible assumption) | assumption)
                obtain ⟨ad128, e128, hx128_0⟩ := Kd.at_int HR0.out x5_1 p128 q128
                cases e128
                replace hx128_0 := (HB.out.cell (World.block_lt_of_cell? w _ hx128_0)).trans hx128_0
                replace p128 := eq_true p128
                replace q128 := eq_true q128
                go_wp2
                go_roundg k1
                case measure => have := HK1.out; omega
                case rel => exact ⟨(x3_1), (x4_1), (wrap64 (x5_1 + 1)), (by first | rfl | (simp; done) | (simp [*]; done)), (by first | rfl | (simp; done) | (simp [*]; done)), H', ⟨by have := HK1.out; omega⟩, ⟨by (with_reducible repeat (first | apply Kd.S_alloc | apply Kd.S_drewN | apply Kd.S_drew)); exact HO_3.out⟩, ⟨by repeat (first | (with_reducible first | exact HB.out | apply below_alloc | apply pw_below_drewN | apply below_drew1) | exact HB.out)⟩⟩
            · rw [if_neg c27] at H
              exact absurd H (by simp)
          · rw [if_neg c26] at H
            have c26b0 : decide (x5_1 < (l0.length : Int)) = false := decide_eq_false c26
            clear c26
            by_cases c38 : 0 ≤ x4_1
            · rw [if_pos c38] at H
              have c38b0 := eq_true c38
              have c38b1 : decide (0 ≤ x4_1) = true := decide_eq_true c38
              clear c38
              by_cases c39 : x4_1 ≤ x5_1
              · rw [if_pos c39] at H
                have c39b0 := eq_true c39
                have c39b1 : decide (x4_1 ≤ x5_1) = true := decide_eq_true c39
                clear c39
                have c40b0 := eq_true (of_decide_eq_true (by first | (with_reducible assumption) | assumption) : x5_1 ≤ (l0.length : Int))
                replace H := Option.bind_eq_some_iff.mp H
                obtain ⟨⟨t138, t141⟩, A410, H⟩ := H
                replace H : (if x3_1.length < 4398046511104 then (threshingref02_Lines.l0 k1 l0 (x3_1 ++ [(⟨t138, t141⟩ : S64)]) (wrap64 (x5_1 + 1)) (wrap64 (x5_1 + 1))) else (none)) = some r := H
                have A41 := Aside0.mk A410
                clear A410
                by_cases c42 : x3_1.length < 4398046511104
                · rw [if_pos c42] at H
                  have LMc42 := Aside0.mk c42
                  clear c42
                  obtain ⟨y142, hy142⟩ : ∃ y_ : List (S64), y_ = (x3_1 ++ [(⟨t138, t141⟩ : S64)]) := ⟨_, rfl⟩
                  replace H : (threshingref02_Lines.l0 k1 l0 y142 (wrap64 (x5_1 + 1)) (wrap64 (x5_1 + 1))) = some r := by first | (rw [hy142]; with_reducible exact H) | (have H2_ := (Option.bind_some _ _).symm.trans H; rw [hy142]; with_reducible exact H2_) | (have H2_ := (Option.bind_some _ _).symm.trans H; with_reducible exact H2_) | with_reducible exact H | (rw [hy142]; exact H) | exact H
                  have Ny142 := Aside0.mk hy142
                  clear hy142
                  have H' := Aside0.mk H
                  clear H
                  obtain ⟨i043, hi043, _, hsz43, _⟩ := info_parts info5
                  obtain ⟨A43, hcut43, hA43, hC43⟩ := print_mid_of (P := Tryz.prog) (Value.int .u8) 0 46 5 .i64 .i64 Tryz.underlying46 hi043 hsz43 A0 c0 l0 x4_1 x5_1 (of_decide_eq_true (by first | (with_reducible assumption) | assumption)) (by first | omega | exact of_decide_eq_true (by first | (with_reducible assumption) | assumption)) (of_decide_eq_true (by first | (with_reducible assumption) | assumption)) HC0.out
                  have HR137 := Aside0.mk (Kd.C_of_reads (h1 := fun _ => rfl) (hA43 _ (Kd.reads_of_C HR0.out)))
                  have HC137 := Aside0.mk hC43
                  clear hA43 hC43 hi043 hsz43
                  go_wp2_with (first | ((with_reducible refine gate_callee (f := 38) rfl ?_); refine goesL_ (some 39) rfl rfl Tryz.func38 (by kernel_rfl) rfl #[.slice A43 ((l0.take (x5_1 : Int).toNat).drop (x4_1 : Int).toNat).length (c0 - x4_1.toNat)] rfl (by (try simp only [List.map_toArray, List.map_cons, List.map_nil]); first | done | (rw [show ((l0.take (x5_1 : Int).toNat).drop (x4_1 : Int).toNat).length = (x5_1.toNat - x4_1.toNat) from (by rw [List.length_drop, List.length_take]; have h_ : (x5_1 : Int) ≤ (l0.length : Int) := of_decide_eq_true (by first | (with_reducible assumption) | assumption); omega)] <;> rfl) | rfl | (simp only [List.length_drop, List.length_take]; rfl)) ?_; (with_reducible refine (threshingref02_line.calls k1 _ _ ((l0.take (x5_1 : Int).toNat).drop (x4_1 : Int).toNat) t138 t141 _ ?side1 ?side2 A41.out).mono ?_); (case side1 => repeat (first | exact (Kd.C_below HR137.out HB.out) | (with_reducible refine Kd.C_alloc ?_ _) | (with_reducible refine Kd.C_drewN ?_ _) | (with_reducible refine Kd.C_drew ?_))); (case side2 => exact HC137.out); rintro e w44 ⟨v139, rfl, ho0, hb⟩; refine ⟨_, rfl, ?_⟩; have n0_ := Aside0.mk (Kd.S_elder' (by (with_reducible repeat (first | apply Kd.S_alloc | apply Kd.S_drewN | apply Kd.S_drew)); exact HO_3.out) (Kd.R_base ho0) hb); have n1_ := Aside0.mk (Kd.R_lower ho0 (below_size (by repeat (first | (with_reducible first | exact HB.out | apply below_alloc | apply pw_below_drewN | apply below_drew1) | exact HB.out)))); have n2_ := Aside0.mk (below_step (by repeat (first | (with_reducible first | exact HB.out | apply below_alloc | apply pw_below_drewN | apply below_drew1) | exact HB.out)) hb); clear HO_3; clear HB; have HO_3 := n0_; have HO140 := n1_; have HB := n2_; clear n0_ n1_ n2_; (try clear hb); (try clear hb2); (try clear hk); (try clear hi); (try clear ho0); obtain ⟨Ao46, co46, eo46⟩ := Kd.R_slice HO140.out; subst eo46) | ((with_reducible refine gate_builtin (b := .append) (xs := #[.tmp 34, .tmp 40]) rfl ?_); (try (refine gate_guard (by rfl) ?_; dsimp only)); at_builtin; refine Kd.S_append k64 (w0 := w) w.heap.size rfl (.tmp 34) (.tmp 40) 50 53 (.agg #[(.slice none 0 0), (.bool false)]) 32 rfl Tryz.underlying50 info64 rfl (by decide) (by omega) u3 x3_1 (⟨t138, t141⟩ : S64) [.slice Ao46 t138.length co46, .bool t141] (fun _ => True) (fun k_ => some k_ = (.slice Ao46 t138.length co46 : Value).ownBlock) rfl rfl ?aP (fun k_ hk_ => ((Kd.R_mono (ok' := fun k_ => ((fun _ => True)) k_ ∧ some k_ ≠ (u3 : Value).ownBlock) (Kd.R_apart' (HO140.out) (Kd.S_typed HO_3.out) (by decide)) (fun k_ hk => ⟨trivial, hk.2⟩))).1 k_ hk_.symm) ?aF ?aO ?aB ?aS ?aL ?_; (case aP => exact k64_mkM _ _ _ (⟨t138, t141⟩ : S64) (Kd.R_mono (Kd.R_tight rfl (Kd.R_mono (ok' := fun k_ => ((fun _ => True)) k_ ∧ some k_ ≠ (u3 : Value).ownBlock) (Kd.R_apart' (HO140.out) (Kd.S_typed HO_3.out) (by decide)) (fun k_ hk => ⟨trivial, hk.2⟩))) (fun _ h_ => h_))); (case aB => exact (by repeat (first | (with_reducible first | exact HB.out | apply below_alloc | apply pw_below_drewN | apply below_drew1) | exact HB.out))); (case aF => exact (fun _ _ => trivial)); (case aO => exact (by (with_reducible repeat (first | apply Kd.S_alloc | apply Kd.S_drewN | apply Kd.S_drew)); exact Kd.S_mono HO_3.out (fun k_ hk => ⟨trivial, fun e_ => hk.2 e_⟩))); (case aS => exact (below_size (by repeat (first | (with_reducible first | exact HB.out | apply below_alloc | apply pw_below_drewN | apply below_drew1) | exact HB.out)))); (case aL => have := LMc42.out; omega); intro v143 w45 ho hb hg hat; rw [← Ny142.out] at ho; have n0_ := Aside0.mk (hb); have n1_ := Aside0.mk (ho); clear HB; clear HO_3; clear HO140; have HB := n0_; have HO144 := n1_; clear n0_ n1_; clear ho hb hg hat))
                  go_roundg k1
                  case measure => have := HK1.out; omega
                  case rel => exact ⟨(y142), (wrap64 (x5_1 + 1)), (wrap64 (x5_1 + 1)), (by first | rfl | (simp; done) | (simp [*]; done)), (by first | rfl | (simp; done) | (simp [*]; done)), H', ⟨by have := HK1.out; omega⟩, ⟨by (with_reducible repeat (first | apply Kd.S_alloc | apply Kd.S_drewN | apply Kd.S_drew)); exact HO144.out⟩, ⟨by repeat (first | (with_reducible first | exact HB.out | apply below_alloc | apply pw_below_drewN | apply below_drew1) | exact HB.out)⟩⟩
                · rw [if_neg c42] at H
                  exact absurd H (by simp)
              · rw [if_neg c39] at H
                exact absurd H (by simp)
            · rw [if_neg c38] at H
              exact absurd H (by simp)
      · rw [if_neg c2] at H
        have c2b0 : decide (x5_1 ≤ (l0.length : Int)) = false := decide_eq_false c2
        clear c2
        obtain rfl := Option.some.inj H
        go_wp2
        go_ret
        exact ⟨_, by first | rfl | (simp [errW_none, errW_some] <;> rfl) | (simp [*, errW_none, errW_some] <;> rfl), by (with_reducible repeat (first | apply Kd.S_alloc | apply Kd.S_drewN | apply Kd.S_drew)); exact HO_3.out, by repeat (first | (with_reducible first | exact HB.out | apply below_alloc | apply pw_below_drewN | apply below_drew1) | exact HB.out)⟩
end Go.Proofs.YtigloobbpcnnhaaGreatDoor.PB
end
section
namespace Go.Proofs.YtigloobbpcnnhaaGreatDoor.PB
open Go.RowKit Go.Proofs.YtigloobbpcnnhaaGreatDoorW.PrintWords Go.Proofs.YtigloobbpcnnhaaGreatDoorW.PrintLast Go.Proofs.YtigloobbpcnnhaaGreatDoorW.PrintMore
attribute [local go_sem] max2_int min2_int max_two min_two max_three min_three max_four min_four   -- for this text's walks alone
set_option linter.unusedVariables false
set_option linter.unusedSimpArgs false
def threshingref02_head.l0 : Nat → List (S64) → Int → Option (Int)
  | 0, _, _ => none
  | k + 1, x0, x3 => if x3 < (x0.length : Int) then (if 0 ≤ x3 then (if ((rd_T64 x0 x3).f1 = true) then (threshingref02_head.l0 k x0 (wrap64 (x3 + 1))) else (if (((rd_T64 x0 x3).f0).length : Int) > 0 then (some x3) else (threshingref02_head.l0 k x0 (wrap64 (x3 + 1))))) else (none)) else (some (-1))
def threshingref02_head.f (k : Nat) (l0 : List (S64)) : Option (Int) := threshingref02_head.l0 k l0 0
theorem threshingref02_head.mono_l : ∀ k, (∀ y0 y1, LeO (threshingref02_head.l0 k y0 y1) (threshingref02_head.l0 (k + 1) y0 y1))
  | 0 => fun _ _ r h => by simp [threshingref02_head.l0] at h
  | k + 1 => by
    have ih0 := threshingref02_head.mono_l k
    · intro y0 y1
      unfold threshingref02_head.l0
      repeat' first
      | (with_reducible exact ih0 _ _)
      | (with_reducible exact LeO.refl _)
      | (with_reducible exact LeO.none _)
      | (with_reducible refine LeO.ite ?_ ?_)
      | (with_reducible refine LeO.bind ?_ (fun _ => ?_))
      | exact ih0 _ _
      | exact LeO.none _
      | refine LeO.ite ?_ ?_
      | refine LeO.bind ?_ (fun _ => ?_)
theorem threshingref02_head.mono : ∀ a0 k, LeO (threshingref02_head.f k a0) (threshingref02_head.f (k + 1) a0) := by
  intro a0 k
  have ih0 := threshingref02_head.mono_l k
  unfold threshingref02_head.f
  repeat' first
      | (with_reducible exact ih0 _ _)
      | (with_reducible exact LeO.refl _)
      | (with_reducible exact LeO.none _)
      | (with_reducible refine LeO.ite ?_ ?_)
      | (with_reducible refine LeO.bind ?_ (fun _ => ?_))
      | exact ih0 _ _
      | exact LeO.none _
      | refine LeO.ite ?_ ?_
      | refine LeO.bind ?_ (fun _ => ?_)
set_option maxHeartbeats 8000000 in
set_option maxRecDepth 100000 in
theorem threshingref02_head.calls (k : Nat) (A0 : Option Addr) (c0 : Nat) (l0 : List (S64)) (r : Int) (w : World) (hr0 : Kd.C k64 w A0 l0.length l0) (hc0 : l0.length ≤ c0) (h : threshingref02_head.f k l0 = some r) :
    Calls Tryz.prog 44 #[.slice A0 l0.length c0] w fun e w' => e = .returned (.int .i64 r) ∧ Drawn0 w w' := by
  have HR0 := Aside0.mk hr0
  have HC0 := Aside0.mk hc0
  clear hr0 hc0
  have H : (threshingref02_head.l0 k l0 0) = some r := h
  clear h
  have H' := Aside0.mk H
  clear H
  go_enter Tryz.func44, Tryz.ntmps44
  go_wp2
  go_loopg [3] k (fun kq v3 w' => ∃ (x3_1 : Int), v3 = .int .i64 x3_1 ∧ Aside0 (threshingref02_head.l0 kq l0 x3_1 = some r) ∧ Aside0 (kq ≤ k) ∧ Drawn0 w w')
  case atStart => exact ⟨(0), (by first | rfl | (simp; done) | (simp [*]; done)), H', ⟨Nat.le_refl _⟩, by repeat (first | exact Drawn0.refl _ | apply Drawn0.step)⟩
  case round =>
    clear H'
    obtain ⟨x3_1, rfl, HA, HK1, ⟨m1, rfl⟩⟩ := hrel
    cases gk with
    | zero => exact absurd HA.out (by simp [threshingref02_head.l0])
    | succ k1 =>
      have H := HA.out
      clear HA
      simp only [threshingref02_head.l0] at H
      by_cases c2 : x3_1 < (l0.length : Int)
      · rw [if_pos c2] at H
        have c2b0 : decide (x3_1 < (l0.length : Int)) = true := decide_eq_true c2
        clear c2
        by_cases c3 : 0 ≤ x3_1
        · rw [if_pos c3] at H
          have c3b0 : decide (0 ≤ x3_1) = true := decide_eq_true c3
          clear c3
          obtain ⟨bq4, hbq4⟩ : ∃ b_ : Bool, b_ = ((rd_T64 l0 x3_1).f1) := ⟨_, rfl⟩
          replace H : (if (bq4 = true) then (threshingref02_head.l0 k1 l0 (wrap64 (x3_1 + 1))) else (if (((rd_T64 l0 x3_1).f0).length : Int) > 0 then (some x3_1) else (threshingref02_head.l0 k1 l0 (wrap64 (x3_1 + 1))))) = some r := by rw [← hbq4] at H; exact H
          have Nbq4 := Aside0.mk hbq4
          clear hbq4
          by_cases c5 : (bq4 = true)
          · subst c5
            have H1 : (threshingref02_head.l0 k1 l0 (wrap64 (x3_1 + 1))) = some r := by rw [if_pos rfl] at H; exact H
            clear H
            have H := H1
            clear H1
            have H' := Aside0.mk H
            clear H
            have p145 : 0 ≤ (x3_1 : Int) := of_decide_eq_true (by first | (with_reducible assumption) | assumption)
            have q145 : x3_1 < (l0.length : Int) := of_decide_eq_true (by first | (with_reducible assumption) | assumption)
            obtain ⟨ad145, A145_0, c145_0, e145, hx145_0, hx145_1, hl145_0, hi145_0⟩ := at_T64 HR0.out x3_1 p145 q145
            (try rw [← Nbq4.out] at hx145_1)
            cases e145
            have HR145_0 := Aside0.mk hi145_0
            have HC145_0 := Aside0.mk hl145_0
            clear hi145_0 hl145_0
            replace p145 := eq_true p145
            replace q145 := eq_true q145
            go_wp2
            go_roundg k1
            case measure => have := HK1.out; omega
            case rel => exact ⟨(wrap64 (x3_1 + 1)), (by first | rfl | (simp; done) | (simp [*]; done)), H', ⟨by have := HK1.out; omega⟩, by repeat (first | exact Drawn0.refl _ | apply Drawn0.step)⟩
          · replace c5 := Bool.eq_false_iff.mpr c5
            subst c5
            have H1 : (if (((rd_T64 l0 x3_1).f0).length : Int) > 0 then (some x3_1) else (threshingref02_head.l0 k1 l0 (wrap64 (x3_1 + 1)))) = some r := by rw [if_neg (show ¬ (false = true) by decide)] at H; exact H
            clear H
            have H := H1
            clear H1
            by_cases c6 : (((rd_T64 l0 x3_1).f0).length : Int) > 0
            · rw [if_pos c6] at H
              have c6b0 : decide (0 < (((rd_T64 l0 x3_1).f0).length : Int)) = true := decide_eq_true c6
              have c6b1 : decide (0 < ((rd_T64 l0 x3_1).f0).length) = true := decide_eq_true (by omega)
              clear c6
              obtain rfl := Option.some.inj H
              have p145 : 0 ≤ (x3_1 : Int) := of_decide_eq_true (by first | (with_reducible assumption) | assumption)
              have q145 : x3_1 < (l0.length : Int) := of_decide_eq_true (by first | (with_reducible assumption) | assumption)
              obtain ⟨ad145, A145_0, c145_0, e145, hx145_0, hx145_1, hl145_0, hi145_0⟩ := at_T64 HR0.out x3_1 p145 q145
              (try rw [← Nbq4.out] at hx145_1)
              cases e145
              have HR145_0 := Aside0.mk hi145_0
              have HC145_0 := Aside0.mk hl145_0
              clear hi145_0 hl145_0
              replace p145 := eq_true p145
              replace q145 := eq_true q145
              have p146 : 0 ≤ (x3_1 : Int) := of_decide_eq_true (by first | (with_reducible assumption) | assumption)
              have q146 : x3_1 < (l0.length : Int) := of_decide_eq_true (by first | (with_reducible assumption) | assumption)
              obtain ⟨ad146, A146_0, c146_0, e146, hx146_0, hx146_1, hl146_0, hi146_0⟩ := at_T64 HR0.out x3_1 p146 q146
              (try rw [← Nbq4.out] at hx146_1)
              obtain rfl : ad145 = ad146 := (by injection e146)
              have HR146_0 := Aside0.mk hi146_0
              have HC146_0 := Aside0.mk hl146_0
              clear hi146_0 hl146_0
              replace p146 := eq_true p146
              replace q146 := eq_true q146
              have ea_ := Option.some.inj (hx145_0.symm.trans hx146_0)
              injection ea_ with ea_ en_ ec_
              subst ea_
              subst ec_
              clear en_
              go_wp2
              go_ret
              exact ⟨by first | rfl | (simp; done) | (simp [*]; done), by repeat (first | exact Drawn0.refl _ | apply Drawn0.step)⟩
            · rw [if_neg c6] at H
              have c6b0 : decide (0 < (((rd_T64 l0 x3_1).f0).length : Int)) = false := decide_eq_false c6
              have c6b1 : decide (0 < ((rd_T64 l0 x3_1).f0).length) = false := decide_eq_false (by omega)
              clear c6
              have H' := Aside0.mk H
              clear H
              have p145 : 0 ≤ (x3_1 : Int) := of_decide_eq_true (by first | (with_reducible assumption) | assumption)
              have q145 : x3_1 < (l0.length : Int) := of_decide_eq_true (by first | (with_reducible assumption) | assumption)
              obtain ⟨ad145, A145_0, c145_0, e145, hx145_0, hx145_1, hl145_0, hi145_0⟩ := at_T64 HR0.out x3_1 p145 q145
              (try rw [← Nbq4.out] at hx145_1)
              cases e145
              have HR145_0 := Aside0.mk hi145_0
              have HC145_0 := Aside0.mk hl145_0
              clear hi145_0 hl145_0
              replace p145 := eq_true p145
              replace q145 := eq_true q145
              have p146 : 0 ≤ (x3_1 : Int) := of_decide_eq_true (by first | (with_reducible assumption) | assumption)
              have q146 : x3_1 < (l0.length : Int) := of_decide_eq_true (by first | (with_reducible assumption) | assumption)
              obtain ⟨ad146, A146_0, c146_0, e146, hx146_0, hx146_1, hl146_0, hi146_0⟩ := at_T64 HR0.out x3_1 p146 q146
              (try rw [← Nbq4.out] at hx146_1)
              obtain rfl : ad145 = ad146 := (by injection e146)
              have HR146_0 := Aside0.mk hi146_0
              have HC146_0 := Aside0.mk hl146_0
              clear hi146_0 hl146_0
              replace p146 := eq_true p146
              replace q146 := eq_true q146
              have ea_ := Option.some.inj (hx145_0.symm.trans hx146_0)
              injection ea_ with ea_ en_ ec_
              subst ea_
              subst ec_
              clear en_
              go_wp2
              go_roundg k1
              case measure => have := HK1.out; omega
              case rel => exact ⟨(wrap64 (x3_1 + 1)), (by first | rfl | (simp; done) | (simp [*]; done)), H', ⟨by have := HK1.out; omega⟩, by repeat (first | exact Drawn0.refl _ | apply Drawn0.step)⟩
        · rw [if_neg c3] at H
          exact absurd H (by simp)
      · rw [if_neg c2] at H
        have c2b0 : decide (x3_1 < (l0.length : Int)) = false := decide_eq_false c2
        clear c2
        obtain rfl := Option.some.inj H
        go_wp2
        go_ret
        exact ⟨by first | rfl | (simp; done) | (simp [*]; done), by repeat (first | exact Drawn0.refl _ | apply Drawn0.step)⟩
end Go.Proofs.YtigloobbpcnnhaaGreatDoor.PB
end
section
namespace Go.Proofs.YtigloobbpcnnhaaGreatDoor.PB
open Go.RowKit Go.Proofs.YtigloobbpcnnhaaGreatDoorW.PrintWords Go.Proofs.YtigloobbpcnnhaaGreatDoorW.PrintLast Go.Proofs.YtigloobbpcnnhaaGreatDoorW.PrintMore
attribute [local go_sem] max2_int min2_int max_two min_two max_three min_three max_four min_four   -- for this text's walks alone
set_option linter.unusedVariables false
set_option linter.unusedSimpArgs false
mutual
def threshingref02_Number.j0 : Nat → ByteArray → Int → ByteArray → Bool → Option (Int × Bool × Bool)
  | 0, _, _, _, _ => none
  | k + 1, x0, x2, x9, x27 => if x27 = true then (if 1 ≤ (x0.size : Int) then (threshingref02_Number.j1 k x0 x2 (x0.extract 1 x0.size)) else (none)) else (threshingref02_Number.j1 k x0 x2 x9)
def threshingref02_Number.j1 : Nat → ByteArray → Int → ByteArray → Option (Int × Bool × Bool)
  | 0, _, _, _ => none
  | k + 1, x0, x2, x9 => threshingref02_Number.l0 k x0 x2 x9 0 0
def threshingref02_Number.l0 : Nat → ByteArray → Int → ByteArray → Int → Int → Option (Int × Bool × Bool)
  | 0, _, _, _, _, _ => none
  | k + 1, x0, x2, x9, x10, x11 => if x11 < (x9.size : Int) then (if 0 ≤ x11 then (if (bt x9 x11) < 48 then (threshingref02_Number.j3 k x0 x2 x9 x10 x11 true) else (if (bt x9 x11) > 57 then (threshingref02_Number.j3 k x0 x2 x9 x10 x11 true) else (if x11 = 0 then (if 0 < (x9.size : Int) then (if (bt x9 0) = 48 then (threshingref02_Number.j3 k x0 x2 x9 x10 x11 (decide ((x9.size : Int) > 1))) else (threshingref02_Number.j3 k x0 x2 x9 x10 x11 false)) else (none)) else (threshingref02_Number.j3 k x0 x2 x9 x10 x11 false)))) else (none)) else (if x9.toList = ([] : List UInt8) then (some (0, false, false)) else (if x10 > x2 then (some (0, true, false)) else (if (x9.size : Int) < (x0.size : Int) then (some (wrap64 (-x10), true, true)) else (some (x10, true, true)))))
def threshingref02_Number.j3 : Nat → ByteArray → Int → ByteArray → Int → Int → Bool → Option (Int × Bool × Bool)
  | 0, _, _, _, _, _, _ => none
  | k + 1, x0, x2, x9, x10, x11, x59 => if x59 = true then (some (0, false, false)) else (if x10 ≤ x2 then (if 0 ≤ x11 then (if x11 < (x9.size : Int) then (threshingref02_Number.l0 k x0 x2 x9 (wrap64 ((wrap64 (x10 * 10)) + (((bt x9 x11) - 48) % 256))) (wrap64 (x11 + 1))) else (none)) else (none)) else (threshingref02_Number.l0 k x0 x2 x9 x10 (wrap64 (x11 + 1))))
end
def threshingref02_Number.f (k : Nat) (a0 : ByteArray) (a1 : Bool) (a2 : Int) : Option (Int × Bool × Bool) := if a1 = true then (if (a0.size : Int) > 1 then (if 0 < (a0.size : Int) then (if (bt a0 0) = 45 then (threshingref02_Number.j0 k a0 a2 a0 (a0.toList != ([45, 48] : List UInt8))) else (threshingref02_Number.j0 k a0 a2 a0 false)) else (none)) else (threshingref02_Number.j0 k a0 a2 a0 false)) else (threshingref02_Number.j0 k a0 a2 a0 false)
theorem threshingref02_Number.mono_l : ∀ k, (∀ y0 y1 y2 y3, LeO (threshingref02_Number.j0 k y0 y1 y2 y3) (threshingref02_Number.j0 (k + 1) y0 y1 y2 y3)) ∧ (∀ y0 y1 y2, LeO (threshingref02_Number.j1 k y0 y1 y2) (threshingref02_Number.j1 (k + 1) y0 y1 y2)) ∧ (∀ y0 y1 y2 y3 y4, LeO (threshingref02_Number.l0 k y0 y1 y2 y3 y4) (threshingref02_Number.l0 (k + 1) y0 y1 y2 y3 y4)) ∧ (∀ y0 y1 y2 y3 y4 y5, LeO (threshingref02_Number.j3 k y0 y1 y2 y3 y4 y5) (threshingref02_Number.j3 (k + 1) y0 y1 y2 y3 y4 y5))
  | 0 => ⟨fun _ _ _ _ r h => by simp [threshingref02_Number.j0] at h, fun _ _ _ r h => by simp [threshingref02_Number.j1] at h, fun _ _ _ _ _ r h => by simp [threshingref02_Number.l0] at h, fun _ _ _ _ _ _ r h => by simp [threshingref02_Number.j3] at h⟩
  | k + 1 => by
    obtain ⟨ih0, ih1, ih2, ih3⟩ := threshingref02_Number.mono_l k
    refine ⟨?_, ?_, ?_, ?_⟩
    · intro y0 y1 y2 y3
      unfold threshingref02_Number.j0
      repeat' first
      | (with_reducible exact ih0 _ _ _ _)
      | (with_reducible exact ih1 _ _ _)
      | (with_reducible exact ih2 _ _ _ _ _)
      | (with_reducible exact ih3 _ _ _ _ _ _)
      | (with_reducible exact LeO.refl _)
      | (with_reducible exact LeO.none _)
      | (with_reducible refine LeO.ite ?_ ?_)
      | (with_reducible refine LeO.bind ?_ (fun _ => ?_))
      | exact ih0 _ _ _ _
      | exact ih1 _ _ _
      | exact ih2 _ _ _ _ _
      | exact ih3 _ _ _ _ _ _
      | exact LeO.none _
      | refine LeO.ite ?_ ?_
      | refine LeO.bind ?_ (fun _ => ?_)
    · intro y0 y1 y2
      unfold threshingref02_Number.j1
      repeat' first
      | (with_reducible exact ih0 _ _ _ _)
      | (with_reducible exact ih1 _ _ _)
      | (with_reducible exact ih2 _ _ _ _ _)
      | (with_reducible exact ih3 _ _ _ _ _ _)
      | (with_reducible exact LeO.refl _)
      | (with_reducible exact LeO.none _)
      | (with_reducible refine LeO.ite ?_ ?_)
      | (with_reducible refine LeO.bind ?_ (fun _ => ?_))
      | exact ih0 _ _ _ _
      | exact ih1 _ _ _
      | exact ih2 _ _ _ _ _
      | exact ih3 _ _ _ _ _ _
      | exact LeO.none _
      | refine LeO.ite ?_ ?_
      | refine LeO.bind ?_ (fun _ => ?_)
    · intro y0 y1 y2 y3 y4
      unfold threshingref02_Number.l0
      repeat' first
      | (with_reducible exact ih0 _ _ _ _)
      | (with_reducible exact ih1 _ _ _)
      | (with_reducible exact ih2 _ _ _ _ _)
      | (with_reducible exact ih3 _ _ _ _ _ _)
      | (with_reducible exact LeO.refl _)
      | (with_reducible exact LeO.none _)
      | (with_reducible refine LeO.ite ?_ ?_)
      | (with_reducible refine LeO.bind ?_ (fun _ => ?_))
      | exact ih0 _ _ _ _
      | exact ih1 _ _ _
      | exact ih2 _ _ _ _ _
      | exact ih3 _ _ _ _ _ _
      | exact LeO.none _
      | refine LeO.ite ?_ ?_
      | refine LeO.bind ?_ (fun _ => ?_)
    · intro y0 y1 y2 y3 y4 y5
      unfold threshingref02_Number.j3
      repeat' first
      | (with_reducible exact ih0 _ _ _ _)
      | (with_reducible exact ih1 _ _ _)
      | (with_reducible exact ih2 _ _ _ _ _)
      | (with_reducible exact ih3 _ _ _ _ _ _)
      | (with_reducible exact LeO.refl _)
      | (with_reducible exact LeO.none _)
      | (with_reducible refine LeO.ite ?_ ?_)
      | (with_reducible refine LeO.bind ?_ (fun _ => ?_))
      | exact ih0 _ _ _ _
      | exact ih1 _ _ _
      | exact ih2 _ _ _ _ _
      | exact ih3 _ _ _ _ _ _
      | exact LeO.none _
      | refine LeO.ite ?_ ?_
      | refine LeO.bind ?_ (fun _ => ?_)
theorem threshingref02_Number.mono : ∀ a0 a1 a2 k, LeO (threshingref02_Number.f k a0 a1 a2) (threshingref02_Number.f (k + 1) a0 a1 a2) := by
  intro a0 a1 a2 k
  obtain ⟨ih0, ih1, ih2, ih3⟩ := threshingref02_Number.mono_l k
  unfold threshingref02_Number.f
  repeat' first
      | (with_reducible exact ih0 _ _ _ _)
      | (with_reducible exact ih1 _ _ _)
      | (with_reducible exact ih2 _ _ _ _ _)
      | (with_reducible exact ih3 _ _ _ _ _ _)
      | (with_reducible exact LeO.refl _)
      | (with_reducible exact LeO.none _)
      | (with_reducible refine LeO.ite ?_ ?_)
      | (with_reducible refine LeO.bind ?_ (fun _ => ?_))
      | exact ih0 _ _ _ _
      | exact ih1 _ _ _
      | exact ih2 _ _ _ _ _
      | exact ih3 _ _ _ _ _ _
      | exact LeO.none _
      | refine LeO.ite ?_ ?_
      | refine LeO.bind ?_ (fun _ => ?_)
set_option maxHeartbeats 8000000 in
set_option maxRecDepth 100000 in
theorem threshingref02_Number.calls (k : Nat) (a0 : ByteArray) (a1 : Bool) (a2 : Int) (r1 : Int) (r2 : Bool) (r3 : Bool) (w : World) (h : threshingref02_Number.f k a0 a1 a2 = some (r1, r2, r3)) :
    Calls Tryz.prog 18 #[.string a0, .bool a1, .int .i64 a2] w fun e w' => e = .returned (.tuple #[.int .i64 r1, .bool r2, .bool r3]) ∧ Drawn0 w w' := by
  have H : (if a1 = true then (if (a0.size : Int) > 1 then (if 0 < (a0.size : Int) then (if (bt a0 0) = 45 then (threshingref02_Number.j0 k a0 a2 a0 (a0.toList != ([45, 48] : List UInt8))) else (threshingref02_Number.j0 k a0 a2 a0 false)) else (none)) else (threshingref02_Number.j0 k a0 a2 a0 false)) else (threshingref02_Number.j0 k a0 a2 a0 false)) = some (r1, r2, r3) := h
  clear h
  have HC4 := Aside0.mk H
  clear H
  go_enter Tryz.func18, Tryz.ntmps18
  go_upto_region 2 with (fail)
  go_cut [27] (fun v27 wc => ∃ (kq : Nat) (x27_3 : Bool), v27 = .bool x27_3 ∧ Aside0 (threshingref02_Number.j0 kq a0 a2 a0 x27_3 = some (r1, r2, r3)) ∧ Aside0 (kq ≤ k) ∧ Drawn0 w wc)
  case first =>
    have H := HC4.out
    clear HC4
    by_cases c5 : a1 = true
    · subst c5
      have H1 : (if (a0.size : Int) > 1 then (if 0 < (a0.size : Int) then (if (bt a0 0) = 45 then (threshingref02_Number.j0 k a0 a2 a0 (a0.toList != ([45, 48] : List UInt8))) else (threshingref02_Number.j0 k a0 a2 a0 false)) else (none)) else (threshingref02_Number.j0 k a0 a2 a0 false)) = some (r1, r2, r3) := by rw [if_pos rfl] at H; exact H
      clear H
      have H := H1
      clear H1
      by_cases c6 : (a0.size : Int) > 1
      · rw [if_pos c6] at H
        have c6b0 : decide (1 < (a0.size : Int)) = true := decide_eq_true c6
        have c6b1 : decide (1 < a0.size) = true := decide_eq_true (by omega)
        clear c6
        (first | rw [c6b0] | (simp only [i64_w, i32_w]; rw [c6b0]) | skip)
        by_cases c7 : 0 < (a0.size : Int)
        · rw [if_pos c7] at H
          have c7b0 : decide (0 < (a0.size : Int)) = true := decide_eq_true c7
          have c7b1 : decide (0 < a0.size) = true := decide_eq_true (by omega)
          clear c7
          by_cases c9 : (bt a0 0) = 45
          · rw [if_pos c9] at H
            have c9b0 : ((bt a0 0) == 45) = true := beq_iff_eq.mpr c9
            have c9b1 : ((bt a0 0) != 45) = false := bne_eq_false_iff_eq.mpr c9
            clear c9
            have H' := Aside0.mk H
            clear H
            have p8 : 0 ≤ (0 : Int) := (by omega)
            have q8 : 0 < a0.size := (by have : (0 : Int) < (a0.size : Int) := of_decide_eq_true (by first | (with_reducible assumption) | assumption); omega)
            have hx8 : ∀ h : 0 < a0.size, ((a0[0]'h).toNat : Int) = bt a0 0 := bt_at a0 0
            clear p8
            have qi8 : (0 < (a0.size : Int)) = True := eq_true (of_decide_eq_true (by first | (with_reducible assumption) | assumption))
            replace q8 := eq_true q8
            go_wp2
            go_meet
            case rel => exact ⟨_, ((a0.toList != ([45, 48] : List UInt8))), (by first | rfl | (simp; done) | (simp [*]; done)), H', ⟨by first | omega | exact Nat.le_refl _⟩, by repeat (first | exact Drawn0.refl _ | apply Drawn0.step)⟩
          · rw [if_neg c9] at H
            have c9b0 : ((bt a0 0) == 45) = false := beq_eq_false_iff_ne.mpr c9
            have c9b1 : ((bt a0 0) != 45) = true := bne_iff_ne.mpr c9
            have H' := Aside0.mk H
            clear H
            have p8 : 0 ≤ (0 : Int) := (by omega)
            have q8 : 0 < a0.size := (by have : (0 : Int) < (a0.size : Int) := of_decide_eq_true (by first | (with_reducible assumption) | assumption); omega)
            have hx8 : ∀ h : 0 < a0.size, ((a0[0]'h).toNat : Int) = bt a0 0 := bt_at a0 0
            clear p8
            have qi8 : (0 < (a0.size : Int)) = True := eq_true (of_decide_eq_true (by first | (with_reducible assumption) | assumption))
            replace q8 := eq_true q8
            go_wp2
            go_meet
            case rel => exact ⟨_, (false), (by first | rfl | (simp; done) | (simp [*]; done)), H', ⟨by first | omega | exact Nat.le_refl _⟩, by repeat (first | exact Drawn0.refl _ | apply Drawn0.step)⟩
        · rw [if_neg c7] at H
          exact absurd H (by simp)
      · rw [if_neg c6] at H
        have c6b0 : decide (1 < (a0.size : Int)) = false := decide_eq_false c6
        have c6b1 : decide (1 < a0.size) = false := decide_eq_false (by omega)
        clear c6
        (first | rw [c6b0] | (simp only [i64_w, i32_w]; rw [c6b0]) | skip)
        have H' := Aside0.mk H
        clear H
        go_wp2
        go_meet
        case rel => exact ⟨_, (false), (by first | rfl | (simp; done) | (simp [*]; done)), H', ⟨by first | omega | exact Nat.le_refl _⟩, by repeat (first | exact Drawn0.refl _ | apply Drawn0.step)⟩
    · replace c5 := Bool.eq_false_iff.mpr c5
      subst c5
      have H1 : (threshingref02_Number.j0 k a0 a2 a0 false) = some (r1, r2, r3) := by rw [if_neg (show ¬ (false = true) by decide)] at H; exact H
      clear H
      have H := H1
      clear H1
      have H' := Aside0.mk H
      clear H
      go_wp2
      go_meet
      case rel => exact ⟨_, (false), (by first | rfl | (simp; done) | (simp [*]; done)), H', ⟨by first | omega | exact Nat.le_refl _⟩, by repeat (first | exact Drawn0.refl _ | apply Drawn0.step)⟩
  case rest =>
    clear HC4
    try clear c2
    try clear p2
    try clear c5
    try clear c6
    try clear c6b0
    try clear c6b1
    try clear c7
    try clear c7b0
    try clear c7b1
    try clear p8
    try clear q8
    try clear hx8
    try clear qi8
    try clear c9
    try clear c9b0
    try clear c9b1
    try clear p8
    try clear q8
    obtain ⟨kq, x27_3, rfl, HA, HJ3, ⟨mc3, rfl⟩⟩ := hcut
    cases kq with
    | zero => exact absurd HA.out (by simp [threshingref02_Number.j0])
    | succ kj3 =>
      have H := HA.out
      clear HA
      simp only [threshingref02_Number.j0] at H
      have HC10 := Aside0.mk H
      clear H
      go_upto_if 27 with (fail)
      go_cut [9] (fun v9 wc => ∃ (kq : Nat) (x9_9 : ByteArray), v9 = .string x9_9 ∧ Aside0 (threshingref02_Number.j1 kq a0 a2 x9_9 = some (r1, r2, r3)) ∧ Aside0 (kq ≤ kj3) ∧ Drawn0 w wc)
      case first =>
        have H := HC10.out
        clear HC10
        by_cases c11 : x27_3 = true
        · subst c11
          have H1 : (if 1 ≤ (a0.size : Int) then (threshingref02_Number.j1 kj3 a0 a2 (a0.extract 1 a0.size)) else (none)) = some (r1, r2, r3) := by rw [if_pos rfl] at H; exact H
          clear H
          have H := H1
          clear H1
          by_cases c12 : 1 ≤ (a0.size : Int)
          · rw [if_pos c12] at H
            have c12b0 := eq_true c12
            have c12b1 : decide (1 ≤ (a0.size : Int)) = true := decide_eq_true c12
            clear c12
            have H' := Aside0.mk H
            clear H
            go_wp2
            go_meet
            case rel => exact ⟨_, (a0.extract 1 a0.size), (by first | rfl | (simp; done) | (simp [*]; done)), H', ⟨by have := HJ3.out; first | omega | exact Nat.le_refl _⟩, by repeat (first | exact Drawn0.refl _ | apply Drawn0.step)⟩
          · rw [if_neg c12] at H
            exact absurd H (by simp)
        · replace c11 := Bool.eq_false_iff.mpr c11
          subst c11
          have H1 : (threshingref02_Number.j1 kj3 a0 a2 a0) = some (r1, r2, r3) := by rw [if_neg (show ¬ (false = true) by decide)] at H; exact H
          clear H
          have H := H1
          clear H1
          have H' := Aside0.mk H
          clear H
          go_wp2
          go_meet
          case rel => exact ⟨_, (a0), (by first | rfl | (simp; done) | (simp [*]; done)), H', ⟨by have := HJ3.out; first | omega | exact Nat.le_refl _⟩, by repeat (first | exact Drawn0.refl _ | apply Drawn0.step)⟩
      case rest =>
        clear HC10
        try clear c1
        try clear c2
        try clear p2
        try clear c3
        try clear c5
        try clear c6
        try clear c6b0
        try clear c6b1
        try clear c7
        try clear c7b0
        try clear c7b1
        try clear p8
        try clear q8
        try clear hx8
        try clear qi8
        try clear c9
        try clear c9b0
        try clear c9b1
        try clear c11
        try clear c12
        try clear c12b0
        try clear c12b1
        try clear p2
        try clear p8
        try clear q8
        obtain ⟨kq, x9_9, rfl, HA, HJ9, ⟨mc9, rfl⟩⟩ := hcut
        cases kq with
        | zero => exact absurd HA.out (by simp [threshingref02_Number.j1])
        | succ kj9 =>
          have H := HA.out
          clear HA
          simp only [threshingref02_Number.j1] at H
          have H' := Aside0.mk H
          clear H
          go_wp2
          go_loopg [10, 11] kj9 (fun kq v10 v11 w' => ∃ (x10_3 : Int) (x11_3 : Int), v10 = .int .i64 x10_3 ∧ v11 = .int .i64 x11_3 ∧ Aside0 (threshingref02_Number.l0 kq a0 a2 x9_9 x10_3 x11_3 = some (r1, r2, r3)) ∧ Aside0 (kq ≤ kj9) ∧ Drawn0 w w')
          case atStart => exact ⟨(0), (0), (by first | rfl | (simp; done) | (simp [*]; done)), (by first | rfl | (simp; done) | (simp [*]; done)), H', ⟨Nat.le_refl _⟩, by repeat (first | exact Drawn0.refl _ | apply Drawn0.step)⟩
          case round =>
            clear H'
            try clear c1
            try clear c2
            try clear p2
            try clear c3
            try clear c5
            try clear c6
            try clear c6b0
            try clear c6b1
            try clear c7
            try clear c7b0
            try clear c7b1
            try clear p8
            try clear q8
            try clear hx8
            try clear qi8
            try clear c9
            try clear c9b0
            try clear c9b1
            try clear c11
            try clear c12
            try clear c12b0
            try clear c12b1
            try clear p2
            try clear p8
            try clear q8
            obtain ⟨x10_3, x11_3, rfl, rfl, HA, HK3, ⟨m3, rfl⟩⟩ := hrel
            cases gk with
            | zero => exact absurd HA.out (by simp [threshingref02_Number.l0])
            | succ k3 =>
              have H := HA.out
              clear HA
              simp only [threshingref02_Number.l0] at H
              by_cases c13 : x11_3 < (x9_9.size : Int)
              · rw [if_pos c13] at H
                have c13b0 : decide (x11_3 < (x9_9.size : Int)) = true := decide_eq_true c13
                clear c13
                have HC14 := Aside0.mk H
                clear H
                go_upto_region 8 with (fail)
                go_cut [59] (fun v59 wc => ∃ (kq : Nat) (x59_13 : Bool), v59 = .bool x59_13 ∧ Aside0 (threshingref02_Number.j3 kq a0 a2 x9_9 x10_3 x11_3 x59_13 = some (r1, r2, r3)) ∧ Aside0 (kq ≤ k3) ∧ Drawn0 w wc)
                case first =>
                  have H := HC14.out
                  clear HC14
                  by_cases c15 : 0 ≤ x11_3
                  · rw [if_pos c15] at H
                    have c15b0 : decide (0 ≤ x11_3) = true := decide_eq_true c15
                    clear c15
                    (first | rw [c15b0] | (simp only [i64_w, i32_w]; rw [c15b0]) | skip)
                    by_cases c17 : (bt x9_9 x11_3) < 48
                    · rw [if_pos c17] at H
                      have c17b0 : decide ((bt x9_9 x11_3) < 48) = true := decide_eq_true c17
                      clear c17
                      have H' := Aside0.mk H
                      clear H
                      have p16 : 0 ≤ (x11_3 : Int) := of_decide_eq_true (by first | (with_reducible assumption) | assumption)
                      have q16 : x11_3 < (x9_9.size : Int) := of_decide_eq_true (by first | (with_reducible assumption) | assumption)
                      have hx16 := bt_at x9_9 x11_3
                      replace p16 := eq_true p16
                      replace q16 := eq_true q16
                      go_wp2
                      go_meet
                      case rel => exact ⟨_, (true), (by first | rfl | (simp; done) | (simp [*]; done)), H', ⟨by have := HJ3.out; have := HJ9.out; have := HK3.out; first | omega | exact Nat.le_refl _⟩, by repeat (first | exact Drawn0.refl _ | apply Drawn0.step)⟩
                    · rw [if_neg c17] at H
                      have c17b0 : decide ((bt x9_9 x11_3) < 48) = false := decide_eq_false c17
                      clear c17
                      by_cases c19 : (bt x9_9 x11_3) > 57
                      · rw [if_pos c19] at H
                        have c19b0 : decide (57 < (bt x9_9 x11_3)) = true := decide_eq_true c19
                        clear c19
                        have H' := Aside0.mk H
                        clear H
                        have p16 : 0 ≤ (x11_3 : Int) := of_decide_eq_true (by first | (with_reducible assumption) | assumption)
                        have q16 : x11_3 < (x9_9.size : Int) := of_decide_eq_true (by first | (with_reducible assumption) | assumption)
                        have hx16 := bt_at x9_9 x11_3
                        replace p16 := eq_true p16
                        replace q16 := eq_true q16
                        have p18 : 0 ≤ (x11_3 : Int) := of_decide_eq_true (by first | (with_reducible assumption) | assumption)
                        have q18 : x11_3 < (x9_9.size : Int) := of_decide_eq_true (by first | (with_reducible assumption) | assumption)
                        have hx18 := bt_at x9_9 x11_3
                        replace p18 := eq_true p18
                        replace q18 := eq_true q18
                        go_wp2
                        go_meet
                        case rel => exact ⟨_, (true), (by first | rfl | (simp; done) | (simp [*]; done)), H', ⟨by have := HJ3.out; have := HJ9.out; have := HK3.out; first | omega | exact Nat.le_refl _⟩, by repeat (first | exact Drawn0.refl _ | apply Drawn0.step)⟩
                      · rw [if_neg c19] at H
                        have c19b0 : decide (57 < (bt x9_9 x11_3)) = false := decide_eq_false c19
                        clear c19
                        by_cases c20 : x11_3 = 0
                        · rw [if_pos c20] at H
                          have c20b0 : (x11_3 == 0) = true := beq_iff_eq.mpr c20
                          have c20b1 : (x11_3 != 0) = false := bne_eq_false_iff_eq.mpr c20
                          clear c20
                          by_cases c21 : 0 < (x9_9.size : Int)
                          · rw [if_pos c21] at H
                            have c21b0 : decide (0 < (x9_9.size : Int)) = true := decide_eq_true c21
                            have c21b1 : decide (0 < x9_9.size) = true := decide_eq_true (by omega)
                            clear c21
                            by_cases c23 : (bt x9_9 0) = 48
                            · rw [if_pos c23] at H
                              have c23b0 : ((bt x9_9 0) == 48) = true := beq_iff_eq.mpr c23
                              have c23b1 : ((bt x9_9 0) != 48) = false := bne_eq_false_iff_eq.mpr c23
                              clear c23
                              have H' := Aside0.mk H
                              clear H
                              have p16 : 0 ≤ (x11_3 : Int) := of_decide_eq_true (by first | (with_reducible assumption) | assumption)
                              have q16 : x11_3 < (x9_9.size : Int) := of_decide_eq_true (by first | (with_reducible assumption) | assumption)
                              have hx16 := bt_at x9_9 x11_3
                              replace p16 := eq_true p16
                              replace q16 := eq_true q16
                              have p18 : 0 ≤ (x11_3 : Int) := of_decide_eq_true (by first | (with_reducible assumption) | assumption)
                              have q18 : x11_3 < (x9_9.size : Int) := of_decide_eq_true (by first | (with_reducible assumption) | assumption)
                              have hx18 := bt_at x9_9 x11_3
                              replace p18 := eq_true p18
                              replace q18 := eq_true q18
                              have p22 : 0 ≤ (0 : Int) := (by omega)
                              have q22 : 0 < x9_9.size := (by have : (0 : Int) < (x9_9.size : Int) := of_decide_eq_true (by first | (with_reducible assumption) | assumption); omega)
                              have hx22 : ∀ h : 0 < x9_9.size, ((x9_9[0]'h).toNat : Int) = bt x9_9 0 := bt_at x9_9 0
                              clear p22
                              have qi22 : (0 < (x9_9.size : Int)) = True := eq_true (of_decide_eq_true (by first | (with_reducible assumption) | assumption))
                              replace q22 := eq_true q22
                              go_wp2
                              go_meet
                              case rel => exact ⟨_, (decide ((x9_9.size : Int) > 1)), (by first | rfl | (simp; done) | (simp [*]; done)), H', ⟨by have := HJ3.out; have := HJ9.out; have := HK3.out; first | omega | exact Nat.le_refl _⟩, by repeat (first | exact Drawn0.refl _ | apply Drawn0.step)⟩
                            · rw [if_neg c23] at H
                              have c23b0 : ((bt x9_9 0) == 48) = false := beq_eq_false_iff_ne.mpr c23
                              have c23b1 : ((bt x9_9 0) != 48) = true := bne_iff_ne.mpr c23
                              have H' := Aside0.mk H
                              clear H
                              have p16 : 0 ≤ (x11_3 : Int) := of_decide_eq_true (by first | (with_reducible assumption) | assumption)
                              have q16 : x11_3 < (x9_9.size : Int) := of_decide_eq_true (by first | (with_reducible assumption) | assumption)
                              have hx16 := bt_at x9_9 x11_3
                              replace p16 := eq_true p16
                              replace q16 := eq_true q16
                              have p18 : 0 ≤ (x11_3 : Int) := of_decide_eq_true (by first | (with_reducible assumption) | assumption)
                              have q18 : x11_3 < (x9_9.size : Int) := of_decide_eq_true (by first | (with_reducible assumption) | assumption)
                              have hx18 := bt_at x9_9 x11_3
                              replace p18 := eq_true p18
                              replace q18 := eq_true q18
                              have p22 : 0 ≤ (0 : Int) := (by omega)
                              have q22 : 0 < x9_9.size := (by have : (0 : Int) < (x9_9.size : Int) := of_decide_eq_true (by first | (with_reducible assumption) | assumption); omega)
                              have hx22 : ∀ h : 0 < x9_9.size, ((x9_9[0]'h).toNat : Int) = bt x9_9 0 := bt_at x9_9 0
                              clear p22
                              have qi22 : (0 < (x9_9.size : Int)) = True := eq_true (of_decide_eq_true (by first | (with_reducible assumption) | assumption))
                              replace q22 := eq_true q22
                              go_wp2
                              go_meet
                              case rel => exact ⟨_, (false), (by first | rfl | (simp; done) | (simp [*]; done)), H', ⟨by have := HJ3.out; have := HJ9.out; have := HK3.out; first | omega | exact Nat.le_refl _⟩, by repeat (first | exact Drawn0.refl _ | apply Drawn0.step)⟩
                          · rw [if_neg c21] at H
                            exact absurd H (by simp)
                        · rw [if_neg c20] at H
                          have c20b0 : (x11_3 == 0) = false := beq_eq_false_iff_ne.mpr c20
                          have c20b1 : (x11_3 != 0) = true := bne_iff_ne.mpr c20
                          have H' := Aside0.mk H
                          clear H
                          have p16 : 0 ≤ (x11_3 : Int) := of_decide_eq_true (by first | (with_reducible assumption) | assumption)
                          have q16 : x11_3 < (x9_9.size : Int) := of_decide_eq_true (by first | (with_reducible assumption) | assumption)
                          have hx16 := bt_at x9_9 x11_3
                          replace p16 := eq_true p16
                          replace q16 := eq_true q16
                          have p18 : 0 ≤ (x11_3 : Int) := of_decide_eq_true (by first | (with_reducible assumption) | assumption)
                          have q18 : x11_3 < (x9_9.size : Int) := of_decide_eq_true (by first | (with_reducible assumption) | assumption)
                          have hx18 := bt_at x9_9 x11_3
                          replace p18 := eq_true p18
                          replace q18 := eq_true q18
                          go_wp2
                          go_meet
                          case rel => exact ⟨_, (false), (by first | rfl | (simp; done) | (simp [*]; done)), H', ⟨by have := HJ3.out; have := HJ9.out; have := HK3.out; first | omega | exact Nat.le_refl _⟩, by repeat (first | exact Drawn0.refl _ | apply Drawn0.step)⟩
                  · rw [if_neg c15] at H
                    exact absurd H (by simp)
                case rest =>
                  clear HC14
                  try clear c1
                  try clear p1
                  try clear q1
                  try clear hx1
                  try clear c2
                  try clear p2
                  try clear q2
                  try clear hx2
                  try clear qi2
                  try clear c3
                  try clear c5
                  try clear c6
                  try clear c6b0
                  try clear c6b1
                  try clear c7
                  try clear c7b0
                  try clear c7b1
                  try clear p8
                  try clear q8
                  try clear hx8
                  try clear qi8
                  try clear c9
                  try clear c9b0
                  try clear c9b1
                  try clear c11
                  try clear c12
                  try clear c12b0
                  try clear c12b1
                  try clear c13
                  try clear c13b0
                  try clear c15
                  try clear c15b0
                  try clear p16
                  try clear q16
                  try clear hx16
                  try clear c17
                  try clear c17b0
                  try clear p18
                  try clear q18
                  try clear hx18
                  try clear c19
                  try clear c19b0
                  try clear c20
                  try clear c20b0
                  try clear c20b1
                  try clear c21
                  try clear c21b0
                  try clear c21b1
                  try clear p22
                  try clear q22
                  try clear hx22
                  try clear qi22
                  try clear c23
                  try clear c23b0
                  try clear c23b1
                  try clear p16
                  try clear p18
                  try clear p2
                  try clear p22
                  try clear p8
                  try clear q16
                  try clear q18
                  try clear q22
                  try clear q8
                  obtain ⟨kq, x59_13, rfl, HA, HJ13, ⟨mc13, rfl⟩⟩ := hcut
                  cases kq with
                  | zero => exact absurd HA.out (by simp [threshingref02_Number.j3])
                  | succ kj13 =>
                    have H := HA.out
                    clear HA
                    simp only [threshingref02_Number.j3] at H
                    by_cases c24 : x59_13 = true
                    · subst c24
                      have H1 : (some (0, false, false)) = some (r1, r2, r3) := by rw [if_pos rfl] at H; exact H
                      clear H
                      have H := H1
                      clear H1
                      simp only [Option.some.injEq, Prod.mk.injEq] at H
                      obtain ⟨rfl, rfl, rfl⟩ := H
                      go_wp2
                      go_ret3
                      exact ⟨by first | rfl | (simp; done) | (simp [*]; done), by repeat (first | exact Drawn0.refl _ | apply Drawn0.step)⟩
                    · replace c24 := Bool.eq_false_iff.mpr c24
                      subst c24
                      have H1 : (if x10_3 ≤ a2 then (if 0 ≤ x11_3 then (if x11_3 < (x9_9.size : Int) then (threshingref02_Number.l0 kj13 a0 a2 x9_9 (wrap64 ((wrap64 (x10_3 * 10)) + (((bt x9_9 x11_3) - 48) % 256))) (wrap64 (x11_3 + 1))) else (none)) else (none)) else (threshingref02_Number.l0 kj13 a0 a2 x9_9 x10_3 (wrap64 (x11_3 + 1)))) = some (r1, r2, r3) := by rw [if_neg (show ¬ (false = true) by decide)] at H; exact H
                      clear H
                      have H := H1
                      clear H1
                      by_cases c25 : x10_3 ≤ a2
                      · rw [if_pos c25] at H
                        have c25b0 : decide (x10_3 ≤ a2) = true := decide_eq_true c25
                        clear c25
                        by_cases c26 : 0 ≤ x11_3
                        · rw [if_pos c26] at H
                          have c26b0 : decide (0 ≤ x11_3) = true := decide_eq_true c26
                          clear c26
                          by_cases c27 : x11_3 < (x9_9.size : Int)
                          · rw [if_pos c27] at H
                            have c27b0 : decide (x11_3 < (x9_9.size : Int)) = true := decide_eq_true c27
                            clear c27
                            have H' := Aside0.mk H
                            clear H
                            have p28 : 0 ≤ (x11_3 : Int) := of_decide_eq_true (by first | (with_reducible assumption) | assumption)
                            have q28 : x11_3 < (x9_9.size : Int) := of_decide_eq_true (by first | (with_reducible assumption) | assumption)
                            have hx28 := bt_at x9_9 x11_3
                            replace p28 := eq_true p28
                            replace q28 := eq_true q28
                            go_wp2
                            go_roundg kj13
                            case measure => have := HJ3.out; have := HJ9.out; have := HK3.out; have := HJ13.out; omega
                            case rel => exact ⟨(wrap64 ((wrap64 (x10_3 * 10)) + (((bt x9_9 x11_3) - 48) % 256))), (wrap64 (x11_3 + 1)), (by first | rfl | (simp; done) | (simp [*]; done)), (by first | rfl | (simp; done) | (simp [*]; done)), H', ⟨by have := HJ3.out; have := HJ9.out; have := HK3.out; have := HJ13.out; omega⟩, by repeat (first | exact Drawn0.refl _ | apply Drawn0.step)⟩
                          · rw [if_neg c27] at H
                            exact absurd H (by simp)
                        · rw [if_neg c26] at H
                          exact absurd H (by simp)
                      · rw [if_neg c25] at H
                        have c25b0 : decide (x10_3 ≤ a2) = false := decide_eq_false c25
                        clear c25
                        have H' := Aside0.mk H
                        clear H
                        go_wp2
                        go_roundg kj13
                        case measure => have := HJ3.out; have := HJ9.out; have := HK3.out; have := HJ13.out; omega
                        case rel => exact ⟨(x10_3), (wrap64 (x11_3 + 1)), (by first | rfl | (simp; done) | (simp [*]; done)), (by first | rfl | (simp; done) | (simp [*]; done)), H', ⟨by have := HJ3.out; have := HJ9.out; have := HK3.out; have := HJ13.out; omega⟩, by repeat (first | exact Drawn0.refl _ | apply Drawn0.step)⟩
              · rw [if_neg c13] at H
                have c13b0 : decide (x11_3 < (x9_9.size : Int)) = false := decide_eq_false c13
                clear c13
                by_cases c29 : x9_9.toList = ([] : List UInt8)
                · rw [if_pos c29] at H
                  have c29b0 : (x9_9.toList == ([] : List UInt8)) = true := beq_iff_eq.mpr c29
                  have c29b1 : (x9_9.toList != ([] : List UInt8)) = false := bne_eq_false_iff_eq.mpr c29
                  clear c29
                  simp only [Option.some.injEq, Prod.mk.injEq] at H
                  obtain ⟨rfl, rfl, rfl⟩ := H
                  go_wp2
                  go_ret3
                  exact ⟨by first | rfl | (simp; done) | (simp [*]; done), by repeat (first | exact Drawn0.refl _ | apply Drawn0.step)⟩
                · rw [if_neg c29] at H
                  have c29b0 : (x9_9.toList == ([] : List UInt8)) = false := beq_eq_false_iff_ne.mpr c29
                  have c29b1 : (x9_9.toList != ([] : List UInt8)) = true := bne_iff_ne.mpr c29
                  by_cases c30 : x10_3 > a2
                  · rw [if_pos c30] at H
                    have c30b0 : decide (a2 < x10_3) = true := decide_eq_true c30
                    clear c30
                    simp only [Option.some.injEq, Prod.mk.injEq] at H
                    obtain ⟨rfl, rfl, rfl⟩ := H
                    go_wp2
                    go_ret3
                    exact ⟨by first | rfl | (simp; done) | (simp [*]; done), by repeat (first | exact Drawn0.refl _ | apply Drawn0.step)⟩
                  · rw [if_neg c30] at H
                    have c30b0 : decide (a2 < x10_3) = false := decide_eq_false c30
                    clear c30
                    by_cases c31 : (x9_9.size : Int) < (a0.size : Int)
                    · rw [if_pos c31] at H
                      have c31b0 : decide ((x9_9.size : Int) < (a0.size : Int)) = true := decide_eq_true c31
                      have c31b1 : decide (x9_9.size < a0.size) = true := decide_eq_true (Int.ofNat_lt.mp c31)
                      clear c31
                      simp only [Option.some.injEq, Prod.mk.injEq] at H
                      obtain ⟨rfl, rfl, rfl⟩ := H
                      go_wp2
                      go_ret3
                      exact ⟨by first | rfl | (simp; done) | (simp [*]; done), by repeat (first | exact Drawn0.refl _ | apply Drawn0.step)⟩
                    · rw [if_neg c31] at H
                      have c31b0 : decide ((x9_9.size : Int) < (a0.size : Int)) = false := decide_eq_false c31
                      have c31b1 : decide (x9_9.size < a0.size) = false := decide_eq_false (fun h => c31 (Int.ofNat_lt.mpr h))
                      clear c31
                      simp only [Option.some.injEq, Prod.mk.injEq] at H
                      obtain ⟨rfl, rfl, rfl⟩ := H
                      go_wp2
                      go_ret3
                      exact ⟨by first | rfl | (simp; done) | (simp [*]; done), by repeat (first | exact Drawn0.refl _ | apply Drawn0.step)⟩
end Go.Proofs.YtigloobbpcnnhaaGreatDoor.PB
end
section
namespace Go.Proofs.YtigloobbpcnnhaaGreatDoor.PB
open Go.RowKit Go.Proofs.YtigloobbpcnnhaaGreatDoorW.PrintWords Go.Proofs.YtigloobbpcnnhaaGreatDoorW.PrintLast Go.Proofs.YtigloobbpcnnhaaGreatDoorW.PrintMore
set_option linter.unusedVariables false
set_option linter.unusedSimpArgs false
theorem baOf_nil_iff (a : List UInt8) : (baOf a).toList = ([] : List UInt8) ↔ a = [] := by
  have h := word_eq a []
  constructor
  · intro e
    rw [e] at h
    exact of_decide_eq_true h.symm
  · intro e
    rw [decide_eq_true e] at h
    exact eq_of_beq h
theorem rd_bI (l : List UInt8) (i : Nat) (h : i < l.length) : rd (bI l) (i : Int) = (l[i].toNat : Int) := by
  rw [rd_nat (bI l) i (by rw [bI_length]; exact h)]
  simp [bI]
theorem seg_one (l : List UInt8) (i : Nat) (h : i < l.length) : strOfNums (((bI l).take (i + 1)).drop i) = baOf [l[i]] := by
  rw [bI_take, bI_drop, bI_str]
  congr 1
  rw [List.take_succ_eq_append_getElem h, List.drop_append, List.length_take, Nat.min_eq_left (by omega), Nat.sub_self, List.drop_of_length_le (by rw [List.length_take]; omega)]
  rfl
def dFlush (cur : List UInt8) : List ByteArray := if cur = [] then [] else [baOf cur]
theorem line_end (l : List UInt8) (hl : l.length ≤ 1000000) (cur : ByteArray) (acc : List ByteArray) (b : Bool) : Ev (fun k => threshingref02_line.l0 k (bI l) cur ((l.length + 1 : Nat) : Int) acc b) (acc, b) := by
  refine Ev.step (f := fun _ => some (acc, b)) (fun k => ?_) (Ev.now _)
  rw [threshingref02_line.l0, if_neg (by rw [bI_length]; omega)]
theorem line_flush (l : List UInt8) (hl : l.length ≤ 1000000) (i : Nat) (hi : i ≤ l.length) (cur : List UInt8) (acc : List ByteArray) (ha : acc.length ≤ 1000000) (b : Bool) (r : List ByteArray × Bool)
    (h : Ev (fun k => threshingref02_line.l0 k (bI l) (⟨#[]⟩ : ByteArray) ((i + 1 : Nat) : Int) (acc ++ dFlush cur) b) r) : Ev (fun k => threshingref02_line.j2 k (bI l) (baOf cur) (i : Int) false acc b) r := by
  refine Ev.step (f := fun k => threshingref02_line.l0 k (bI l) (⟨#[]⟩ : ByteArray) ((i + 1 : Nat) : Int) (acc ++ dFlush cur) b) (fun k => ?_) h
  rw [threshingref02_line.j2, if_neg (by decide), wrap_id (x := (i : Int) + 1) (by omega) (by omega)]
  unfold dFlush
  by_cases hc : cur = []
  · rw [if_pos ((baOf_nil_iff cur).2 hc), if_pos hc, List.append_nil]
    rfl
  · rw [if_neg (fun e => hc ((baOf_nil_iff cur).1 e)), if_neg hc, if_pos (by omega)]
    rfl
theorem line_more (l : List UInt8) (hl : l.length ≤ 1000000) (i : Nat) (hi : i < l.length) (cur : List UInt8) (hc : cur.length ≤ 1000000) (acc : List ByteArray) (b : Bool) (r : List ByteArray × Bool)
    (h : Ev (fun k => threshingref02_line.l0 k (bI l) (baOf (cur ++ [l[i]])) ((i + 1 : Nat) : Int) acc b) r) : Ev (fun k => threshingref02_line.j2 k (bI l) (baOf cur) (i : Int) true acc b) r := by
  refine Ev.step (f := fun k => threshingref02_line.l0 k (bI l) (baOf (cur ++ [l[i]])) ((i + 1 : Nat) : Int) acc b) (fun k => ?_) h
  have e : strOfNums (((bI l).take (wrap64 ((i : Int) + 1)).toNat).drop (i : Int).toNat) = baOf [l[i]] := by
    rw [wrap_id (by omega) (by omega), show ((i : Int) + 1).toNat = i + 1 by omega, Int.toNat_natCast]
    exact seg_one l i hi
  rw [threshingref02_line.j2, if_pos rfl, if_pos (by omega), e, wrap_id (x := (i : Int) + 1) (by omega) (by omega), if_pos (by omega), if_pos (by rw [bI_length]; omega), if_pos (by rw [baOf_size, baOf_size]; simp only [List.length_cons, List.length_nil]; omega), baOf_append]
  rfl
theorem byte_is (b : UInt8) (n : Nat) (hn : n < 256) : ((b.toNat : Int) = (n : Int)) ↔ b = UInt8.ofNat n := by
  constructor
  · intro h
    apply UInt8.toNat_inj.1
    rw [UInt8.toNat_ofNat']
    omega
  · rintro rfl
    rw [UInt8.toNat_ofNat']
    omega
theorem line_loop (l : List UInt8) (hl : l.length ≤ 1000000) (b : Bool) : ∀ (d i : Nat) (cur : List UInt8) (acc : List ByteArray), i + d = l.length → cur.length ≤ i → acc.length ≤ i → Ev (fun k => threshingref02_line.l0 k (bI l) (baOf cur) (i : Int) acc b) (acc ++ (dFields (l.drop i) cur).map baOf, b) := by
  intro d
  induction d with
  | zero =>
    intro i cur acc hi hc ha
    obtain rfl : i = l.length := by omega
    have e : acc ++ (dFields (l.drop l.length) cur).map baOf = acc ++ dFlush cur := by
      rw [List.drop_length, dFields.eq_def]
      unfold dFlush
      simp only
      split <;> rfl
    rw [e]
    refine Ev.step (f := fun k => threshingref02_line.j2 k (bI l) (baOf cur) (l.length : Int) false acc b) (fun k => ?_) (line_flush l hl l.length (Nat.le_refl _) cur acc (by omega) b _ (line_end l hl _ _ b))
    rw [threshingref02_line.l0, if_pos (by rw [bI_length]; omega), if_neg (by rw [bI_length]; omega)]
  | succ d ih =>
    intro i cur acc hi hc ha
    have hlt : i < l.length := by omega
    have hd : l.drop i = l[i] :: l.drop (i + 1) := List.drop_eq_getElem_cons hlt
    obtain ⟨x, hx⟩ : ∃ x, x = l[i] := ⟨_, rfl⟩
    have h32 : ((x.toNat : Int) = 32) ↔ x = 32 := byte_is x 32 (by decide)
    have h9 : ((x.toNat : Int) = 9) ↔ x = 9 := byte_is x 9 (by decide)
    have h13 : ((x.toNat : Int) = 13) ↔ x = 13 := byte_is x 13 (by decide)
    have hfl : (dFlush cur).length ≤ 1 := by unfold dFlush; split <;> simp
    by_cases hb : isBl x = true
    · have e : acc ++ (dFields (l.drop i) cur).map baOf = (acc ++ dFlush cur) ++ (dFields (l.drop (i + 1)) []).map baOf := by
        rw [hd, ← hx, dFields.eq_def]
        simp only [hb, if_true]
        unfold dFlush
        split <;> simp
      rw [e]
      have hnext := line_flush l hl i (by omega) cur acc (by omega) b _ (ih (i + 1) [] (acc ++ dFlush cur) (by omega) (by simp) (by rw [List.length_append]; omega))
      refine Ev.step (f := fun k => threshingref02_line.j2 k (bI l) (baOf cur) (i : Int) false acc b) (fun k => ?_) hnext
      rw [threshingref02_line.l0, if_pos (by rw [bI_length]; omega), if_pos (by rw [bI_length]; omega), if_pos (by omega), rd_bI l i hlt, ← hx]
      by_cases c1 : x = 32
      · rw [if_pos (h32.2 c1)]
      · rw [if_neg (fun e => c1 (h32.1 e))]
        by_cases c2 : x = 9
        · rw [if_pos (h9.2 c2)]
        · rw [if_neg (fun e => c2 (h9.1 e))]
          have c3 : x = 13 := by
            unfold isBl at hb
            simp only [Bool.or_eq_true, beq_iff_eq] at hb
            rcases hb with (h | h) | h
            · exact absurd h c1
            · exact absurd h c2
            · exact h
          rw [show ((x.toNat : Int) != 13) = false from bne_eq_false_iff_eq.2 (h13.2 c3)]
    · have hbf : isBl x = false := by simpa using hb
      have e : acc ++ (dFields (l.drop i) cur).map baOf = acc ++ (dFields (l.drop (i + 1)) (cur ++ [x])).map baOf := by
        rw [hd, ← hx, dFields.eq_def]
        simp only [hbf, Bool.false_eq_true, if_false]
      rw [e, hx]
      have hnext := line_more l hl i hlt cur (by omega) acc b _ (ih (i + 1) (cur ++ [l[i]]) acc (by omega) (by rw [List.length_append, List.length_singleton]; omega) (by omega))
      refine Ev.step (f := fun k => threshingref02_line.j2 k (bI l) (baOf cur) (i : Int) true acc b) (fun k => ?_) hnext
      have hn : x ≠ 32 ∧ x ≠ 9 ∧ x ≠ 13 := by
        refine ⟨?_, ?_, ?_⟩ <;> (rintro rfl; exact absurd hbf (by decide))
      rw [threshingref02_line.l0, if_pos (by rw [bI_length]; omega), if_pos (by rw [bI_length]; omega), if_pos (by omega), rd_bI l i hlt, ← hx, if_neg (fun e => hn.1 (h32.1 e)), if_neg (fun e => hn.2.1 (h9.1 e)), show ((x.toNat : Int) != 13) = true from bne_iff_ne.2 (fun e => hn.2.2 (h13.1 e))]
/-- A line's words and whether it is a remark. -/
def dRem (l : List UInt8) : Bool := l.head? == some 99
theorem line_ev (l : List UInt8) (hl : l.length ≤ 1000000) : Ev (fun k => threshingref02_line.f k (bI l)) ((dWords l).map baOf, dRem l) := by
  have hj : ∀ rem : Bool, rem = dRem l → Ev (fun k => threshingref02_line.j0 k (bI l) rem) ((dWords l).map baOf, dRem l) := by
    rintro rem rfl
    by_cases hr : dRem l = true
    · refine Ev.step (f := fun _ => some (([] : List ByteArray), true)) (fun k => ?_) ?_
      · rw [threshingref02_line.j0, if_pos hr]
      · have : dWords l = [] := by unfold dWords; rw [if_pos (by unfold dRem at hr; exact eq_of_beq hr)]
        rw [this, hr]
        exact Ev.now _
    · have hrf : dRem l = false := by simpa using hr
      refine Ev.step (f := fun k => threshingref02_line.l0 k (bI l) (baOf []) ((0 : Nat) : Int) ([] : List ByteArray) false) (fun k => ?_) ?_
      · rw [threshingref02_line.j0, if_neg hr]
        rfl
      · have := line_loop l hl false l.length 0 [] [] (by omega) (by simp) (by simp)
        rw [List.drop_zero, List.nil_append] at this
        have e : dWords l = dFields l [] := by unfold dWords; rw [if_neg (by unfold dRem at hrf; intro e; rw [e] at hrf; simp at hrf)]
        rw [e, hrf]
        exact this
  cases l with
  | nil =>
    refine Ev.congr (f := fun k => threshingref02_line.j0 k (bI []) false) (fun k => ?_) (hj false rfl)
    unfold threshingref02_line.f
    rw [if_neg (by decide)]
  | cons x r =>
    refine Ev.congr (f := fun k => threshingref02_line.j0 k (bI (x :: r)) (rd (bI (x :: r)) 0 == 99)) (fun k => ?_) (hj _ ?_)
    · unfold threshingref02_line.f
      rw [if_pos (by rw [bI_length, List.length_cons]; omega), if_pos (by rw [bI_length, List.length_cons]; omega)]
    · have h := rd_bI (x :: r) 0 (by simp)
      rw [show (((0 : Nat)) : Int) = 0 from rfl] at h
      rw [h]
      show ((x.toNat : Int) == 99) = ((some x) == some 99)
      have h99 : ((x.toNat : Int) = 99) ↔ x = 99 := byte_is x 99 (by decide)
      by_cases hx : x = 99
      · rw [beq_iff_eq.2 (h99.2 hx), hx]
        rfl
      · rw [beq_eq_false_iff_ne.2 (fun e => hx (h99.1 e)), beq_eq_false_iff_ne.2 (fun e => hx (by injection e))]
def dS (l : List UInt8) : S64 := ⟨(dWords l).map baOf, dRem l⟩
theorem lines_push (l : List UInt8) (hl : l.length ≤ 1000000) (f i : Nat) (hf : f ≤ i) (hi : i ≤ l.length) (acc : List S64) (ha : acc.length ≤ 1000000) (r : List S64)
    (h : Ev (fun k => threshingref02_Lines.l0 k (bI l) (acc ++ [dS ((l.take i).drop f)]) ((i + 1 : Nat) : Int) ((i + 1 : Nat) : Int)) r) :
    Ev (fun k => ((threshingref02_line.f k (((bI l).take (i : Int).toNat).drop (f : Int).toNat)).bind fun bt => (if acc.length < 4398046511104 then (threshingref02_Lines.l0 k (bI l) (acc ++ [(⟨bt.1, bt.2⟩ : S64)]) (wrap64 ((i : Int) + 1)) (wrap64 ((i : Int) + 1))) else (none)))) r := by
  have hlen : ((l.take i).drop f).length ≤ 1000000 := by rw [List.length_drop, List.length_take]; omega
  have e : ((bI l).take (i : Int).toNat).drop (f : Int).toNat = bI ((l.take i).drop f) := by rw [Int.toNat_natCast, Int.toNat_natCast, bI_take, bI_drop]
  rw [e]
  refine Ev.bind (f := fun k bt => (if acc.length < 4398046511104 then (threshingref02_Lines.l0 k (bI l) (acc ++ [(⟨bt.1, bt.2⟩ : S64)]) (wrap64 ((i : Int) + 1)) (wrap64 ((i : Int) + 1))) else (none))) (line_ev _ hlen) ?_
  refine Ev.congr (f := fun k => threshingref02_Lines.l0 k (bI l) (acc ++ [dS ((l.take i).drop f)]) ((i + 1 : Nat) : Int) ((i + 1 : Nat) : Int)) (fun k => ?_) h
  rw [if_pos (by omega), wrap_id (x := (i : Int) + 1) (by omega) (by omega)]
  rfl
theorem lines_end (l : List UInt8) (hl : l.length ≤ 1000000) (f : Int) (acc : List S64) : Ev (fun k => threshingref02_Lines.l0 k (bI l) acc f ((l.length + 1 : Nat) : Int)) acc := by
  refine Ev.step (f := fun _ => some acc) (fun k => ?_) (Ev.now _)
  rw [threshingref02_Lines.l0, if_neg (by rw [bI_length]; omega)]
theorem lines_loop (l : List UInt8) (hl : l.length ≤ 1000000) : ∀ (d i f : Nat) (acc : List S64), i + d = l.length → f ≤ i → 10 ∉ (l.take i).drop f → acc.length ≤ i → Ev (fun k => threshingref02_Lines.l0 k (bI l) acc (f : Int) (i : Int)) (acc ++ (dLines (l.drop f)).map dS) := by
  intro d
  induction d with
  | zero =>
    intro i f acc hi hf hn ha
    obtain rfl : i = l.length := by omega
    rw [List.take_length] at hn
    by_cases hfe : f = l.length
    · subst hfe
      rw [List.drop_length, dLines_nil, List.map_nil, List.append_nil]
      refine Ev.step (f := fun k => threshingref02_Lines.l0 k (bI l) acc ((l.length : Nat) : Int) ((l.length + 1 : Nat) : Int)) (fun k => ?_) (lines_end l hl _ acc)
      rw [threshingref02_Lines.l0, if_pos (by rw [bI_length]; omega), if_pos (by rw [bI_length]), if_pos rfl, wrap_id (x := ((l.length : Nat) : Int) + 1) (by omega) (by omega)]
      rfl
    · have hne : l.drop f ≠ [] := fun e => by have := congrArg List.length e; rw [List.length_drop] at this; simp at this; omega
      rw [dLines_no _ hne hn, List.map_singleton]
      have hp := lines_push l hl f l.length hf (Nat.le_refl _) acc (by omega) (acc ++ [dS (l.drop f)]) (by rw [List.take_length]; exact lines_end l hl _ _)
      refine Ev.step (fun k => ?_) hp
      rw [threshingref02_Lines.l0, if_pos (by rw [bI_length]; omega), if_pos (by rw [bI_length]), if_neg (by omega), if_neg (by rw [bI_length]; omega), if_pos (by omega), if_pos (by omega)]
  | succ d ih =>
    intro i f acc hi hf hn ha
    have hlt : i < l.length := by omega
    have hd : l.drop f = (l.take i).drop f ++ l[i] :: l.drop (i + 1) := by
      conv => lhs; rw [← List.take_append_drop i l, List.drop_append, List.length_take, Nat.min_eq_left (by omega), show f - i = 0 by omega, List.drop_zero, List.drop_eq_getElem_cons hlt]
    have h10 : ((l[i].toNat : Int) = 10) ↔ l[i] = 10 := byte_is l[i] 10 (by decide)
    by_cases hb : l[i] = 10
    · rw [hd, hb, dLines_cut _ _ hn, List.map_cons]
      have hnx := ih (i + 1) (i + 1) (acc ++ [dS ((l.take i).drop f)]) (by omega) (Nat.le_refl _) (by rw [List.drop_of_length_le (by rw [List.length_take]; omega)]; simp) (by rw [List.length_append, List.length_singleton]; omega)
      rw [List.append_assoc] at hnx
      have hp := lines_push l hl f i hf (by omega) acc (by omega) _ hnx
      refine Ev.step (fun k => ?_) hp
      rw [threshingref02_Lines.l0, if_pos (by rw [bI_length]; omega), if_neg (by rw [bI_length]; omega), if_pos (by rw [bI_length]; omega), if_pos (by omega), rd_bI l i hlt, if_pos (h10.2 hb), if_pos (by omega), if_pos (by omega)]
    · have hnx := ih (i + 1) f acc (by omega) (by omega) (by
        rw [List.take_succ_eq_append_getElem hlt, List.drop_append, List.length_take, Nat.min_eq_left (by omega), show f - i = 0 by omega, List.drop_zero]
        intro hm
        rcases List.mem_append.1 hm with hm | hm
        · exact hn hm
        · rw [List.mem_singleton] at hm; exact hb hm.symm) (by omega)
      refine Ev.step (f := fun k => threshingref02_Lines.l0 k (bI l) acc (f : Int) ((i + 1 : Nat) : Int)) (fun k => ?_) hnx
      rw [threshingref02_Lines.l0, if_pos (by rw [bI_length]; omega), if_neg (by rw [bI_length]; omega), if_pos (by rw [bI_length]; omega), if_pos (by omega), rd_bI l i hlt, if_neg (fun e => hb (h10.1 e)), wrap_id (x := (i : Int) + 1) (by omega) (by omega)]
      rfl
theorem rlines_ev (l : List UInt8) (hl : l.length ≤ 1000000) : Ev (fun k => threshingref02_Lines.f k (bI l)) ((dLines l).map dS) := by
  have h := lines_loop l hl l.length 0 0 [] (by omega) (Nat.le_refl _) (by simp) (by simp)
  rw [List.drop_zero, List.nil_append] at h
  exact h
theorem head_loop (ls : List S64) (hl : ls.length ≤ 1000000) : ∀ (d i : Nat), i + d = ls.length → Ev (fun k => threshingref02_head.l0 k ls (i : Int)) (match (ls.drop i).findIdx? (fun x => !x.f1 && decide (x.f0 ≠ [])) with | some j => ((i + j : Nat) : Int) | none => -1) := by
  intro d
  induction d with
  | zero =>
    intro i hi
    rw [List.drop_of_length_le (by omega)]
    refine Ev.step (f := fun _ => some (-1)) (fun k => ?_) (Ev.now _)
    rw [threshingref02_head.l0, if_neg (by omega)]
  | succ d ih =>
    intro i hi
    have hlt : i < ls.length := by omega
    have hr : rd_T64 ls (i : Int) = ls[i] := by unfold rd_T64; rw [Int.toNat_natCast, List.getD_eq_getElem?_getD, List.getElem?_eq_getElem hlt]; rfl
    have hnx := ih (i + 1) (by omega)
    rw [List.drop_eq_getElem_cons hlt, List.findIdx?_cons]
    by_cases hp : (!(ls[i]).f1 && decide ((ls[i]).f0 ≠ [])) = true
    · simp only [hp, if_true]
      have h1 : (ls[i]).f1 = false := by simpa using (Bool.and_eq_true_iff.1 hp).1
      have h2 : (ls[i]).f0 ≠ [] := by simpa using (Bool.and_eq_true_iff.1 hp).2
      refine Ev.step (f := fun _ => some (i : Int)) (fun k => ?_) (Ev.now _)
      rw [threshingref02_head.l0, if_pos (by omega), if_pos (by omega), hr, if_neg (by rw [h1]; decide), if_pos (by have := List.length_pos_iff.2 h2; omega)]
    · simp only [hp]
      have e : (match Option.map (fun i => i + 1) (List.findIdx? (fun x : S64 => !x.f1 && decide (x.f0 ≠ [])) (ls.drop (i + 1))) with | some j => ((i + j : Nat) : Int) | none => -1) = (match (ls.drop (i + 1)).findIdx? (fun x => !x.f1 && decide (x.f0 ≠ [])) with | some j => ((i + 1 + j : Nat) : Int) | none => -1) := by
        cases (ls.drop (i + 1)).findIdx? (fun x : S64 => !x.f1 && decide (x.f0 ≠ [])) with
        | none => rfl
        | some j =>
          show ((i + (j + 1) : Nat) : Int) = ((i + 1 + j : Nat) : Int)
          congr 1
          omega
      simp only [Bool.false_eq_true, if_false]
      rw [e]
      refine Ev.step (f := fun k => threshingref02_head.l0 k ls ((i + 1 : Nat) : Int)) (fun k => ?_) hnx
      rw [threshingref02_head.l0, if_pos (by omega), if_pos (by omega), hr, wrap_id (x := (i : Int) + 1) (by omega) (by omega)]
      by_cases h1 : (ls[i]).f1 = true
      · rw [if_pos h1]
        rfl
      · rw [if_neg h1, if_neg]
        · rfl
        · intro h
          apply hp
          rw [Bool.and_eq_true_iff]
          refine ⟨by simpa using h1, decide_eq_true fun e => by rw [e] at h; simp at h⟩
theorem rhead_ev (ls : List S64) (hl : ls.length ≤ 1000000) : Ev (fun k => threshingref02_head.f k ls) (match ls.findIdx? (fun x => !x.f1 && decide (x.f0 ≠ [])) with | some j => ((j : Nat) : Int) | none => -1) := by
  have h := head_loop ls hl ls.length 0 (by omega)
  rw [List.drop_zero] at h
  simp only [Nat.zero_add] at h
  exact h
theorem bt_ba (s : List UInt8) (i : Nat) (h : i < s.length) : bt (baOf s) (i : Int) = (s[i].toNat : Int) := by
  unfold bt
  rw [Int.toNat_natCast, dif_pos (show i < (baOf s).size from h)]
  rfl
/-- What the digits that are left come to. -/
def nRes (w s : List UInt8) (top : Int) : Int × Bool × Bool :=
  if top < (dVal s : Int) then (0, true, false) else (if s.length < w.length then -(dVal s : Int) else (dVal s : Int), true, true)
theorem dVal_snoc (s : List UInt8) (b : UInt8) : dVal (s ++ [b]) = dVal s * 10 + (b.toNat - 48) := by
  unfold dVal dValF
  rw [List.foldl_append]
  rfl
theorem dVal_take_le (s : List UInt8) (i : Nat) : dVal (s.take i) ≤ dVal s := by
  conv => rhs; rw [← List.take_append_drop i s]
  unfold dVal dValF
  rw [List.foldl_append]
  exact dValF_ge _ _
theorem num_good (w s : List UInt8) (top : Int) (h0 : 0 ≤ top) (h1 : top ≤ 1000000000000) (hl : s.length ≤ 1000000) (hwl : w.length ≤ 1000001) (hd : s.all isDig = true) (hz : ¬ (1 < s.length ∧ s.head? = some 48)) (hne : s ≠ []) :
    ∀ (d i : Nat) (n : Int), i + d = s.length → (n = (dVal (s.take i) : Int) ∧ 0 ≤ n ∧ n ≤ 10 * top + 9 ∨ (top < n ∧ n ≤ (dVal s : Int) ∧ n ≤ 10 * top + 9)) → Ev (fun k => threshingref02_Number.l0 k (baOf w) top (baOf s) n (i : Int)) (nRes w s top) := by
  intro d
  induction d with
  | zero =>
    intro i n hi hn
    obtain rfl : i = s.length := by omega
    rw [List.take_length] at hn
    refine Ev.step (f := fun _ => some (nRes w s top)) (fun k => ?_) (Ev.now _)
    rw [threshingref02_Number.l0, if_neg (by rw [baOf_size]; omega), if_neg (fun e => hne ((baOf_nil_iff s).1 e))]
    unfold nRes
    by_cases hb : top < (dVal s : Int)
    · rw [if_pos hb, if_pos (by omega)]
    · rw [if_neg hb, if_neg (by omega)]
      have hn2 : n = (dVal s : Int) := by omega
      by_cases hw : s.length < w.length
      · rw [if_pos (by rw [baOf_size, baOf_size]; omega), if_pos hw, hn2, wrap_id (by omega) (by omega)]
      · rw [if_neg (by rw [baOf_size, baOf_size]; omega), if_neg hw, hn2]
  | succ d ih =>
    intro i n hi hn
    have hlt : i < s.length := by omega
    have hdi := (isDig_iff s[i]).1 (List.all_eq_true.1 hd _ (List.getElem_mem hlt))
    have hbt := bt_ba s i hlt
    obtain ⟨x, hx⟩ : ∃ x, x = s[i] := ⟨_, rfl⟩
    rw [← hx] at hdi hbt
    have htk : dVal (s.take (i + 1)) = dVal (s.take i) * 10 + (x.toNat - 48) := by rw [List.take_succ_eq_append_getElem hlt, dVal_snoc, hx]
    have hle := dVal_take_le s (i + 1)
    have hj : Ev (fun k => threshingref02_Number.j3 k (baOf w) top (baOf s) n (i : Int) false) (nRes w s top) := by
      by_cases hnt : n ≤ top
      · have hn3 : n = (dVal (s.take i) : Int) := by omega
        have hv : wrap64 (wrap64 (n * 10) + (bt (baOf s) (i : Int) - 48) % 256) = (dVal (s.take (i + 1)) : Int) := by
          rw [hbt, wrap_id (x := n * 10) (by omega) (by omega), wrap_id (by omega) (by omega), htk, hn3]
          omega
        refine Ev.step (f := fun k => threshingref02_Number.l0 k (baOf w) top (baOf s) (dVal (s.take (i + 1)) : Int) ((i + 1 : Nat) : Int)) (fun k => ?_) (ih (i + 1) _ (by omega) (.inl ⟨rfl, by omega, by omega⟩))
        rw [threshingref02_Number.j3, if_neg (by decide), if_pos hnt, if_pos (by omega), if_pos (by rw [baOf_size]; omega), hv, wrap_id (x := (i : Int) + 1) (by omega) (by omega)]
        rfl
      · refine Ev.step (f := fun k => threshingref02_Number.l0 k (baOf w) top (baOf s) n ((i + 1 : Nat) : Int)) (fun k => ?_) (ih (i + 1) _ (by omega) (.inr ?_))
        · rw [threshingref02_Number.j3, if_neg (by decide), if_neg hnt, wrap_id (x := (i : Int) + 1) (by omega) (by omega)]
          rfl
        · rcases hn with ⟨e, e1, e2⟩ | ⟨e1, e2, e3⟩
          · have := dVal_take_le s i
            exact ⟨by omega, by omega, e2⟩
          · exact ⟨e1, e2, e3⟩
    refine Ev.step (f := fun k => threshingref02_Number.j3 k (baOf w) top (baOf s) n (i : Int) false) (fun k => ?_) hj
    rw [threshingref02_Number.l0, if_pos (by rw [baOf_size]; omega), if_pos (by omega), hbt, if_neg (by omega), if_neg (by omega)]
    by_cases hi0 : (i : Int) = 0
    · rw [if_pos hi0, if_pos (by rw [baOf_size]; omega)]
      have hi00 : i = 0 := by omega
      subst hi00
      have hb0 := bt_ba s 0 (by omega)
      rw [show (((0 : Nat)) : Int) = 0 from rfl] at hb0
      rw [hb0]
      by_cases h48 : ((s[0].toNat : Int) = 48)
      · rw [if_pos h48, decide_eq_false]
        rw [baOf_size]
        intro hgt
        apply hz
        refine ⟨by omega, ?_⟩
        rw [List.head?_eq_getElem?, List.getElem?_eq_getElem (by omega)]
        exact congrArg some ((byte_is s[0] 48 (by decide)).1 h48)
      · rw [if_neg h48]
    · rw [if_neg hi0]
theorem num_bad (w s : List UInt8) (top : Int) (h0 : 0 ≤ top) (h1 : top ≤ 1000000000000) (hl : s.length ≤ 1000000) :
    ∀ (d i : Nat) (n : Int), i + d = s.length → 0 ≤ n → n ≤ 10 * top + 9 → (s.drop i).all isDig = false → Ev (fun k => threshingref02_Number.l0 k (baOf w) top (baOf s) n (i : Int)) (0, false, false) := by
  intro d
  induction d with
  | zero =>
    intro i n hi _ _ hb
    rw [List.drop_of_length_le (by omega)] at hb
    cases hb
  | succ d ih =>
    intro i n hi hn0 hn1 hb
    have hlt : i < s.length := by omega
    have hbt := bt_ba s i hlt
    obtain ⟨x, hx⟩ : ∃ x, x = s[i] := ⟨_, rfl⟩
    rw [← hx] at hbt
    have hxr : x.toNat < 256 := x.toNat_lt
    have hnone : Ev (fun k => threshingref02_Number.j3 k (baOf w) top (baOf s) n (i : Int) true) (0, false, false) := by
      refine Ev.step (f := fun _ => some (0, false, false)) (fun k => ?_) (Ev.now _)
      rw [threshingref02_Number.j3, if_pos rfl]
    by_cases hdg : isDig x = true
    · have hdi := (isDig_iff x).1 hdg
      rw [List.drop_eq_getElem_cons hlt, List.all_cons, ← hx, hdg, Bool.true_and] at hb
      have hj : Ev (fun k => threshingref02_Number.j3 k (baOf w) top (baOf s) n (i : Int) false) (0, false, false) := by
        by_cases hnt : n ≤ top
        · have hv : wrap64 (wrap64 (n * 10) + (bt (baOf s) (i : Int) - 48) % 256) = n * 10 + ((x.toNat : Int) - 48) := by
            rw [hbt, wrap_id (x := n * 10) (by omega) (by omega), wrap_id (by omega) (by omega)]
            omega
          refine Ev.step (f := fun k => threshingref02_Number.l0 k (baOf w) top (baOf s) (n * 10 + ((x.toNat : Int) - 48)) ((i + 1 : Nat) : Int)) (fun k => ?_) (ih (i + 1) _ (by omega) (by omega) (by omega) hb)
          rw [threshingref02_Number.j3, if_neg (by decide), if_pos hnt, if_pos (by omega), if_pos (by rw [baOf_size]; omega), hv, wrap_id (x := (i : Int) + 1) (by omega) (by omega)]
          rfl
        · refine Ev.step (f := fun k => threshingref02_Number.l0 k (baOf w) top (baOf s) n ((i + 1 : Nat) : Int)) (fun k => ?_) (ih (i + 1) _ (by omega) hn0 hn1 hb)
          rw [threshingref02_Number.j3, if_neg (by decide), if_neg hnt, wrap_id (x := (i : Int) + 1) (by omega) (by omega)]
          rfl
      by_cases hi0 : (i : Int) = 0
      · have hi00 : i = 0 := by omega
        subst hi00
        have hb0 := bt_ba s 0 (by omega)
        rw [show (((0 : Nat)) : Int) = 0 from rfl] at hb0
        obtain ⟨q, hq⟩ : ∃ q, q = (if (s[0].toNat : Int) = 48 then decide (((baOf s).size : Int) > 1) else false) := ⟨_, rfl⟩
        refine Ev.step (f := fun k => threshingref02_Number.j3 k (baOf w) top (baOf s) n ((0 : Nat) : Int) q) (fun k => ?_) ?_
        · rw [threshingref02_Number.l0, if_pos (by rw [baOf_size]; omega), if_pos (by omega), hbt, if_neg (by omega), if_neg (by omega), if_pos hi0, if_pos (by rw [baOf_size]; omega), hb0]
          by_cases h48 : ((s[0].toNat : Int) = 48)
          · rw [if_pos h48] at hq ⊢
            rw [hq]
          · rw [if_neg h48] at hq ⊢
            rw [hq]
        · cases q with
          | true => exact hnone
          | false => exact hj
      · refine Ev.step (f := fun k => threshingref02_Number.j3 k (baOf w) top (baOf s) n (i : Int) false) (fun k => ?_) hj
        rw [threshingref02_Number.l0, if_pos (by rw [baOf_size]; omega), if_pos (by omega), hbt, if_neg (by omega), if_neg (by omega), if_neg hi0]
    · have hnd : ¬ (48 ≤ x.toNat ∧ x.toNat ≤ 57) := fun h => hdg ((isDig_iff x).2 h)
      refine Ev.step (f := fun k => threshingref02_Number.j3 k (baOf w) top (baOf s) n (i : Int) true) (fun k => ?_) hnone
      rw [threshingref02_Number.l0, if_pos (by rw [baOf_size]; omega), if_pos (by omega), hbt]
      by_cases hlo : (x.toNat : Int) < 48
      · rw [if_pos hlo]
      · rw [if_neg hlo, if_pos (by omega)]
theorem num_run (w s : List UInt8) (top : Int) (h0 : 0 ≤ top) (h1 : top ≤ 1000000000000) (hl : s.length ≤ 1000000) (hwl : w.length ≤ 1000001) :
    Ev (fun k => threshingref02_Number.l0 k (baOf w) top (baOf s) 0 0) (if s = [] ∨ s.all isDig = false ∨ (1 < s.length ∧ s.head? = some 48) then (0, false, false) else nRes w s top) := by
  by_cases hs : s = []
  · rw [if_pos (.inl hs)]
    subst hs
    refine Ev.step (f := fun _ => some (0, false, false)) (fun k => ?_) (Ev.now _)
    rw [threshingref02_Number.l0, if_neg (by rw [baOf_size]; simp), if_pos ((baOf_nil_iff []).2 rfl)]
  · by_cases hb : s.all isDig = false
    · rw [if_pos (.inr (.inl hb))]
      have := num_bad w s top h0 h1 hl s.length 0 0 (by omega) (by omega) (by omega) (by rw [List.drop_zero]; exact hb)
      exact this
    · have hg : s.all isDig = true := by simpa using hb
      by_cases hz : 1 < s.length ∧ s.head? = some 48
      · rw [if_pos (.inr (.inr hz))]
        have hlt : 0 < s.length := by omega
        have hbt := bt_ba s 0 hlt
        have hx : s[0] = 48 := by
          have := hz.2
          rw [List.head?_eq_getElem?, List.getElem?_eq_getElem hlt] at this
          injection this
        rw [show (((0 : Nat)) : Int) = 0 from rfl, hx] at hbt
        have hbt2 : bt (baOf s) 0 = 48 := hbt
        refine Ev.step (f := fun k => threshingref02_Number.j3 k (baOf w) top (baOf s) 0 0 true) (fun k => ?_) ?_
        · rw [threshingref02_Number.l0, if_pos (by rw [baOf_size]; omega), if_pos (by omega), hbt2, if_neg (by omega), if_neg (by omega), if_pos rfl, if_pos (by rw [baOf_size]; omega), if_pos rfl, decide_eq_true (by rw [baOf_size]; omega)]
        · refine Ev.step (f := fun _ => some (0, false, false)) (fun k => ?_) (Ev.now _)
          rw [threshingref02_Number.j3, if_pos rfl]
      · rw [if_neg (by rintro (h | h | h); exact hs h; exact hb h; exact hz h)]
        have := num_good w s top h0 h1 hl hwl hg hz hs s.length 0 0 (by omega) (.inl ⟨by rw [List.take_zero]; rfl, by omega, by omega⟩)
        exact this
theorem extract_one (w : List UInt8) : (baOf w).extract 1 (baOf w).size = baOf (w.drop 1) := by
  have h : ((baOf w).extract 1 (baOf w).size).data = (baOf (w.drop 1)).data := by
    rw [ByteArray.data_extract]
    apply Array.ext'
    rw [Array.toList_extract]
    show (w.drop 1).take (w.length - 1) = w.drop 1
    rw [List.take_of_length_le (by rw [List.length_drop]; omega)]
  exact ByteArray.ext h
theorem num_j0 (w : List UInt8) (top : Int) (b : Bool) (hw : b = true → 1 ≤ w.length) (r : Int × Bool × Bool) (h : Ev (fun k => threshingref02_Number.l0 k (baOf w) top (baOf (if b = true then w.drop 1 else w)) 0 0) r) : Ev (fun k => threshingref02_Number.j0 k (baOf w) top (baOf w) b) r := by
  refine Ev.step (f := fun k => threshingref02_Number.j1 k (baOf w) top (baOf (if b = true then w.drop 1 else w))) (fun k => ?_) (Ev.step (f := fun k => threshingref02_Number.l0 k (baOf w) top (baOf (if b = true then w.drop 1 else w)) 0 0) (fun k => by rw [threshingref02_Number.j1]) h)
  rw [threshingref02_Number.j0]
  cases b with
  | true =>
    rw [if_pos rfl, if_pos (by rw [baOf_size]; have := hw rfl; omega), extract_one, if_pos rfl]
  | false =>
    rw [if_neg (by decide), if_neg (by decide)]
theorem num_or (w s : List UInt8) (top : Int) (minus : Bool) (hs : s = dSign w minus) (hw : w ≠ [45, 48] ∨ s.all isDig = false) : dNum w minus top = if s = [] ∨ s.all isDig = false ∨ (1 < s.length ∧ s.head? = some 48) then (0, false, false) else nRes w s top := by
  rw [dNum_eq, ← hs]
  unfold nRes
  by_cases hb : s = [] ∨ s.all isDig = false ∨ (1 < s.length ∧ s.head? = some 48)
  · rw [if_pos hb, if_pos (by rcases hb with h | h | h; exact .inl h; exact .inr (.inl h); exact .inr (.inr (.inl h)))]
  · rw [if_neg hb, if_neg]
    rintro (h | h | h | h)
    · exact hb (.inl h)
    · exact hb (.inr (.inl h))
    · exact hb (.inr (.inr h))
    · rcases hw with hw | hw
      · exact hw h
      · exact hb (.inr (.inl hw))
theorem rnumber_ev (w : List UInt8) (minus : Bool) (top : Int) (h0 : 0 ≤ top) (h1 : top ≤ 1000000000000) (hl : w.length ≤ 1000000) : Ev (fun k => threshingref02_Number.f k (baOf w) minus top) (dNum w minus top) := by
  have plain : (w ≠ [45, 48] ∨ w.all isDig = false) → dSign w minus = w → Ev (fun k => threshingref02_Number.j0 k (baOf w) top (baOf w) false) (dNum w minus top) := by
    intro hw hs
    rw [num_or w w top minus hs.symm hw]
    exact num_j0 w top false (fun h => by cases h) _ (num_run w w top h0 h1 hl (by omega))
  have h45 : w = [45, 48] → w.all isDig = false := fun e => by rw [e]; rfl
  have hor : w ≠ [45, 48] ∨ w.all isDig = false := by
    by_cases e : w = [45, 48]
    · exact .inr (h45 e)
    · exact .inl e
  unfold threshingref02_Number.f
  cases minus with
  | false =>
    refine Ev.congr (f := fun k => threshingref02_Number.j0 k (baOf w) top (baOf w) false) (fun k => by rw [if_neg (by decide)]) (plain hor rfl)
  | true =>
    by_cases hlen : 1 < w.length
    · have hbt := bt_ba w 0 (by omega)
      rw [show (((0 : Nat)) : Int) = 0 from rfl] at hbt
      by_cases hm : w[0] = 45
      · have hpre : Lib.hasPrefix w [45] = true := by rw [hasPrefix_minus]; exact decide_eq_true (by rw [List.head?_eq_getElem?, List.getElem?_eq_getElem (by omega), hm])
        refine Ev.congr (f := fun k => threshingref02_Number.j0 k (baOf w) top (baOf w) ((baOf w).toList != ([45, 48] : List UInt8))) (fun k => ?_) ?_
        · rw [if_pos rfl, if_pos (by rw [baOf_size]; omega), if_pos (by rw [baOf_size]; omega), hbt, if_pos (by rw [hm]; rfl)]
        · by_cases e : w = [45, 48]
          · rw [show ((baOf w).toList != ([45, 48] : List UInt8)) = false by rw [bne, word_eq, decide_eq_true e]; rfl]
            have hn : dNum w true top = (0, false, false) := by rw [dNum_eq, if_pos (.inr (.inr (.inr e)))]
            rw [hn]
            have := num_run w w top h0 h1 hl (by omega)
            rw [if_pos (.inr (.inl (h45 e)))] at this
            exact num_j0 w top false (fun h => by cases h) _ this
          · rw [show ((baOf w).toList != ([45, 48] : List UInt8)) = true by rw [bne, word_eq, decide_eq_false e]; rfl]
            have hs : dSign w true = w.drop 1 := by unfold dSign; rw [hpre]; rfl
            rw [num_or w (w.drop 1) top true hs.symm (.inl e)]
            exact num_j0 w top true (fun _ => by omega) _ (num_run w (w.drop 1) top h0 h1 (by rw [List.length_drop]; omega) (by omega))
      · have hs : dSign w true = w := by
          unfold dSign
          rw [hasPrefix_minus, decide_eq_false (by rw [List.head?_eq_getElem?, List.getElem?_eq_getElem (by omega)]; intro e; exact hm (by injection e))]
          rfl
        refine Ev.congr (f := fun k => threshingref02_Number.j0 k (baOf w) top (baOf w) false) (fun k => ?_) (plain hor hs)
        rw [if_pos rfl, if_pos (by rw [baOf_size]; omega), if_pos (by rw [baOf_size]; omega), hbt, if_neg (fun e => hm ((byte_is w[0] 45 (by decide)).1 e))]
    · refine Ev.congr (f := fun k => threshingref02_Number.j0 k (baOf w) top (baOf w) false) (fun k => ?_) ?_
      · rw [if_pos rfl, if_neg (by rw [baOf_size]; omega)]
      · by_cases hs : dSign w true = w
        · exact plain hor hs
        · have hw1 : w = [45] := by
            match w, hlen with
            | [], _ => exact absurd rfl hs
            | [a], _ =>
              by_cases ha : a = 45
              · rw [ha]
              · exfalso
                apply hs
                unfold dSign
                rw [hasPrefix_minus, decide_eq_false (by simp; exact ha)]
                rfl
            | a :: b :: r, h => exact absurd (by simp) h
          subst hw1
          have := num_run [45] [45] top h0 h1 (by decide) (by decide)
          rw [if_pos (.inr (.inl (by decide)))] at this
          have hn : dNum [45] true top = (0, false, false) := by rw [dNum_eq, if_pos (.inl rfl)]
          rw [hn]
          exact num_j0 [45] top false (fun h => by cases h) _ this
end Go.Proofs.YtigloobbpcnnhaaGreatDoor.PB
end
section
namespace Go.Proofs.YtigloobbpcnnhaaGreatDoor.PB
open Go.RowKit Go.Proofs.YtigloobbpcnnhaaGreatDoorW.PrintWords Go.Proofs.YtigloobbpcnnhaaGreatDoorW.PrintLast Go.Proofs.YtigloobbpcnnhaaGreatDoorW.PrintMore
set_option linter.unusedVariables false
set_option linter.unusedSimpArgs false
theorem blank_fold : ∀ (ls : List (List UInt8)) (n : Nat) (p : DP), (∀ l ∈ ls, dWords l = []) → ls.foldl dLine ⟨0, n, false, p⟩ = ⟨0, n + ls.length, false, p⟩ := by
  intro ls
  induction ls with
  | nil => intro n p _; rfl
  | cons l ls ih =>
    intro n p h
    have e : dLine ⟨0, n, false, p⟩ l = ⟨0, n + 1, false, p⟩ := by
      unfold dLine
      rw [if_neg (fun h => h rfl), if_pos rfl, if_pos (h l List.mem_cons_self)]
    rw [List.foldl_cons, e, ih (n + 1) p (fun x hx => h x (List.mem_cons_of_mem _ hx)), List.length_cons]
    congr 1
    omega
theorem blank_state (ls : List (List UInt8)) (h : ∀ l ∈ ls, dWords l = []) : dState ls = ⟨0, ls.length, false, DP.init⟩ := by
  have := blank_fold ls 0 DP.init h
  rw [Nat.zero_add] at this
  exact this
/-- Does a line count? -/
theorem dS_counts (l : List UInt8) : (!(dS l).f1 && decide ((dS l).f0 ≠ [])) = decide (dWords l ≠ []) := by
  unfold dS dRem
  by_cases h : l.head? = some 99
  · have : dWords l = [] := by unfold dWords; rw [if_pos h]
    rw [this, h]
    rfl
  · rw [show (l.head? == some 99) = false from beq_eq_false_iff_ne.2 h]
    by_cases hw : dWords l = []
    · rw [hw]; rfl
    · rw [decide_eq_true hw]
      have : (dWords l).map baOf ≠ [] := fun e => hw (List.map_eq_nil_iff.1 e)
      rw [decide_eq_true this]
      rfl
/-- Where the head stands. -/
def dAt (ls : List (List UInt8)) : Int := match (ls.map dS).findIdx? (fun x => !x.f1 && decide (x.f0 ≠ [])) with | some j => ((j : Nat) : Int) | none => -1
theorem dAt_none (ls : List (List UInt8)) (h : dAt ls < 0) : ∀ l ∈ ls, dWords l = [] := by
  unfold dAt at h
  cases e : (ls.map dS).findIdx? (fun x => !x.f1 && decide (x.f0 ≠ [])) with
  | some j => rw [e] at h; simp only at h; omega
  | none =>
    intro l hl
    rw [List.findIdx?_eq_none_iff] at e
    have := e (dS l) (List.mem_map.2 ⟨l, hl, rfl⟩)
    rw [dS_counts] at this
    exact Classical.byContradiction fun hne => by rw [decide_eq_true hne] at this; cases this
theorem dAt_some (ls : List (List UInt8)) (h : 0 ≤ dAt ls) : ∃ a : Nat, dAt ls = (a : Int) ∧ ∃ ha : a < ls.length, dWords ls[a] ≠ [] ∧ ∀ l ∈ ls.take a, dWords l = [] := by
  unfold dAt at h ⊢
  cases e : (ls.map dS).findIdx? (fun x => !x.f1 && decide (x.f0 ≠ [])) with
  | none => rw [e] at h; simp only at h; omega
  | some j =>
    rw [List.findIdx?_eq_some_iff_getElem] at e
    obtain ⟨hj, h1, h2⟩ := e
    rw [List.length_map] at hj
    refine ⟨j, rfl, hj, ?_, ?_⟩
    · rw [List.getElem_map, dS_counts] at h1
      exact of_decide_eq_true h1
    · intro l hl
      obtain ⟨i, hi, rfl⟩ := List.getElem_of_mem hl
      rw [List.length_take] at hi
      have := h2 i (by omega)
      rw [List.getElem_map, dS_counts] at this
      rw [List.getElem_take]
      simpa using this
theorem parse_none (b : List UInt8) (h : dAt (dLines b) < 0) : dParse b = ((0, []), 20, ((dLines b).length : Int) + 1) := by
  unfold dParse
  rw [blank_state _ (dAt_none _ h)]
  rfl
theorem take_line (ls : List (List UInt8)) (i : Nat) (h : i < ls.length) : dState (ls.take (i + 1)) = dLine (dState (ls.take i)) ls[i] := by
  rw [List.take_succ_eq_append_getElem h, dState_snoc]
theorem parse_err (b : List UInt8) (i : Nat) (e : Int) (hd : Bool) (p : DP) (n : Nat) (he : e ≠ 0) (h : dState ((dLines b).take i) = ⟨e, n, hd, p⟩) : dParse b = ((0, []), e, (n : Int)) := by
  unfold dParse
  conv => lhs; rw [← List.take_append_drop i (dLines b)]
  rw [dState_pre _ _ (by rw [h]; exact he), h]
  unfold dFinal
  rw [if_pos he]
theorem head_state (ls : List (List UInt8)) (a : Nat) (ha : a < ls.length) (hw : dWords ls[a] ≠ []) (hb : ∀ l ∈ ls.take a, dWords l = []) (e : Int) (p : DP) (hh : dHead DP.init (dWords ls[a]) = (e, p)) : dState (ls.take (a + 1)) = ⟨e, a + 1, true, p⟩ := by
  rw [take_line ls a ha, blank_state _ hb, List.length_take, Nat.min_eq_left (by omega)]
  unfold dLine
  rw [if_neg (fun h => h rfl), if_pos rfl, if_neg hw, hh]
theorem line_state (ls : List (List UInt8)) (i : Nat) (hi : i < ls.length) (p : DP) (h : dState (ls.take i) = ⟨0, i, true, p⟩) (e : Int) (p' : DP) (hw : dWordsL p (dWords ls[i]) = (e, p')) : dState (ls.take (i + 1)) = ⟨e, i + 1, true, p'⟩ := by
  rw [take_line ls i hi, h]
  unfold dLine
  rw [if_neg (fun h => h rfl), if_neg (by simp), hw]
theorem words_next (p : DP) (x : List UInt8) (r : List (List UInt8)) (p' : DP) (h : dWord p x = (0, p')) : dWordsL p (x :: r) = dWordsL p' r := by
  rw [dWordsL, h]
  rw [if_neg (fun h => h rfl)]
theorem words_stop (p : DP) (x : List UInt8) (r : List (List UInt8)) (e : Int) (p' : DP) (he : e ≠ 0) (h : dWord p x = (e, p')) : dWordsL p (x :: r) = (e, p') := by
  rw [dWordsL, h, if_pos he]
theorem parse_fin (b : List UInt8) (p : DP) (h : dState (dLines b) = ⟨0, (dLines b).length, true, p⟩) : dParse b = if p.opn ≠ [] ∨ (p.cls.length : Int) < p.want then ((0, []), 23, ((dLines b).length : Int) + 1) else ((p.vars, p.cls), 0, 0) := by
  unfold dParse
  rw [h]
  unfold dFinal
  rw [if_neg (fun h => h rfl), if_neg (by simp)]
end Go.Proofs.YtigloobbpcnnhaaGreatDoor.PB
end
