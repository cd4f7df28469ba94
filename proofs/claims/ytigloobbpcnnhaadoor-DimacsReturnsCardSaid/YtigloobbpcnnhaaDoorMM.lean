import Derived.Test.YtigloobbpcnnhaaDoorM4
import Derived.Test.YtigloobbpcnnhaaDoorM9
section
namespace Go.Proofs.YtigloobbpcnnhaaDoor.PB
open Go.RowKit Go.Shelf Go.Proofs.YtigloobbpcnnhaaDoorW.PrintWords Go.Proofs.YtigloobbpcnnhaaDoorW.PrintLast Go.Proofs.YtigloobbpcnnhaaDoorW.PrintMore
set_option linter.unusedVariables false
set_option linter.unusedSimpArgs false
attribute [local go_sem] Oper.semAt_some
/-! ### lines over a text that lies in the call's own memory, while another block (a row of marks) is written -/
theorem cut_calls2 (A : Option Addr) (c b2 d2 : Nat) (t : List UInt8) (w0 w : World) (hCw : (Kd.int .u8).C w A t.length (bI t)) (hC : (Kd.int .u8).C w0 A t.length (bI t)) (hc : t.length ≤ c) (hne : t ≠ []) (hs : t.length ≤ 100000) (hlt : LF w) (hb2 : w.heap[b2]? = some (.cells #[.int .u8 10] 5 (0, 0))) :
    Calls Tryd.prog 38 #[.slice A t.length c, .slice (some ⟨b2, 0, none⟩) 1 d2] w fun e w' => ∃ (l r : List UInt8) (A2 : Option Addr) (c2 : Nat) (fl : Bool), e = .returned (.tuple #[.slice A l.length c, .slice A2 r.length c2, .bool fl]) ∧ dLines t = l :: dLines r ∧ (Kd.int .u8).C w0 A l.length (bI l) ∧ l.length ≤ c ∧ (Kd.int .u8).C w0 A2 r.length (bI r) ∧ r.length ≤ c2 ∧ r.length < t.length ∧ ∃ q, w' = w.drewN q := by
  obtain ⟨m, hm⟩ := hlt.m
  have hpos : 0 < t.length := List.length_pos_iff.2 hne
  have hin2 : Lib.BytesIn w (some ⟨b2, 0, none⟩) 1 [10] := fun _ => ⟨b2, 0, rfl, fun i hi => by
    obtain rfl : i = 0 := by omega
    exact (blk_cell hb2 0).trans rfl⟩
  obtain ⟨ad, rfl, _⟩ := Kd.at_int hC 0 (by omega) (by omega)
  refine (Tryd.bytes_Cut_all (some ad) (some ⟨b2, 0, none⟩) t.length c 1 d2 (bI t) [10] m w (bI_length t) rfl (bI_mem t) (by intro y hy; rw [List.mem_singleton.1 hy]; omega) (bytesIn_C hCw) hin2 (fun e => by cases e) hc (by omega) (by omega) hm).mono ?_
  rw [bI_back, show Lib.bytesOf [10] = [10] from rfl]
  rintro e w' ⟨rfl, q, rfl⟩
  rcases split_first t with h | ⟨l, r, ht, h⟩
  · refine ⟨t, [], none, 0, false, ?_, by rw [dLines_no t hne h]; rfl, hC, hc, Kd.C_nil _ _, Nat.le_refl _, by simpa using hpos, q, rfl⟩
    unfold Lib.cutV
    rw [index_no t 10 h, if_neg (by omega)]
    rfl
  · have hlen : t.length = l.length + 1 + r.length := by rw [ht, List.length_append, List.length_cons]; omega
    have hix : Lib.index t [10] = (l.length : Int) := by rw [ht]; exact index_at l r 10 h
    have hl : t.take l.length = l := by rw [ht, List.take_left]
    have hr : t.drop (l.length + 1) = r := by
      rw [ht, ← List.drop_drop, List.drop_left]
      rfl
    have hC' := hC
    rw [← bI_length t] at hC'
    have hCl := Kd.C_take (m := l.length) hC' (by rw [bI_length]; omega)
    have hCr := Kd.C_drop (m := l.length + 1) (c := c) hC' (by rw [bI_length]; omega) (by rw [bI_length]; exact hc)
    rw [bI_take, hl, bI_length] at hCl
    rw [bI_drop, hr, bI_length, show (Kd.int .u8).sz = 1 from rfl, Nat.mul_one] at hCr
    refine ⟨l, r, _, c - (l.length + 1), true, ?_, by rw [ht]; exact dLines_cut l r h, hCl, by omega, hCr, by omega, by omega, q, rfl⟩
    unfold Lib.cutV Lib.fromV
    rw [hix, if_pos (Int.natCast_nonneg _), Int.toNat_natCast, show t.length - (l.length + 1) = r.length by omega]
/-- What a round keeps. -/
def KpS (Sy : World → Prop) (Bn : Nat) (W W' : World) : Prop := (Sy W → Sy W') ∧ W'.heap[Bn]? = W.heap[Bn]?
set_option maxRecDepth 100000 in
set_option maxHeartbeats 1000000 in
theorem lines_in2 (n : Nat) (hn : 1 ≤ n) (l Bn : Nat) (w0 : World) (A0 : Option Addr) (c0 : Nat) (s : List UInt8) (hs : s.length ≤ 100000) (hC0 : (Kd.int .u8).C w0 A0 s.length (bI s)) (hc0 : s.length ≤ c0) (J Jx : List LR → World → Prop) (hJ : AbidesBox Bn J) (Sy : World → Prop) (hSl : ∀ W, Sy W → LF W) (hSc : ∀ (W : World) (A : Option Addr) (t : List UInt8), Sy W → (Kd.int .u8).C w0 A t.length (bI t) → (Kd.int .u8).C W A t.length (bI t)) (hSb : ∀ W W', Sy W → Below W.heap.size W W' → Sy W') (hSs : ∀ (W : World) (v : Value), Sy W → Sy (W.setCell ⟨Bn, 0, none⟩ v))
    (hY : ∀ pre x W, J pre W → LOK w0 s (pre ++ [x]) → YieldAt Fence.wide (n - 1) Tryd.prog l x.enc W fun e W' =>
      (e = .returned (.bool true) ∧ J (pre ++ [x]) W' ∧ KpS Sy Bn W W') ∨ (e = .returned (.bool false) ∧ Jx (pre ++ [x]) W'))
    (W : World) (hBn : W.heap[Bn]? = some (.cells #[.slice A0 s.length c0] 22 (0, 0))) (hW : Sy W) (h0 : J [] W) :
    CallsIn Fence.wide n Tryd.prog 37 #[.func (.yield l) #[] #[], .pointer (some ⟨Bn, 0, none⟩)] W fun e W' => (∃ v, e = .returned v) ∧
      ((∃ ys, (ys.map (·.l) = dLines s ∧ LOK w0 s ys) ∧ J ys W') ∨ (∃ pre, LOK w0 s pre ∧ Jx pre W')) := by
  refine callsIn_of_wp Tryd.func37 rfl trivial ?_ rfl
  simp only [Tryd.ntmps37, List.size_toArray, List.length_cons, List.length_nil, Nat.reduceAdd, Nat.reduceSub, Array.replicate_succ, Array.replicate_zero, List.push_toArray, List.append_toArray, List.nil_append, List.cons_append]
  have HBN := Aside0.mk hBn
  have HSL := Aside0.mk hSl
  have HSC := Aside0.mk hSc
  have HSB := Aside0.mk hSb
  have HSS := Aside0.mk hSs
  have HS := Aside0.mk hs
  have H0 := Aside0.mk h0
  have HY := Aside0.mk hY
  have HJ := Aside0.mk hJ
  have HC0 := Aside0.mk hC0
  have HL0 := Aside0.mk hc0
  have HW := Aside0.mk hW
  clear hBn hSl hSc hSb hSs hs h0 hY hJ hC0 hc0 hW
  gi_wp2
  gi_loopw [3] (fun v wr => ∃ (pre : List LR) (t : List UInt8) (A : Option Addr) (c : Nat), v = .int .i64 ((pre.length : Int) + 1) ∧ Aside0 (t.length ≤ s.length ∧ pre.length + t.length ≤ s.length) ∧ Aside0 (dLines s = pre.map (·.l) ++ dLines t) ∧ Aside0 (LOK w0 s pre) ∧ Aside0 ((Kd.int .u8).C w0 A t.length (bI t)) ∧ t.length ≤ c ∧ Aside0 (wr.heap[Bn]? = some (.cells #[.slice A t.length c] 22 (0, 0))) ∧ Aside0 (Sy wr) ∧ Aside0 (J pre wr))
    (fun _ wr => boxLen Bn wr)
  case atStart => exact ⟨[], s, A0, c0, rfl, ⟨Nat.le_refl _, by simp⟩, ⟨rfl⟩, ⟨LOK.nil _ _⟩, HC0, HL0.out, HBN, HW, H0⟩
  case round =>
    clear HBN H0 HC0 HL0 HW
    obtain ⟨pre, t, A, c, rfl, HT, HQ, HOK, HC, hc, HBN, HW, HJJ⟩ := hrel
    have hcz := (blk_cell HBN.out 0).trans (show _ = some (Value.slice A t.length c) from rfl)
    have hf := blk_frozen HBN.out 0
    have hps : pre.length ≤ 100000 := by have := HT.out; have := HS.out; omega
    have hts : t.length ≤ 100000 := by have := HT.out; have := HS.out; omega
    by_cases hz : t = []
    · have hz1 : decide (0 < (t.length : Int)) = false := by rw [hz]; rfl
      have hz2 : decide (0 < t.length) = false := by rw [hz]; rfl
      have hz3 := Aside0.mk hz
      clear hz
      gi_wp2
      go_end0
      exact ⟨⟨_, rfl⟩, .inl ⟨pre, ⟨by rw [HQ.out, hz3.out, dLines_nil, List.append_nil], HOK.out⟩, HJJ.out⟩⟩
    · have hpos : 0 < t.length := List.length_pos_iff.2 hz
      have hz1 : decide (0 < (t.length : Int)) = true := decide_eq_true (by omega)
      have hz2 : decide (0 < t.length) = true := decide_eq_true hpos
      have HNE := Aside0.mk hz
      clear hz
      gi_wp2_with ((refine ⟨trivial, ?_⟩; gi_at_call 38; refine (callsIn_wide.2 (cut_calls2 A c wr.heap.size 1 t w0 _ (HSC.out _ A t (HSB.out _ _ HW.out (below_alloc (Below.refl _ _) _)) HC.out) HC.out hc HNE.out hts (HSL.out _ (HSB.out _ _ HW.out (below_alloc (Below.refl _ _) _))) (blk_new wr _))).mono ?_; rintro e w2 ⟨q, r, A2, c2, fl, rfl, hd, hCl, hlc, hCr, hrc, hrt, nd, rfl⟩; have HD := Aside0.mk hd; have HRT := Aside0.mk hrt; have HOKX := Aside0.mk (show LOK w0 s (pre ++ [⟨pre.length + 1, A, c, q⟩]) from HOK.out.snoc ⟨dLines r, by rw [HQ.out, HD.out]; simp⟩ ⟨hCl, hlc⟩ rfl); obtain ⟨fn, tmps, assign, body, hy, hR⟩ := HY.out pre ⟨pre.length + 1, A, c, q⟩ _ (HJ.out _ _ _ none (HJ.out _ _ _ none HJJ.out (World.grownBy_alloc wr (.cells #[.int .u8 10] 5) none) (fun r e => by cases e)) (grown_drewN (wr.alloc (.cells #[.int .u8 10] 5)) nd) (fun r e => by cases e)) HOKX.out; have HRR := Aside0.mk hR; replace hy : (Instr.yield l #[.int .i64 ((pre.length : Int) + 1), .slice A q.length c]).run Tryd.prog _ = _ := hy; have HRC := Aside0.mk hCr; clear hR hd hCr hCl hrt))
      refine HRR.out.mono ?_
      have HB2 := Aside0.mk (show Sy ((wr.alloc (.cells #[.int .u8 10] 5)).drewN nd) from HSB.out _ _ HW.out (pw_below_drewN (below_alloc (Below.refl _ _) _) nd))
      have HBN2 := Aside0.mk (show ((wr.alloc (.cells #[.int .u8 10] 5)).drewN nd).heap[Bn]? = some (.cells #[.slice A t.length c] 22 (0, 0)) from blk_drewN (blk_alloc HBN.out _) nd)
      rintro e W3 (⟨rfl, hJ3, hk3, hb3⟩ | ⟨rfl, hJx3⟩)
      · have HB3 := Aside0.mk (show W3.heap[Bn]? = some (.cells #[.slice A t.length c] 22 (0, 0)) from hb3.trans HBN2.out)
        have HW3 := Aside0.mk (hk3 HB2.out)
        have hc3 := (blk_cell HB3.out 0).trans (show _ = some (Value.slice A t.length c) from rfl)
        have hf3 := blk_frozen HB3.out 0
        have HJ3 := Aside0.mk hJ3
        clear hJ3 hk3 hb3
        gi_wp2
        go_roundw
        case rel => exact ⟨pre ++ [⟨pre.length + 1, A, c, q⟩], r, A2, c2, (by rw [List.length_append, List.length_singleton]; rfl), ⟨by have h1 := HRT.out; have h2 := HT.out; rw [List.length_append, List.length_singleton]; omega⟩, ⟨by rw [HQ.out, HD.out]; simp⟩, HOKX, HRC, hrc, ⟨blk_put HB3.out 0 _ rfl⟩, ⟨HSS.out _ _ HW3.out⟩, ⟨HJ.out _ _ _ (some Bn) HJ3.out (grown_set W3 Bn 0 _) (fun r e => by cases e; rfl)⟩⟩
        case measure => rw [boxLen_eq (blk_put HB3.out 0 _ rfl), boxLen_eq HBN.out]; exact HRT.out
      · gi_wp2
        refine bodyPost_ret (results_none rfl _ _ _) rfl ?_
        exact ⟨⟨_, rfl⟩, .inr ⟨pre ++ [⟨pre.length + 1, A, c, q⟩], HOKX.out, hJx3⟩⟩
/-- As in w0, but block gm; as in w below. -/
structure SY (w w0 : World) (gm : Nat) (W : World) : Prop where
  bw : Below w.heap.size w W
  sz : w0.heap.size ≤ W.heap.size
  blk : ∀ k, k < w0.heap.size → k ≠ gm → W.heap[k]? = w0.heap[k]?
theorem SY.below {w w0 W W' : World} {gm : Nat} (h : SY w w0 gm W) (hb : Below W.heap.size W W') : SY w w0 gm W' :=
  ⟨below_step h.bw hb, Nat.le_trans h.sz hb.size, fun k hk hne => (hb.block k (Nat.lt_of_lt_of_le hk h.sz)).trans (h.blk k hk hne)⟩
theorem SY.other {w w0 W W' : World} {gm g : Nat} (h : SY w w0 gm W) (hs : SameBut g W W') (hg : g = gm ∨ w0.heap.size ≤ g) (hl : w.heap.size ≤ g) : SY w w0 gm W' :=
  ⟨hs.below h.bw hl, Nat.le_trans h.sz (Nat.le_of_eq hs.size.symm), fun k hk hne => (hs.blk k (by rcases hg with rfl | hg; exact hne; omega)).trans (h.blk k hk hne)⟩
theorem SY.set {w w0 W : World} {gm Bn : Nat} (h : SY w w0 gm W) (hB : w0.heap.size ≤ Bn) (hw : w.heap.size ≤ Bn) (v : Value) : SY w w0 gm (W.setCell ⟨Bn, 0, none⟩ v) :=
  ⟨h.bw.trans (below_set_box hw v), by rw [show (W.setCell ⟨Bn, 0, none⟩ v).heap.size = W.heap.size by simp [World.setCell]]; exact h.sz, fun k hk hne => (Below.heap_setCell W ⟨Bn, 0, none⟩ v k (by show k ≠ Bn; omega)).trans (h.blk k hk hne)⟩
theorem SY.put {w w0 W : World} {gm l : Nat} (h : SY w w0 gm W) (hl : w0.heap.size ≤ l) (hw : w.heap.size ≤ l) (o : Obj) : SY w w0 gm (W.putObj l o) := by
  refine ⟨h.bw.grown (grownBy_putObj' W l o) h.bw.size (fun k e => by cases e; exact hw), Nat.le_trans h.sz (grownBy_putObj' W l o).size, fun k hk hne => (World.putObj_heap_other (by omega)).trans (h.blk k hk hne)⟩
theorem SY.C {w w0 W : World} {gm : Nat} {cs : Array Value} (h : SY w w0 gm W) (hm : w0.heap[gm]? = some (.cells cs 4 (0, 0))) (hcs : ∀ u ∈ cs, ∃ b, u = Value.bool b) {A : Option Addr} {t : List UInt8} (hC : (Kd.int .u8).C w0 A t.length (bI t)) : (Kd.int .u8).C W A t.length (bI t) := by
  obtain ⟨e, hl, hr⟩ := Kd.reads_of_C (enc := Value.int .u8) (d := (0 : Int)) (h1 := fun _ => rfl) hC
  refine Kd.C_of_reads (d := (0 : Int)) (h1 := fun _ => rfl) ⟨e, hl, fun hp => ?_⟩
  obtain ⟨ad, rfl, hc⟩ := hr hp
  refine ⟨ad, rfl, fun j hj => ?_⟩
  have h1 := hc j hj
  have hne : (ad.add j).block ≠ gm := by
    intro e
    have h2 := h1
    unfold World.cell? at h2
    rw [e, hm] at h2
    simp only at h2
    split at h2
    · cases h2
    · obtain ⟨b, hb⟩ := hcs _ (Array.mem_of_getElem? h2)
      cases hb
  have hlt : (ad.add j).block < w0.heap.size := World.block_lt_of_cell? w0 _ h1
  unfold World.cell? at h1 ⊢
  rw [h.blk _ hlt hne]
  exact h1
end Go.Proofs.YtigloobbpcnnhaaDoor.PB
end

section
namespace Go.Proofs.YtigloobbpcnnhaaDoor.PB
open Go.RowKit Go.Shelf Go.Proofs.YtigloobbpcnnhaaDoorW.PrintWords Go.Proofs.YtigloobbpcnnhaaDoorW.PrintLast Go.Proofs.YtigloobbpcnnhaaDoorW.PrintMore
set_option linter.unusedVariables false
set_option linter.unusedSimpArgs false
attribute [local go_sem] Oper.semAt_some
/-! ### dimacs.Model -/
theorem nsz33 : (Tryd.prog.info? 33).map (·.size) = some 1 := by kernel_rfl
theorem info4 : (Tryd.prog.info? 4).map (fun i => (i.zero, i.size, i.bytes)) = some (some (.bool false), 1, 1) := by kernel_rfl
section
variable {n l : Nat} {ops ops0 : Array Oper} {rest : List Oper} {o : Oper} {a : Act} {W : World} {Q : Exit → Act → World → Prop} {F : Fence}
def boolsA (m : List Bool) : Array Value := (m.map Value.bool).toArray
theorem made_bools (k : Nat) : madeCells #[.bool false] k = boolsA (List.replicate k false) := by
  unfold madeCells boolsA
  apply Array.ext'
  simp only [Array.toList_map, Array.toList_range, List.map_replicate]
  apply List.ext_getElem
  · simp
  · intro i h1 h2
    have : i % 1 = 0 := Nat.mod_one i
    simp [this]
theorem make_in (hF : WF F) (hgd : o.guard = none) (t : TypeId) (x : Operand) (ho : o.op = .makeSlice t x x) (ht : Tryd.prog.underlying t = some (.slice 4)) (k : Nat) (hk : k ≤ 2000000) (hx : a.eval x = .int .i64 (k : Int))
    (h : ∀ g w1, g = W.heap.size → w1.heap[g]? = some (.cells (boolsA (List.replicate k false)) 4 (0, 0)) → Below W.heap.size W w1 → wpListIn F n Tryd.prog ops Q rest (a.put o.dst (.slice (some ⟨g, 0, none⟩) k k)) w1) : wpListIn F n Tryd.prog ops Q (o :: rest) a W := by
  have hrun : (execOp a.eval o).run Tryd.prog W = .ok (.value (.slice (some ⟨W.heap.size, 0, none⟩) k k)) (W.alloc (.cells (boolsA (List.replicate k false)) 4)) := by
    unfold execOp
    have hm := print_make_of (P := Tryd.prog) t 4 (.bool false) 1 ht info4 rfl (by omega) k (by omega) W
    rw [made_bools] at hm
    simp only [ho, hx]
    simp [hm, Sem.run_bind, Sem.run_pure, Result.andThen]
  exact list_in hF (ops0 := #[]) hgd (by intro c hc; rw [ho] at hc; cases hc) (φ := fun a' w' => a' = a.put o.dst (.slice (some ⟨W.heap.size, 0, none⟩) k k) ∧ w' = W.alloc (.cells (boolsA (List.replicate k false)) 4)) (Kd.event_run hgd hrun ⟨rfl, rfl, rfl⟩) (by rintro a' w' ⟨rfl, rfl⟩; exact h _ _ rfl (blk_new W _) (below_alloc (Below.refl _ _) _))
theorem text_in (hF : WF F) (src dst : TypeId) {u : TypeDesc} (x : Operand) (ho : o.op = .convert src dst x) (hgd : o.guard = none) (l : List UInt8) (hx : a.eval x = .string (baOf l)) (hs : Tryd.prog.underlying src = some u) (hd : Tryd.prog.underlying dst = some (.slice 5)) (he : Tryd.prog.underlying 5 = some (.int .u8)) (hl : l.length ≤ 9223372036854775807)
    (h : ∀ g c w1, (Kd.int .u8).C w1 (some ⟨g, 0, none⟩) l.length (bI l) → l.length ≤ c → Below W.heap.size W w1 → wpListIn F n Tryd.prog ops Q rest (a.put o.dst (.slice (some ⟨g, 0, none⟩) l.length c)) w1) : wpListIn F n Tryd.prog ops Q (o :: rest) a W :=
  list_in hF (ops0 := #[]) hgd (by intro c hc; rw [ho] at hc; cases hc) (φ := fun a' w' => ∃ g c, a' = a.put o.dst (.slice (some ⟨g, 0, none⟩) l.length c) ∧ (Kd.int .u8).C w' (some ⟨g, 0, none⟩) l.length (bI l) ∧ l.length ≤ c ∧ Below W.heap.size W w') (text_event src dst x ho hgd l hx hs hd he hl (fun g c w1 h1 h2 h3 => ⟨rfl, g, c, rfl, h1, h2, h3⟩)) (by rintro a' w' ⟨g, c, rfl, h1, h2, h3⟩; exact h g c w' h1 h2 h3)
end
/-- Everything but block gm stays. -/
structure GB (gm : Nat) (A C : World) : Prop where
  sz : A.heap.size ≤ C.heap.size
  blk : ∀ k, k < A.heap.size → k ≠ gm → C.heap[k]? = A.heap[k]?
theorem GB.refl (gm : Nat) (A : World) : GB gm A A := ⟨Nat.le_refl _, fun _ _ _ => rfl⟩
theorem GB.below {gm : Nat} {A B C : World} (h : GB gm A B) (hb : Below B.heap.size B C) : GB gm A C := ⟨Nat.le_trans h.sz hb.size, fun k hk hne => (hb.block k (Nat.lt_of_lt_of_le hk h.sz)).trans (h.blk k hk hne)⟩
theorem GB.same {gm : Nat} {A B C : World} (h : GB gm A B) (hs : SameBut gm B C) : GB gm A C := ⟨Nat.le_trans h.sz (Nat.le_of_eq hs.size.symm), fun k hk hne => (hs.blk k hne).trans (h.blk k hk hne)⟩
theorem GB.keeps {gm B : Nat} {A C : World} {cs : Array Value} {t : TypeId} (h : GB gm A C) (hg : A.heap[gm]? = some (.cells cs t (0, 0))) : KeepsFrom B A C :=
  ⟨h.sz, fun k o _ hk ho => by
    by_cases e : k = gm
    · subst e; rw [hg] at hk; cases hk; cases ho
    · exact (h.blk k (Array.getElem?_eq_some_iff.1 hk).1 e).trans hk⟩
theorem gb_R {gm : Nat} {w w' : World} {base : Nat} {v : Value} {xs : List ByteArray} {cs : Array Value} (h : Kd.string.R 9 w base (fun _ => True) v xs) (hg : w.heap[gm]? = some (.cells cs 4 (0, 0))) (hk : GB gm w w') : Kd.string.R 9 w' base (fun _ => True) v xs :=
  Kd.R_mono (Kd.R_step (Kd.R_bound h) (fun k hk2 _ => by
    obtain ⟨_, _, hlt, q, hq, cells, hc⟩ := hk2
    simp only [Kd.string, Kd.scalar, List.mem_cons, List.not_mem_nil, or_false] at hq
    subst hq
    refine hk.blk k hlt (fun e => ?_)
    subst e
    rw [hg] at hc
    cases hc)) (fun _ _ => trivial)
/-- The marks of the lines that have come. -/
abbrev mOf (vars : Int) (k : Nat) (pre : List LR) : List Bool := ((pre.map (·.l)).flatMap dWords).foldl (dMark vars) (List.replicate k false)
theorem dMark_len (vars : Int) : ∀ (ws : List (List UInt8)) (m : List Bool), (ws.foldl (dMark vars) m).length = m.length := by
  intro ws
  induction ws with
  | nil => intro m; rfl
  | cons x ws ih =>
    intro m
    rw [List.foldl_cons, ih]
    unfold dMark
    split <;> simp
theorem mOf_len (vars : Int) (k : Nat) (pre : List LR) : (mOf vars k pre).length = k := by rw [dMark_len]; simp
theorem mOf_snoc (vars : Int) (k : Nat) (pre : List LR) (x : LR) : mOf vars k (pre ++ [x]) = (dWords x.l).foldl (dMark vars) (mOf vars k pre) := by
  unfold mOf
  rw [List.map_append, List.flatMap_append, List.foldl_append]
  simp
/-- Between two rounds. -/
structure MI (w w0 : World) (vars : Int) (kv gm Bn : Nat) (pre : List LR) (W : World) : Prop where
  sy : SY w w0 gm W
  bn : Bn < W.heap.size
  rm : W.heap[gm]? = some (.cells (boolsA (mOf vars kv pre)) 4 (0, 0))
theorem MI.own {w w0 : World} {vars : Int} {kv gm Bn B : Nat} (hg : gm < w0.heap.size) (hB : w0.heap.size ≤ Bn) (hB2 : w0.heap.size ≤ B) (hw : w.heap.size ≤ w0.heap.size) : OwnBox B Bn (MI w w0 vars kv gm Bn) := by
  intro pre W W' row h hgr hr
  refine ⟨⟨h.sy.bw.grown hgr h.sy.bw.size (fun k e => ?_), Nat.le_trans h.sy.sz hgr.size, fun k hk hne => (hgr.block k (Nat.lt_of_lt_of_le hk h.sy.sz) (fun e => ?_)).trans (h.sy.blk k hk hne)⟩, Nat.lt_of_lt_of_le h.bn hgr.size, blk_row hgr hr h.rm (by omega)⟩
  · rcases hr k e with e2 | ⟨e2, _⟩ <;> omega
  · rcases hr k e.symm with e2 | ⟨e2, _⟩ <;> omega
theorem dNum_le (x : List UInt8) (top : Int) (h0 : 0 ≤ top) (h : (dNum x true top).2.2 = true) : (dNum x true top).1 ≤ top := by
  rw [dNum_eq] at h ⊢
  split at h
  · cases h
  · rename_i h1
    rw [if_neg h1]
    split at h
    · cases h
    · rename_i h2
      rw [if_neg h2]
      simp only
      split <;> omega
theorem bools_set (m : List Bool) (q : Nat) : (boolsA m).setIfInBounds q (.bool true) = boolsA (m.set q true) := by
  unfold boolsA
  apply Array.ext'
  simp [List.map_set]
theorem boolsA_size (m : List Bool) : (boolsA m).size = m.length := by simp [boolsA]
set_option maxRecDepth 100000 in
set_option maxHeartbeats 2000000 in
theorem model_calls (s : List UInt8) (vars : Int) (w : World) (hs : s.length ≤ 100000) (hv : -9223372036854775808 ≤ vars ∧ vars ≤ 9223372036854775807) (hlt : LT w.heap.size w) :
    Calls Tryd.prog 17 #[.string (baOf s), .int .i64 vars] w fun e w' => ∃ A c, e = .returned (.tuple #[.slice A (dModel s vars).1.length c, .int .i64 (dModel s vars).2]) ∧ Kd.bool.C w' A (dModel s vars).1.length (dModel s vars).1 ∧ (dModel s vars).1.length ≤ c ∧ Below w.heap.size w w' := by
  have HLT := Aside0.mk hlt
  have HS := Aside0.mk hs
  obtain ⟨sB, hsB⟩ : ∃ sB, sB = baOf s := ⟨_, rfl⟩
  have HSB := Aside0.mk hsB
  rw [← hsB]
  clear hlt hs hsB
  by_cases hz : vars < 0 ∨ 1048576 < vars
  · have hd : dModel s vars = ([], 2) := by unfold dModel; rw [if_pos hz]
    have HD := Aside0.mk hd
    clear hd
    by_cases h1 : vars < 0
    · have t1 : decide (vars < 0) = true := decide_eq_true h1
      go_enter Tryd.func17, Tryd.ntmps17
      go_wp2_with fail
      go_ret2
      rw [HD.out]
      exact ⟨none, 0, rfl, Kd.C_nil _ _, Nat.le_refl _, below_alloc (Below.refl _ _) _⟩
    · have t1 : decide (vars < 0) = false := decide_eq_false h1
      have t2 : decide (1048576 < vars) = true := decide_eq_true (by omega)
      go_enter Tryd.func17, Tryd.ntmps17
      go_wp2_with fail
      go_ret2
      rw [HD.out]
      exact ⟨none, 0, rfl, Kd.C_nil _ _, Nat.le_refl _, below_alloc (Below.refl _ _) _⟩
  have t1 : decide (vars < 0) = false := decide_eq_false (by omega)
  have t2 : decide (1048576 < vars) = false := decide_eq_false (by omega)
  obtain ⟨kv, rfl⟩ : ∃ kv : Nat, vars = (kv : Int) := ⟨vars.toNat, by omega⟩
  have HKV := Aside0.mk (show kv ≤ 1048576 by omega)
  have HZ := Aside0.mk hz
  clear hz
  obtain ⟨W1, hW1⟩ : ∃ W1, W1 = w.alloc (.cells #[.int .i64 (kv : Int)] 3) := ⟨_, rfl⟩
  obtain ⟨g3, hg3⟩ : ∃ g3, g3 = w.heap.size := ⟨_, rfl⟩
  have HG3 := Aside0.mk (show W1.heap[g3]? = some (.cells #[.int .i64 (kv : Int)] 3 (0, 0)) by rw [hW1, hg3]; exact blk_new w _)
  have HB3 := Aside0.mk (show Below w.heap.size w W1 by rw [hW1]; exact below_alloc (Below.refl _ _) _)
  have HL3 := Aside0.mk (show w.heap.size ≤ g3 by rw [hg3]; exact Nat.le_refl _)
  refine (callsIn_wide (n := 5)).1 ?_
  refine callsIn_of_wp_marks Tryd.func17 rfl trivial ?_ rfl
  simp only [Tryd.ntmps17, List.size_toArray, List.length_cons, List.length_nil, Nat.reduceAdd, Nat.reduceSub, Array.replicate_succ, Array.replicate_zero, List.push_toArray, List.append_toArray, List.nil_append, List.cons_append]
  gi_wp2_with (first | ((with_reducible refine gin_dst (N := 21) rfl ?_); rw [← hW1, ← hg3]; refine make_in (.inl rfl) rfl 33 (.tmp 20) rfl Tryd.underlying33 kv (by have := HKV.out; omega) rfl ?_; intro gm Wm hgb hbox hb; have HGM := Aside0.mk hbox; have HBM := Aside0.mk (below_step HB3.out hb); have HG3m := Aside0.mk (blk_below HG3.out hb); have HLM := Aside0.mk (show w.heap.size ≤ gm by rw [hgb]; exact HB3.out.size); have hcz3 := (blk_cell HG3m.out 0).trans (show _ = some (Value.int .i64 (kv : Int)) from rfl); clear hbox hb hgb HG3 hW1 hg3) | ((with_reducible refine gin_dst (N := 6) rfl ?_); refine box_in (.inl rfl) ?hg (by intro c hc; cases hc) (N := 6) ?hd (cs := #[.slice none 0 0]) (t := 33) ?hr ?_; (case hd => rfl); (case hg => rfl); (case hr => first | (go_simp; done) | (go_simp; rfl)); intro g6 hgb Wg6 hbox hb; have HG6 := Aside0.mk hbox; have HB6 := Aside0.mk (below_step HBM.out hb); have HGM6 := Aside0.mk (blk_below HGM.out hb); have HG36 := Aside0.mk (blk_below HG3m.out hb); have HL6 := Aside0.mk (show w.heap.size ≤ g6 by rw [hgb]; exact HBM.out.size); have HNE := Aside0.mk (blk_ne HGM6.out hbox (by decide)); clear hcz3 hbox hb hgb HGM HG3m) | ((with_reducible refine gin_store (t := 33) (p := 6) rfl ?_); refine store_one_in (.inl rfl) 33 6 (.tmp 21) rfl rfl rfl (.slice (some ⟨gm, 0, none⟩) kv kv) #[.slice (some ⟨gm, 0, none⟩) kv kv] rfl rfl HG6.out rfl nsz33 (show 0 + 1 ≤ 1 by omega) rfl rfl ?_; intro W6 hw hsb; have HG6s := Aside0.mk hw; have HGMs := Aside0.mk (hsb.other HGM6.out HNE.out); have HG3s := Aside0.mk (hsb.other HG36.out (blk_ne HG36.out HG6.out (by decide))); have HB6s := Aside0.mk (hsb.below HB6.out HL6.out); clear hw hsb HG6 HGM6 HG36) | ((with_reducible refine gin_dst (N := 23) rfl ?_); refine text_in (.inl rfl) 9 22 (.tmp 22) rfl rfl s ?hx Tryd.underlying9 Tryd.underlying22 Tryd.underlying5 (by have := HS.out; omega) ?_; (case hx => rw [← HSB.out]; rfl); intro gb cb w0 hC1 hc1 hb; have HC := Aside0.mk hC1; have HCC := Aside0.mk hc1; have HB0 := Aside0.mk (below_step HB6s.out hb); have HG6t := Aside0.mk (blk_below HG6s.out hb); have HGMt := Aside0.mk (blk_below HGMs.out hb); have HG3t := Aside0.mk (blk_below HG3s.out hb); clear hC1 hc1 hb HG6s HGMs HG3s) | (refine ⟨trivial, ?_⟩; gi_at_call 19; refine (callsIn_wide.2 (lines_calls (some ⟨gb, 0, none⟩) s.length cb w0)).mono ?_; rintro e W0 ⟨Bn, hBnS, rfl, hBn, hb⟩; have HBN := Aside0.mk hBn; have HBNL := Aside0.mk (show w0.heap.size ≤ Bn by rw [hBnS]; exact Nat.le_refl _); have HBW := Aside0.mk hb; clear hBn hb hBnS))
  have HRV := Aside0.mk (show ∀ W, SY w w0 gm W → LF W from fun W h => (HLT.out.on h.bw).here)
  refine wpIn_range_box rfl (by omega) (gf := 37) (lb := #[.pointer (some ⟨Bn, 0, none⟩)]) rfl trivial (enters_of Tryd.func37 (by kernel_rfl) rfl)
    (encs := LR.enc) (Kp := KpS (SY w w0 gm) Bn) (S := fun ys => ys.map (·.l) = dLines s ∧ LOK w0 s ys) (Sp := fun pre => LOK w0 s pre) (Bn := Bn) (blk_lt HBN.out) ?seq (fun h k => ⟨fun e => k.1 (h.1 e), k.2.trans h.2⟩) ?kb (fun _ => rfl)
    (MI w w0 (kv : Int) kv gm Bn) (fun c pre W => False) (MI.own (blk_lt HGMt.out) HBNL.out HBW.out.size HB0.out.size) (fun c s A B row h hg hr => h.elim) ?start
    (fun x => { tmps := #[.string sB, .int .i64 (kv : Int), undef, .pointer (some ⟨g3, 0, none⟩), .slice none 0 0, .int .i64 0, .pointer (some ⟨g6, 0, none⟩), undef, .slice x.A x.l.length x.c, undef, undef, undef, undef, undef, .int .i64 (kv : Int), .bool false, .bool false, .int .i64 (kv : Int), .bool false, .bool false, .int .i64 (kv : Int), .slice (some ⟨gm, 0, none⟩) kv kv, .string sB, .slice (some ⟨gb, 0, none⟩) s.length cb, .func (.func 37) #[] #[.pointer (some ⟨Bn, 0, none⟩)], .int .i64 (x.n : Int), .slice x.A x.l.length x.c, undef, undef, undef, undef, undef, undef, undef, undef, undef, undef, undef, undef, undef, undef, undef, undef, undef, undef, undef, undef, undef, undef, undef, undef, undef, undef, undef, undef, undef, undef, undef, undef], defers := [] }) ?assign ?body ?done ?stop
  case start =>
    exact ⟨⟨below_step HB0.out HBW.out, HBW.out.size, fun k hk _ => HBW.out.block k hk⟩, blk_lt HBN.out, blk_below HGMt.out HBW.out⟩
  case stop =>
    rintro D c0 pre W hD hok h hK
    exact h.elim
  case assign =>
    rintro l ⟨xn, xA, xc, xl⟩ W K hK
    simp only [LR.enc]
    gi_wp2
    exact hK
  case kb =>
    intro W l o o' hl hW _ _
    refine ⟨fun h => h.put (by have := HBW.out.size; omega) (by have := HBW.out.size; have := HB0.out.size; omega) o', World.putObj_heap_other ?_⟩
    have := blk_lt HBN.out
    omega
  case seq =>
    intro l J Jx W hb hJ hJx hY h0
    have hsy : SY w w0 gm W := (show SY w w0 gm W0 from ⟨below_step HB0.out HBW.out, HBW.out.size, fun k hk _ => HBW.out.block k hk⟩).below hb
    exact lines_in2 4 (by omega) l Bn w0 (some ⟨gb, 0, none⟩) cb s HS.out HC.out HCC.out J Jx hJ (SY w w0 gm) HRV.out (fun W A t h hC => h.C HGMt.out (by
      intro u hu
      have : u ∈ (List.replicate kv false).map Value.bool := by simpa [boolsA] using hu
      obtain ⟨b, _, rfl⟩ := List.mem_map.1 this
      exact ⟨b, rfl⟩) hC) (fun W W' h hb => h.below hb) (fun W v h => h.set HBNL.out (by have := HBNL.out; have := HB0.out.size; omega) v) hY W ((hb.block Bn (blk_lt HBN.out)).trans HBN.out) hsy h0
  case body =>
    rintro l pre ⟨xn, xA, xc, xl⟩ W hI hok
    have HI := Aside0.mk hI
    have hxl : xl ∈ dLines s := hok.px.subset (List.mem_map.2 ⟨⟨xn, xA, xc, xl⟩, List.mem_append_right _ (List.mem_singleton.2 rfl), rfl⟩)
    have hxs : xl.length ≤ 100000 := Nat.le_trans (dLines_mem s xl hxl) HS.out
    have hat := hok.at_ ⟨xn, xA, xc, xl⟩ (List.mem_append_right _ (List.mem_singleton.2 rfl))
    have HCX := Aside0.mk (show (Kd.int .u8).C W xA xl.length (bI xl) from hI.sy.C HGMt.out (by
      intro u hu
      have : u ∈ (List.replicate kv false).map Value.bool := by simpa [boolsA] using hu
      obtain ⟨b, _, rfl⟩ := List.mem_map.1 this
      exact ⟨b, rfl⟩) hat.1)
    have hxc : xl.length ≤ xc := hat.2
    obtain ⟨m0, hm0⟩ : ∃ m0, m0 = mOf (kv : Int) kv pre := ⟨_, rfl⟩
    have HM0L := Aside0.mk (show m0.length = kv by rw [hm0]; exact mOf_len _ _ _)
    have HMS := Aside0.mk (show mOf (kv : Int) kv (pre ++ [⟨xn, xA, xc, xl⟩]) = (dWords xl).foldl (dMark (kv : Int)) m0 by rw [hm0, mOf_snoc])
    have HM0 := Aside0.mk (show W.heap[gm]? = some (.cells (boolsA m0) 4 (0, 0)) by rw [hm0]; exact hI.rm)
    obtain ⟨ws, hws⟩ : ∃ ws, ws = dWords xl := ⟨_, rfl⟩
    have HWS := Aside0.mk hws
    have hwl : ws.length ≤ 100000 := by rw [hws]; exact Nat.le_trans (dWords_len xl) hxs
    have HWM := Aside0.mk (show ∀ x ∈ ws, x.length ≤ 100000 by rw [hws]; exact fun x hx => Nat.le_trans (dWords_mem xl x hx).2 hxs)
    have HX6 := Aside0.mk (blk_lt HG6t.out)
    have HX3 := Aside0.mk (blk_lt HG3t.out)
    have HN6 := Aside0.mk (blk_ne HG6t.out HGMt.out (by decide))
    have HN3 := Aside0.mk (blk_ne HG3t.out HGMt.out (by decide))
    clear hI hok hxl hat hm0 hws
    gi_wp2_with ((refine ⟨trivial, ?_⟩; gi_at_call 20; refine (CallsIn.inRound l (callsIn_wide.2 (words_calls xA xc xl W HCX.out hxc hxs))).mono ?_; rw [← HWS.out]; rintro e W1 ⟨v, rfl, hR, hb⟩; obtain ⟨Aw, cw, ev⟩ := Kd.R_slice hR; rw [List.length_map] at ev; subst ev; have HR := Aside0.mk hR; have HB1 := Aside0.mk hb; have HS1 := Aside0.mk (HI.out.sy.below hb); have HM1 := Aside0.mk (blk_below HM0.out hb); clear hR hb))
    gi_loopw [30] (fun v30 wr => ∃ (j : Nat), v30 = .int .i64 (j : Int) ∧ j ≤ ws.length ∧ Aside0 (SY w w0 gm wr) ∧ Aside0 (wr.heap[gm]? = some (.cells (boolsA ((ws.take j).foldl (dMark (kv : Int)) m0)) 4 (0, 0))) ∧ Aside0 (GB gm W1 wr)) (fun v _ => ws.length - (intOf v).toNat)
    case atStart => exact ⟨0, rfl, Nat.zero_le _, HS1, ⟨by rw [List.take_zero]; exact HM1.out⟩, ⟨GB.refl _ _⟩⟩
    case round =>
      obtain ⟨j, rfl, hj, HSJ, HMJ, HKJ⟩ := hrel
      by_cases hlt : j < ws.length
      · have t5 : decide ((j : Int) < (ws.length : Int)) = true := decide_eq_true (by omega)
        have t6 : decide (j < ws.length) = true := decide_eq_true hlt
        obtain ⟨x, hx⟩ : ∃ x, x = ws[j] := ⟨_, rfl⟩
        have HXZ := Aside0.mk (show x.length ≤ 100000 from HWM.out x (by rw [hx]; exact List.getElem_mem hlt))
        have HRJ := Aside0.mk (gb_R HR.out HM1.out HKJ.out)
        obtain ⟨aw, e1, hxw⟩ := Kd.at_string (Kd.R_reads' HRJ.out).2.2 (j : Int) (by omega) (by rw [List.length_map]; omega)
        cases e1
        rw [Int.toNat_natCast, show rdOf ByteArray.empty (ws.map baOf) (j : Int) = baOf x by
          unfold rdOf
          rw [Int.toNat_natCast, List.getD_eq_getElem?_getD, List.getElem?_map, List.getElem?_eq_getElem hlt, hx]
          rfl] at hxw
        have hc3 := (blk_cell ((HSJ.out.blk g3 HX3.out HN3.out).trans HG3t.out) 0).trans (show _ = some (Value.int .i64 (kv : Int)) from rfl)
        have hc6 := (blk_cell ((HSJ.out.blk g6 HX6.out HN6.out).trans HG6t.out) 0).trans (show _ = some (Value.slice (some ⟨gm, 0, none⟩) kv kv) from rfl)
        have hji : (0 : Int) ≤ (j : Int) := Int.natCast_nonneg _
        have hjl : (j : Int) < (ws.length : Int) := by omega
        have hj1 : (j : Int) + 1 ≤ 100000 := by omega
        obtain ⟨mj, hmj⟩ : ∃ mj, mj = (ws.take j).foldl (dMark (kv : Int)) m0 := ⟨_, rfl⟩
        have HMLEN := Aside0.mk (show mj.length = kv by rw [hmj, dMark_len]; exact HM0L.out)
        have hms : (ws.take (j + 1)).foldl (dMark (kv : Int)) m0 = dMark (kv : Int) mj x := by
          rw [List.take_succ_eq_append_getElem hlt, List.foldl_append, ← hmj, ← hx]
          rfl
        rw [← hmj] at HMJ
        obtain ⟨nv, b1, b2, hn⟩ : ∃ nv b1 b2, dNum x true (kv : Int) = (nv, b1, b2) := ⟨_, _, _, rfl⟩
        have HN := Aside0.mk hn
        have hle := dNum_le x (kv : Int) (Int.natCast_nonneg _)
        rw [hn] at hle
        have hdm : dMark (kv : Int) mj x = if b1 = true ∧ b2 = true ∧ 0 < nv then mj.set (nv - 1).toNat true else mj := by unfold dMark; rw [hn]
        rw [hdm] at hms
        simp only at hle
        clear hdm
        clear hmj hn hx
        by_cases hgo : b1 = true ∧ b2 = true ∧ 0 < nv
        · obtain ⟨rfl, rfl, hnp⟩ := hgo
          rw [if_pos ⟨rfl, rfl, hnp⟩] at hms
          obtain ⟨q, rfl⟩ : ∃ q : Nat, nv = (q : Int) + 1 := ⟨(nv - 1).toNat, by omega⟩
          have hqk := hle rfl
          have HQK := Aside0.mk (show q + 1 ≤ kv by omega)
          rw [show ((q : Int) + 1 - 1).toNat = q by omega] at hms
          have HMK := Aside0.mk hms
          have t7 : decide (0 < (q : Int) + 1) = true := decide_eq_true (by omega)
          have hq0 : (0 : Int) ≤ (q : Int) := Int.natCast_nonneg _
          have hq1 : (q : Int) < (kv : Int) := by omega
          have hq2 : (q : Int) + 1 ≤ 1048576 := by have := HKV.out; omega
          clear hms hle hnp
          gi_wp2_with (first | (refine ⟨trivial, ?_⟩; gi_at_call 36; have hp := number_calls (baOf x) true (kv : Int) (Int.natCast_nonneg _) (by have := HKV.out; omega) (show x.length ≤ 100000 by exact HXZ.out) wr ((HLT.out.on HSJ.out.bw).up HSJ.out.bw.size); rw [baOf_data, HN.out] at hp; refine (CallsIn.inRound l (callsIn_wide.2 hp)).mono ?_; clear hp; rintro e2 W2 ⟨rfl, hb⟩; have HS2 := Aside0.mk (HSJ.out.below hb); have HM2 := Aside0.mk (blk_below HMJ.out hb); have HK2 := Aside0.mk (HKJ.out.below hb); clear hc3 hc6; have hc6 := (blk_cell ((HS2.out.blk g6 HX6.out HN6.out).trans HG6t.out) 0).trans (show _ = some (Value.slice (some ⟨gm, 0, none⟩) kv kv) from rfl); clear hb hxw) | ((with_reducible refine gin_store (t := 4) (p := 52) rfl ?_); refine store_one_in (.inr ⟨l, rfl⟩) 4 52 (.const (.bool true)) rfl rfl rfl (off := q) (.bool true) (boolsA (mj.set q true)) rfl rfl HM2.out rfl nsz4 (show q + 1 ≤ (boolsA mj).size by rw [boolsA_size, HMLEN.out]; exact HQK.out) rfl (bools_set mj q) ?_; intro V2 hw hsb; have HV2 := Aside0.mk hw; have HSV2 := Aside0.mk hsb; clear hw hsb))
          go_roundw
          case rel => exact ⟨j + 1, by go_num, by omega, ⟨HS2.out.other HSV2.out (.inl rfl) HLM.out⟩, ⟨by rw [HMK.out]; exact HV2.out⟩, ⟨HK2.out.same HSV2.out⟩⟩
          case measure => simp [intOf]; omega
        · rw [if_neg hgo] at hms
          have HMK := Aside0.mk hms
          clear hms hle
          rcases b1 with _ | _
          · gi_wp2_with (refine ⟨trivial, ?_⟩; gi_at_call 36; have hp := number_calls (baOf x) true (kv : Int) (Int.natCast_nonneg _) (by have := HKV.out; omega) (show x.length ≤ 100000 by exact HXZ.out) wr ((HLT.out.on HSJ.out.bw).up HSJ.out.bw.size); rw [baOf_data, HN.out] at hp; refine (CallsIn.inRound l (callsIn_wide.2 hp)).mono ?_; clear hp; rintro e2 W2 ⟨rfl, hb⟩; have HS2 := Aside0.mk (HSJ.out.below hb); have HM2 := Aside0.mk (blk_below HMJ.out hb); have HK2 := Aside0.mk (HKJ.out.below hb); clear hc3 hc6; have hc6 := (blk_cell ((HS2.out.blk g6 HX6.out HN6.out).trans HG6t.out) 0).trans (show _ = some (Value.slice (some ⟨gm, 0, none⟩) kv kv) from rfl); clear hb hxw)
            go_roundw
            case rel => exact ⟨j + 1, by go_num, by omega, HS2, ⟨by rw [HMK.out]; exact HM2.out⟩, HK2⟩
            case measure => simp [intOf]; omega
          · rcases b2 with _ | _
            · gi_wp2_with (refine ⟨trivial, ?_⟩; gi_at_call 36; have hp := number_calls (baOf x) true (kv : Int) (Int.natCast_nonneg _) (by have := HKV.out; omega) (show x.length ≤ 100000 by exact HXZ.out) wr ((HLT.out.on HSJ.out.bw).up HSJ.out.bw.size); rw [baOf_data, HN.out] at hp; refine (CallsIn.inRound l (callsIn_wide.2 hp)).mono ?_; clear hp; rintro e2 W2 ⟨rfl, hb⟩; have HS2 := Aside0.mk (HSJ.out.below hb); have HM2 := Aside0.mk (blk_below HMJ.out hb); have HK2 := Aside0.mk (HKJ.out.below hb); clear hc3 hc6; have hc6 := (blk_cell ((HS2.out.blk g6 HX6.out HN6.out).trans HG6t.out) 0).trans (show _ = some (Value.slice (some ⟨gm, 0, none⟩) kv kv) from rfl); clear hb hxw)
              go_roundw
              case rel => exact ⟨j + 1, by go_num, by omega, HS2, ⟨by rw [HMK.out]; exact HM2.out⟩, HK2⟩
              case measure => simp [intOf]; omega
            · have t7 : decide (0 < nv) = false := decide_eq_false (fun h => hgo ⟨rfl, rfl, h⟩)
              clear hgo
              gi_wp2_with (refine ⟨trivial, ?_⟩; gi_at_call 36; have hp := number_calls (baOf x) true (kv : Int) (Int.natCast_nonneg _) (by have := HKV.out; omega) (show x.length ≤ 100000 by exact HXZ.out) wr ((HLT.out.on HSJ.out.bw).up HSJ.out.bw.size); rw [baOf_data, HN.out] at hp; refine (CallsIn.inRound l (callsIn_wide.2 hp)).mono ?_; clear hp; rintro e2 W2 ⟨rfl, hb⟩; have HS2 := Aside0.mk (HSJ.out.below hb); have HM2 := Aside0.mk (blk_below HMJ.out hb); have HK2 := Aside0.mk (HKJ.out.below hb); clear hc3 hc6; have hc6 := (blk_cell ((HS2.out.blk g6 HX6.out HN6.out).trans HG6t.out) 0).trans (show _ = some (Value.slice (some ⟨gm, 0, none⟩) kv kv) from rfl); clear hb hxw)
              go_roundw
              case rel => exact ⟨j + 1, by go_num, by omega, HS2, ⟨by rw [HMK.out]; exact HM2.out⟩, HK2⟩
              case measure => simp [intOf]; omega
      · have t5 : decide ((j : Int) < (ws.length : Int)) = false := decide_eq_false (by omega)
        have t6 : decide (j < ws.length) = false := decide_eq_false hlt
        obtain rfl : j = ws.length := by omega
        gi_wp2
        have hgw : GB gm W wr := ⟨Nat.le_trans HB1.out.size HKJ.out.sz, fun k hk hne => (HKJ.out.blk k (Nat.lt_of_lt_of_le hk HB1.out.size) hne).trans (HB1.out.block k hk)⟩
        refine ⟨hgw.keeps HM0.out, ⟨fun _ => HSJ.out, hgw.blk Bn HI.out.bn (by have := HBNL.out; have := blk_lt HGMt.out; omega)⟩, HSJ.out, Nat.lt_of_lt_of_le HI.out.bn hgw.sz, ?_⟩
        have h := HMJ.out
        rw [List.take_length] at h
        rw [HMS.out, ← HWS.out]
        exact h
  case done =>
    rintro D xs W hD ⟨hxs1, hok⟩ hI hK
    obtain ⟨m, hm⟩ : ∃ m, m = mOf (kv : Int) kv xs := ⟨_, rfl⟩
    have HML := Aside0.mk (show m.length = kv by rw [hm]; exact mOf_len _ _ _)
    have hm2 : m = ((dLines s).flatMap dWords).foldl (dMark (kv : Int)) (List.replicate kv false) := by rw [hm, ← hxs1]
    have HMD := Aside0.mk (show dModel s (kv : Int) = if dValues m = s then (m, 0) else ([], 21) by
      unfold dModel
      rw [if_neg HZ.out, Int.toNat_natCast, ← hm2])
    have HRM := Aside0.mk (show W.heap[gm]? = some (.cells (boolsA m) 4 (0, 0)) by rw [hm]; exact hI.rm)
    have HI := Aside0.mk hI
    have HK := Aside0.mk hK
    have HCB := Aside0.mk (show Kd.bool.C W (some ⟨gm, 0, none⟩) m.length m from C_bools m W gm (boolsA m) (by simp [boolsA]) HRM.out (by have := HML.out; have := HKV.out; omega))
    have hc6 := (blk_cell ((HI.out.sy.blk g6 (blk_lt HG6t.out) (blk_ne HG6t.out HGMt.out (by decide))).trans HG6t.out) 0).trans (show _ = some (Value.slice (some ⟨gm, 0, none⟩) kv kv) from rfl)
    obtain ⟨vB, hvB⟩ : ∃ vB, vB = baOf (dValues m) := ⟨_, rfl⟩
    have HVB := Aside0.mk hvB
    clear hxs1 hok hI hK hm hm2 hvB
    by_cases hq : dValues m = s
    · have hvs : vB = sB := by rw [HVB.out, HSB.out, hq]
      have HQ := Aside0.mk hq
      clear hq
      gi_wp2_with (refine ⟨trivial, ?_⟩; gi_at_call 14; have hp := values_calls (some ⟨gm, 0, none⟩) kv m W HCB.out (by rw [HML.out]; exact Nat.le_refl _) (by have := HML.out; have := HKV.out; omega) ((HLT.out.on HI.out.sy.bw).up HI.out.sy.bw.size); rw [HML.out, ← HVB.out] at hp; refine (callsIn_wide.2 hp).mono ?_; clear hp; rintro e W2 ⟨rfl, hb⟩; have HB2 := Aside0.mk hb; have HK2 := Aside0.mk (blk_below HK.out hb); have HRM2 := Aside0.mk (blk_below HRM.out hb); have hc6' := (blk_cell (blk_below ((HI.out.sy.blk g6 (blk_lt HG6t.out) (blk_ne HG6t.out HGMt.out (by decide))).trans HG6t.out) hb) 0).trans (show _ = some (Value.slice (some ⟨gm, 0, none⟩) kv kv) from rfl); clear hb hc6)
      refine ⟨by simp, .inl ⟨_, _, rfl, run_takeDeferred HK2.out, ?_⟩⟩
      refine ⟨.tuple #[.slice (some ⟨gm, 0, none⟩) kv kv, .int .i64 0], by simp [results, Tryd.f17, go_sem], ?_⟩
      have hD : w.heap.size ≤ D ∧ gm < D := by have h1 := blk_lt HGMt.out; have h2 := HB0.out.size; have h3 := HBW.out.size; omega
      have hbf : Below w.heap.size w (W2.putObj D (.deferred none)) := (below_step HI.out.sy.bw HB2.out).grown (grownBy_putObj' _ D (.deferred none)) (below_step HI.out.sy.bw HB2.out).size (fun k e => by cases e; exact hD.1)
      rw [HMD.out, if_pos HQ.out]
      have hk := HML.out
      subst hk
      exact ⟨_, _, rfl, C_bools m _ gm (boolsA m) (by simp [boolsA]) ((World.putObj_heap_other (by omega)).trans HRM2.out) (by have := HKV.out; omega), Nat.le_refl _, hbf⟩
    · have hne : vB ≠ sB := by
        intro e
        rw [HVB.out, HSB.out] at e
        exact hq (by have := congrArg (fun z : ByteArray => z.data.toList) e; simpa [baOf_data] using this)
      have hvs1 : (vB.toList == sB.toList) = false := by
        rw [HVB.out, HSB.out, beq_eq_false_iff_ne]
        intro e
        have h1 := word_eq (dValues m) (baOf s).toList
        have h2 := word_eq s (baOf s).toList
        rw [e, beq_self_eq_true] at h1
        rw [beq_self_eq_true] at h2
        exact hq ((of_decide_eq_true h1.symm).trans (of_decide_eq_true h2.symm).symm)
      have HQ := Aside0.mk hq
      clear hq
      gi_wp2_with (refine ⟨trivial, ?_⟩; gi_at_call 14; have hp := values_calls (some ⟨gm, 0, none⟩) kv m W HCB.out (by rw [HML.out]; exact Nat.le_refl _) (by have := HML.out; have := HKV.out; omega) ((HLT.out.on HI.out.sy.bw).up HI.out.sy.bw.size); rw [HML.out, ← HVB.out] at hp; refine (callsIn_wide.2 hp).mono ?_; clear hp; rintro e W2 ⟨rfl, hb⟩; have HB2 := Aside0.mk hb; have HK2 := Aside0.mk (blk_below HK.out hb); have HRM2 := Aside0.mk (blk_below HRM.out hb); have hc6' := (blk_cell (blk_below ((HI.out.sy.blk g6 (blk_lt HG6t.out) (blk_ne HG6t.out HGMt.out (by decide))).trans HG6t.out) hb) 0).trans (show _ = some (Value.slice (some ⟨gm, 0, none⟩) kv kv) from rfl); clear hb hc6)
      refine ⟨by simp, .inl ⟨_, _, rfl, run_takeDeferred HK2.out, ?_⟩⟩
      refine ⟨.tuple #[.slice none 0 0, .int .i64 21], by simp [results, Tryd.f17, go_sem], ?_⟩
      have hD : w.heap.size ≤ D ∧ gm < D := by have h1 := blk_lt HGMt.out; have h2 := HB0.out.size; have h3 := HBW.out.size; omega
      have hbf : Below w.heap.size w (W2.putObj D (.deferred none)) := (below_step HI.out.sy.bw HB2.out).grown (grownBy_putObj' _ D (.deferred none)) (below_step HI.out.sy.bw HB2.out).size (fun k e => by cases e; exact hD.1)
      rw [HMD.out, if_neg HQ.out]
      exact ⟨none, 0, rfl, Kd.C_nil _ _, Nat.le_refl _, hbf⟩
end Go.Proofs.YtigloobbpcnnhaaDoor.PB
end
