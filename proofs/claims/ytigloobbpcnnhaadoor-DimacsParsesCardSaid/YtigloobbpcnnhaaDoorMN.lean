import Derived.Test.YtigloobbpcnnhaaDoorMB
import Derived.Test.YtigloobbpcnnhaaDoorM2
import Derived.Test.YtigloobbpcnnhaaDoorM4
import Derived.Test.YtigloobbpcnnhaaDoorM9
import Derived.Laws.Tables
section
namespace Go.Proofs.YtigloobbpcnnhaaDoor.PB
open Go.RowKit Go.Proofs.YtigloobbpcnnhaaDoorW.PrintWords Go.Proofs.YtigloobbpcnnhaaDoorW.PrintLast Go.Proofs.YtigloobbpcnnhaaDoorW.PrintMore
set_option linter.unusedVariables false
set_option linter.unusedSimpArgs false
/-! ### The reference's Parse: the pure part -/
theorem blank_fold : ∀ (ls : List (List UInt8)) (n : Nat) (p : DP), (∀ l ∈ ls, dWords l = []) → ls.foldl dLine ⟨0, n, false, p⟩ = ⟨0, n + ls.length, false, p⟩ := by
  intro ls
  induction ls with
  | nil => intro n p _; rfl
  | cons l ls ih =>
    intro n p h
    have e : dLine ⟨0, n, false, p⟩ l = ⟨0, n + 1, false, p⟩ := by
      unfold dLine
      rw [if_neg (fun h => h rfl), if_pos rfl, if_pos (h l List.mem_cons_self)]
    rw [List.foldl_cons, e, ih (n + 1) p (fun x hx => h x (List.mem_cons_of_mem _ hx)), List.length_cons]
    congr 1
    omega
theorem blank_state (ls : List (List UInt8)) (h : ∀ l ∈ ls, dWords l = []) : dState ls = ⟨0, ls.length, false, DP.init⟩ := by
  have := blank_fold ls 0 DP.init h
  rw [Nat.zero_add] at this
  exact this
/-- Does a line count? -/
theorem dS_counts (l : List UInt8) : (!(dS l).f1 && decide ((dS l).f0 ≠ [])) = decide (dWords l ≠ []) := by
  unfold dS dRem
  by_cases h : l.head? = some 99
  · have : dWords l = [] := by unfold dWords; rw [if_pos h]
    rw [this, h]
    rfl
  · rw [show (l.head? == some 99) = false from beq_eq_false_iff_ne.2 h]
    by_cases hw : dWords l = []
    · rw [hw]; rfl
    · rw [decide_eq_true hw]
      have : (dWords l).map baOf ≠ [] := fun e => hw (List.map_eq_nil_iff.1 e)
      rw [decide_eq_true this]
      rfl
/-- Where the head stands. -/
def dAt (ls : List (List UInt8)) : Int := match (ls.map dS).findIdx? (fun x => !x.f1 && decide (x.f0 ≠ [])) with | some j => ((j : Nat) : Int) | none => -1
theorem dAt_none (ls : List (List UInt8)) (h : dAt ls < 0) : ∀ l ∈ ls, dWords l = [] := by
  unfold dAt at h
  cases e : (ls.map dS).findIdx? (fun x => !x.f1 && decide (x.f0 ≠ [])) with
  | some j => rw [e] at h; simp only at h; omega
  | none =>
    intro l hl
    rw [List.findIdx?_eq_none_iff] at e
    have := e (dS l) (List.mem_map.2 ⟨l, hl, rfl⟩)
    rw [dS_counts] at this
    exact Classical.byContradiction fun hne => by rw [decide_eq_true hne] at this; cases this
theorem dAt_some (ls : List (List UInt8)) (h : 0 ≤ dAt ls) : ∃ a : Nat, dAt ls = (a : Int) ∧ ∃ ha : a < ls.length, dWords ls[a] ≠ [] ∧ ∀ l ∈ ls.take a, dWords l = [] := by
  unfold dAt at h ⊢
  cases e : (ls.map dS).findIdx? (fun x => !x.f1 && decide (x.f0 ≠ [])) with
  | none => rw [e] at h; simp only at h; omega
  | some j =>
    rw [List.findIdx?_eq_some_iff_getElem] at e
    obtain ⟨hj, h1, h2⟩ := e
    rw [List.length_map] at hj
    refine ⟨j, rfl, hj, ?_, ?_⟩
    · rw [List.getElem_map, dS_counts] at h1
      exact of_decide_eq_true h1
    · intro l hl
      obtain ⟨i, hi, rfl⟩ := List.getElem_of_mem hl
      rw [List.length_take] at hi
      have := h2 i (by omega)
      rw [List.getElem_map, dS_counts] at this
      rw [List.getElem_take]
      simpa using this
theorem parse_none (b : List UInt8) (h : dAt (dLines b) < 0) : dParse b = ((0, []), 20, ((dLines b).length : Int) + 1) := by
  unfold dParse
  rw [blank_state _ (dAt_none _ h)]
  rfl
theorem take_line (ls : List (List UInt8)) (i : Nat) (h : i < ls.length) : dState (ls.take (i + 1)) = dLine (dState (ls.take i)) ls[i] := by
  rw [List.take_succ_eq_append_getElem h, dState_snoc]
theorem parse_err (b : List UInt8) (i : Nat) (e : Int) (hd : Bool) (p : DP) (n : Nat) (he : e ≠ 0) (h : dState ((dLines b).take i) = ⟨e, n, hd, p⟩) : dParse b = ((0, []), e, (n : Int)) := by
  unfold dParse
  conv => lhs; rw [← List.take_append_drop i (dLines b)]
  rw [dState_pre _ _ (by rw [h]; exact he), h]
  unfold dFinal
  rw [if_pos he]
theorem head_state (ls : List (List UInt8)) (a : Nat) (ha : a < ls.length) (hw : dWords ls[a] ≠ []) (hb : ∀ l ∈ ls.take a, dWords l = []) (e : Int) (p : DP) (hh : dHead DP.init (dWords ls[a]) = (e, p)) : dState (ls.take (a + 1)) = ⟨e, a + 1, true, p⟩ := by
  rw [take_line ls a ha, blank_state _ hb, List.length_take, Nat.min_eq_left (by omega)]
  unfold dLine
  rw [if_neg (fun h => h rfl), if_pos rfl, if_neg hw, hh]
theorem line_state (ls : List (List UInt8)) (i : Nat) (hi : i < ls.length) (p : DP) (h : dState (ls.take i) = ⟨0, i, true, p⟩) (e : Int) (p' : DP) (hw : dWordsL p (dWords ls[i]) = (e, p')) : dState (ls.take (i + 1)) = ⟨e, i + 1, true, p'⟩ := by
  rw [take_line ls i hi, h]
  unfold dLine
  rw [if_neg (fun h => h rfl), if_neg (by simp), hw]
theorem words_next (p : DP) (x : List UInt8) (r : List (List UInt8)) (p' : DP) (h : dWord p x = (0, p')) : dWordsL p (x :: r) = dWordsL p' r := by
  rw [dWordsL, h]
  rw [if_neg (fun h => h rfl)]
theorem words_stop (p : DP) (x : List UInt8) (r : List (List UInt8)) (e : Int) (p' : DP) (he : e ≠ 0) (h : dWord p x = (e, p')) : dWordsL p (x :: r) = (e, p') := by
  rw [dWordsL, h, if_pos he]
theorem parse_fin (b : List UInt8) (p : DP) (h : dState (dLines b) = ⟨0, (dLines b).length, true, p⟩) : dParse b = if p.opn ≠ [] ∨ (p.cls.length : Int) < p.want then ((0, []), 23, ((dLines b).length : Int) + 1) else ((p.vars, p.cls), 0, 0) := by
  unfold dParse
  rw [h]
  unfold dFinal
  rw [if_neg (fun h => h rfl), if_neg (by simp)]
end Go.Proofs.YtigloobbpcnnhaaDoor.PB
end

section
namespace Go.Proofs.YtigloobbpcnnhaaDoor.PB
open Go.RowKit Go.Proofs.YtigloobbpcnnhaaDoorW.PrintWords Go.Proofs.YtigloobbpcnnhaaDoorW.PrintLast Go.Proofs.YtigloobbpcnnhaaDoorW.PrintMore
set_option linter.unusedVariables false
set_option linter.unusedSimpArgs false
/-! ### The reference's Parse -/
theorem drawn_below {w w' : World} (h : Drawn0 w w') : Below w.heap.size w w' := by obtain ⟨q, rfl⟩ := h; exact pw_below_drewN (Below.refl _ _) q
theorem dHead_not (p : DP) (ws : List (List UInt8)) (h : ws.length ≠ 4) : dHead p ws = (20, p) := by
  unfold dHead
  split
  · exact absurd rfl h
  · rfl
/-- The reference's formula (block g) and its open clause (v3). -/
structure FS (g b1 : Nat) (v3 : Value) (p : DP) (W : World) : Prop where
  ex : ∃ A1 c1 A3 c3, v3 = .slice A3 p.opn.length c3 ∧ W.heap[g]? = some (.cells #[.int .i64 p.vars, .slice A1 p.cls.length c1] 25 (0, 0)) ∧ kcs.R 50 W b1 (fun k => some k ≠ (Value.slice A3 p.opn.length c3).ownBlock) (.slice A1 p.cls.length c1) p.cls ∧ (Kd.int .i32).R 67 W b1 (fun _ => True) (.slice A3 p.opn.length c3) p.opn
  top : b1 ≤ W.heap.size
theorem FS.below {g b1 : Nat} {v3 : Value} {p : DP} {W W' : World} (h : FS g b1 v3 p W) (hb : Below W.heap.size W W') : FS g b1 v3 p W' := by
  obtain ⟨A1, c1, A3, c3, e, h0, h1, h2⟩ := h.ex
  exact ⟨⟨A1, c1, A3, c3, e, blk_below h0 hb, Kd.R_below h1 hb, Kd.R_below h2 hb⟩, Nat.le_trans h.top hb.size⟩
theorem built0 : Tryd.prog.built 25 [] = some #[.int .i64 0, .slice none 0 0] := by kernel_rfl
theorem built1 (x : Int) : Tryd.prog.built 25 [(0, .int .i64 x)] = some #[.int .i64 x, .slice none 0 0] := by kernel_rfl
section
variable {ops : Array Oper} {rest : List Oper} {o : Oper} {a : Act} {W : World} {Q : Exit → Act → World → Prop}
theorem build_event (hgd : o.guard = none) (parts : Array (Nat × Operand)) (ho : o.op = .build 25 parts) (cs : Array Value) (hb : Tryd.prog.built 25 (parts.map fun (i, x) => (i, a.eval x)).toList = some cs) (h : wpList Tryd.prog ops Q rest (a.put o.dst (.agg cs)) W) : wpList Tryd.prog ops Q (o :: rest) a W := by
  refine Kd.event_run hgd (v := .agg cs) (w1 := W) ?_ h
  unfold execOp
  simp only [ho, Sem.run_bind, run_build W 25 _ cs hb, Result.andThen_ok]
  rfl
end
set_option maxHeartbeats 4000000 in
set_option maxRecDepth 100000 in
theorem rparse_calls (ad : Addr) (c : Nat) (b : List UInt8) (w : World) (hC : (Kd.int .u8).C w (some ad) b.length (bI b)) (hc : b.length ≤ c) (hs : b.length ≤ 100000) :
    Calls Tryd.prog 8 #[.slice (some ad) b.length c] w fun e w' => ∃ A cc, e = .returned (.tuple #[.agg #[.int .i64 (dParse b).1.1, .slice A (dParse b).1.2.length cc], .int .i64 (dParse b).2.1, .int .i64 (dParse b).2.2]) ∧ kcs.C w' A (dParse b).1.2.length (dParse b).1.2 ∧ (dParse b).1.2.length ≤ cc ∧ Below w.heap.size w w' := by
  have HC := Aside0.mk hC
  have HCC := Aside0.mk hc
  have HS := Aside0.mk hs
  obtain ⟨LS, hLS⟩ : ∃ LS, LS = (dLines b).map dS := ⟨_, rfl⟩
  have hLL : LS.length = (dLines b).length := by rw [hLS, List.length_map]
  have HLS := Aside0.mk hLS
  have HLL := Aside0.mk hLL
  have hnb := (dLines_sum b).2
  have HNB := Aside0.mk (show LS.length ≤ 100000 by omega)
  obtain ⟨kl, hkl⟩ := (rlines_ev b (by omega)).rounds
  rw [← hLS] at hkl
  have HKL := Aside0.mk hkl
  obtain ⟨atv, hat⟩ : ∃ atv, atv = dAt (dLines b) := ⟨_, rfl⟩
  obtain ⟨kh, hkh⟩ := (rhead_ev LS (by omega)).rounds
  have HKH := Aside0.mk (show threshingref02_head.f kh LS = some atv by rw [hkh, hat, hLS]; rfl)
  have HAT := Aside0.mk hat
  obtain ⟨W0, hW0⟩ : ∃ W0, W0 = w.alloc (.cells #[.int .i64 0, .slice none 0 0] 25) := ⟨_, rfl⟩
  obtain ⟨g2, hg2⟩ : ∃ g2, g2 = w.heap.size := ⟨_, rfl⟩
  have HG0 := Aside0.mk (show W0.heap[g2]? = some (.cells #[.int .i64 0, .slice none 0 0] 25 (0, 0)) by rw [hW0, hg2]; exact blk_new w _)
  have HC0 := Aside0.mk (show (Kd.int .u8).C W0 (some ad) b.length (bI b) by rw [hW0]; exact Kd.C_below hC (below_alloc (Below.refl _ _) _))
  have HB0 := Aside0.mk (show Below w.heap.size w W0 by rw [hW0]; exact below_alloc (Below.refl _ _) _)
  have HL2 := Aside0.mk (show w.heap.size ≤ g2 by rw [hg2]; exact Nat.le_refl _)
  clear hC hc hs hLS hLL hnb hkl hkh hat
  by_cases hneg : atv < 0
  · have t1 : decide (atv < 0) = true := decide_eq_true hneg
    have HPN := Aside0.mk (show dParse b = ((0, []), 20, (LS.length : Int) + 1) by rw [HLL.out]; exact parse_none b (by rw [← HAT.out]; exact hneg))
    have hl1 : (LS.length : Int) + 1 ≤ 100001 := by have := HNB.out; omega
    go_enter Tryd.func8, Tryd.ntmps8
    go_wp2_with (first | (go_at_call 24; rw [← hW0, ← hg2]; have hp := threshingref02_Lines.calls kl (some ad) c (bI b) LS W0 (by rw [bI_length]; exact HC0.out) (by rw [bI_length]; exact HCC.out) HKL.out; rw [bI_length] at hp; refine hp.mono ?_; clear hp; rintro e w1 ⟨vl, rfl, hS, hb⟩; obtain ⟨Al, cl, rfl⟩ := Kd.S_slice hS; have HL1 := Aside0.mk (Kd.S_reads' hS).2.2; have HLC := Aside0.mk (Kd.S_reads' hS).2.1; have HG1 := Aside0.mk (blk_below HG0.out hb); have HB1 := Aside0.mk (below_step HB0.out hb); clear hS hb hW0 hg2) | (go_at_call 25; refine (threshingref02_head.calls kh Al cl LS atv w1 HL1.out HLC.out HKH.out).mono ?_; rintro e w2 ⟨rfl, hdr⟩; have hb : Below w1.heap.size w1 w2 := drawn_below hdr; have HW2 := Aside0.mk hb; have HL := Aside0.mk (Kd.C_below HL1.out hb); have HG2 := Aside0.mk (blk_below HG1.out hb); have HB2 := Aside0.mk (below_step HB1.out hb); clear hdr hb) | ((with_reducible refine gate_dst (N := 28) rfl ?_); refine build_event rfl #[] rfl _ built0 ?_) | ((with_reducible refine gate_store (t := 25) (p := 2) rfl ?_); refine store_two 25 2 (.tmp 28) rfl rfl rfl (.int .i64 0) (.slice none 0 0) #[.int .i64 0, .slice none 0 0] rfl (by first | rfl | (simp; done) | (go_simp; rfl)) HG2.out nsz25 (Nat.le_refl 2) rfl rfl rfl ?_; intro wz hw hsb; have HWZ := Aside0.mk hw; have HSZ := Aside0.mk hsb; clear hw hsb))
    refine bodyPost_ret (v := .tuple #[.agg #[.int .i64 0, .slice none 0 0], .int .i64 (20), .int .i64 ((LS.length : Int) + 1)]) (by have hz0 := (blk_cell HWZ.out 0).trans (show _ = some (Value.int .i64 0) from rfl); have hz1 := (blk_cell HWZ.out 1).trans (show _ = some (Value.slice none 0 0) from rfl); simp [results, Tryd.f8, go_sem, hz0, hz1]) rfl ?_
    rw [HPN.out]
    exact ⟨none, 0, rfl, Kd.C_nil _ _, Nat.le_refl _, HSZ.out.below HB2.out HL2.out⟩
  obtain ⟨a, hae, hal, hwne, hblk⟩ := dAt_some (dLines b) (by rw [← HAT.out]; omega)
  obtain rfl : atv = (a : Int) := by rw [HAT.out, hae]
  obtain ⟨LW, hLW⟩ : ∃ LW, LW = (dLines b)[a] := ⟨_, rfl⟩
  obtain ⟨ws, hws⟩ : ∃ ws, ws = dWords LW := ⟨_, rfl⟩
  have HRD := Aside0.mk (show rd_T64 LS (a : Int) = dS LW by
    unfold rd_T64
    rw [Int.toNat_natCast, HLS.out, List.getD_eq_getElem?_getD, List.getElem?_map, List.getElem?_eq_getElem hal, hLW]
    rfl)
  have HFW := Aside0.mk (show (dS LW).f0 = ws.map baOf by rw [hws]; rfl)
  have HF0 := Aside0.mk (show (dS LW).f0.length = ws.length by rw [HFW.out, List.length_map])
  have HAL := Aside0.mk (show a < LS.length by rw [HLL.out]; exact hal)
  have HST := Aside0.mk (show ∀ (e : Int) (p : DP), dHead DP.init ws = (e, p) → dState ((dLines b).take (a + 1)) = ⟨e, a + 1, true, p⟩ from fun e p h => head_state (dLines b) a hal hwne hblk e p (by rw [← hLW, ← hws]; exact h))
  have HWX := Aside0.mk (show ∀ x ∈ ws, x.length ≤ 100000 by
    intro x hx
    rw [hws] at hx
    have h1 := (dWords_mem LW x hx).2
    have h2 := dLines_mem b LW (by rw [hLW]; exact List.getElem_mem hal)
    have := HS.out
    omega)
  have t1 : decide ((a : Int) < 0) = false := decide_eq_false hneg
  have hpa0 : (0 : Int) ≤ (a : Int) := Int.natCast_nonneg _
  have hpa1 : (a : Int) < (LS.length : Int) := by have := HAL.out; omega
  have hpa2 : (a : Int) + 1 ≤ 100001 := by have := HAL.out; have := HNB.out; omega
  clear hLW hws hwne hblk hae hneg
  go_enter Tryd.func8, Tryd.ntmps8
  have TN1 := Aside0.mk trivial
  go_upto_region 6 with (first | (go_at_call 24; rw [← hW0, ← hg2]; have hp := threshingref02_Lines.calls kl (some ad) c (bI b) LS W0 (by rw [bI_length]; exact HC0.out) (by rw [bI_length]; exact HCC.out) HKL.out; rw [bI_length] at hp; refine hp.mono ?_; clear hp; rintro e w1 ⟨vl, rfl, hS, hb⟩; obtain ⟨Al, cl, rfl⟩ := Kd.S_slice hS; have HL1 := Aside0.mk (Kd.S_reads' hS).2.2; have HLC := Aside0.mk (Kd.S_reads' hS).2.1; have HG1 := Aside0.mk (blk_below HG0.out hb); have HB1 := Aside0.mk (below_step HB0.out hb); clear hS hb hW0 hg2) | (go_at_call 25; refine (threshingref02_head.calls kh Al cl LS (a : Int) w1 HL1.out HLC.out HKH.out).mono ?_; rintro e w2 ⟨rfl, hdr⟩; have hb : Below w1.heap.size w1 w2 := drawn_below hdr; have HW2 := Aside0.mk hb; have HL := Aside0.mk (Kd.C_below HL1.out hb); have HG2 := Aside0.mk (blk_below HG1.out hb); have HB2 := Aside0.mk (below_step HB1.out hb); clear hdr hb; obtain ⟨adl, Aw, cw, e1, hx0, hx1, hlw, hCw⟩ := at_T64 HL.out (a : Int) (Int.natCast_nonneg _) (by have := HAL.out; omega); cases e1; rw [HRD.out, Int.toNat_natCast, HF0.out] at hx0; rw [HRD.out, HF0.out] at hlw; rw [HRD.out, HF0.out, HFW.out] at hCw; have HWC := Aside0.mk hCw; have HWL := Aside0.mk hlw; clear hx1 hlw hCw))
  have HPE := Aside0.mk (show ∀ (e : Int) (p : DP), e ≠ 0 → dHead DP.init ws = (e, p) → dParse b = ((0, []), e, (a : Int) + 1) from fun e p he h => by
    rw [parse_err b (a + 1) e true p (a + 1) he (HST.out e p h)]
    rfl)
  by_cases h4 : ws.length = 4
  · obtain ⟨L, hL⟩ : ∃ L, L = ws.length := ⟨_, rfl⟩
    have HWC4 := Aside0.mk (show Kd.string.C w2 Aw 4 (ws.map baOf) by have := HWC.out; rw [h4] at this; exact this)
    have hL4 : L = 4 := hL.trans h4
    rw [← hL]
    clear hL hx0
    subst hL4
    obtain ⟨x0, x1, x2, x3, rfl⟩ := four_of ws h4
    have at_ : ∀ (i : Nat) (x : List UInt8), i < 4 → ([x0, x1, x2, x3] : List (List UInt8))[i]? = some x → ∃ ad, Aw = some ad ∧ w2.cell? (ad.add i) = some (.string (baOf x)) := by
      intro i x hi hx
      obtain ⟨ad, e, h⟩ := Kd.at_string HWC4.out (i : Int) (by omega) (by show (i : Int) < 4; omega)
      refine ⟨ad, e, ?_⟩
      rw [Int.toNat_natCast] at h
      rw [h]
      congr 2
      unfold rdOf
      rw [Int.toNat_natCast, List.getD_eq_getElem?_getD, List.getElem?_map, hx]
      rfl
    obtain ⟨adw, e1, q0⟩ := at_ 0 x0 (by omega) rfl
    cases e1
    obtain ⟨ad', e1, q1⟩ := at_ 1 x1 (by omega) rfl
    cases e1
    obtain ⟨ad', e1, q2⟩ := at_ 2 x2 (by omega) rfl
    cases e1
    obtain ⟨ad', e1, q3⟩ := at_ 3 x3 (by omega) rfl
    cases e1
    have af : ∀ i, 0 < i → adw.add i = ⟨adw.block, adw.off + i, none⟩ := fun i hi => by
      have := add_field adw 0 i hi
      rw [Nat.zero_add, show adw.add 0 = adw from by cases adw; rfl] at this
      exact this
    rw [af 1 (by omega)] at q1
    rw [af 2 (by omega)] at q2
    rw [af 3 (by omega)] at q3
    clear af at_
    rw [show adw.add 0 = adw from by cases adw; rfl] at q0
    have Q3 := Aside0.mk q3
    obtain ⟨n1, i1, f1, hn1⟩ : ∃ n is fits, dNum x2 false 1048576 = (n, is, fits) := ⟨_, _, _, rfl⟩
    obtain ⟨n2, i2, f2, hn2⟩ : ∃ n is fits, dNum x3 false 1048576 = (n, is, fits) := ⟨_, _, _, rfl⟩
    have hw := dHead_four DP.init x0 x1 x2 x3 n1 n2 i1 i2 f1 f2 hn1 hn2
    obtain ⟨k2, hk2⟩ := (rnumber_ev x2 false 1048576 (by omega) (by omega) (by have := HWX.out x2 (by simp); omega)).rounds
    obtain ⟨k3, hk3⟩ := (rnumber_ev x3 false 1048576 (by omega) (by omega) (by have := HWX.out x3 (by simp); omega)).rounds
    rw [hn1] at hk2
    rw [hn2] at hk3
    have HK2 := Aside0.mk hk2
    have HK3 := Aside0.mk hk3
    have hr1 := dNum_range x2 false 1048576 (by omega)
    have hr2 := dNum_range x3 false 1048576 (by omega)
    rw [hn1] at hr1
    rw [hn2] at hr2
    have HR1 := Aside0.mk hr1
    have HR2 := Aside0.mk hr2
    have wa := word_eq x0 [112]
    have wb := word_eq x1 [99, 110, 102]
    clear hn1 hn2 hk2 hk3 hr1 hr2 q3
    have HHW := Aside0.mk hw
    by_cases ha : x0 = [112]
    · have t2 : ((baOf x0).toList == ([112] : List UInt8)) = true := by rw [wa]; exact decide_eq_true ha
      have t2n : ((baOf x0).toList != ([112] : List UInt8)) = false := by rw [bne, t2]; rfl
      by_cases hb : x1 = [99, 110, 102]
      · have t3 : ((baOf x1).toList == ([99, 110, 102] : List UInt8)) = true := by rw [wb]; exact decide_eq_true hb
        have t3n : ((baOf x1).toList != ([99, 110, 102] : List UInt8)) = false := by rw [bne, t3]; rfl
        rw [if_neg (by simp [ha, hb])] at hw
        clear wa wb ha hb
        go_upto_region 10 with (first | (go_at_call 26; have := TN1; clear TN1 this; refine (threshingref02_Number.calls k2 (baOf x2) false 1048576 n1 i1 f1 w2 HK2.out).mono ?_; rintro e w3 ⟨rfl, hdr⟩; have hb := drawn_below hdr; have q3 := pw_cell_below hb Q3.out; have HW3 := Aside0.mk (below_step HW2.out hb); have HG3 := Aside0.mk (blk_below HG2.out hb); have HB3 := Aside0.mk (below_step HB2.out hb); clear hdr hb q0 q1 q2) | (go_at_call 26; refine (threshingref02_Number.calls k3 (baOf x3) false 1048576 n2 i2 f2 w3 HK3.out).mono ?_; rintro e w4 ⟨rfl, hdr⟩; have hb := drawn_below hdr; have HW4 := Aside0.mk (below_step HW3.out hb); have HG4 := Aside0.mk (blk_below HG3.out hb); have HB4 := Aside0.mk (below_step HB3.out hb); clear hdr hb q3))
        rcases i1 with _ | _
        · have HPR := Aside0.mk (HPE.out 20 _ (by decide) (by rw [hw, if_pos (.inl rfl)]))
          clear hw
          go_wp2_with (first | ((with_reducible refine gate_dst (N := 77) rfl ?_); refine build_event rfl #[] rfl _ built0 ?_) | ((with_reducible refine gate_store (t := 25) (p := 2) rfl ?_); refine store_two 25 2 (.tmp 77) rfl rfl rfl (.int .i64 0) (.slice none 0 0) #[.int .i64 0, .slice none 0 0] rfl (by first | rfl | (simp; done) | (go_simp; rfl)) HG4.out nsz25 (Nat.le_refl 2) rfl rfl rfl ?_; intro wz hw hsb; have HWZ := Aside0.mk hw; have HSZ := Aside0.mk hsb; clear hw hsb))
          refine bodyPost_ret (v := .tuple #[.agg #[.int .i64 0, .slice none 0 0], .int .i64 (20), .int .i64 ((a : Int) + 1)]) (by have hz0 := (blk_cell HWZ.out 0).trans (show _ = some (Value.int .i64 0) from rfl); have hz1 := (blk_cell HWZ.out 1).trans (show _ = some (Value.slice none 0 0) from rfl); simp [results, Tryd.f8, go_sem, hz0, hz1]) rfl ?_
          rw [HPR.out]
          exact ⟨none, 0, rfl, Kd.C_nil _ _, Nat.le_refl _, HSZ.out.below HB4.out HL2.out⟩
        rcases i2 with _ | _
        · have HPR := Aside0.mk (HPE.out 20 _ (by decide) (by rw [hw, if_pos (.inr rfl)]))
          clear hw
          go_wp2_with (first | ((with_reducible refine gate_dst (N := 77) rfl ?_); refine build_event rfl #[] rfl _ built0 ?_) | ((with_reducible refine gate_store (t := 25) (p := 2) rfl ?_); refine store_two 25 2 (.tmp 77) rfl rfl rfl (.int .i64 0) (.slice none 0 0) #[.int .i64 0, .slice none 0 0] rfl (by first | rfl | (simp; done) | (go_simp; rfl)) HG4.out nsz25 (Nat.le_refl 2) rfl rfl rfl ?_; intro wz hw hsb; have HWZ := Aside0.mk hw; have HSZ := Aside0.mk hsb; clear hw hsb))
          refine bodyPost_ret (v := .tuple #[.agg #[.int .i64 0, .slice none 0 0], .int .i64 (20), .int .i64 ((a : Int) + 1)]) (by have hz0 := (blk_cell HWZ.out 0).trans (show _ = some (Value.int .i64 0) from rfl); have hz1 := (blk_cell HWZ.out 1).trans (show _ = some (Value.slice none 0 0) from rfl); simp [results, Tryd.f8, go_sem, hz0, hz1]) rfl ?_
          rw [HPR.out]
          exact ⟨none, 0, rfl, Kd.C_nil _ _, Nat.le_refl _, HSZ.out.below HB4.out HL2.out⟩
        rw [if_neg (by simp)] at hw
        rcases f1 with _ | _
        · have HPR := Aside0.mk (HPE.out 22 _ (by decide) (by rw [hw, if_pos (.inl rfl)]))
          clear hw
          go_wp2_with (first | ((with_reducible refine gate_dst (N := 86) rfl ?_); refine build_event rfl #[] rfl _ built0 ?_) | ((with_reducible refine gate_store (t := 25) (p := 2) rfl ?_); refine store_two 25 2 (.tmp 86) rfl rfl rfl (.int .i64 0) (.slice none 0 0) #[.int .i64 0, .slice none 0 0] rfl (by first | rfl | (simp; done) | (go_simp; rfl)) HG4.out nsz25 (Nat.le_refl 2) rfl rfl rfl ?_; intro wz hw hsb; have HWZ := Aside0.mk hw; have HSZ := Aside0.mk hsb; clear hw hsb))
          refine bodyPost_ret (v := .tuple #[.agg #[.int .i64 0, .slice none 0 0], .int .i64 (22), .int .i64 ((a : Int) + 1)]) (by have hz0 := (blk_cell HWZ.out 0).trans (show _ = some (Value.int .i64 0) from rfl); have hz1 := (blk_cell HWZ.out 1).trans (show _ = some (Value.slice none 0 0) from rfl); simp [results, Tryd.f8, go_sem, hz0, hz1]) rfl ?_
          rw [HPR.out]
          exact ⟨none, 0, rfl, Kd.C_nil _ _, Nat.le_refl _, HSZ.out.below HB4.out HL2.out⟩
        rcases f2 with _ | _
        · have HPR := Aside0.mk (HPE.out 22 _ (by decide) (by rw [hw, if_pos (.inr rfl)]))
          clear hw
          go_wp2_with (first | ((with_reducible refine gate_dst (N := 86) rfl ?_); refine build_event rfl #[] rfl _ built0 ?_) | ((with_reducible refine gate_store (t := 25) (p := 2) rfl ?_); refine store_two 25 2 (.tmp 86) rfl rfl rfl (.int .i64 0) (.slice none 0 0) #[.int .i64 0, .slice none 0 0] rfl (by first | rfl | (simp; done) | (go_simp; rfl)) HG4.out nsz25 (Nat.le_refl 2) rfl rfl rfl ?_; intro wz hw hsb; have HWZ := Aside0.mk hw; have HSZ := Aside0.mk hsb; clear hw hsb))
          refine bodyPost_ret (v := .tuple #[.agg #[.int .i64 0, .slice none 0 0], .int .i64 (22), .int .i64 ((a : Int) + 1)]) (by have hz0 := (blk_cell HWZ.out 0).trans (show _ = some (Value.int .i64 0) from rfl); have hz1 := (blk_cell HWZ.out 1).trans (show _ = some (Value.slice none 0 0) from rfl); simp [results, Tryd.f8, go_sem, hz0, hz1]) rfl ?_
          rw [HPR.out]
          exact ⟨none, 0, rfl, Kd.C_nil _ _, Nat.le_refl _, HSZ.out.below HB4.out HL2.out⟩
        rw [if_neg (by simp)] at hw
        have HS0 := Aside0.mk (show dState ((dLines b).take (a + 1)) = ⟨0, a + 1, true, ⟨n1, [], n2, [], 0⟩⟩ from HST.out 0 _ hw)
        have HN1 := Aside0.mk (show 0 ≤ n1 ∧ n1 ≤ 1048576 from ⟨HR1.out.2.2.2.1 (by first | rfl | trivial), HR1.out.2.2.1⟩)
        have HN2 := Aside0.mk (show 0 ≤ n2 ∧ n2 ≤ 1048576 from ⟨HR2.out.2.2.2.1 (by first | rfl | trivial), HR2.out.2.2.1⟩)
        clear hw
        go_wp2_with ((with_reducible refine gate_dst (N := 90) rfl ?_); refine build_event rfl #[(0, .tmp 89)] rfl _ (built1 n1) ?_)
        obtain ⟨W5, hW5⟩ : ∃ W5, W5 = w4.alloc (.cells #[.int .i64 n1, .slice none 0 0] 25) := ⟨_, rfl⟩
        obtain ⟨g14, hg14⟩ : ∃ g14, g14 = w4.heap.size := ⟨_, rfl⟩
        have HG14 := Aside0.mk (show W5.heap[g14]? = some (.cells #[.int .i64 n1, .slice none 0 0] 25 (0, 0)) by rw [hW5, hg14]; exact blk_new w4 _)
        have HB5 := Aside0.mk (show Below w.heap.size w W5 by rw [hW5]; exact below_alloc HB4.out _)
        have HW5 := Aside0.mk (show Below w1.heap.size w1 W5 by rw [hW5]; exact below_alloc HW4.out _)
        rw [← hW5, ← hg14]
        obtain ⟨b1, hb1⟩ : ∃ b1, b1 = W5.heap.size := ⟨_, rfl⟩
        have HFS0 := Aside0.mk (show FS g14 b1 (.slice none 0 0) ⟨n1, [], n2, [], 0⟩ W5 from ⟨⟨none, 0, none, 0, rfl, HG14.out, Kd.R_nil _ _ _ _ _, Kd.R_nil _ _ _ _ _⟩, by rw [hb1]; exact Nat.le_refl _⟩)
        have HGB := Aside0.mk (show g14 < b1 by rw [hb1]; exact blk_lt HG14.out)
        have HLB := Aside0.mk (show w1.heap.size ≤ g14 ∧ w.heap.size ≤ g14 by have h1 := HW4.out.size; have h2 := HB4.out.size; rw [hg14]; exact ⟨h1, h2⟩)
        clear hW5 hg14 hb1 HG14
        go_loopg [15, 16, 17] (LS.length - (a + 1)) (fun gf v15 v16 v17 wr => ∃ (i : Nat) (p : DP), v16 = .int .i64 (p.lits : Nat) ∧ v17 = .int .i64 (i : Int) ∧ i + gf = LS.length ∧ p.vars = n1 ∧ p.want = n2 ∧ Aside0 (dState ((dLines b).take i) = ⟨0, i, true, p⟩) ∧ Aside0 (FS g14 b1 v15 p wr) ∧ Aside0 (Below w.heap.size w wr) ∧ Aside0 (Below w1.heap.size w1 wr))
        case atStart => exact ⟨a + 1, ⟨n1, [], n2, [], 0⟩, rfl, by go_num, by have := HAL.out; omega, rfl, rfl, HS0, HFS0, HB5, HW5⟩
        case round =>
          clear HFS0 HB5 HW5
          obtain ⟨i, p, rfl, rfl, hi, hpv, hpw, HSI, HFS, HBR, HWR⟩ := hrel
          by_cases hlt : i < LS.length
          · have t5 : decide ((i : Int) < (LS.length : Int)) = true := decide_eq_true (by omega)
            have t6 : decide (i < LS.length) = true := decide_eq_true hlt
            have hil : i < (dLines b).length := by rw [← HLL.out]; exact hlt
            obtain ⟨LWi, hLWi⟩ : ∃ x, x = (dLines b)[i] := ⟨_, rfl⟩
            obtain ⟨wi, hwi⟩ : ∃ wi, wi = dWords LWi := ⟨_, rfl⟩
            have HRDi := Aside0.mk (show rd_T64 LS (i : Int) = dS LWi by
              unfold rd_T64
              rw [Int.toNat_natCast, HLS.out, List.getD_eq_getElem?_getD, List.getElem?_map, List.getElem?_eq_getElem hil, hLWi]
              rfl)
            have HFWi := Aside0.mk (show (dS LWi).f0 = wi.map baOf by rw [hwi]; rfl)
            have HF0i := Aside0.mk (show (dS LWi).f0.length = wi.length by rw [HFWi.out, List.length_map])
            have HSTi := Aside0.mk (show ∀ (e : Int) (q : DP), dWordsL p wi = (e, q) → dState ((dLines b).take (i + 1)) = ⟨e, i + 1, true, q⟩ from fun e q h => line_state (dLines b) i hil p HSI.out e q (by rw [← hLWi, ← hwi]; exact h))
            have HERR := Aside0.mk (show ∀ (e : Int) (q : DP), e ≠ 0 → dWordsL p wi = (e, q) → dParse b = ((0, []), e, (i : Int) + 1) from fun e q he h => by
              rw [parse_err b (i + 1) e true q (i + 1) he (HSTi.out e q h)]
              rfl)
            have HWXi := Aside0.mk (show wi.length ≤ 100000 ∧ ∀ x ∈ wi, x.length ≤ 100000 by
              have h2 := dLines_mem b LWi (by rw [hLWi]; exact List.getElem_mem hil)
              have h3 := HS.out
              refine ⟨by rw [hwi]; have := dWords_len LWi; omega, ?_⟩
              intro x hx
              rw [hwi] at hx
              have h1 := (dWords_mem LWi x hx).2
              omega)
            have HDI := Aside0.mk (show DInv p by
              have h := dState_inv ((dLines b).take i)
              rw [HSI.out] at h
              exact h.p)
            have hpi0 : (0 : Int) ≤ (i : Int) := Int.natCast_nonneg _
            have hpi1 : (i : Int) < (LS.length : Int) := by omega
            have hpi2 : (i : Int) + 1 ≤ 100001 := by have := HNB.out; omega
            have HIL := Aside0.mk hlt
            clear hLWi hwi
            go_wp2_with fail
            obtain ⟨wo, rfl⟩ : ∃ wo : World, wo = wr := ⟨_, rfl⟩
            obtain ⟨gko, hgko⟩ : ∃ gko, gko = gk := ⟨_, rfl⟩
            rw [← hgko] at hi
            have HGKO := Aside0.mk hgko
            clear hgko
            go_loopg [15, 16, 18] wi.length (fun gf v15 v16 v18 wr => ∃ (j : Nat) (q : DP), v16 = .int .i64 (q.lits : Nat) ∧ v18 = .int .i64 (j : Int) ∧ j + gf = wi.length ∧ q.vars = n1 ∧ q.want = n2 ∧ Aside0 (dWordsL p wi = dWordsL q (wi.drop j)) ∧ Aside0 (DInv q) ∧ Aside0 (FS g14 b1 v15 q wr) ∧ Aside0 (Below w.heap.size w wr) ∧ Aside0 (Below w1.heap.size w1 wr))
            case atStart => exact ⟨0, p, rfl, rfl, by omega, hpv, hpw, ⟨by rw [List.drop_zero]⟩, HDI, HFS, HBR, HWR⟩
            case round =>
              clear HFS HBR HWR HDI
              obtain ⟨j, q, rfl, rfl, hj, hqv, hqw, HQ, HDI, HFS, HBR, HWR⟩ := hrel
              obtain ⟨adl', Aw, cw', e1, hx0, hx1, hlw, hCw⟩ := at_T64 (Kd.C_below HL1.out HWR.out) (i : Int) (Int.natCast_nonneg _) (by have := HIL.out; omega)
              cases e1
              rw [HRDi.out, Int.toNat_natCast, HF0i.out] at hx0
              rw [HRDi.out, HF0i.out] at hlw
              rw [HRDi.out, HF0i.out, HFWi.out] at hCw
              have HWCi := Aside0.mk hCw
              clear hx1 hlw hCw
              by_cases hjt : j < wi.length
              · have t7 : decide ((j : Int) < (wi.length : Int)) = true := decide_eq_true (by omega)
                have t8 : decide (j < wi.length) = true := decide_eq_true hjt
                obtain ⟨x, hx⟩ : ∃ x, x = wi[j] := ⟨_, rfl⟩
                have hdr : wi.drop j = x :: wi.drop (j + 1) := by rw [hx]; exact List.drop_eq_getElem_cons hjt
                have hxz : x.length ≤ 100000 := HWXi.out.2 x (by rw [hx]; exact List.getElem_mem hjt)
                obtain ⟨aw, e1, hxw⟩ := Kd.at_string HWCi.out (j : Int) (by omega) (by omega)
                cases e1
                rw [Int.toNat_natCast, show rdOf ByteArray.empty (wi.map baOf) (j : Int) = baOf x by
                  unfold rdOf
                  rw [Int.toNat_natCast, List.getD_eq_getElem?_getD, List.getElem?_map, List.getElem?_eq_getElem hjt, hx]
                  rfl] at hxw
                have hji : (0 : Int) ≤ (j : Int) := Int.natCast_nonneg _
                have hjl : (j : Int) < (wi.length : Int) := by omega
                have hj1 : (j : Int) + 1 ≤ 100001 := by have := HWXi.out.1; omega
                obtain ⟨nv, y1, y2, hn⟩ : ∃ nv y1 y2, dNum x true n1 = (nv, y1, y2) := ⟨_, _, _, rfl⟩
                obtain ⟨kx, hkx⟩ := (rnumber_ev x true n1 HN1.out.1 (by have := HN1.out.2; omega) (by omega)).rounds
                rw [hn] at hkx
                have HKX := Aside0.mk hkx
                have hrx := dNum_range x true n1 HN1.out.1
                rw [hn] at hrx
                have HRX := Aside0.mk hrx
                have hw : dWord q x = if y1 = false then (21, q) else if (q.cls.length : Int) = n2 then (24, q) else if y2 = false ∨ (nv ≠ 0 ∧ q.lits = 16777216) then (22, q) else if nv = 0 then (0, { q with cls := q.cls ++ [q.opn], opn := [] }) else (0, { q with opn := q.opn ++ [nv], lits := q.lits + 1 }) := by
                  unfold dWord
                  rw [hqv, hn, hqw]
                have HE1 := Aside0.mk (show ∀ (e : Int) (q' : DP), e ≠ 0 → dWord q x = (e, q') → dParse b = ((0, []), e, (i : Int) + 1) from fun e q' he h => HERR.out e q' he (by rw [HQ.out, hdr]; exact words_stop q x _ e q' he h))
                have HQ1 := Aside0.mk (show ∀ q' : DP, dWord q x = (0, q') → dWordsL p wi = dWordsL q' (wi.drop (j + 1)) from fun q' h => by rw [HQ.out, hdr]; exact words_next q x _ q' h)
                have HDQ := Aside0.mk (show ∀ q' : DP, dWord q x = (0, q') → DInv q' from fun q' h => by have h2 := dWord_inv q x HDI.out; rw [h] at h2; exact h2)
                obtain ⟨A1, c1, A3, c3, rfl, h0, h1, h2⟩ := HFS.out.ex
                have HF0 := Aside0.mk h0
                have HF1 := Aside0.mk h1
                have HF2 := Aside0.mk h2
                have HFT := Aside0.mk HFS.out.top
                have hlits : (q.lits : Int) + 1 ≤ 16777217 := by have := HDI.out.l; omega
                clear h0 h1 h2 hn hkx hrx hx hdr
                go_upto_region 24 with (go_at_call 26; refine (threshingref02_Number.calls kx (baOf x) true n1 nv y1 y2 wr HKX.out).mono ?_; rintro e wn ⟨rfl, hdr⟩; have hb := drawn_below hdr; have HBn := Aside0.mk (below_step HBR.out hb); have HWn := Aside0.mk (below_step HWR.out hb); have HG2n := Aside0.mk (blk_below (blk_below HG1.out HWR.out) hb); have HF0n := Aside0.mk (blk_below HF0.out hb); have HF1n := Aside0.mk (Kd.R_below HF1.out hb); have HF2n := Aside0.mk (Kd.R_below HF2.out hb); have HFTn := Aside0.mk (Nat.le_trans HFT.out hb.size); have hc1 := (blk_cell (blk_below HF0.out hb) 1).trans (show _ = some (Value.slice A1 q.cls.length c1) from rfl); clear hdr hb hxw hx0)
                cases y1 with
                | false =>
                  have HPR := Aside0.mk (HE1.out 21 q (by decide) (by rw [hw, if_pos rfl]))
                  clear hw
                  go_wp2_with (first | ((with_reducible refine gate_dst (N := 125) rfl ?_); refine build_event rfl #[] rfl _ built0 ?_) | ((with_reducible refine gate_store (t := 25) (p := 2) rfl ?_); refine store_two 25 2 (.tmp 125) rfl rfl rfl (.int .i64 0) (.slice none 0 0) #[.int .i64 0, .slice none 0 0] rfl (by first | rfl | (simp; done) | (go_simp; rfl)) HG2n.out nsz25 (Nat.le_refl 2) rfl rfl rfl ?_; intro wz hw hsb; have HWZ := Aside0.mk hw; have HSZ := Aside0.mk hsb; clear hw hsb))
                  refine bodyPost_ret (v := .tuple #[.agg #[.int .i64 0, .slice none 0 0], .int .i64 (21), .int .i64 ((i : Int) + 1)]) (by have hz0 := (blk_cell HWZ.out 0).trans (show _ = some (Value.int .i64 0) from rfl); have hz1 := (blk_cell HWZ.out 1).trans (show _ = some (Value.slice none 0 0) from rfl); simp [results, Tryd.f8, go_sem, hz0, hz1]) rfl ?_
                  rw [HPR.out]
                  exact ⟨none, 0, rfl, Kd.C_nil _ _, Nat.le_refl _, HSZ.out.below HBn.out HL2.out⟩
                | true =>
                  rw [if_neg (by decide)] at hw
                  by_cases hcw : (q.cls.length : Int) = n2
                  · have t9 : ((q.cls.length : Int) == n2) = true := beq_iff_eq.2 hcw
                    have HPR := Aside0.mk (HE1.out 24 q (by decide) (by rw [hw, if_pos hcw]))
                    clear hw hcw
                    go_wp2_with (first | ((with_reducible refine gate_dst (N := 133) rfl ?_); refine build_event rfl #[] rfl _ built0 ?_) | ((with_reducible refine gate_store (t := 25) (p := 2) rfl ?_); refine store_two 25 2 (.tmp 133) rfl rfl rfl (.int .i64 0) (.slice none 0 0) #[.int .i64 0, .slice none 0 0] rfl (by first | rfl | (simp; done) | (go_simp; rfl)) HG2n.out nsz25 (Nat.le_refl 2) rfl rfl rfl ?_; intro wz hw hsb; have HWZ := Aside0.mk hw; have HSZ := Aside0.mk hsb; clear hw hsb))
                    refine bodyPost_ret (v := .tuple #[.agg #[.int .i64 0, .slice none 0 0], .int .i64 (24), .int .i64 ((i : Int) + 1)]) (by have hz0 := (blk_cell HWZ.out 0).trans (show _ = some (Value.int .i64 0) from rfl); have hz1 := (blk_cell HWZ.out 1).trans (show _ = some (Value.slice none 0 0) from rfl); simp [results, Tryd.f8, go_sem, hz0, hz1]) rfl ?_
                    rw [HPR.out]
                    exact ⟨none, 0, rfl, Kd.C_nil _ _, Nat.le_refl _, HSZ.out.below HBn.out HL2.out⟩
                  · have t9 : ((q.cls.length : Int) == n2) = false := beq_eq_false_iff_ne.2 hcw
                    rw [if_neg hcw] at hw
                    cases y2 with
                    | false =>
                      have HPR := Aside0.mk (HE1.out 22 q (by decide) (by rw [hw, if_pos (.inl rfl)]))
                      clear hw
                      go_wp2_with (first | ((with_reducible refine gate_dst (N := 146) rfl ?_); refine build_event rfl #[] rfl _ built0 ?_) | ((with_reducible refine gate_store (t := 25) (p := 2) rfl ?_); refine store_two 25 2 (.tmp 146) rfl rfl rfl (.int .i64 0) (.slice none 0 0) #[.int .i64 0, .slice none 0 0] rfl (by first | rfl | (simp; done) | (go_simp; rfl)) HG2n.out nsz25 (Nat.le_refl 2) rfl rfl rfl ?_; intro wz hw hsb; have HWZ := Aside0.mk hw; have HSZ := Aside0.mk hsb; clear hw hsb))
                      refine bodyPost_ret (v := .tuple #[.agg #[.int .i64 0, .slice none 0 0], .int .i64 (22), .int .i64 ((i : Int) + 1)]) (by have hz0 := (blk_cell HWZ.out 0).trans (show _ = some (Value.int .i64 0) from rfl); have hz1 := (blk_cell HWZ.out 1).trans (show _ = some (Value.slice none 0 0) from rfl); simp [results, Tryd.f8, go_sem, hz0, hz1]) rfl ?_
                      rw [HPR.out]
                      exact ⟨none, 0, rfl, Kd.C_nil _ _, Nat.le_refl _, HSZ.out.below HBn.out HL2.out⟩
                    | true =>
                      by_cases hz : nv = 0
                      · subst hz
                        have hwv : dWord q x = (0, { q with cls := q.cls ++ [q.opn], opn := [] }) := by rw [hw, if_neg (by simp), if_pos rfl]
                        have HWV := Aside0.mk hwv
                        obtain ⟨LN, hln⟩ : ∃ L, L = (q.cls ++ [q.opn]).length := ⟨_, rfl⟩
                        have HLN := Aside0.mk hln
                        have HCL := Aside0.mk (show (q.cls.length + 1) * 24 ≤ 140737488355328 by have h1 := HDI.out.c; have h2 := HDI.out.w1; omega)
                        clear hw hwv hln
                        go_wp2_with (first | ((with_reducible refine gate_builtin (b := .append) (xs := #[.tmp 152, .tmp 154]) rfl ?_); at_builtin; refine Kd.R_append kcs (w0 := wn) b1 rfl (.tmp 152) (.tmp 154) 23 50 (.slice none 0 0) 24 rfl Tryd.underlying23 info50 rfl (by decide) (by omega) _ q.cls q.opn [.slice A3 q.opn.length c3] (fun _ => True) (fun k => some k ≠ (Value.slice A1 q.cls.length c1).ownBlock) rfl rfl ?aP (fun k hk => ⟨trivial, hk⟩) (fun _ _ => trivial) (Kd.R_mono HF1n.out (fun _ _ => trivial)) (Below.refl _ _) HFTn.out ?aL ?_; (case aP => exact ⟨_, rfl, Kd.R_mono (Kd.R_apart' HF2n.out (Kd.R_typed HF1n.out) (by decide)) (fun k hk => hk.2)⟩); (case aL => exact HCL.out); intro v9 w9 ho hb hg1 hat; obtain ⟨A9, c9, e9⟩ := Kd.R_slice ho; rw [← HLN.out] at e9; subst e9; have HR9 := Aside0.mk ho; have HG9 := Aside0.mk (blk_grown HF0n.out hg1 (Kd.R_ne HF1n.out HF0n.out (by decide))); have HB9 := Aside0.mk (HBn.out.trans (hb.mono (by have h1 := HGB.out; have h2 := HLB.out; omega))); have HW9 := Aside0.mk (HWn.out.trans (hb.mono (by have h1 := HGB.out; have h2 := HLB.out; omega))); have HS9 := Aside0.mk (show b1 ≤ w9.heap.size from Nat.le_trans HFTn.out hb.size); clear ho hb hg1 hat hc1) | ((with_reducible refine gate_store (t := 23) (p := 156) rfl ?_); refine store_one 23 156 (.tmp 155) rfl rfl rfl (.slice A9 LN c9) #[.int .i64 q.vars, .slice A9 LN c9] rfl (by first | rfl | (simp; rfl)) HG9.out rfl nsz23 (show 1 + 1 ≤ 2 by omega) rfl rfl ?_; intro w10 hw10 hsb; have HG10 := Aside0.mk hw10; have HSB10 := Aside0.mk hsb; clear hw10 hsb))
                        have hLN := HLN.out
                        subst hLN
                        go_roundg (gk - 1)
                        case measure => omega
                        case rel => exact ⟨j + 1, { q with cls := q.cls ++ [q.opn], opn := [] }, rfl, by go_num, by omega, hqv, hqw, ⟨HQ1.out _ HWV.out⟩, ⟨HDQ.out _ HWV.out⟩, ⟨⟨A9, c9, none, 0, rfl, HG10.out, Kd.R_mono (HSB10.out.Rt HR9.out HG9.out (by decide)) (fun k _ => by simp [Value.ownBlock]), Kd.R_nil _ _ _ _ _⟩, by rw [HSB10.out.size]; exact HS9.out⟩, ⟨HSB10.out.below HB9.out HLB.out.2⟩, ⟨HSB10.out.below HW9.out HLB.out.1⟩⟩
                      · have t10 : (nv == 0) = false := beq_eq_false_iff_ne.2 hz
                        have t10n : (nv != 0) = true := by rw [bne, t10]; rfl
                        by_cases hm : q.lits = 16777216
                        · have t11 : ((q.lits : Int) == 16777216) = true := beq_iff_eq.2 (by omega)
                          have HPR := Aside0.mk (HE1.out 22 q (by decide) (by rw [hw, if_pos (.inr ⟨hz, hm⟩)]))
                          clear hw hm
                          go_wp2_with (first | ((with_reducible refine gate_dst (N := 146) rfl ?_); refine build_event rfl #[] rfl _ built0 ?_) | ((with_reducible refine gate_store (t := 25) (p := 2) rfl ?_); refine store_two 25 2 (.tmp 146) rfl rfl rfl (.int .i64 0) (.slice none 0 0) #[.int .i64 0, .slice none 0 0] rfl (by first | rfl | (simp; done) | (go_simp; rfl)) HG2n.out nsz25 (Nat.le_refl 2) rfl rfl rfl ?_; intro wz hw hsb; have HWZ := Aside0.mk hw; have HSZ := Aside0.mk hsb; clear hw hsb))
                          refine bodyPost_ret (v := .tuple #[.agg #[.int .i64 0, .slice none 0 0], .int .i64 (22), .int .i64 ((i : Int) + 1)]) (by have hz0 := (blk_cell HWZ.out 0).trans (show _ = some (Value.int .i64 0) from rfl); have hz1 := (blk_cell HWZ.out 1).trans (show _ = some (Value.slice none 0 0) from rfl); simp [results, Tryd.f8, go_sem, hz0, hz1]) rfl ?_
                          rw [HPR.out]
                          exact ⟨none, 0, rfl, Kd.C_nil _ _, Nat.le_refl _, HSZ.out.below HBn.out HL2.out⟩
                        · have t11 : ((q.lits : Int) == 16777216) = false := beq_eq_false_iff_ne.2 (by omega)
                          have hwv : dWord q x = (0, { q with opn := q.opn ++ [nv], lits := q.lits + 1 }) := by rw [hw, if_neg (by rintro (h | ⟨_, h⟩); cases h; exact hm h), if_neg hz]
                          have HWV := Aside0.mk hwv
                          have hwr := wrap32_lit HN1.out.1 HN1.out.2 HRX.out.2.1 HRX.out.2.2.1
                          have HOL := Aside0.mk (show (q.opn.length + 1) * 4 ≤ 140737488355328 by have h1 := HDI.out.t; have h2 := HDI.out.l; omega)
                          clear hw hwv hm
                          go_wp2_with ((with_reducible refine gate_builtin (b := .append) (xs := #[.tmp 157, .tmp 160]) rfl ?_); at_builtin; refine Kd.R_append (Kd.int .i32) (w0 := wn) b1 rfl (.tmp 157) (.tmp 160) 50 67 (.int .i32 0) 4 rfl Tryd.underlying50 info67 rfl (by decide) (by omega) _ q.opn nv [.int .i32 nv] (fun _ => True) (fun _ => False) rfl rfl ?aP (fun _ hk => hk.elim) (fun _ _ => trivial) HF2n.out (Below.refl _ _) HFTn.out ?aL ?_; (case aP => exact rfl); (case aL => exact HOL.out); intro v9 w9 ho hb hg1 hat; obtain ⟨A9, c9, rfl⟩ := Kd.R_slice ho; have HR9 := Aside0.mk ho; have HG9 := Aside0.mk (blk_grown HF0n.out hg1 (Kd.R_ne HF2n.out HF0n.out (by decide))); have HB9 := Aside0.mk (HBn.out.trans (hb.mono (by have h1 := HGB.out; have h2 := HLB.out; omega))); have HW9 := Aside0.mk (HWn.out.trans (hb.mono (by have h1 := HGB.out; have h2 := HLB.out; omega))); have HS9 := Aside0.mk (show b1 ≤ w9.heap.size from Nat.le_trans HFTn.out hb.size); have HC9 := Aside0.mk (Kd.R_mono (Kd.R_after (Kd.R_mono HF1n.out (fun k hk => ⟨trivial, hk⟩) : kcs.R 50 wn b1 (fun k => True ∧ some k ≠ (Value.slice A3 q.opn.length c3).ownBlock) _ q.cls) hg1 hat) (fun k hk => hk.2)); clear ho hb hg1 hat hc1)
                          go_roundg (gk - 1)
                          case measure => omega
                          case rel => exact ⟨j + 1, { q with opn := q.opn ++ [nv], lits := q.lits + 1 }, by go_num, by go_num, by omega, hqv, hqw, ⟨HQ1.out _ HWV.out⟩, ⟨HDQ.out _ HWV.out⟩, ⟨⟨A1, c1, A9, c9, (by simp), HG9.out, HC9.out, HR9.out⟩, HS9.out⟩, HB9, HW9⟩
              · have t7 : decide ((j : Int) < (wi.length : Int)) = false := decide_eq_false (by omega)
                have t8 : decide (j < wi.length) = false := decide_eq_false hjt
                have HSN := Aside0.mk (HSTi.out 0 q (by
                  rw [HQ.out, List.drop_of_length_le (by omega)]
                  rfl))
                go_wp2_with fail
                have hgko := HGKO.out
                go_roundg (gko - 1)
                case measure => omega
                case rel => exact ⟨i + 1, q, rfl, by go_num, by omega, hqv, hqw, HSN, HFS, HBR, HWR⟩
          · have t5 : decide ((i : Int) < (LS.length : Int)) = false := decide_eq_false (by omega)
            have t6 : decide (i < LS.length) = false := decide_eq_false hlt
            obtain ⟨A1, c1, A3, c3, rfl, h0, h1, h2⟩ := HFS.out.ex
            have HF0r := Aside0.mk h0
            have HF1 := Aside0.mk h1
            have hc0 := (blk_cell h0 0).trans (show _ = some (Value.int .i64 p.vars) from rfl)
            have hc1 := (blk_cell h0 1).trans (show _ = some (Value.slice A1 p.cls.length c1) from rfl)
            have HG2r := Aside0.mk (blk_below HG1.out HWR.out)
            have HFIN := Aside0.mk (parse_fin b p (by
              have := HSI.out
              rwa [show i = (dLines b).length by rw [← HLL.out]; omega, List.take_of_length_le (Nat.le_refl _)] at this))
            have hl1 : (LS.length : Int) + 1 ≤ 100001 := by have := HNB.out; omega
            have hwant : p.want = n2 := hpw
            clear h0 h1 h2 hpv hpw hi hlt
            by_cases ho : 0 < p.opn.length
            · have t7 : decide (0 < (p.opn.length : Int)) = true := decide_eq_true (by omega)
              have t8 : decide (0 < p.opn.length) = true := decide_eq_true ho
              have HPR := Aside0.mk (show dParse b = ((0, []), 23, (LS.length : Int) + 1) by rw [HFIN.out, if_pos (.inl (List.length_pos_iff.1 ho)), HLL.out])
              clear ho
              go_wp2_with (first | ((with_reducible refine gate_dst (N := 174) rfl ?_); refine build_event rfl #[] rfl _ built0 ?_) | ((with_reducible refine gate_store (t := 25) (p := 2) rfl ?_); refine store_two 25 2 (.tmp 174) rfl rfl rfl (.int .i64 0) (.slice none 0 0) #[.int .i64 0, .slice none 0 0] rfl (by first | rfl | (simp; done) | (go_simp; rfl)) HG2r.out nsz25 (Nat.le_refl 2) rfl rfl rfl ?_; intro wz hw hsb; have HWZ := Aside0.mk hw; have HSZ := Aside0.mk hsb; clear hw hsb))
              refine bodyPost_ret (v := .tuple #[.agg #[.int .i64 0, .slice none 0 0], .int .i64 (23), .int .i64 ((LS.length : Int) + 1)]) (by have hz0 := (blk_cell HWZ.out 0).trans (show _ = some (Value.int .i64 0) from rfl); have hz1 := (blk_cell HWZ.out 1).trans (show _ = some (Value.slice none 0 0) from rfl); simp [results, Tryd.f8, go_sem, hz0, hz1]) rfl ?_
              rw [HPR.out]
              exact ⟨none, 0, rfl, Kd.C_nil _ _, Nat.le_refl _, HSZ.out.below HBR.out HL2.out⟩
            · have t7 : decide (0 < (p.opn.length : Int)) = false := decide_eq_false (by omega)
              have t8 : decide (0 < p.opn.length) = false := decide_eq_false ho
              have hoe : p.opn = [] := List.eq_nil_of_length_eq_zero (by omega)
              by_cases hlw : (p.cls.length : Int) < n2
              · have t9 : decide ((p.cls.length : Int) < n2) = true := decide_eq_true hlw
                have HPR := Aside0.mk (show dParse b = ((0, []), 23, (LS.length : Int) + 1) by rw [HFIN.out, if_pos (.inr (by rw [hwant]; exact hlw)), HLL.out])
                clear ho hoe hlw
                go_wp2_with (first | ((with_reducible refine gate_dst (N := 174) rfl ?_); refine build_event rfl #[] rfl _ built0 ?_) | ((with_reducible refine gate_store (t := 25) (p := 2) rfl ?_); refine store_two 25 2 (.tmp 174) rfl rfl rfl (.int .i64 0) (.slice none 0 0) #[.int .i64 0, .slice none 0 0] rfl (by first | rfl | (simp; done) | (go_simp; rfl)) HG2r.out nsz25 (Nat.le_refl 2) rfl rfl rfl ?_; intro wz hw hsb; have HWZ := Aside0.mk hw; have HSZ := Aside0.mk hsb; clear hw hsb))
                refine bodyPost_ret (v := .tuple #[.agg #[.int .i64 0, .slice none 0 0], .int .i64 (23), .int .i64 ((LS.length : Int) + 1)]) (by have hz0 := (blk_cell HWZ.out 0).trans (show _ = some (Value.int .i64 0) from rfl); have hz1 := (blk_cell HWZ.out 1).trans (show _ = some (Value.slice none 0 0) from rfl); simp [results, Tryd.f8, go_sem, hz0, hz1]) rfl ?_
                rw [HPR.out]
                exact ⟨none, 0, rfl, Kd.C_nil _ _, Nat.le_refl _, HSZ.out.below HBR.out HL2.out⟩
              · have t9 : decide ((p.cls.length : Int) < n2) = false := decide_eq_false hlw
                have HPR := Aside0.mk (show dParse b = ((p.vars, p.cls), 0, 0) by rw [HFIN.out, if_neg (by rintro (h | h); exact h hoe; rw [hwant] at h; exact hlw h)])
                clear ho hoe hlw
                go_wp2_with ((with_reducible refine gate_store (t := 25) (p := 2) rfl ?_); refine store_two 25 2 (.tmp 178) rfl rfl rfl (.int .i64 p.vars) (.slice A1 p.cls.length c1) #[.int .i64 p.vars, .slice A1 p.cls.length c1] rfl (by first | rfl | (simp; done) | (go_simp; rfl)) HG2r.out nsz25 (Nat.le_refl 2) rfl rfl rfl ?_; intro wz hw hsb; have HWZ := Aside0.mk hw; have HSZ := Aside0.mk hsb; clear hw hsb)
                refine bodyPost_ret (v := .tuple #[.agg #[.int .i64 p.vars, .slice A1 p.cls.length c1], .int .i64 0, .int .i64 0]) (by have hz0 := (blk_cell HWZ.out 0).trans (show _ = some (Value.int .i64 p.vars) from rfl); have hz1 := (blk_cell HWZ.out 1).trans (show _ = some (Value.slice A1 p.cls.length c1) from rfl); simp [results, Tryd.f8, go_sem, hz0, hz1]) rfl ?_
                rw [HPR.out]
                have hR := HSZ.out.Rt HF1.out HG2r.out (by decide)
                exact ⟨A1, c1, rfl, (Kd.R_reads' hR).2.2, (Kd.R_reads' hR).2.1, HSZ.out.below HBR.out HL2.out⟩
      · have t3 : ((baOf x1).toList == ([99, 110, 102] : List UInt8)) = false := by rw [wb]; exact decide_eq_false hb
        have t3n : ((baOf x1).toList != ([99, 110, 102] : List UInt8)) = true := by rw [bne, t3]; rfl
        have HPR := Aside0.mk (HPE.out 20 _ (by decide) (by rw [hw, if_pos (.inr hb)]))
        clear wa wb hw ha hb
        go_wp2_with (first | ((with_reducible refine gate_dst (N := 52) rfl ?_); refine build_event rfl #[] rfl _ built0 ?_) | ((with_reducible refine gate_store (t := 25) (p := 2) rfl ?_); refine store_two 25 2 (.tmp 52) rfl rfl rfl (.int .i64 0) (.slice none 0 0) #[.int .i64 0, .slice none 0 0] rfl (by first | rfl | (simp; done) | (go_simp; rfl)) HG2.out nsz25 (Nat.le_refl 2) rfl rfl rfl ?_; intro wz hw hsb; have HWZ := Aside0.mk hw; have HSZ := Aside0.mk hsb; clear hw hsb))
        refine bodyPost_ret (v := .tuple #[.agg #[.int .i64 0, .slice none 0 0], .int .i64 (20), .int .i64 ((a : Int) + 1)]) (by have hz0 := (blk_cell HWZ.out 0).trans (show _ = some (Value.int .i64 0) from rfl); have hz1 := (blk_cell HWZ.out 1).trans (show _ = some (Value.slice none 0 0) from rfl); simp [results, Tryd.f8, go_sem, hz0, hz1]) rfl ?_
        rw [HPR.out]
        exact ⟨none, 0, rfl, Kd.C_nil _ _, Nat.le_refl _, HSZ.out.below HB2.out HL2.out⟩
    · have t2 : ((baOf x0).toList == ([112] : List UInt8)) = false := by rw [wa]; exact decide_eq_false ha
      have t2n : ((baOf x0).toList != ([112] : List UInt8)) = true := by rw [bne, t2]; rfl
      have HPR := Aside0.mk (HPE.out 20 _ (by decide) (by rw [hw, if_pos (.inl ha)]))
      clear wa wb hw ha
      go_wp2_with (first | ((with_reducible refine gate_dst (N := 52) rfl ?_); refine build_event rfl #[] rfl _ built0 ?_) | ((with_reducible refine gate_store (t := 25) (p := 2) rfl ?_); refine store_two 25 2 (.tmp 52) rfl rfl rfl (.int .i64 0) (.slice none 0 0) #[.int .i64 0, .slice none 0 0] rfl (by first | rfl | (simp; done) | (go_simp; rfl)) HG2.out nsz25 (Nat.le_refl 2) rfl rfl rfl ?_; intro wz hw hsb; have HWZ := Aside0.mk hw; have HSZ := Aside0.mk hsb; clear hw hsb))
      refine bodyPost_ret (v := .tuple #[.agg #[.int .i64 0, .slice none 0 0], .int .i64 (20), .int .i64 ((a : Int) + 1)]) (by have hz0 := (blk_cell HWZ.out 0).trans (show _ = some (Value.int .i64 0) from rfl); have hz1 := (blk_cell HWZ.out 1).trans (show _ = some (Value.slice none 0 0) from rfl); simp [results, Tryd.f8, go_sem, hz0, hz1]) rfl ?_
      rw [HPR.out]
      exact ⟨none, 0, rfl, Kd.C_nil _ _, Nat.le_refl _, HSZ.out.below HB2.out HL2.out⟩
  · have t2 : ((ws.length : Int) == 4) = false := beq_eq_false_iff_ne.2 (by omega)
    have t2n : ((ws.length : Int) != 4) = true := by rw [bne, t2]; rfl
    have t2b : (ws.length == 4) = false := beq_eq_false_iff_ne.2 h4
    have HPR := Aside0.mk (HPE.out 20 _ (by decide) (dHead_not DP.init ws h4))
    clear h4
    go_wp2_with (first | ((with_reducible refine gate_dst (N := 52) rfl ?_); refine build_event rfl #[] rfl _ built0 ?_) | ((with_reducible refine gate_store (t := 25) (p := 2) rfl ?_); refine store_two 25 2 (.tmp 52) rfl rfl rfl (.int .i64 0) (.slice none 0 0) #[.int .i64 0, .slice none 0 0] rfl (by first | rfl | (simp; done) | (go_simp; rfl)) HG2.out nsz25 (Nat.le_refl 2) rfl rfl rfl ?_; intro wz hw hsb; have HWZ := Aside0.mk hw; have HSZ := Aside0.mk hsb; clear hw hsb))
    refine bodyPost_ret (v := .tuple #[.agg #[.int .i64 0, .slice none 0 0], .int .i64 (20), .int .i64 ((a : Int) + 1)]) (by have hz0 := (blk_cell HWZ.out 0).trans (show _ = some (Value.int .i64 0) from rfl); have hz1 := (blk_cell HWZ.out 1).trans (show _ = some (Value.slice none 0 0) from rfl); simp [results, Tryd.f8, go_sem, hz0, hz1]) rfl ?_
    rw [HPR.out]
    exact ⟨none, 0, rfl, Kd.C_nil _ _, Nat.le_refl _, HSZ.out.below HB2.out HL2.out⟩
end Go.Proofs.YtigloobbpcnnhaaDoor.PB
end
