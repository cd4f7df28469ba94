import Derived.Test.YtigloobbpcnnhaaGreatDoorKB4
import Derived.Laws.Tables
import Derived.OpenShut
import Derived.Deep.Slices
import Derived.ProofKit
import Derived.Lib.SmallJoins
-- texts of this claim, packed, what nothing reaches struck (wip/tools/prune.py): HDref8 FThreshingref02Digits FThreshingref02Print FThreshingref02Values HDev2 HDrmodel HDmodels HDparses HDblanks HDgood HDprints
section
namespace Go.Proofs.YtigloobbpcnnhaaGreatDoor.PB
open Go.RowKit Go.Proofs.YtigloobbpcnnhaaGreatDoorW.PrintWords Go.Proofs.YtigloobbpcnnhaaGreatDoorW.PrintLast Go.Proofs.YtigloobbpcnnhaaGreatDoorW.PrintMore
set_option linter.unusedVariables false
set_option linter.unusedSimpArgs false
theorem drawn_below {w w' : World} (h : Drawn0 w w') : Below w.heap.size w w' := by obtain ⟨q, rfl⟩ := h; exact pw_below_drewN (Below.refl _ _) q
theorem dHead_not (p : DP) (ws : List (List UInt8)) (h : ws.length ≠ 4) : dHead p ws = (20, p) := by
  unfold dHead
  split
  · exact absurd rfl h
  · rfl
/-- The reference's formula (block g) and its open clause (v3). -/
structure FS (g b1 : Nat) (v3 : Value) (p : DP) (W : World) : Prop where
  ex : ∃ A1 c1 A3 c3, v3 = .slice A3 p.opn.length c3 ∧ W.heap[g]? = some (.cells #[.int .i64 p.vars, .slice A1 p.cls.length c1] 35 (0, 0)) ∧ kcs.R 42 W b1 (fun k => some k ≠ (Value.slice A3 p.opn.length c3).ownBlock) (.slice A1 p.cls.length c1) p.cls ∧ (Kd.int .i32).R 40 W b1 (fun _ => True) (.slice A3 p.opn.length c3) p.opn
  top : b1 ≤ W.heap.size
theorem FS.below {g b1 : Nat} {v3 : Value} {p : DP} {W W' : World} (h : FS g b1 v3 p W) (hb : Below W.heap.size W W') : FS g b1 v3 p W' := by
  obtain ⟨A1, c1, A3, c3, e, h0, h1, h2⟩ := h.ex
  exact ⟨⟨A1, c1, A3, c3, e, blk_below h0 hb, Kd.R_below h1 hb, Kd.R_below h2 hb⟩, Nat.le_trans h.top hb.size⟩
theorem built0 : Tryz.prog.built 35 [] = some #[.int .i64 0, .slice none 0 0] := by kernel_rfl
theorem built1 (x : Int) : Tryz.prog.built 35 [(0, .int .i64 x)] = some #[.int .i64 x, .slice none 0 0] := by kernel_rfl
section
variable {ops : Array Oper} {rest : List Oper} {o : Oper} {a : Act} {W : World} {Q : Exit → Act → World → Prop}
theorem build_event (hgd : o.guard = none) (parts : Array (Nat × Operand)) (ho : o.op = .build 35 parts) (cs : Array Value) (hb : Tryz.prog.built 35 (parts.map fun (i, x) => (i, a.eval x)).toList = some cs) (h : wpList Tryz.prog ops Q rest (a.put o.dst (.agg cs)) W) : wpList Tryz.prog ops Q (o :: rest) a W := by
  refine Kd.event_run hgd (v := .agg cs) (w1 := W) ?_ h
  unfold execOp
  simp only [ho, Sem.run_bind, run_build W 35 _ cs hb, Result.andThen_ok]
  rfl
end
set_option maxHeartbeats 4000000 in
set_option maxRecDepth 100000 in
theorem rparse_calls (ad : Addr) (c : Nat) (b : List UInt8) (w : World) (hC : (Kd.int .u8).C w (some ad) b.length (bI b)) (hc : b.length ≤ c) (hs : b.length ≤ 100000) :
    Calls Tryz.prog 22 #[.slice (some ad) b.length c] w fun e w' => ∃ A cc, e = .returned (.tuple #[.agg #[.int .i64 (dParse b).1.1, .slice A (dParse b).1.2.length cc], .int .i64 (dParse b).2.1, .int .i64 (dParse b).2.2]) ∧ kcs.C w' A (dParse b).1.2.length (dParse b).1.2 ∧ (dParse b).1.2.length ≤ cc ∧ Below w.heap.size w w' := by
  have HC := Aside0.mk hC
  have HCC := Aside0.mk hc
  have HS := Aside0.mk hs
  obtain ⟨LS, hLS⟩ : ∃ LS, LS = (dLines b).map dS := ⟨_, rfl⟩
  have hLL : LS.length = (dLines b).length := by rw [hLS, List.length_map]
  have HLS := Aside0.mk hLS
  have HLL := Aside0.mk hLL
  have hnb := (dLines_sum b).2
  have HNB := Aside0.mk (show LS.length ≤ 100000 by omega)
  obtain ⟨kl, hkl⟩ := (rlines_ev b (by omega)).rounds
  rw [← hLS] at hkl
  have HKL := Aside0.mk hkl
  obtain ⟨atv, hat⟩ : ∃ atv, atv = dAt (dLines b) := ⟨_, rfl⟩
  obtain ⟨kh, hkh⟩ := (rhead_ev LS (by omega)).rounds
  have HKH := Aside0.mk (show threshingref02_head.f kh LS = some atv by rw [hkh, hat, hLS]; rfl)
  have HAT := Aside0.mk hat
  obtain ⟨W0, hW0⟩ : ∃ W0, W0 = w.alloc (.cells #[.int .i64 0, .slice none 0 0] 35) := ⟨_, rfl⟩
  obtain ⟨g2, hg2⟩ : ∃ g2, g2 = w.heap.size := ⟨_, rfl⟩
  have HG0 := Aside0.mk (show W0.heap[g2]? = some (.cells #[.int .i64 0, .slice none 0 0] 35 (0, 0)) by rw [hW0, hg2]; exact blk_new w _)
  have HC0 := Aside0.mk (show (Kd.int .u8).C W0 (some ad) b.length (bI b) by rw [hW0]; exact Kd.C_below hC (below_alloc (Below.refl _ _) _))
  have HB0 := Aside0.mk (show Below w.heap.size w W0 by rw [hW0]; exact below_alloc (Below.refl _ _) _)
  have HL2 := Aside0.mk (show w.heap.size ≤ g2 by rw [hg2]; exact Nat.le_refl _)
  clear hC hc hs hLS hLL hnb hkl hkh hat
  by_cases hneg : atv < 0
  · have t1 : decide (atv < 0) = true := decide_eq_true hneg
    have HPN := Aside0.mk (show dParse b = ((0, []), 20, (LS.length : Int) + 1) by rw [HLL.out]; exact parse_none b (by rw [← HAT.out]; exact hneg))
    have hl1 : (LS.length : Int) + 1 ≤ 100001 := by have := HNB.out; omega
    go_enter Tryz.func22, Tryz.ntmps22
    go_wp2_with (first | (go_at_call 17; rw [← hW0, ← hg2]; have hp := threshingref02_Lines.calls kl (some ad) c (bI b) LS W0 (by rw [bI_length]; exact HC0.out) (by rw [bI_length]; exact HCC.out) HKL.out; rw [bI_length] at hp; refine hp.mono ?_; clear hp; rintro e w1 ⟨vl, rfl, hS, hb⟩; obtain ⟨Al, cl, rfl⟩ := Kd.S_slice hS; have HL1 := Aside0.mk (Kd.S_reads' hS).2.2; have HLC := Aside0.mk (Kd.S_reads' hS).2.1; have HG1 := Aside0.mk (blk_below HG0.out hb); have HB1 := Aside0.mk (below_step HB0.out hb); clear hS hb hW0 hg2) | (go_at_call 44; refine (threshingref02_head.calls kh Al cl LS atv w1 HL1.out HLC.out HKH.out).mono ?_; rintro e w2 ⟨rfl, hdr⟩; have hb : Below w1.heap.size w1 w2 := drawn_below hdr; have HW2 := Aside0.mk hb; have HL := Aside0.mk (Kd.C_below HL1.out hb); have HG2 := Aside0.mk (blk_below HG1.out hb); have HB2 := Aside0.mk (below_step HB1.out hb); clear hdr hb) | ((with_reducible refine gate_dst (N := 28) rfl ?_); refine build_event rfl #[] rfl _ built0 ?_) | ((with_reducible refine gate_store (t := 35) (p := 2) rfl ?_); refine store_two 35 2 (.tmp 28) rfl rfl rfl (.int .i64 0) (.slice none 0 0) #[.int .i64 0, .slice none 0 0] rfl (by first | rfl | (simp; done) | (go_simp; rfl)) HG2.out nsz25 (Nat.le_refl 2) rfl rfl rfl ?_; intro wz hw hsb; have HWZ := Aside0.mk hw; have HSZ := Aside0.mk hsb; clear hw hsb))
    refine bodyPost_ret (v := .tuple #[.agg #[.int .i64 0, .slice none 0 0], .int .i64 (20), .int .i64 ((LS.length : Int) + 1)]) (by have hz0 := (blk_cell HWZ.out 0).trans (show _ = some (Value.int .i64 0) from rfl); have hz1 := (blk_cell HWZ.out 1).trans (show _ = some (Value.slice none 0 0) from rfl); simp [results, Tryz.f22, go_sem, hz0, hz1]) rfl ?_
    rw [HPN.out]
    exact ⟨none, 0, rfl, Kd.C_nil _ _, Nat.le_refl _, HSZ.out.below HB2.out HL2.out⟩
  obtain ⟨a, hae, hal, hwne, hblk⟩ := dAt_some (dLines b) (by rw [← HAT.out]; omega)
  obtain rfl : atv = (a : Int) := by rw [HAT.out, hae]
  obtain ⟨LW, hLW⟩ : ∃ LW, LW = (dLines b)[a] := ⟨_, rfl⟩
  obtain ⟨ws, hws⟩ : ∃ ws, ws = dWords LW := ⟨_, rfl⟩
  have HRD := Aside0.mk (show rd_T64 LS (a : Int) = dS LW by
    unfold rd_T64
    rw [Int.toNat_natCast, HLS.out, List.getD_eq_getElem?_getD, List.getElem?_map, List.getElem?_eq_getElem hal, hLW]
    rfl)
  have HFW := Aside0.mk (show (dS LW).f0 = ws.map baOf by rw [hws]; rfl)
  have HF0 := Aside0.mk (show (dS LW).f0.length = ws.length by rw [HFW.out, List.length_map])
  have HAL := Aside0.mk (show a < LS.length by rw [HLL.out]; exact hal)
  have HST := Aside0.mk (show ∀ (e : Int) (p : DP), dHead DP.init ws = (e, p) → dState ((dLines b).take (a + 1)) = ⟨e, a + 1, true, p⟩ from fun e p h => head_state (dLines b) a hal hwne hblk e p (by rw [← hLW, ← hws]; exact h))
  have HWX := Aside0.mk (show ∀ x ∈ ws, x.length ≤ 100000 by
    intro x hx
    rw [hws] at hx
    have h1 := (dWords_mem LW x hx).2
    have h2 := dLines_mem b LW (by rw [hLW]; exact List.getElem_mem hal)
    have := HS.out
    omega)
  have t1 : decide ((a : Int) < 0) = false := decide_eq_false hneg
  have hpa0 : (0 : Int) ≤ (a : Int) := Int.natCast_nonneg _
  have hpa1 : (a : Int) < (LS.length : Int) := by have := HAL.out; omega
  have hpa2 : (a : Int) + 1 ≤ 100001 := by have := HAL.out; have := HNB.out; omega
  clear hLW hws hwne hblk hae hneg
  go_enter Tryz.func22, Tryz.ntmps22
  have TN1 := Aside0.mk trivial
  go_upto_region 6 with (first | (go_at_call 17; rw [← hW0, ← hg2]; have hp := threshingref02_Lines.calls kl (some ad) c (bI b) LS W0 (by rw [bI_length]; exact HC0.out) (by rw [bI_length]; exact HCC.out) HKL.out; rw [bI_length] at hp; refine hp.mono ?_; clear hp; rintro e w1 ⟨vl, rfl, hS, hb⟩; obtain ⟨Al, cl, rfl⟩ := Kd.S_slice hS; have HL1 := Aside0.mk (Kd.S_reads' hS).2.2; have HLC := Aside0.mk (Kd.S_reads' hS).2.1; have HG1 := Aside0.mk (blk_below HG0.out hb); have HB1 := Aside0.mk (below_step HB0.out hb); clear hS hb hW0 hg2) | (go_at_call 44; refine (threshingref02_head.calls kh Al cl LS (a : Int) w1 HL1.out HLC.out HKH.out).mono ?_; rintro e w2 ⟨rfl, hdr⟩; have hb : Below w1.heap.size w1 w2 := drawn_below hdr; have HW2 := Aside0.mk hb; have HL := Aside0.mk (Kd.C_below HL1.out hb); have HG2 := Aside0.mk (blk_below HG1.out hb); have HB2 := Aside0.mk (below_step HB1.out hb); clear hdr hb; obtain ⟨adl, Aw, cw, e1, hx0, hx1, hlw, hCw⟩ := at_T64 HL.out (a : Int) (Int.natCast_nonneg _) (by have := HAL.out; omega); cases e1; rw [HRD.out, Int.toNat_natCast, HF0.out] at hx0; rw [HRD.out, HF0.out] at hlw; rw [HRD.out, HF0.out, HFW.out] at hCw; have HWC := Aside0.mk hCw; have HWL := Aside0.mk hlw; clear hx1 hlw hCw))
  have HPE := Aside0.mk (show ∀ (e : Int) (p : DP), e ≠ 0 → dHead DP.init ws = (e, p) → dParse b = ((0, []), e, (a : Int) + 1) from fun e p he h => by
    rw [parse_err b (a + 1) e true p (a + 1) he (HST.out e p h)]
    rfl)
  by_cases h4 : ws.length = 4
  · obtain ⟨L, hL⟩ : ∃ L, L = ws.length := ⟨_, rfl⟩
    have HWC4 := Aside0.mk (show Kd.string.C w2 Aw 4 (ws.map baOf) by have := HWC.out; rw [h4] at this; exact this)
    have hL4 : L = 4 := hL.trans h4
    rw [← hL]
    clear hL hx0
    subst hL4
    obtain ⟨x0, x1, x2, x3, rfl⟩ := four_of ws h4
    have at_ : ∀ (i : Nat) (x : List UInt8), i < 4 → ([x0, x1, x2, x3] : List (List UInt8))[i]? = some x → ∃ ad, Aw = some ad ∧ w2.cell? (ad.add i) = some (.string (baOf x)) := by
      intro i x hi hx
      obtain ⟨ad, e, h⟩ := Kd.at_string HWC4.out (i : Int) (by omega) (by show (i : Int) < 4; omega)
      refine ⟨ad, e, ?_⟩
      rw [Int.toNat_natCast] at h
      rw [h]
      congr 2
      unfold rdOf
      rw [Int.toNat_natCast, List.getD_eq_getElem?_getD, List.getElem?_map, hx]
      rfl
    obtain ⟨adw, e1, q0⟩ := at_ 0 x0 (by omega) rfl
    cases e1
    obtain ⟨ad', e1, q1⟩ := at_ 1 x1 (by omega) rfl
    cases e1
    obtain ⟨ad', e1, q2⟩ := at_ 2 x2 (by omega) rfl
    cases e1
    obtain ⟨ad', e1, q3⟩ := at_ 3 x3 (by omega) rfl
    cases e1
    have af : ∀ i, 0 < i → adw.add i = ⟨adw.block, adw.off + i, none⟩ := fun i hi => by
      have := add_field adw 0 i hi
      rw [Nat.zero_add, show adw.add 0 = adw from by cases adw; rfl] at this
      exact this
    rw [af 1 (by omega)] at q1
    rw [af 2 (by omega)] at q2
    rw [af 3 (by omega)] at q3
    clear af at_
    rw [show adw.add 0 = adw from by cases adw; rfl] at q0
    have Q3 := Aside0.mk q3
    obtain ⟨n1, i1, f1, hn1⟩ : ∃ n is fits, dNum x2 false 1048576 = (n, is, fits) := ⟨_, _, _, rfl⟩
    obtain ⟨n2, i2, f2, hn2⟩ : ∃ n is fits, dNum x3 false 1048576 = (n, is, fits) := ⟨_, _, _, rfl⟩
    have hw := dHead_four DP.init x0 x1 x2 x3 n1 n2 i1 i2 f1 f2 hn1 hn2
    obtain ⟨k2, hk2⟩ := (rnumber_ev x2 false 1048576 (by omega) (by omega) (by have := HWX.out x2 (by simp); omega)).rounds
    obtain ⟨k3, hk3⟩ := (rnumber_ev x3 false 1048576 (by omega) (by omega) (by have := HWX.out x3 (by simp); omega)).rounds
    rw [hn1] at hk2
    rw [hn2] at hk3
    have HK2 := Aside0.mk hk2
    have HK3 := Aside0.mk hk3
    have hr1 := dNum_range x2 false 1048576 (by omega)
    have hr2 := dNum_range x3 false 1048576 (by omega)
    rw [hn1] at hr1
    rw [hn2] at hr2
    have HR1 := Aside0.mk hr1
    have HR2 := Aside0.mk hr2
    have wa := word_eq x0 [112]
    have wb := word_eq x1 [99, 110, 102]
    clear hn1 hn2 hk2 hk3 hr1 hr2 q3
    have HHW := Aside0.mk hw
    by_cases ha : x0 = [112]
    · have t2 : ((baOf x0).toList == ([112] : List UInt8)) = true := by rw [wa]; exact decide_eq_true ha
      have t2n : ((baOf x0).toList != ([112] : List UInt8)) = false := by rw [bne, t2]; rfl
      by_cases hb : x1 = [99, 110, 102]
      · have t3 : ((baOf x1).toList == ([99, 110, 102] : List UInt8)) = true := by rw [wb]; exact decide_eq_true hb
        have t3n : ((baOf x1).toList != ([99, 110, 102] : List UInt8)) = false := by rw [bne, t3]; rfl
        rw [if_neg (by simp [ha, hb])] at hw
        clear wa wb ha hb
        go_upto_region 10 with (first | (go_at_call 18; have := TN1; clear TN1 this; refine (threshingref02_Number.calls k2 (baOf x2) false 1048576 n1 i1 f1 w2 HK2.out).mono ?_; rintro e w3 ⟨rfl, hdr⟩; have hb := drawn_below hdr; have q3 := pw_cell_below hb Q3.out; have HW3 := Aside0.mk (below_step HW2.out hb); have HG3 := Aside0.mk (blk_below HG2.out hb); have HB3 := Aside0.mk (below_step HB2.out hb); clear hdr hb q0 q1 q2) | (go_at_call 18; refine (threshingref02_Number.calls k3 (baOf x3) false 1048576 n2 i2 f2 w3 HK3.out).mono ?_; rintro e w4 ⟨rfl, hdr⟩; have hb := drawn_below hdr; have HW4 := Aside0.mk (below_step HW3.out hb); have HG4 := Aside0.mk (blk_below HG3.out hb); have HB4 := Aside0.mk (below_step HB3.out hb); clear hdr hb q3))
        rcases i1 with _ | _
        · have HPR := Aside0.mk (HPE.out 20 _ (by decide) (by rw [hw, if_pos (.inl rfl)]))
          clear hw
          go_wp2_with (first | ((with_reducible refine gate_dst (N := 77) rfl ?_); refine build_event rfl #[] rfl _ built0 ?_) | ((with_reducible refine gate_store (t := 35) (p := 2) rfl ?_); refine store_two 35 2 (.tmp 77) rfl rfl rfl (.int .i64 0) (.slice none 0 0) #[.int .i64 0, .slice none 0 0] rfl (by first | rfl | (simp; done) | (go_simp; rfl)) HG4.out nsz25 (Nat.le_refl 2) rfl rfl rfl ?_; intro wz hw hsb; have HWZ := Aside0.mk hw; have HSZ := Aside0.mk hsb; clear hw hsb))
          refine bodyPost_ret (v := .tuple #[.agg #[.int .i64 0, .slice none 0 0], .int .i64 (20), .int .i64 ((a : Int) + 1)]) (by have hz0 := (blk_cell HWZ.out 0).trans (show _ = some (Value.int .i64 0) from rfl); have hz1 := (blk_cell HWZ.out 1).trans (show _ = some (Value.slice none 0 0) from rfl); simp [results, Tryz.f22, go_sem, hz0, hz1]) rfl ?_
          rw [HPR.out]
          exact ⟨none, 0, rfl, Kd.C_nil _ _, Nat.le_refl _, HSZ.out.below HB4.out HL2.out⟩
        rcases i2 with _ | _
        · have HPR := Aside0.mk (HPE.out 20 _ (by decide) (by rw [hw, if_pos (.inr rfl)]))
          clear hw
          go_wp2_with (first | ((with_reducible refine gate_dst (N := 77) rfl ?_); refine build_event rfl #[] rfl _ built0 ?_) | ((with_reducible refine gate_store (t := 35) (p := 2) rfl ?_); refine store_two 35 2 (.tmp 77) rfl rfl rfl (.int .i64 0) (.slice none 0 0) #[.int .i64 0, .slice none 0 0] rfl (by first | rfl | (simp; done) | (go_simp; rfl)) HG4.out nsz25 (Nat.le_refl 2) rfl rfl rfl ?_; intro wz hw hsb; have HWZ := Aside0.mk hw; have HSZ := Aside0.mk hsb; clear hw hsb))
          refine bodyPost_ret (v := .tuple #[.agg #[.int .i64 0, .slice none 0 0], .int .i64 (20), .int .i64 ((a : Int) + 1)]) (by have hz0 := (blk_cell HWZ.out 0).trans (show _ = some (Value.int .i64 0) from rfl); have hz1 := (blk_cell HWZ.out 1).trans (show _ = some (Value.slice none 0 0) from rfl); simp [results, Tryz.f22, go_sem, hz0, hz1]) rfl ?_
          rw [HPR.out]
          exact ⟨none, 0, rfl, Kd.C_nil _ _, Nat.le_refl _, HSZ.out.below HB4.out HL2.out⟩
        rw [if_neg (by simp)] at hw
        rcases f1 with _ | _
        · have HPR := Aside0.mk (HPE.out 22 _ (by decide) (by rw [hw, if_pos (.inl rfl)]))
          clear hw
          go_wp2_with (first | ((with_reducible refine gate_dst (N := 86) rfl ?_); refine build_event rfl #[] rfl _ built0 ?_) | ((with_reducible refine gate_store (t := 35) (p := 2) rfl ?_); refine store_two 35 2 (.tmp 86) rfl rfl rfl (.int .i64 0) (.slice none 0 0) #[.int .i64 0, .slice none 0 0] rfl (by first | rfl | (simp; done) | (go_simp; rfl)) HG4.out nsz25 (Nat.le_refl 2) rfl rfl rfl ?_; intro wz hw hsb; have HWZ := Aside0.mk hw; have HSZ := Aside0.mk hsb; clear hw hsb))
          refine bodyPost_ret (v := .tuple #[.agg #[.int .i64 0, .slice none 0 0], .int .i64 (22), .int .i64 ((a : Int) + 1)]) (by have hz0 := (blk_cell HWZ.out 0).trans (show _ = some (Value.int .i64 0) from rfl); have hz1 := (blk_cell HWZ.out 1).trans (show _ = some (Value.slice none 0 0) from rfl); simp [results, Tryz.f22, go_sem, hz0, hz1]) rfl ?_
          rw [HPR.out]
          exact ⟨none, 0, rfl, Kd.C_nil _ _, Nat.le_refl _, HSZ.out.below HB4.out HL2.out⟩
        rcases f2 with _ | _
        · have HPR := Aside0.mk (HPE.out 22 _ (by decide) (by rw [hw, if_pos (.inr rfl)]))
          clear hw
          go_wp2_with (first | ((with_reducible refine gate_dst (N := 86) rfl ?_); refine build_event rfl #[] rfl _ built0 ?_) | ((with_reducible refine gate_store (t := 35) (p := 2) rfl ?_); refine store_two 35 2 (.tmp 86) rfl rfl rfl (.int .i64 0) (.slice none 0 0) #[.int .i64 0, .slice none 0 0] rfl (by first | rfl | (simp; done) | (go_simp; rfl)) HG4.out nsz25 (Nat.le_refl 2) rfl rfl rfl ?_; intro wz hw hsb; have HWZ := Aside0.mk hw; have HSZ := Aside0.mk hsb; clear hw hsb))
          refine bodyPost_ret (v := .tuple #[.agg #[.int .i64 0, .slice none 0 0], .int .i64 (22), .int .i64 ((a : Int) + 1)]) (by have hz0 := (blk_cell HWZ.out 0).trans (show _ = some (Value.int .i64 0) from rfl); have hz1 := (blk_cell HWZ.out 1).trans (show _ = some (Value.slice none 0 0) from rfl); simp [results, Tryz.f22, go_sem, hz0, hz1]) rfl ?_
          rw [HPR.out]
          exact ⟨none, 0, rfl, Kd.C_nil _ _, Nat.le_refl _, HSZ.out.below HB4.out HL2.out⟩
        rw [if_neg (by simp)] at hw
        have HS0 := Aside0.mk (show dState ((dLines b).take (a + 1)) = ⟨0, a + 1, true, ⟨n1, [], n2, [], 0⟩⟩ from HST.out 0 _ hw)
        have HN1 := Aside0.mk (show 0 ≤ n1 ∧ n1 ≤ 1048576 from ⟨HR1.out.2.2.2.1 (by first | rfl | trivial), HR1.out.2.2.1⟩)
        have HN2 := Aside0.mk (show 0 ≤ n2 ∧ n2 ≤ 1048576 from ⟨HR2.out.2.2.2.1 (by first | rfl | trivial), HR2.out.2.2.1⟩)
        clear hw
        go_wp2_with ((with_reducible refine gate_dst (N := 90) rfl ?_); refine build_event rfl #[(0, .tmp 89)] rfl _ (built1 n1) ?_)
        obtain ⟨W5, hW5⟩ : ∃ W5, W5 = w4.alloc (.cells #[.int .i64 n1, .slice none 0 0] 35) := ⟨_, rfl⟩
        obtain ⟨g14, hg14⟩ : ∃ g14, g14 = w4.heap.size := ⟨_, rfl⟩
        have HG14 := Aside0.mk (show W5.heap[g14]? = some (.cells #[.int .i64 n1, .slice none 0 0] 35 (0, 0)) by rw [hW5, hg14]; exact blk_new w4 _)
        have HB5 := Aside0.mk (show Below w.heap.size w W5 by rw [hW5]; exact below_alloc HB4.out _)
        have HW5 := Aside0.mk (show Below w1.heap.size w1 W5 by rw [hW5]; exact below_alloc HW4.out _)
        rw [← hW5, ← hg14]
        obtain ⟨b1, hb1⟩ : ∃ b1, b1 = W5.heap.size := ⟨_, rfl⟩
        have HFS0 := Aside0.mk (show FS g14 b1 (.slice none 0 0) ⟨n1, [], n2, [], 0⟩ W5 from ⟨⟨none, 0, none, 0, rfl, HG14.out, Kd.R_nil _ _ _ _ _, Kd.R_nil _ _ _ _ _⟩, by rw [hb1]; exact Nat.le_refl _⟩)
        have HGB := Aside0.mk (show g14 < b1 by rw [hb1]; exact blk_lt HG14.out)
        have HLB := Aside0.mk (show w1.heap.size ≤ g14 ∧ w.heap.size ≤ g14 by have h1 := HW4.out.size; have h2 := HB4.out.size; rw [hg14]; exact ⟨h1, h2⟩)
        clear hW5 hg14 hb1 HG14
        go_loopg [15, 16, 17] (LS.length - (a + 1)) (fun gf v15 v16 v17 wr => ∃ (i : Nat) (p : DP), v16 = .int .i64 (p.lits : Nat) ∧ v17 = .int .i64 (i : Int) ∧ i + gf = LS.length ∧ p.vars = n1 ∧ p.want = n2 ∧ Aside0 (dState ((dLines b).take i) = ⟨0, i, true, p⟩) ∧ Aside0 (FS g14 b1 v15 p wr) ∧ Aside0 (Below w.heap.size w wr) ∧ Aside0 (Below w1.heap.size w1 wr))
        case atStart => exact ⟨a + 1, ⟨n1, [], n2, [], 0⟩, rfl, by go_num, by have := HAL.out; omega, rfl, rfl, HS0, HFS0, HB5, HW5⟩
        case round =>
          clear HFS0 HB5 HW5
          obtain ⟨i, p, rfl, rfl, hi, hpv, hpw, HSI, HFS, HBR, HWR⟩ := hrel
          by_cases hlt : i < LS.length
          · have t5 : decide ((i : Int) < (LS.length : Int)) = true := decide_eq_true (by omega)
            have t6 : decide (i < LS.length) = true := decide_eq_true hlt
            have hil : i < (dLines b).length := by rw [← HLL.out]; exact hlt
            obtain ⟨LWi, hLWi⟩ : ∃ x, x = (dLines b)[i] := ⟨_, rfl⟩
            obtain ⟨wi, hwi⟩ : ∃ wi, wi = dWords LWi := ⟨_, rfl⟩
            have HRDi := Aside0.mk (show rd_T64 LS (i : Int) = dS LWi by
              unfold rd_T64
              rw [Int.toNat_natCast, HLS.out, List.getD_eq_getElem?_getD, List.getElem?_map, List.getElem?_eq_getElem hil, hLWi]
              rfl)
            have HFWi := Aside0.mk (show (dS LWi).f0 = wi.map baOf by rw [hwi]; rfl)
            have HF0i := Aside0.mk (show (dS LWi).f0.length = wi.length by rw [HFWi.out, List.length_map])
            have HSTi := Aside0.mk (show ∀ (e : Int) (q : DP), dWordsL p wi = (e, q) → dState ((dLines b).take (i + 1)) = ⟨e, i + 1, true, q⟩ from fun e q h => line_state (dLines b) i hil p HSI.out e q (by rw [← hLWi, ← hwi]; exact h))
            have HERR := Aside0.mk (show ∀ (e : Int) (q : DP), e ≠ 0 → dWordsL p wi = (e, q) → dParse b = ((0, []), e, (i : Int) + 1) from fun e q he h => by
              rw [parse_err b (i + 1) e true q (i + 1) he (HSTi.out e q h)]
              rfl)
            have HWXi := Aside0.mk (show wi.length ≤ 100000 ∧ ∀ x ∈ wi, x.length ≤ 100000 by
              have h2 := dLines_mem b LWi (by rw [hLWi]; exact List.getElem_mem hil)
              have h3 := HS.out
              refine ⟨by rw [hwi]; have := dWords_len LWi; omega, ?_⟩
              intro x hx
              rw [hwi] at hx
              have h1 := (dWords_mem LWi x hx).2
              omega)
            have HDI := Aside0.mk (show DInv p by
              have h := dState_inv ((dLines b).take i)
              rw [HSI.out] at h
              exact h.p)
            have hpi0 : (0 : Int) ≤ (i : Int) := Int.natCast_nonneg _
            have hpi1 : (i : Int) < (LS.length : Int) := by omega
            have hpi2 : (i : Int) + 1 ≤ 100001 := by have := HNB.out; omega
            have HIL := Aside0.mk hlt
            clear hLWi hwi
            go_wp2_with fail
            obtain ⟨wo, rfl⟩ : ∃ wo : World, wo = wr := ⟨_, rfl⟩
            obtain ⟨gko, hgko⟩ : ∃ gko, gko = gk := ⟨_, rfl⟩
            rw [← hgko] at hi
            have HGKO := Aside0.mk hgko
            clear hgko
            go_loopg [15, 16, 18] wi.length (fun gf v15 v16 v18 wr => ∃ (j : Nat) (q : DP), v16 = .int .i64 (q.lits : Nat) ∧ v18 = .int .i64 (j : Int) ∧ j + gf = wi.length ∧ q.vars = n1 ∧ q.want = n2 ∧ Aside0 (dWordsL p wi = dWordsL q (wi.drop j)) ∧ Aside0 (DInv q) ∧ Aside0 (FS g14 b1 v15 q wr) ∧ Aside0 (Below w.heap.size w wr) ∧ Aside0 (Below w1.heap.size w1 wr))
            case atStart => exact ⟨0, p, rfl, rfl, by omega, hpv, hpw, ⟨by rw [List.drop_zero]⟩, HDI, HFS, HBR, HWR⟩
            case round =>
              clear HFS HBR HWR HDI
              obtain ⟨j, q, rfl, rfl, hj, hqv, hqw, HQ, HDI, HFS, HBR, HWR⟩ := hrel
              obtain ⟨adl', Aw, cw', e1, hx0, hx1, hlw, hCw⟩ := at_T64 (Kd.C_below HL1.out HWR.out) (i : Int) (Int.natCast_nonneg _) (by have := HIL.out; omega)
              cases e1
              rw [HRDi.out, Int.toNat_natCast, HF0i.out] at hx0
              rw [HRDi.out, HF0i.out] at hlw
              rw [HRDi.out, HF0i.out, HFWi.out] at hCw
              have HWCi := Aside0.mk hCw
              clear hx1 hlw hCw
              by_cases hjt : j < wi.length
              · have t7 : decide ((j : Int) < (wi.length : Int)) = true := decide_eq_true (by omega)
                have t8 : decide (j < wi.length) = true := decide_eq_true hjt
                obtain ⟨x, hx⟩ : ∃ x, x = wi[j] := ⟨_, rfl⟩
                have hdr : wi.drop j = x :: wi.drop (j + 1) := by rw [hx]; exact List.drop_eq_getElem_cons hjt
                have hxz : x.length ≤ 100000 := HWXi.out.2 x (by rw [hx]; exact List.getElem_mem hjt)
                obtain ⟨aw, e1, hxw⟩ := Kd.at_string HWCi.out (j : Int) (by omega) (by omega)
                cases e1
                rw [Int.toNat_natCast, show rdOf ByteArray.empty (wi.map baOf) (j : Int) = baOf x by
                  unfold rdOf
                  rw [Int.toNat_natCast, List.getD_eq_getElem?_getD, List.getElem?_map, List.getElem?_eq_getElem hjt, hx]
                  rfl] at hxw
                have hji : (0 : Int) ≤ (j : Int) := Int.natCast_nonneg _
                have hjl : (j : Int) < (wi.length : Int) := by omega
                have hj1 : (j : Int) + 1 ≤ 100001 := by have := HWXi.out.1; omega
                obtain ⟨nv, y1, y2, hn⟩ : ∃ nv y1 y2, dNum x true n1 = (nv, y1, y2) := ⟨_, _, _, rfl⟩
                obtain ⟨kx, hkx⟩ := (rnumber_ev x true n1 HN1.out.1 (by have := HN1.out.2; omega) (by omega)).rounds
                rw [hn] at hkx
                have HKX := Aside0.mk hkx
                have hrx := dNum_range x true n1 HN1.out.1
                rw [hn] at hrx
                have HRX := Aside0.mk hrx
                have hw : dWord q x = if y1 = false then (21, q) else if (q.cls.length : Int) = n2 then (24, q) else if y2 = false ∨ (nv ≠ 0 ∧ q.lits = 16777216) then (22, q) else if nv = 0 then (0, { q with cls := q.cls ++ [q.opn], opn := [] }) else (0, { q with opn := q.opn ++ [nv], lits := q.lits + 1 }) := by
                  unfold dWord
                  rw [hqv, hn, hqw]
                have HE1 := Aside0.mk (show ∀ (e : Int) (q' : DP), e ≠ 0 → dWord q x = (e, q') → dParse b = ((0, []), e, (i : Int) + 1) from fun e q' he h => HERR.out e q' he (by rw [HQ.out, hdr]; exact words_stop q x _ e q' he h))
                have HQ1 := Aside0.mk (show ∀ q' : DP, dWord q x = (0, q') → dWordsL p wi = dWordsL q' (wi.drop (j + 1)) from fun q' h => by rw [HQ.out, hdr]; exact words_next q x _ q' h)
                have HDQ := Aside0.mk (show ∀ q' : DP, dWord q x = (0, q') → DInv q' from fun q' h => by have h2 := dWord_inv q x HDI.out; rw [h] at h2; exact h2)
                obtain ⟨A1, c1, A3, c3, rfl, h0, h1, h2⟩ := HFS.out.ex
                have HF0 := Aside0.mk h0
                have HF1 := Aside0.mk h1
                have HF2 := Aside0.mk h2
                have HFT := Aside0.mk HFS.out.top
                have hlits : (q.lits : Int) + 1 ≤ 16777217 := by have := HDI.out.l; omega
                clear h0 h1 h2 hn hkx hrx hx hdr
                go_upto_region 24 with (go_at_call 18; refine (threshingref02_Number.calls kx (baOf x) true n1 nv y1 y2 wr HKX.out).mono ?_; rintro e wn ⟨rfl, hdr⟩; have hb := drawn_below hdr; have HBn := Aside0.mk (below_step HBR.out hb); have HWn := Aside0.mk (below_step HWR.out hb); have HG2n := Aside0.mk (blk_below (blk_below HG1.out HWR.out) hb); have HF0n := Aside0.mk (blk_below HF0.out hb); have HF1n := Aside0.mk (Kd.R_below HF1.out hb); have HF2n := Aside0.mk (Kd.R_below HF2.out hb); have HFTn := Aside0.mk (Nat.le_trans HFT.out hb.size); have hc1 := (blk_cell (blk_below HF0.out hb) 1).trans (show _ = some (Value.slice A1 q.cls.length c1) from rfl); clear hdr hb hxw hx0)
                cases y1 with
                | false =>
                  have HPR := Aside0.mk (HE1.out 21 q (by decide) (by rw [hw, if_pos rfl]))
                  clear hw
                  go_wp2_with (first | ((with_reducible refine gate_dst (N := 125) rfl ?_); refine build_event rfl #[] rfl _ built0 ?_) | ((with_reducible refine gate_store (t := 35) (p := 2) rfl ?_); refine store_two 35 2 (.tmp 125) rfl rfl rfl (.int .i64 0) (.slice none 0 0) #[.int .i64 0, .slice none 0 0] rfl (by first | rfl | (simp; done) | (go_simp; rfl)) HG2n.out nsz25 (Nat.le_refl 2) rfl rfl rfl ?_; intro wz hw hsb; have HWZ := Aside0.mk hw; have HSZ := Aside0.mk hsb; clear hw hsb))
                  refine bodyPost_ret (v := .tuple #[.agg #[.int .i64 0, .slice none 0 0], .int .i64 (21), .int .i64 ((i : Int) + 1)]) (by have hz0 := (blk_cell HWZ.out 0).trans (show _ = some (Value.int .i64 0) from rfl); have hz1 := (blk_cell HWZ.out 1).trans (show _ = some (Value.slice none 0 0) from rfl); simp [results, Tryz.f22, go_sem, hz0, hz1]) rfl ?_
                  rw [HPR.out]
                  exact ⟨none, 0, rfl, Kd.C_nil _ _, Nat.le_refl _, HSZ.out.below HBn.out HL2.out⟩
                | true =>
                  rw [if_neg (by decide)] at hw
                  by_cases hcw : (q.cls.length : Int) = n2
                  · have t9 : ((q.cls.length : Int) == n2) = true := beq_iff_eq.2 hcw
                    have HPR := Aside0.mk (HE1.out 24 q (by decide) (by rw [hw, if_pos hcw]))
                    clear hw hcw
                    go_wp2_with (first | ((with_reducible refine gate_dst (N := 133) rfl ?_); refine build_event rfl #[] rfl _ built0 ?_) | ((with_reducible refine gate_store (t := 35) (p := 2) rfl ?_); refine store_two 35 2 (.tmp 133) rfl rfl rfl (.int .i64 0) (.slice none 0 0) #[.int .i64 0, .slice none 0 0] rfl (by first | rfl | (simp; done) | (go_simp; rfl)) HG2n.out nsz25 (Nat.le_refl 2) rfl rfl rfl ?_; intro wz hw hsb; have HWZ := Aside0.mk hw; have HSZ := Aside0.mk hsb; clear hw hsb))
                    refine bodyPost_ret (v := .tuple #[.agg #[.int .i64 0, .slice none 0 0], .int .i64 (24), .int .i64 ((i : Int) + 1)]) (by have hz0 := (blk_cell HWZ.out 0).trans (show _ = some (Value.int .i64 0) from rfl); have hz1 := (blk_cell HWZ.out 1).trans (show _ = some (Value.slice none 0 0) from rfl); simp [results, Tryz.f22, go_sem, hz0, hz1]) rfl ?_
                    rw [HPR.out]
                    exact ⟨none, 0, rfl, Kd.C_nil _ _, Nat.le_refl _, HSZ.out.below HBn.out HL2.out⟩
                  · have t9 : ((q.cls.length : Int) == n2) = false := beq_eq_false_iff_ne.2 hcw
                    rw [if_neg hcw] at hw
                    cases y2 with
                    | false =>
                      have HPR := Aside0.mk (HE1.out 22 q (by decide) (by rw [hw, if_pos (.inl rfl)]))
                      clear hw
                      go_wp2_with (first | ((with_reducible refine gate_dst (N := 146) rfl ?_); refine build_event rfl #[] rfl _ built0 ?_) | ((with_reducible refine gate_store (t := 35) (p := 2) rfl ?_); refine store_two 35 2 (.tmp 146) rfl rfl rfl (.int .i64 0) (.slice none 0 0) #[.int .i64 0, .slice none 0 0] rfl (by first | rfl | (simp; done) | (go_simp; rfl)) HG2n.out nsz25 (Nat.le_refl 2) rfl rfl rfl ?_; intro wz hw hsb; have HWZ := Aside0.mk hw; have HSZ := Aside0.mk hsb; clear hw hsb))
                      refine bodyPost_ret (v := .tuple #[.agg #[.int .i64 0, .slice none 0 0], .int .i64 (22), .int .i64 ((i : Int) + 1)]) (by have hz0 := (blk_cell HWZ.out 0).trans (show _ = some (Value.int .i64 0) from rfl); have hz1 := (blk_cell HWZ.out 1).trans (show _ = some (Value.slice none 0 0) from rfl); simp [results, Tryz.f22, go_sem, hz0, hz1]) rfl ?_
                      rw [HPR.out]
                      exact ⟨none, 0, rfl, Kd.C_nil _ _, Nat.le_refl _, HSZ.out.below HBn.out HL2.out⟩
                    | true =>
                      by_cases hz : nv = 0
                      · subst hz
                        have hwv : dWord q x = (0, { q with cls := q.cls ++ [q.opn], opn := [] }) := by rw [hw, if_neg (by simp), if_pos rfl]
                        have HWV := Aside0.mk hwv
                        obtain ⟨LN, hln⟩ : ∃ L, L = (q.cls ++ [q.opn]).length := ⟨_, rfl⟩
                        have HLN := Aside0.mk hln
                        have HCL := Aside0.mk (show (q.cls.length + 1) * 24 ≤ 140737488355328 by have h1 := HDI.out.c; have h2 := HDI.out.w1; omega)
                        clear hw hwv hln
                        go_wp2_with (first | ((with_reducible refine gate_builtin (b := .append) (xs := #[.tmp 152, .tmp 154]) rfl ?_); at_builtin; refine Kd.R_append kcs (w0 := wn) b1 rfl (.tmp 152) (.tmp 154) 33 42 (.slice none 0 0) 24 rfl Tryz.underlying33 info50 rfl (by decide) (by omega) _ q.cls q.opn [.slice A3 q.opn.length c3] (fun _ => True) (fun k => some k ≠ (Value.slice A1 q.cls.length c1).ownBlock) rfl rfl ?aP (fun k hk => ⟨trivial, hk⟩) (fun _ _ => trivial) (Kd.R_mono HF1n.out (fun _ _ => trivial)) (Below.refl _ _) HFTn.out ?aL ?_; (case aP => exact ⟨_, rfl, Kd.R_mono (Kd.R_apart' HF2n.out (Kd.R_typed HF1n.out) (by decide)) (fun k hk => hk.2)⟩); (case aL => exact HCL.out); intro v9 w9 ho hb hg1 hat; obtain ⟨A9, c9, e9⟩ := Kd.R_slice ho; rw [← HLN.out] at e9; subst e9; have HR9 := Aside0.mk ho; have HG9 := Aside0.mk (blk_grown HF0n.out hg1 (Kd.R_ne HF1n.out HF0n.out (by decide))); have HB9 := Aside0.mk (HBn.out.trans (hb.mono (by have h1 := HGB.out; have h2 := HLB.out; omega))); have HW9 := Aside0.mk (HWn.out.trans (hb.mono (by have h1 := HGB.out; have h2 := HLB.out; omega))); have HS9 := Aside0.mk (show b1 ≤ w9.heap.size from Nat.le_trans HFTn.out hb.size); clear ho hb hg1 hat hc1) | ((with_reducible refine gate_store (t := 33) (p := 156) rfl ?_); refine store_one 33 156 (.tmp 155) rfl rfl rfl (.slice A9 LN c9) #[.int .i64 q.vars, .slice A9 LN c9] rfl (by first | rfl | (simp; rfl)) HG9.out rfl nsz23 (show 1 + 1 ≤ 2 by omega) rfl rfl ?_; intro w10 hw10 hsb; have HG10 := Aside0.mk hw10; have HSB10 := Aside0.mk hsb; clear hw10 hsb))
                        have hLN := HLN.out
                        subst hLN
                        go_roundg (gk - 1)
                        case measure => omega
                        case rel => exact ⟨j + 1, { q with cls := q.cls ++ [q.opn], opn := [] }, rfl, by go_num, by omega, hqv, hqw, ⟨HQ1.out _ HWV.out⟩, ⟨HDQ.out _ HWV.out⟩, ⟨⟨A9, c9, none, 0, rfl, HG10.out, Kd.R_mono (HSB10.out.Rt HR9.out HG9.out (by decide)) (fun k _ => by simp [Value.ownBlock]), Kd.R_nil _ _ _ _ _⟩, by rw [HSB10.out.size]; exact HS9.out⟩, ⟨HSB10.out.below HB9.out HLB.out.2⟩, ⟨HSB10.out.below HW9.out HLB.out.1⟩⟩
                      · have t10 : (nv == 0) = false := beq_eq_false_iff_ne.2 hz
                        have t10n : (nv != 0) = true := by rw [bne, t10]; rfl
                        by_cases hm : q.lits = 16777216
                        · have t11 : ((q.lits : Int) == 16777216) = true := beq_iff_eq.2 (by omega)
                          have HPR := Aside0.mk (HE1.out 22 q (by decide) (by rw [hw, if_pos (.inr ⟨hz, hm⟩)]))
                          clear hw hm
                          go_wp2_with (first | ((with_reducible refine gate_dst (N := 146) rfl ?_); refine build_event rfl #[] rfl _ built0 ?_) | ((with_reducible refine gate_store (t := 35) (p := 2) rfl ?_); refine store_two 35 2 (.tmp 146) rfl rfl rfl (.int .i64 0) (.slice none 0 0) #[.int .i64 0, .slice none 0 0] rfl (by first | rfl | (simp; done) | (go_simp; rfl)) HG2n.out nsz25 (Nat.le_refl 2) rfl rfl rfl ?_; intro wz hw hsb; have HWZ := Aside0.mk hw; have HSZ := Aside0.mk hsb; clear hw hsb))
                          refine bodyPost_ret (v := .tuple #[.agg #[.int .i64 0, .slice none 0 0], .int .i64 (22), .int .i64 ((i : Int) + 1)]) (by have hz0 := (blk_cell HWZ.out 0).trans (show _ = some (Value.int .i64 0) from rfl); have hz1 := (blk_cell HWZ.out 1).trans (show _ = some (Value.slice none 0 0) from rfl); simp [results, Tryz.f22, go_sem, hz0, hz1]) rfl ?_
                          rw [HPR.out]
                          exact ⟨none, 0, rfl, Kd.C_nil _ _, Nat.le_refl _, HSZ.out.below HBn.out HL2.out⟩
                        · have t11 : ((q.lits : Int) == 16777216) = false := beq_eq_false_iff_ne.2 (by omega)
                          have hwv : dWord q x = (0, { q with opn := q.opn ++ [nv], lits := q.lits + 1 }) := by rw [hw, if_neg (by rintro (h | ⟨_, h⟩); cases h; exact hm h), if_neg hz]
                          have HWV := Aside0.mk hwv
                          have hwr := wrap32_lit HN1.out.1 HN1.out.2 HRX.out.2.1 HRX.out.2.2.1
                          have HOL := Aside0.mk (show (q.opn.length + 1) * 4 ≤ 140737488355328 by have h1 := HDI.out.t; have h2 := HDI.out.l; omega)
                          clear hw hwv hm
                          go_wp2_with ((with_reducible refine gate_builtin (b := .append) (xs := #[.tmp 157, .tmp 160]) rfl ?_); at_builtin; refine Kd.R_append (Kd.int .i32) (w0 := wn) b1 rfl (.tmp 157) (.tmp 160) 42 40 (.int .i32 0) 4 rfl Tryz.underlying42 info67 rfl (by decide) (by omega) _ q.opn nv [.int .i32 nv] (fun _ => True) (fun _ => False) rfl rfl ?aP (fun _ hk => hk.elim) (fun _ _ => trivial) HF2n.out (Below.refl _ _) HFTn.out ?aL ?_; (case aP => exact rfl); (case aL => exact HOL.out); intro v9 w9 ho hb hg1 hat; obtain ⟨A9, c9, rfl⟩ := Kd.R_slice ho; have HR9 := Aside0.mk ho; have HG9 := Aside0.mk (blk_grown HF0n.out hg1 (Kd.R_ne HF2n.out HF0n.out (by decide))); have HB9 := Aside0.mk (HBn.out.trans (hb.mono (by have h1 := HGB.out; have h2 := HLB.out; omega))); have HW9 := Aside0.mk (HWn.out.trans (hb.mono (by have h1 := HGB.out; have h2 := HLB.out; omega))); have HS9 := Aside0.mk (show b1 ≤ w9.heap.size from Nat.le_trans HFTn.out hb.size); have HC9 := Aside0.mk (Kd.R_mono (Kd.R_after (Kd.R_mono HF1n.out (fun k hk => ⟨trivial, hk⟩) : kcs.R 42 wn b1 (fun k => True ∧ some k ≠ (Value.slice A3 q.opn.length c3).ownBlock) _ q.cls) hg1 hat) (fun k hk => hk.2)); clear ho hb hg1 hat hc1)
                          go_roundg (gk - 1)
                          case measure => omega
                          case rel => exact ⟨j + 1, { q with opn := q.opn ++ [nv], lits := q.lits + 1 }, by go_num, by go_num, by omega, hqv, hqw, ⟨HQ1.out _ HWV.out⟩, ⟨HDQ.out _ HWV.out⟩, ⟨⟨A1, c1, A9, c9, (by simp), HG9.out, HC9.out, HR9.out⟩, HS9.out⟩, HB9, HW9⟩
              · have t7 : decide ((j : Int) < (wi.length : Int)) = false := decide_eq_false (by omega)
                have t8 : decide (j < wi.length) = false := decide_eq_false hjt
                have HSN := Aside0.mk (HSTi.out 0 q (by
                  rw [HQ.out, List.drop_of_length_le (by omega)]
                  rfl))
                go_wp2_with fail
                have hgko := HGKO.out
                go_roundg (gko - 1)
                case measure => omega
                case rel => exact ⟨i + 1, q, rfl, by go_num, by omega, hqv, hqw, HSN, HFS, HBR, HWR⟩
          · have t5 : decide ((i : Int) < (LS.length : Int)) = false := decide_eq_false (by omega)
            have t6 : decide (i < LS.length) = false := decide_eq_false hlt
            obtain ⟨A1, c1, A3, c3, rfl, h0, h1, h2⟩ := HFS.out.ex
            have HF0r := Aside0.mk h0
            have HF1 := Aside0.mk h1
            have hc0 := (blk_cell h0 0).trans (show _ = some (Value.int .i64 p.vars) from rfl)
            have hc1 := (blk_cell h0 1).trans (show _ = some (Value.slice A1 p.cls.length c1) from rfl)
            have HG2r := Aside0.mk (blk_below HG1.out HWR.out)
            have HFIN := Aside0.mk (parse_fin b p (by
              have := HSI.out
              rwa [show i = (dLines b).length by rw [← HLL.out]; omega, List.take_of_length_le (Nat.le_refl _)] at this))
            have hl1 : (LS.length : Int) + 1 ≤ 100001 := by have := HNB.out; omega
            have hwant : p.want = n2 := hpw
            clear h0 h1 h2 hpv hpw hi hlt
            by_cases ho : 0 < p.opn.length
            · have t7 : decide (0 < (p.opn.length : Int)) = true := decide_eq_true (by omega)
              have t8 : decide (0 < p.opn.length) = true := decide_eq_true ho
              have HPR := Aside0.mk (show dParse b = ((0, []), 23, (LS.length : Int) + 1) by rw [HFIN.out, if_pos (.inl (List.length_pos_iff.1 ho)), HLL.out])
              clear ho
              go_wp2_with (first | ((with_reducible refine gate_dst (N := 174) rfl ?_); refine build_event rfl #[] rfl _ built0 ?_) | ((with_reducible refine gate_store (t := 35) (p := 2) rfl ?_); refine store_two 35 2 (.tmp 174) rfl rfl rfl (.int .i64 0) (.slice none 0 0) #[.int .i64 0, .slice none 0 0] rfl (by first | rfl | (simp; done) | (go_simp; rfl)) HG2r.out nsz25 (Nat.le_refl 2) rfl rfl rfl ?_; intro wz hw hsb; have HWZ := Aside0.mk hw; have HSZ := Aside0.mk hsb; clear hw hsb))
              refine bodyPost_ret (v := .tuple #[.agg #[.int .i64 0, .slice none 0 0], .int .i64 (23), .int .i64 ((LS.length : Int) + 1)]) (by have hz0 := (blk_cell HWZ.out 0).trans (show _ = some (Value.int .i64 0) from rfl); have hz1 := (blk_cell HWZ.out 1).trans (show _ = some (Value.slice none 0 0) from rfl); simp [results, Tryz.f22, go_sem, hz0, hz1]) rfl ?_
              rw [HPR.out]
              exact ⟨none, 0, rfl, Kd.C_nil _ _, Nat.le_refl _, HSZ.out.below HBR.out HL2.out⟩
            · have t7 : decide (0 < (p.opn.length : Int)) = false := decide_eq_false (by omega)
              have t8 : decide (0 < p.opn.length) = false := decide_eq_false ho
              have hoe : p.opn = [] := List.eq_nil_of_length_eq_zero (by omega)
              by_cases hlw : (p.cls.length : Int) < n2
              · have t9 : decide ((p.cls.length : Int) < n2) = true := decide_eq_true hlw
                have HPR := Aside0.mk (show dParse b = ((0, []), 23, (LS.length : Int) + 1) by rw [HFIN.out, if_pos (.inr (by rw [hwant]; exact hlw)), HLL.out])
                clear ho hoe hlw
                go_wp2_with (first | ((with_reducible refine gate_dst (N := 174) rfl ?_); refine build_event rfl #[] rfl _ built0 ?_) | ((with_reducible refine gate_store (t := 35) (p := 2) rfl ?_); refine store_two 35 2 (.tmp 174) rfl rfl rfl (.int .i64 0) (.slice none 0 0) #[.int .i64 0, .slice none 0 0] rfl (by first | rfl | (simp; done) | (go_simp; rfl)) HG2r.out nsz25 (Nat.le_refl 2) rfl rfl rfl ?_; intro wz hw hsb; have HWZ := Aside0.mk hw; have HSZ := Aside0.mk hsb; clear hw hsb))
                refine bodyPost_ret (v := .tuple #[.agg #[.int .i64 0, .slice none 0 0], .int .i64 (23), .int .i64 ((LS.length : Int) + 1)]) (by have hz0 := (blk_cell HWZ.out 0).trans (show _ = some (Value.int .i64 0) from rfl); have hz1 := (blk_cell HWZ.out 1).trans (show _ = some (Value.slice none 0 0) from rfl); simp [results, Tryz.f22, go_sem, hz0, hz1]) rfl ?_
                rw [HPR.out]
                exact ⟨none, 0, rfl, Kd.C_nil _ _, Nat.le_refl _, HSZ.out.below HBR.out HL2.out⟩
              · have t9 : decide ((p.cls.length : Int) < n2) = false := decide_eq_false hlw
                have HPR := Aside0.mk (show dParse b = ((p.vars, p.cls), 0, 0) by rw [HFIN.out, if_neg (by rintro (h | h); exact h hoe; rw [hwant] at h; exact hlw h)])
                clear ho hoe hlw
                go_wp2_with ((with_reducible refine gate_store (t := 35) (p := 2) rfl ?_); refine store_two 35 2 (.tmp 178) rfl rfl rfl (.int .i64 p.vars) (.slice A1 p.cls.length c1) #[.int .i64 p.vars, .slice A1 p.cls.length c1] rfl (by first | rfl | (simp; done) | (go_simp; rfl)) HG2r.out nsz25 (Nat.le_refl 2) rfl rfl rfl ?_; intro wz hw hsb; have HWZ := Aside0.mk hw; have HSZ := Aside0.mk hsb; clear hw hsb)
                refine bodyPost_ret (v := .tuple #[.agg #[.int .i64 p.vars, .slice A1 p.cls.length c1], .int .i64 0, .int .i64 0]) (by have hz0 := (blk_cell HWZ.out 0).trans (show _ = some (Value.int .i64 p.vars) from rfl); have hz1 := (blk_cell HWZ.out 1).trans (show _ = some (Value.slice A1 p.cls.length c1) from rfl); simp [results, Tryz.f22, go_sem, hz0, hz1]) rfl ?_
                rw [HPR.out]
                have hR := HSZ.out.Rt HF1.out HG2r.out (by decide)
                exact ⟨A1, c1, rfl, (Kd.R_reads' hR).2.2, (Kd.R_reads' hR).2.1, HSZ.out.below HBR.out HL2.out⟩
      · have t3 : ((baOf x1).toList == ([99, 110, 102] : List UInt8)) = false := by rw [wb]; exact decide_eq_false hb
        have t3n : ((baOf x1).toList != ([99, 110, 102] : List UInt8)) = true := by rw [bne, t3]; rfl
        have HPR := Aside0.mk (HPE.out 20 _ (by decide) (by rw [hw, if_pos (.inr hb)]))
        clear wa wb hw ha hb
        go_wp2_with (first | ((with_reducible refine gate_dst (N := 52) rfl ?_); refine build_event rfl #[] rfl _ built0 ?_) | ((with_reducible refine gate_store (t := 35) (p := 2) rfl ?_); refine store_two 35 2 (.tmp 52) rfl rfl rfl (.int .i64 0) (.slice none 0 0) #[.int .i64 0, .slice none 0 0] rfl (by first | rfl | (simp; done) | (go_simp; rfl)) HG2.out nsz25 (Nat.le_refl 2) rfl rfl rfl ?_; intro wz hw hsb; have HWZ := Aside0.mk hw; have HSZ := Aside0.mk hsb; clear hw hsb))
        refine bodyPost_ret (v := .tuple #[.agg #[.int .i64 0, .slice none 0 0], .int .i64 (20), .int .i64 ((a : Int) + 1)]) (by have hz0 := (blk_cell HWZ.out 0).trans (show _ = some (Value.int .i64 0) from rfl); have hz1 := (blk_cell HWZ.out 1).trans (show _ = some (Value.slice none 0 0) from rfl); simp [results, Tryz.f22, go_sem, hz0, hz1]) rfl ?_
        rw [HPR.out]
        exact ⟨none, 0, rfl, Kd.C_nil _ _, Nat.le_refl _, HSZ.out.below HB2.out HL2.out⟩
    · have t2 : ((baOf x0).toList == ([112] : List UInt8)) = false := by rw [wa]; exact decide_eq_false ha
      have t2n : ((baOf x0).toList != ([112] : List UInt8)) = true := by rw [bne, t2]; rfl
      have HPR := Aside0.mk (HPE.out 20 _ (by decide) (by rw [hw, if_pos (.inl ha)]))
      clear wa wb hw ha
      go_wp2_with (first | ((with_reducible refine gate_dst (N := 52) rfl ?_); refine build_event rfl #[] rfl _ built0 ?_) | ((with_reducible refine gate_store (t := 35) (p := 2) rfl ?_); refine store_two 35 2 (.tmp 52) rfl rfl rfl (.int .i64 0) (.slice none 0 0) #[.int .i64 0, .slice none 0 0] rfl (by first | rfl | (simp; done) | (go_simp; rfl)) HG2.out nsz25 (Nat.le_refl 2) rfl rfl rfl ?_; intro wz hw hsb; have HWZ := Aside0.mk hw; have HSZ := Aside0.mk hsb; clear hw hsb))
      refine bodyPost_ret (v := .tuple #[.agg #[.int .i64 0, .slice none 0 0], .int .i64 (20), .int .i64 ((a : Int) + 1)]) (by have hz0 := (blk_cell HWZ.out 0).trans (show _ = some (Value.int .i64 0) from rfl); have hz1 := (blk_cell HWZ.out 1).trans (show _ = some (Value.slice none 0 0) from rfl); simp [results, Tryz.f22, go_sem, hz0, hz1]) rfl ?_
      rw [HPR.out]
      exact ⟨none, 0, rfl, Kd.C_nil _ _, Nat.le_refl _, HSZ.out.below HB2.out HL2.out⟩
  · have t2 : ((ws.length : Int) == 4) = false := beq_eq_false_iff_ne.2 (by omega)
    have t2n : ((ws.length : Int) != 4) = true := by rw [bne, t2]; rfl
    have t2b : (ws.length == 4) = false := beq_eq_false_iff_ne.2 h4
    have HPR := Aside0.mk (HPE.out 20 _ (by decide) (dHead_not DP.init ws h4))
    clear h4
    go_wp2_with (first | ((with_reducible refine gate_dst (N := 52) rfl ?_); refine build_event rfl #[] rfl _ built0 ?_) | ((with_reducible refine gate_store (t := 35) (p := 2) rfl ?_); refine store_two 35 2 (.tmp 52) rfl rfl rfl (.int .i64 0) (.slice none 0 0) #[.int .i64 0, .slice none 0 0] rfl (by first | rfl | (simp; done) | (go_simp; rfl)) HG2.out nsz25 (Nat.le_refl 2) rfl rfl rfl ?_; intro wz hw hsb; have HWZ := Aside0.mk hw; have HSZ := Aside0.mk hsb; clear hw hsb))
    refine bodyPost_ret (v := .tuple #[.agg #[.int .i64 0, .slice none 0 0], .int .i64 (20), .int .i64 ((a : Int) + 1)]) (by have hz0 := (blk_cell HWZ.out 0).trans (show _ = some (Value.int .i64 0) from rfl); have hz1 := (blk_cell HWZ.out 1).trans (show _ = some (Value.slice none 0 0) from rfl); simp [results, Tryz.f22, go_sem, hz0, hz1]) rfl ?_
    rw [HPR.out]
    exact ⟨none, 0, rfl, Kd.C_nil _ _, Nat.le_refl _, HSZ.out.below HB2.out HL2.out⟩
end Go.Proofs.YtigloobbpcnnhaaGreatDoor.PB
end
section
namespace Go.Proofs.YtigloobbpcnnhaaGreatDoor.PB
open Go.RowKit Go.Proofs.YtigloobbpcnnhaaGreatDoorW.PrintWords Go.Proofs.YtigloobbpcnnhaaGreatDoorW.PrintLast Go.Proofs.YtigloobbpcnnhaaGreatDoorW.PrintMore
attribute [local go_sem] max2_int min2_int max_two min_two max_three min_three max_four min_four   -- for this text's walks alone
set_option linter.unusedVariables false
set_option linter.unusedSimpArgs false
def threshingref02_digits.f : Nat → Int → Option (ByteArray)
  | 0, _ => none
  | k + 1, a0 => if a0 < 0 then ((threshingref02_digits.f k (wrap64 (-a0))).bind fun t203 => (if 1 + t203.size ≤ 9223372036854775807 then (some ((⟨#[45]⟩ : ByteArray) ++ t203)) else (none))) else ((some (([(wrap64 (48 + (Int.tmod a0 10))) % 256] : List Int) : List Int)).bind fun y204 => (if a0 > 9 then ((threshingref02_digits.f k (wrap64 (Int.tdiv a0 10))).bind fun t207 => (if t207.size + (strOfNums y204).size ≤ 9223372036854775807 then (some (t207 ++ (strOfNums y204))) else (none))) else (some (strOfNums y204))))
theorem threshingref02_digits.mono_l : ∀ k, (∀ y0, LeO (threshingref02_digits.f k y0) (threshingref02_digits.f (k + 1) y0))
  | 0 => fun _ r h => by simp [threshingref02_digits.f] at h
  | k + 1 => by
    have ih0 := threshingref02_digits.mono_l k
    · intro y0
      unfold threshingref02_digits.f
      repeat' first
      | (with_reducible exact ih0 _)
      | (with_reducible exact LeO.refl _)
      | (with_reducible exact LeO.none _)
      | (with_reducible refine LeO.ite ?_ ?_)
      | (with_reducible refine LeO.bind ?_ (fun _ => ?_))
      | exact ih0 _
      | exact LeO.none _
      | refine LeO.ite ?_ ?_
      | refine LeO.bind ?_ (fun _ => ?_)
theorem threshingref02_digits.mono : ∀ a0 k, LeO (threshingref02_digits.f k a0) (threshingref02_digits.f (k + 1) a0) := by
  intro a0 k
  have ih0 := threshingref02_digits.mono_l k
  exact ih0 a0
theorem _root_.Go.IntKind.u8_tenths (x : Int) : IntKind.u8.wrap (48 + IntKind.u8.wrap x) = (48 + x) % 256 := by
  have h : ∀ y, IntKind.u8.wrap y = y % 256 := fun y => by simp [IntKind.wrap, IntKind.bits, IntKind.signed]
  rw [h, h]
  omega
set_option maxHeartbeats 8000000 in
set_option maxRecDepth 100000 in
theorem threshingref02_digits.calls (k : Nat) : ∀ (a0 : Int) (r : ByteArray) (w : World) (h : threshingref02_digits.f k a0 = some r),
    Calls Tryz.prog 39 #[.int .i64 a0] w fun e w' => e = .returned (.string r) ∧ Below w.heap.size w w' := by
  induction k using Nat.strongRecOn with
  | _ k ih =>
  intro a0 r w h
  cases k with
  | zero => exact absurd h (by simp [threshingref02_digits.f])
  | succ k =>
  simp only [threshingref02_digits.f] at h
  have HB := Aside0.mk (Below.refl w.heap.size w)
  have H : (if a0 < 0 then ((threshingref02_digits.f k (wrap64 (-a0))).bind fun t203 => (if 1 + t203.size ≤ 9223372036854775807 then (some ((⟨#[45]⟩ : ByteArray) ++ t203)) else (none))) else ((some (([(wrap64 (48 + (Int.tmod a0 10))) % 256] : List Int) : List Int)).bind fun y204 => (if a0 > 9 then ((threshingref02_digits.f k (wrap64 (Int.tdiv a0 10))).bind fun t207 => (if t207.size + (strOfNums y204).size ≤ 9223372036854775807 then (some (t207 ++ (strOfNums y204))) else (none))) else (some (strOfNums y204))))) = some r := h
  clear h
  by_cases c2 : a0 < 0
  · rw [if_pos c2] at H
    have c2b0 : decide (a0 < 0) = true := decide_eq_true c2
    clear c2
    replace H := Option.bind_eq_some_iff.mp H
    obtain ⟨t203, A30, H⟩ := H
    replace H : (if 1 + t203.size ≤ 9223372036854775807 then (some ((⟨#[45]⟩ : ByteArray) ++ t203)) else (none)) = some r := H
    have A3 := Aside0.mk A30
    clear A30
    by_cases c4 : 1 + t203.size ≤ 9223372036854775807
    · rw [if_pos c4] at H
      have c4b0 := eq_true c4
      have c4b1 : decide (1 + t203.size ≤ 9223372036854775807) = true := decide_eq_true c4
      try have c4b2 : (9223372036854775807 < 1 + t203.size) = False := eq_false (Nat.not_lt.2 c4)
      obtain rfl := Option.some.inj H
      go_enter Tryz.func39, Tryz.ntmps39
      go_wp2_with (first | ((with_reducible refine gate_callee (f := 39) rfl ?_); refine goesL_ (some 8) rfl rfl Tryz.func39 (by kernel_rfl) rfl #[.int .i64 (wrap64 (-a0))] rfl (by (try simp only [List.map_toArray, List.map_cons, List.map_nil]); first | done | rfl | (simp only [List.length_drop, List.length_take]; rfl)) ?_; (with_reducible refine (ih k (by omega) (wrap64 (-a0)) t203 _ A3.out).mono ?_); rintro e w5 ⟨rfl, hb⟩; refine ⟨_, rfl, ?_⟩; have n0_ := Aside0.mk (below_step (by repeat (first | (with_reducible first | exact HB.out | apply below_alloc | apply pw_below_drewN | apply below_drew1) | exact HB.out)) hb); clear HB; have HB := n0_; clear n0_; (try clear hb); (try clear hb2); (try clear hk); (try clear hi)))
      go_ret
      exact ⟨by first | rfl | (simp [errW_none, errW_some] <;> rfl) | (simp [*, errW_none, errW_some] <;> rfl), by repeat (first | (with_reducible first | exact HB.out | apply below_alloc | apply pw_below_drewN | apply below_drew1) | exact HB.out)⟩
    · rw [if_neg c4] at H
      exact absurd H (by simp)
  · rw [if_neg c2] at H
    have c2b0 : decide (a0 < 0) = false := decide_eq_false c2
    clear c2
    obtain ⟨y204, hy204⟩ : ∃ y_ : List Int, y_ = (([(wrap64 (48 + (Int.tmod a0 10))) % 256] : List Int)) := ⟨_, rfl⟩
    replace H : (if a0 > 9 then ((threshingref02_digits.f k (wrap64 (Int.tdiv a0 10))).bind fun t207 => (if t207.size + (strOfNums y204).size ≤ 9223372036854775807 then (some (t207 ++ (strOfNums y204))) else (none))) else (some (strOfNums y204))) = some r := by first | (rw [hy204]; with_reducible exact H) | (have H2_ := (Option.bind_some _ _).symm.trans H; rw [hy204]; with_reducible exact H2_) | (have H2_ := (Option.bind_some _ _).symm.trans H; with_reducible exact H2_) | with_reducible exact H | (rw [hy204]; exact H) | exact H
    have Ny204 := Aside0.mk hy204
    clear hy204
    by_cases c6 : a0 > 9
    · rw [if_pos c6] at H
      have c6b0 : decide (9 < a0) = true := decide_eq_true c6
      clear c6
      replace H := Option.bind_eq_some_iff.mp H
      obtain ⟨t207, A70, H⟩ := H
      replace H : (if t207.size + (strOfNums y204).size ≤ 9223372036854775807 then (some (t207 ++ (strOfNums y204))) else (none)) = some r := H
      have A7 := Aside0.mk A70
      clear A70
      by_cases c8 : t207.size + (strOfNums y204).size ≤ 9223372036854775807
      · rw [if_pos c8] at H
        have c8b0 := eq_true c8
        have c8b1 : decide (t207.size + (strOfNums y204).size ≤ 9223372036854775807) = true := decide_eq_true c8
        try have c8b2 : (9223372036854775807 < t207.size + (strOfNums y204).size) = False := eq_false (Nat.not_lt.2 c8)
        obtain rfl := Option.some.inj H
        go_enter Tryz.func39, Tryz.ntmps39
        go_wp2_with (first | ((with_reducible refine gate_dst (N := 14) rfl ?_); refine Kd.R_lit (Kd.int .u8) _ 5 ?hg (N := 14) ?hd (xs := ([(wrap64 (48 + (Int.tmod a0 10))) % 256] : List Int)) (inner := [.int .u8 ((wrap64 (48 + (Int.tmod a0 10))) % 256)]) (ok := fun _ => True) (okp := fun _ => True) ?hr ?hp (fun _ hk => hk) trivial (Below.refl _ _) (Nat.le_refl _) (by simp) ?_; (case hd => rfl); (case hg => rfl); (case hr => first | (go_simp; done) | (go_simp; rfl) | (go_simp; simp only [IntKind.u8_tenths]; done) | (go_simp; simp only [IntKind.u8_tenths]; rfl)); (case hp => exact (Reps.one (show Kd.M (Kd.int .u8) _ _ _ ((wrap64 (48 + (Int.tmod a0 10))) % 256) [.int .u8 ((wrap64 (48 + (Int.tmod a0 10))) % 256)] from rfl) (Reps.none _ _))); intro v205 w9 ho10 hb hg_ hnew_; clear hg_ hnew_; (first | rw [← Ny204.out] at ho10 | (simp only [Int.reduceToNat] at ho10; rw [← Ny204.out] at ho10)); have n0_ := Aside0.mk (Kd.R_lower ho10 (below_size (by repeat (first | (with_reducible first | exact HB.out | apply below_alloc | apply pw_below_drewN | apply below_drew1) | exact HB.out)))); have n1_ := Aside0.mk (below_step (by repeat (first | (with_reducible first | exact HB.out | apply below_alloc | apply pw_below_drewN | apply below_drew1) | exact HB.out)) hb); clear HB; have HO206 := n0_; have HB := n1_; clear n0_ n1_; clear hb ho10; have hcv11 := own_string (P := Tryz.prog) Tryz.underlying46 Tryz.underlying5 Tryz.underlying9 (Kd.own_of_R HO206.out)) | ((with_reducible refine gate_callee (f := 39) rfl ?_); refine goesL_ (some 20) rfl rfl Tryz.func39 (by kernel_rfl) rfl #[.int .i64 (wrap64 (Int.tdiv a0 10))] rfl (by (try simp only [List.map_toArray, List.map_cons, List.map_nil]); first | done | rfl | (simp only [List.length_drop, List.length_take]; rfl)) ?_; (with_reducible refine (ih k (by omega) (wrap64 (Int.tdiv a0 10)) t207 _ A7.out).mono ?_); rintro e w12 ⟨rfl, hb⟩; refine ⟨_, rfl, ?_⟩; have n0_ := Aside0.mk (Kd.R_below (by (with_reducible repeat (first | apply Kd.R_alloc | apply Kd.R_drewN | apply Kd.R_drew)); exact HO206.out) hb); have n1_ := Aside0.mk (below_step (by repeat (first | (with_reducible first | exact HB.out | apply below_alloc | apply pw_below_drewN | apply below_drew1) | exact HB.out)) hb); clear HO206; clear HB; have HO206 := n0_; have HB := n1_; clear n0_ n1_; (try clear hb); (try clear hb2); (try clear hk); (try clear hi)))
        go_ret
        exact ⟨by first | rfl | (simp [errW_none, errW_some] <;> rfl) | (simp [*, errW_none, errW_some] <;> rfl), by repeat (first | (with_reducible first | exact HB.out | apply below_alloc | apply pw_below_drewN | apply below_drew1) | exact HB.out)⟩
      · rw [if_neg c8] at H
        exact absurd H (by simp)
    · rw [if_neg c6] at H
      have c6b0 : decide (9 < a0) = false := decide_eq_false c6
      clear c6
      obtain rfl := Option.some.inj H
      go_enter Tryz.func39, Tryz.ntmps39
      go_wp2_with (first | ((with_reducible refine gate_dst (N := 14) rfl ?_); refine Kd.R_lit (Kd.int .u8) _ 5 ?hg (N := 14) ?hd (xs := ([(wrap64 (48 + (Int.tmod a0 10))) % 256] : List Int)) (inner := [.int .u8 ((wrap64 (48 + (Int.tmod a0 10))) % 256)]) (ok := fun _ => True) (okp := fun _ => True) ?hr ?hp (fun _ hk => hk) trivial (Below.refl _ _) (Nat.le_refl _) (by simp) ?_; (case hd => rfl); (case hg => rfl); (case hr => first | (go_simp; done) | (go_simp; rfl) | (go_simp; simp only [IntKind.u8_tenths]; done) | (go_simp; simp only [IntKind.u8_tenths]; rfl)); (case hp => exact (Reps.one (show Kd.M (Kd.int .u8) _ _ _ ((wrap64 (48 + (Int.tmod a0 10))) % 256) [.int .u8 ((wrap64 (48 + (Int.tmod a0 10))) % 256)] from rfl) (Reps.none _ _))); intro v205 w13 ho14 hb hg_ hnew_; clear hg_ hnew_; (first | rw [← Ny204.out] at ho14 | (simp only [Int.reduceToNat] at ho14; rw [← Ny204.out] at ho14)); have n0_ := Aside0.mk (Kd.R_lower ho14 (below_size (by repeat (first | (with_reducible first | exact HB.out | apply below_alloc | apply pw_below_drewN | apply below_drew1) | exact HB.out)))); have n1_ := Aside0.mk (below_step (by repeat (first | (with_reducible first | exact HB.out | apply below_alloc | apply pw_below_drewN | apply below_drew1) | exact HB.out)) hb); clear HB; have HO206 := n0_; have HB := n1_; clear n0_ n1_; clear hb ho14; have hcv15 := own_string (P := Tryz.prog) Tryz.underlying46 Tryz.underlying5 Tryz.underlying9 (Kd.own_of_R HO206.out)))
      go_ret
      exact ⟨by first | rfl | (simp [errW_none, errW_some] <;> rfl) | (simp [*, errW_none, errW_some] <;> rfl), by repeat (first | (with_reducible first | exact HB.out | apply below_alloc | apply pw_below_drewN | apply below_drew1) | exact HB.out)⟩
end Go.Proofs.YtigloobbpcnnhaaGreatDoor.PB
end
section
namespace Go.Proofs.YtigloobbpcnnhaaGreatDoor.PB
open Go.RowKit Go.Proofs.YtigloobbpcnnhaaGreatDoorW.PrintWords Go.Proofs.YtigloobbpcnnhaaGreatDoorW.PrintLast Go.Proofs.YtigloobbpcnnhaaGreatDoorW.PrintMore
attribute [local go_sem] max2_int min2_int max_two min_two max_three min_three max_four min_four   -- for this text's walks alone
set_option linter.unusedVariables false
set_option linter.unusedSimpArgs false
mutual
def threshingref02_Print.l0 : Nat → ByteArray → Int → Int → List (List Int) → Option (ByteArray × Int)
  | 0, _, _, _, _ => none
  | k + 1, x5, x6, x221000, x221001 => if x6 < (x221001.length : Int) then (threshingref02_Print.l1 k x5 x6 0 x221000 x221001) else (some (x5, 0))
def threshingref02_Print.l1 : Nat → ByteArray → Int → Int → Int → List (List Int) → Option (ByteArray × Int)
  | 0, _, _, _, _, _ => none
  | k + 1, x5, x6, x7, x221000, x221001 => if 0 ≤ x6 then (if x6 < (x221001.length : Int) then (if x7 < ((rd_L6 x221001 x6).length : Int) then (if 0 ≤ x7 then ((threshingref02_digits.f k (wrap64 (rd (rd_L6 x221001 x6) x7))).bind fun t227 => (if x5.size + t227.size ≤ 9223372036854775807 then (if (x5 ++ t227).size + 1 ≤ 9223372036854775807 then (threshingref02_Print.l1 k ((x5 ++ t227) ++ (⟨#[32]⟩ : ByteArray)) x6 (wrap64 (x7 + 1)) x221000 x221001) else (none)) else (none))) else (none)) else (if x5.size + 2 ≤ 9223372036854775807 then (threshingref02_Print.l0 k (x5 ++ (⟨#[48, 10]⟩ : ByteArray)) (wrap64 (x6 + 1)) x221000 x221001) else (none))) else (none)) else (none)
end
def threshingref02_Print.f (k : Nat) (a0_0 : Int) (l0_1 : List (List Int)) : Option (ByteArray × Int) := (threshingref01_Right.f k a0_0 l0_1).bind fun t221 => (if t221 = 0 then ((threshingref02_digits.f k a0_0).bind fun t222 => (if 6 + t222.size ≤ 9223372036854775807 then (if ((⟨#[112, 32, 99, 110, 102, 32]⟩ : ByteArray) ++ t222).size + 1 ≤ 9223372036854775807 then ((threshingref02_digits.f k (l0_1.length : Int)).bind fun t223 => (if (((⟨#[112, 32, 99, 110, 102, 32]⟩ : ByteArray) ++ t222) ++ (⟨#[32]⟩ : ByteArray)).size + t223.size ≤ 9223372036854775807 then (if ((((⟨#[112, 32, 99, 110, 102, 32]⟩ : ByteArray) ++ t222) ++ (⟨#[32]⟩ : ByteArray)) ++ t223).size + 1 ≤ 9223372036854775807 then (threshingref02_Print.l0 k (((((⟨#[112, 32, 99, 110, 102, 32]⟩ : ByteArray) ++ t222) ++ (⟨#[32]⟩ : ByteArray)) ++ t223) ++ (⟨#[10]⟩ : ByteArray)) 0 a0_0 l0_1) else (none)) else (none))) else (none)) else (none))) else (some ((⟨#[]⟩ : ByteArray), t221)))
theorem threshingref02_Print.mono_l : ∀ k, (∀ y0 y1 y2 y3, LeO (threshingref02_Print.l0 k y0 y1 y2 y3) (threshingref02_Print.l0 (k + 1) y0 y1 y2 y3)) ∧ (∀ y0 y1 y2 y3 y4, LeO (threshingref02_Print.l1 k y0 y1 y2 y3 y4) (threshingref02_Print.l1 (k + 1) y0 y1 y2 y3 y4))
  | 0 => ⟨fun _ _ _ _ r h => by simp [threshingref02_Print.l0] at h, fun _ _ _ _ _ r h => by simp [threshingref02_Print.l1] at h⟩
  | k + 1 => by
    obtain ⟨ih0, ih1⟩ := threshingref02_Print.mono_l k
    refine ⟨?_, ?_⟩
    · intro y0 y1 y2 y3
      unfold threshingref02_Print.l0
      repeat' first
      | (with_reducible exact ih0 _ _ _ _)
      | (with_reducible exact ih1 _ _ _ _ _)
      | (with_reducible exact threshingref01_Right.mono _ _ _)
      | (with_reducible exact threshingref02_digits.mono _ _)
      | (with_reducible exact LeO.refl _)
      | (with_reducible exact LeO.none _)
      | (with_reducible refine LeO.ite ?_ ?_)
      | (with_reducible refine LeO.bind ?_ (fun _ => ?_))
      | exact ih0 _ _ _ _
      | exact ih1 _ _ _ _ _
      | exact threshingref01_Right.mono _ _ _
      | exact threshingref02_digits.mono _ _
      | exact LeO.none _
      | refine LeO.ite ?_ ?_
      | refine LeO.bind ?_ (fun _ => ?_)
    · intro y0 y1 y2 y3 y4
      unfold threshingref02_Print.l1
      repeat' first
      | (with_reducible exact ih0 _ _ _ _)
      | (with_reducible exact ih1 _ _ _ _ _)
      | (with_reducible exact threshingref01_Right.mono _ _ _)
      | (with_reducible exact threshingref02_digits.mono _ _)
      | (with_reducible exact LeO.refl _)
      | (with_reducible exact LeO.none _)
      | (with_reducible refine LeO.ite ?_ ?_)
      | (with_reducible refine LeO.bind ?_ (fun _ => ?_))
      | exact ih0 _ _ _ _
      | exact ih1 _ _ _ _ _
      | exact threshingref01_Right.mono _ _ _
      | exact threshingref02_digits.mono _ _
      | exact LeO.none _
      | refine LeO.ite ?_ ?_
      | refine LeO.bind ?_ (fun _ => ?_)
theorem threshingref02_Print.mono : ∀ a0 a1 k, LeO (threshingref02_Print.f k a0 a1) (threshingref02_Print.f (k + 1) a0 a1) := by
  intro a0 a1 k
  obtain ⟨ih0, ih1⟩ := threshingref02_Print.mono_l k
  unfold threshingref02_Print.f
  repeat' first
      | (with_reducible exact ih0 _ _ _ _)
      | (with_reducible exact ih1 _ _ _ _ _)
      | (with_reducible exact threshingref01_Right.mono _ _ _)
      | (with_reducible exact threshingref02_digits.mono _ _)
      | (with_reducible exact LeO.refl _)
      | (with_reducible exact LeO.none _)
      | (with_reducible refine LeO.ite ?_ ?_)
      | (with_reducible refine LeO.bind ?_ (fun _ => ?_))
      | exact ih0 _ _ _ _
      | exact ih1 _ _ _ _ _
      | exact threshingref01_Right.mono _ _ _
      | exact threshingref02_digits.mono _ _
      | exact LeO.none _
      | refine LeO.ite ?_ ?_
      | refine LeO.bind ?_ (fun _ => ?_)
def threshingref02_Print.T4 : Bool × List (List Nat × List Nat) := (true, [([], []), ([0], [0]), ([1], [1]), ([2], [2]), ([3], [3]), ([], []), ([5], [5]), ([6], [6]), ([7, 2], [7]), ([4, 8], [4, 8]), ([9], [9]), ([10, 8, 0, 1, 2, 3, 4, 5, 6, 7, 8, 9, 10], [10])])
def threshingref02_Print.B4 : List Nat := [0, 1, 3, 7, 15, 0, 32, 96, 231, 511, 1023, 2047]
theorem threshingref02_Print.tab4 : rtab .any (opsOf Tryz.f30 4) = threshingref02_Print.T4 := by kernel_rfl
theorem threshingref02_Print.bits4 : waitsOk threshingref02_Print.T4.2 threshingref02_Print.B4 = true := by kernel_rfl
set_option maxHeartbeats 8000000 in
set_option maxRecDepth 100000 in
theorem threshingref02_Print.calls (k : Nat) (a0_0 : Int) (A0_1 : Option Addr) (c0_1 : Nat) (l0_1 : List (List Int)) (r1 : ByteArray) (r2 : Int) (w : World) (hr0_1 : Kd.C (Kd.slice 40 (Kd.int .i32)) w A0_1 l0_1.length l0_1) (hc0_1 : l0_1.length ≤ c0_1) (h : threshingref02_Print.f k a0_0 l0_1 = some (r1, r2)) :
    Calls Tryz.prog 30 #[.agg #[.int .i64 a0_0, .slice A0_1 l0_1.length c0_1]] w fun e w' => e = .returned (.tuple #[.string r1, .int .i64 r2]) ∧ Below w.heap.size w w' := by
  have hu25 := Tryz.underlying35
  have HR0_1 := Aside0.mk hr0_1
  have HC0_1 := Aside0.mk hc0_1
  clear hr0_1 hc0_1
  have HB := Aside0.mk (Below.refl w.heap.size w)
  have H : ((threshingref01_Right.f k a0_0 l0_1).bind fun t221 => (if t221 = 0 then ((threshingref02_digits.f k a0_0).bind fun t222 => (if 6 + t222.size ≤ 9223372036854775807 then (if ((⟨#[112, 32, 99, 110, 102, 32]⟩ : ByteArray) ++ t222).size + 1 ≤ 9223372036854775807 then ((threshingref02_digits.f k (l0_1.length : Int)).bind fun t223 => (if (((⟨#[112, 32, 99, 110, 102, 32]⟩ : ByteArray) ++ t222) ++ (⟨#[32]⟩ : ByteArray)).size + t223.size ≤ 9223372036854775807 then (if ((((⟨#[112, 32, 99, 110, 102, 32]⟩ : ByteArray) ++ t222) ++ (⟨#[32]⟩ : ByteArray)) ++ t223).size + 1 ≤ 9223372036854775807 then (threshingref02_Print.l0 k (((((⟨#[112, 32, 99, 110, 102, 32]⟩ : ByteArray) ++ t222) ++ (⟨#[32]⟩ : ByteArray)) ++ t223) ++ (⟨#[10]⟩ : ByteArray)) 0 a0_0 l0_1) else (none)) else (none))) else (none)) else (none))) else (some ((⟨#[]⟩ : ByteArray), t221)))) = some (r1, r2) := h
  clear h
  replace H := Option.bind_eq_some_iff.mp H
  obtain ⟨t221, A20, H⟩ := H
  replace H : (if t221 = 0 then ((threshingref02_digits.f k a0_0).bind fun t222 => (if 6 + t222.size ≤ 9223372036854775807 then (if ((⟨#[112, 32, 99, 110, 102, 32]⟩ : ByteArray) ++ t222).size + 1 ≤ 9223372036854775807 then ((threshingref02_digits.f k (l0_1.length : Int)).bind fun t223 => (if (((⟨#[112, 32, 99, 110, 102, 32]⟩ : ByteArray) ++ t222) ++ (⟨#[32]⟩ : ByteArray)).size + t223.size ≤ 9223372036854775807 then (if ((((⟨#[112, 32, 99, 110, 102, 32]⟩ : ByteArray) ++ t222) ++ (⟨#[32]⟩ : ByteArray)) ++ t223).size + 1 ≤ 9223372036854775807 then (threshingref02_Print.l0 k (((((⟨#[112, 32, 99, 110, 102, 32]⟩ : ByteArray) ++ t222) ++ (⟨#[32]⟩ : ByteArray)) ++ t223) ++ (⟨#[10]⟩ : ByteArray)) 0 a0_0 l0_1) else (none)) else (none))) else (none)) else (none))) else (some ((⟨#[]⟩ : ByteArray), t221))) = some (r1, r2) := H
  have A2 := Aside0.mk A20
  clear A20
  by_cases c3 : t221 = 0
  · rw [if_pos c3] at H
    have c3b0 : (t221 == 0) = true := beq_iff_eq.mpr c3
    have c3b1 : (t221 != 0) = false := bne_eq_false_iff_eq.mpr c3
    clear c3
    replace H := Option.bind_eq_some_iff.mp H
    obtain ⟨t222, A40, H⟩ := H
    replace H : (if 6 + t222.size ≤ 9223372036854775807 then (if ((⟨#[112, 32, 99, 110, 102, 32]⟩ : ByteArray) ++ t222).size + 1 ≤ 9223372036854775807 then ((threshingref02_digits.f k (l0_1.length : Int)).bind fun t223 => (if (((⟨#[112, 32, 99, 110, 102, 32]⟩ : ByteArray) ++ t222) ++ (⟨#[32]⟩ : ByteArray)).size + t223.size ≤ 9223372036854775807 then (if ((((⟨#[112, 32, 99, 110, 102, 32]⟩ : ByteArray) ++ t222) ++ (⟨#[32]⟩ : ByteArray)) ++ t223).size + 1 ≤ 9223372036854775807 then (threshingref02_Print.l0 k (((((⟨#[112, 32, 99, 110, 102, 32]⟩ : ByteArray) ++ t222) ++ (⟨#[32]⟩ : ByteArray)) ++ t223) ++ (⟨#[10]⟩ : ByteArray)) 0 a0_0 l0_1) else (none)) else (none))) else (none)) else (none)) = some (r1, r2) := H
    have A4 := Aside0.mk A40
    clear A40
    by_cases c5 : 6 + t222.size ≤ 9223372036854775807
    · rw [if_pos c5] at H
      have c5b0 := eq_true c5
      have c5b1 : decide (6 + t222.size ≤ 9223372036854775807) = true := decide_eq_true c5
      try have c5b2 : (9223372036854775807 < 6 + t222.size) = False := eq_false (Nat.not_lt.2 c5)
      by_cases c6 : ((⟨#[112, 32, 99, 110, 102, 32]⟩ : ByteArray) ++ t222).size + 1 ≤ 9223372036854775807
      · rw [if_pos c6] at H
        have c6b0 := eq_true c6
        have c6b1 : decide (((⟨#[112, 32, 99, 110, 102, 32]⟩ : ByteArray) ++ t222).size + 1 ≤ 9223372036854775807) = true := decide_eq_true c6
        try have c6b2 : (9223372036854775807 < ((⟨#[112, 32, 99, 110, 102, 32]⟩ : ByteArray) ++ t222).size + 1) = False := eq_false (Nat.not_lt.2 c6)
        have c6b3 : 6 + (t222).size + 1 ≤ 9223372036854775807 := by have h := c6; simp only [ByteArray.size_append] at h; exact h
        have c6b4 : (9223372036854775807 < 6 + (t222).size + 1) = False := eq_false (Nat.not_lt.2 c6b3)
        replace c6b3 := eq_true c6b3
        replace H := Option.bind_eq_some_iff.mp H
        obtain ⟨t223, A70, H⟩ := H
        replace H : (if (((⟨#[112, 32, 99, 110, 102, 32]⟩ : ByteArray) ++ t222) ++ (⟨#[32]⟩ : ByteArray)).size + t223.size ≤ 9223372036854775807 then (if ((((⟨#[112, 32, 99, 110, 102, 32]⟩ : ByteArray) ++ t222) ++ (⟨#[32]⟩ : ByteArray)) ++ t223).size + 1 ≤ 9223372036854775807 then (threshingref02_Print.l0 k (((((⟨#[112, 32, 99, 110, 102, 32]⟩ : ByteArray) ++ t222) ++ (⟨#[32]⟩ : ByteArray)) ++ t223) ++ (⟨#[10]⟩ : ByteArray)) 0 a0_0 l0_1) else (none)) else (none)) = some (r1, r2) := H
        have A7 := Aside0.mk A70
        clear A70
        by_cases c8 : (((⟨#[112, 32, 99, 110, 102, 32]⟩ : ByteArray) ++ t222) ++ (⟨#[32]⟩ : ByteArray)).size + t223.size ≤ 9223372036854775807
        · rw [if_pos c8] at H
          have c8b0 := eq_true c8
          have c8b1 : decide ((((⟨#[112, 32, 99, 110, 102, 32]⟩ : ByteArray) ++ t222) ++ (⟨#[32]⟩ : ByteArray)).size + t223.size ≤ 9223372036854775807) = true := decide_eq_true c8
          try have c8b2 : (9223372036854775807 < (((⟨#[112, 32, 99, 110, 102, 32]⟩ : ByteArray) ++ t222) ++ (⟨#[32]⟩ : ByteArray)).size + t223.size) = False := eq_false (Nat.not_lt.2 c8)
          have c8b3 : 6 + (t222).size + 1 + t223.size ≤ 9223372036854775807 := by have h := c8; simp only [ByteArray.size_append] at h; exact h
          have c8b4 : (9223372036854775807 < 6 + (t222).size + 1 + t223.size) = False := eq_false (Nat.not_lt.2 c8b3)
          replace c8b3 := eq_true c8b3
          by_cases c9 : ((((⟨#[112, 32, 99, 110, 102, 32]⟩ : ByteArray) ++ t222) ++ (⟨#[32]⟩ : ByteArray)) ++ t223).size + 1 ≤ 9223372036854775807
          · rw [if_pos c9] at H
            have c9b0 := eq_true c9
            have c9b1 : decide (((((⟨#[112, 32, 99, 110, 102, 32]⟩ : ByteArray) ++ t222) ++ (⟨#[32]⟩ : ByteArray)) ++ t223).size + 1 ≤ 9223372036854775807) = true := decide_eq_true c9
            try have c9b2 : (9223372036854775807 < ((((⟨#[112, 32, 99, 110, 102, 32]⟩ : ByteArray) ++ t222) ++ (⟨#[32]⟩ : ByteArray)) ++ t223).size + 1) = False := eq_false (Nat.not_lt.2 c9)
            have c9b3 : 6 + (t222).size + 1 + (t223).size + 1 ≤ 9223372036854775807 := by have h := c9; simp only [ByteArray.size_append] at h; exact h
            have c9b4 : (9223372036854775807 < 6 + (t222).size + 1 + (t223).size + 1) = False := eq_false (Nat.not_lt.2 c9b3)
            replace c9b3 := eq_true c9b3
            have H' := Aside0.mk H
            clear H
            go_enter Tryz.func30, Tryz.ntmps30
            try go_wp2_with (first | ((with_reducible refine gate_dst (N := 1) rfl ?_); refine box_event ?hg (N := 1) ?hd (cs := #[.int .i64 a0_0, .slice A0_1 l0_1.length c0_1]) (t := 35) ?hr ?_; (case hd => rfl); (case hg => rfl); (case hr => first | (go_simp; done) | (go_simp; rfl)); intro gb220 hg w10 hbox hb; have n0_ := Aside0.mk (below_step (by repeat (first | (with_reducible first | exact HB.out | apply below_alloc | apply pw_below_drewN | apply below_drew1) | exact HB.out)) hb); have n1_ := Aside0.mk (hbox); have n2_ := Aside0.mk ((by rw [hg]; exact (below_size (by repeat (first | (with_reducible first | exact HB.out | apply below_alloc | apply pw_below_drewN | apply below_drew1) | exact HB.out))) : w.heap.size ≤ gb220)); have n3_ := Aside0.mk ((by rw [hg]; exact (below_size (by repeat (first | (with_reducible first | exact HB.out | apply below_alloc | apply pw_below_drewN | apply below_drew1) | exact HB.out))) : w.heap.size ≤ gb220)); clear HB; have HB := n0_; have BK220 := n1_; have GW220 := n2_; have GE220 := n3_; clear n0_ n1_ n2_ n3_; clear hb hbox hg; have hcz11_0 : w10.cell? ⟨gb220, 0, none⟩ = some (.int .i64 a0_0) := (blk_cell BK220.out 0).trans rfl; have hcz11_1 : w10.cell? ⟨gb220, 1, none⟩ = some (.slice A0_1 l0_1.length c0_1) := (blk_cell BK220.out 1).trans rfl; have hfz11_0 := blk_frozen BK220.out 0; have hfz11_1 := blk_frozen BK220.out 1) | ((with_reducible refine gate_callee (f := 49) rfl ?_); refine goesL_ (some 9) rfl rfl Tryz.func49 (by kernel_rfl) rfl #[.agg #[.int .i64 a0_0, .slice A0_1 l0_1.length c0_1]] rfl (by (try simp only [List.map_toArray, List.map_cons, List.map_nil]); first | done | rfl | (simp only [List.length_drop, List.length_take]; rfl)) ?_; (with_reducible refine (threshingref01_Right.calls k a0_0 _ _ l0_1 t221 _ ?side1 ?side2 A2.out).mono ?_); (case side1 => repeat (first | exact (Kd.C_below HR0_1.out HB.out) | (with_reducible refine Kd.C_alloc ?_ _) | (with_reducible refine Kd.C_drewN ?_ _) | (with_reducible refine Kd.C_drew ?_))); (case side2 => exact HC0_1.out); rintro e w12 ⟨rfl, hb⟩; refine ⟨_, rfl, ?_⟩; have n0_ := Aside0.mk (blk_below (g := gb220) (o := .cells #[.int .i64 a0_0, .slice A0_1 l0_1.length c0_1] 35 (0, 0)) (by (with_reducible repeat (first | refine blk_drewN ?_ _ | refine blk_drew ?_ | refine blk_alloc ?_ _)); exact BK220.out) hb); have n1_ := Aside0.mk (below_step (by repeat (first | (with_reducible first | exact HB.out | apply below_alloc | apply pw_below_drewN | apply below_drew1 | refine below_set ?_ GE220.out) | exact HB.out)) hb); clear BK220; clear HB; have BK220 := n0_; have HB := n1_; clear n0_ n1_; (try clear hb); (try clear hb2); (try clear hk); (try clear hi)))
            have n0_ := Aside0.mk (blk_drew BK220.out)
            have n1_ := Aside0.mk (below_drew1 HB.out)
            clear BK220
            clear HB
            have BK220 := n0_
            have HB := n1_
            clear n0_ n1_
            refine start_ (n := 12) (S := fun w' => w'.cell? ⟨gb220, 0, none⟩ = some (.int .i64 a0_0) ∧ w'.cell? ⟨gb220, 1, none⟩ = some (.slice A0_1 l0_1.length c0_1)) (ds := []) #[false, false, false, false, false, false, false, false, false, false, false, false] (by kernel_rfl) rfl rfl ⟨(blk_cell BK220.out 0).trans rfl, (blk_cell BK220.out 1).trans rfl⟩ (fun hHeld => ?_); refine with_tabW threshingref02_Print.tab4 threshingref02_Print.bits4 (fun HT_ HW_ => ?_)
            generalize w12.drew = w13 at BK220 HB hHeld ⊢
            refine pure_ (i := 0) (N := some 13) (v := ?_) (a' := ?_) #[true, false, false, false, false, false, false, false, false, false, false, false] rfl rfl (any_of HT_.out (by kernel_rfl)) (fun _ _ _ h => h) (Or.inl ⟨by rfl, ?_⟩) ?_ ?_
            rotate_left
            · intro w'
              go_simp
              with_reducible rfl
            rotate_left
            · simp only [Act.put, List.setIfInBounds_toArray, List.set_cons_zero, List.set_cons_succ, i64_w, i32_w]
              rfl
            refine pure_ (i := 5) (N := some 18) (v := ?_) (a' := ?_) #[true, false, false, false, false, true, false, false, false, false, false, false] rfl rfl (any_of HT_.out (by kernel_rfl)) (fun _ _ _ h => h) (Or.inl ⟨by rfl, ?_⟩) ?_ ?_
            rotate_left
            · intro w'
              go_simp
              with_reducible rfl
            rotate_left
            · simp only [Act.put, List.setIfInBounds_toArray, List.set_cons_zero, List.set_cons_succ, i64_w, i32_w]
              rfl
            refine take_ (i := 1) (N := some 14) (v := ?_) (a' := ?_) #[true, true, false, false, false, true, false, false, false, false, false, false] rfl rfl (take_ofW HT_.out HW_.out (by kernel_rfl)) (fun _ _ _ h => h) (Or.inl ⟨by rfl, ?_⟩) hHeld ?_ ?_
            rotate_left
            · rintro w' ⟨s0, s1⟩
              go_simp
              with_reducible rfl
            rotate_left
            · simp only [Act.put, List.setIfInBounds_toArray, List.set_cons_zero, List.set_cons_succ, i64_w, i32_w]
              rfl
            refine take_ (i := 6) (N := some 19) (v := ?_) (a' := ?_) #[true, true, false, false, false, true, true, false, false, false, false, false] rfl rfl (take_ofW HT_.out HW_.out (by kernel_rfl)) (fun _ _ _ h => h) (Or.inl ⟨by rfl, ?_⟩) hHeld ?_ ?_
            rotate_left
            · rintro w' ⟨s0, s1⟩
              go_simp
              with_reducible rfl
            rotate_left
            · simp only [Act.put, List.setIfInBounds_toArray, List.set_cons_zero, List.set_cons_succ, i64_w, i32_w]
              rfl
            refine pure_ (i := 7) (N := some 20) (v := ?_) (a' := ?_) #[true, true, false, false, false, true, true, true, false, false, false, false] rfl rfl (any_of HT_.out (by kernel_rfl)) (fun _ _ _ h => h) (Or.inl ⟨by rfl, ?_⟩) ?_ ?_
            rotate_left
            · intro w'
              go_simp
              with_reducible rfl
            rotate_left
            · simp only [Act.put, List.setIfInBounds_toArray, List.set_cons_zero, List.set_cons_succ, i64_w, i32_w]
              rfl
            refine one_ (i := 2) (N := some 15) #[true, true, true, false, false, true, true, true, false, false, false, false] rfl rfl (one_of HT_.out (by kernel_rfl)) (by decide) (fun K hK => ?_)
            refine goes_ Tryz.func39 (by kernel_rfl) rfl #[.int .i64 a0_0] (by rfl) rfl rfl (by (try simp only [List.map_toArray, List.map_cons, List.map_nil]); first | done | rfl | (simp only [List.length_drop, List.length_take]; rfl)) ?_
            with_reducible refine (threshingref02_digits.calls k a0_0 t222 _ A4.out).mono ?_
            rintro e w14 ⟨rfl, hb⟩
            refine ⟨_, rfl, ?_⟩
            have n0_ := Aside0.mk (blk_below (g := gb220) (o := .cells #[.int .i64 a0_0, .slice A0_1 l0_1.length c0_1] 35 (0, 0)) (by (with_reducible repeat (first | refine blk_drewN ?_ _ | refine blk_drew ?_ | refine blk_alloc ?_ _)); exact BK220.out) hb)
            have n1_ := Aside0.mk (below_step (by repeat (first | (with_reducible first | exact HB.out | apply below_alloc | apply pw_below_drewN | apply below_drew1 | refine below_set ?_ GE220.out) | exact HB.out)) hb)
            clear BK220
            clear HB
            have BK220 := n0_
            have HB := n1_
            clear n0_ n1_
            (try clear hb)
            (try clear hb2)
            (try clear hk)
            (try clear hi)
            refine hK.out _ _ ⟨(blk_cell BK220.out 0).trans rfl, (blk_cell BK220.out 1).trans rfl⟩ (fun hHeld => ?_)
            clear hK K
            refine norm_ (a' := ?_) ?_ ?_
            rotate_left
            · show Act.put _ (some 15) _ = _
              simp only [Act.put, List.setIfInBounds_toArray, List.set_cons_zero, List.set_cons_succ, i64_w, i32_w]
              rfl
            refine pure_ (i := 3) (N := some 16) (v := ?_) (a' := ?_) #[true, true, true, true, false, true, true, true, false, false, false, false] rfl rfl (any_of HT_.out (by kernel_rfl)) (fun _ _ _ h => h) (Or.inl ⟨by rfl, ?_⟩) ?_ ?_
            rotate_left
            · intro w'
              go_simp
              with_reducible rfl
            rotate_left
            · simp only [Act.put, List.setIfInBounds_toArray, List.set_cons_zero, List.set_cons_succ, i64_w, i32_w]
              rfl
            refine pure_ (i := 4) (N := some 17) (v := ?_) (a' := ?_) #[true, true, true, true, true, true, true, true, false, false, false, false] rfl rfl (any_of HT_.out (by kernel_rfl)) (fun _ _ _ h => h) (Or.inl ⟨by rfl, ?_⟩) ?_ ?_
            rotate_left
            · intro w'
              go_simp
              with_reducible rfl
            rotate_left
            · simp only [Act.put, List.setIfInBounds_toArray, List.set_cons_zero, List.set_cons_succ, i64_w, i32_w]
              rfl
            refine one_ (i := 8) (N := some 21) #[true, true, true, true, true, true, true, true, true, false, false, false] rfl rfl (one_of HT_.out (by kernel_rfl)) (by decide) (fun K hK => ?_)
            refine goes_ Tryz.func39 (by kernel_rfl) rfl #[.int .i64 (l0_1.length : Int)] (by rfl) rfl rfl (by (try simp only [List.map_toArray, List.map_cons, List.map_nil]); first | done | rfl | (simp only [List.length_drop, List.length_take]; rfl)) ?_
            with_reducible refine (threshingref02_digits.calls k (l0_1.length : Int) t223 _ A7.out).mono ?_
            rintro e w15 ⟨rfl, hb⟩
            refine ⟨_, rfl, ?_⟩
            have n0_ := Aside0.mk (blk_below (g := gb220) (o := .cells #[.int .i64 a0_0, .slice A0_1 l0_1.length c0_1] 35 (0, 0)) (by (with_reducible repeat (first | refine blk_drewN ?_ _ | refine blk_drew ?_ | refine blk_alloc ?_ _)); exact BK220.out) hb)
            have n1_ := Aside0.mk (below_step (by repeat (first | (with_reducible first | exact HB.out | apply below_alloc | apply pw_below_drewN | apply below_drew1 | refine below_set ?_ GE220.out) | exact HB.out)) hb)
            clear BK220
            clear HB
            have BK220 := n0_
            have HB := n1_
            clear n0_ n1_
            (try clear hb)
            (try clear hb2)
            (try clear hk)
            (try clear hi)
            refine hK.out _ _ ⟨(blk_cell BK220.out 0).trans rfl, (blk_cell BK220.out 1).trans rfl⟩ (fun hHeld => ?_)
            clear hK K
            refine norm_ (a' := ?_) ?_ ?_
            rotate_left
            · show Act.put _ (some 21) _ = _
              simp only [Act.put, List.setIfInBounds_toArray, List.set_cons_zero, List.set_cons_succ, i64_w, i32_w]
              rfl
            refine pure_ (i := 9) (N := some 22) (v := ?_) (a' := ?_) #[true, true, true, true, true, true, true, true, true, true, false, false] rfl rfl (any_of HT_.out (by kernel_rfl)) (fun _ _ _ h => h) (Or.inl ⟨by rfl, ?_⟩) ?_ ?_
            rotate_left
            · intro w'
              go_simp
              with_reducible rfl
            rotate_left
            · simp only [Act.put, List.setIfInBounds_toArray, List.set_cons_zero, List.set_cons_succ, i64_w, i32_w]
              rfl
            refine pure_ (i := 10) (N := some 23) (v := ?_) (a' := ?_) #[true, true, true, true, true, true, true, true, true, true, true, false] rfl rfl (any_of HT_.out (by kernel_rfl)) (fun _ _ _ h => h) (Or.inl ⟨by rfl, ?_⟩) ?_ ?_
            rotate_left
            · intro w'
              go_simp
              with_reducible rfl
            rotate_left
            · simp only [Act.put, List.setIfInBounds_toArray, List.set_cons_zero, List.set_cons_succ, i64_w, i32_w]
              rfl
            refine pure_ (i := 11) (N := some 5) (v := ?_) (a' := ?_) #[true, true, true, true, true, true, true, true, true, true, true, true] rfl rfl (any_of HT_.out (by kernel_rfl)) (fun _ _ _ h => h) (Or.inl ⟨by rfl, ?_⟩) ?_ ?_
            rotate_left
            · intro w'
              go_simp
              with_reducible rfl
            rotate_left
            · simp only [Act.put, List.setIfInBounds_toArray, List.set_cons_zero, List.set_cons_succ, i64_w, i32_w]
              rfl
            refine done_ (done_of HT_.out (by kernel_rfl)) ?_
            try go_wp2
            go_loopg [5, 6] k (fun kq v5 v6 w' => ∃ (x5_1 : ByteArray) (x6_1 : Int), v5 = .string x5_1 ∧ v6 = .int .i64 x6_1 ∧ Aside0 (threshingref02_Print.l0 kq x5_1 x6_1 a0_0 l0_1 = some (r1, r2)) ∧ Aside0 (kq ≤ k) ∧ Aside0 (w'.heap[gb220]? = some (.cells #[.int .i64 a0_0, (.slice A0_1 l0_1.length c0_1)] 35 (0, 0))) ∧ Aside0 (Below w.heap.size w w'))
            case atStart => exact ⟨(((((⟨#[112, 32, 99, 110, 102, 32]⟩ : ByteArray) ++ t222) ++ (⟨#[32]⟩ : ByteArray)) ++ t223) ++ (⟨#[10]⟩ : ByteArray)), (0), (by first | rfl | (simp; done) | (simp [*]; done)), (by first | rfl | (simp; done) | (simp [*]; done)), H', ⟨Nat.le_refl _⟩, ⟨by (with_reducible repeat (first | refine blk_drewN ?_ _ | refine blk_drew ?_ | refine blk_alloc ?_ _)); exact BK220.out⟩, ⟨by repeat (first | (with_reducible first | exact HB.out | apply below_alloc | apply pw_below_drewN | apply below_drew1 | refine below_set ?_ GE220.out) | exact HB.out)⟩⟩
            case round =>
              clear H'
              try clear c1
              try clear p2
              try clear c3
              try clear c3b0
              try clear c3b1
              try clear c5
              try clear c5b0
              try clear c5b1
              try clear c5b2
              try clear c6
              try clear c6b0
              try clear c6b1
              try clear c6b2
              try clear c8
              try clear c8b0
              try clear c8b1
              try clear c8b2
              try clear c9
              try clear c9b0
              try clear c9b1
              try clear c9b2
              try clear c13
              try clear hcz11_0
              try clear hcz11_1
              try clear hfz11_0
              try clear hfz11_1
              obtain ⟨x5_1, x6_1, rfl, rfl, HA, HK1, BK220, HB⟩ := hrel
              cases gk with
              | zero => exact absurd HA.out (by simp [threshingref02_Print.l0])
              | succ k1 =>
                have H := HA.out
                clear HA
                simp only [threshingref02_Print.l0] at H
                by_cases c16 : x6_1 < (l0_1.length : Int)
                · rw [if_pos c16] at H
                  have c16b0 : decide (x6_1 < (l0_1.length : Int)) = true := decide_eq_true c16
                  clear c16
                  have H' := Aside0.mk H
                  clear H
                  have hcz17_0 : wr.cell? ⟨gb220, 0, none⟩ = some (.int .i64 a0_0) := (blk_cell BK220.out 0).trans rfl
                  have hcz17_1 : wr.cell? ⟨gb220, 1, none⟩ = some (.slice A0_1 l0_1.length c0_1) := (blk_cell BK220.out 1).trans rfl
                  have hfz17_0 := blk_frozen BK220.out 0
                  have hfz17_1 := blk_frozen BK220.out 1
                  go_wp2
                  go_loopg [5, 7] k1 (fun kq v5 v7 w' => ∃ (x5_2 : ByteArray) (x7_2 : Int), v5 = .string x5_2 ∧ v7 = .int .i64 x7_2 ∧ Aside0 (threshingref02_Print.l1 kq x5_2 x6_1 x7_2 a0_0 l0_1 = some (r1, r2)) ∧ Aside0 (kq ≤ k1) ∧ Aside0 (w'.heap[gb220]? = some (.cells #[.int .i64 a0_0, (.slice A0_1 l0_1.length c0_1)] 35 (0, 0))) ∧ Aside0 (Below w.heap.size w w'))
                  case atStart => exact ⟨(x5_1), (0), (by first | rfl | (simp; done) | (simp [*]; done)), (by first | rfl | (simp; done) | (simp [*]; done)), H', ⟨Nat.le_refl _⟩, ⟨by (with_reducible repeat (first | refine blk_drewN ?_ _ | refine blk_drew ?_ | refine blk_alloc ?_ _)); exact BK220.out⟩, ⟨by repeat (first | (with_reducible first | exact HB.out | apply below_alloc | apply pw_below_drewN | apply below_drew1 | refine below_set ?_ GE220.out) | exact HB.out)⟩⟩
                  case round =>
                    clear H'
                    try clear c1
                    try clear p2
                    try clear c3
                    try clear c3b0
                    try clear c3b1
                    try clear c5
                    try clear c5b0
                    try clear c5b1
                    try clear c5b2
                    try clear c6
                    try clear c6b0
                    try clear c6b1
                    try clear c6b2
                    try clear c8
                    try clear c8b0
                    try clear c8b1
                    try clear c8b2
                    try clear c9
                    try clear c9b0
                    try clear c9b1
                    try clear c9b2
                    try clear c13
                    try clear c16
                    try clear c16b0
                    try clear hcz11_0
                    try clear hcz11_1
                    try clear hcz17_0
                    try clear hcz17_1
                    try clear hfz11_0
                    try clear hfz11_1
                    try clear hfz17_0
                    try clear hfz17_1
                    try clear p2
                    obtain ⟨x5_2, x7_2, rfl, rfl, HA, HK2, BK220, HB⟩ := hrel
                    cases gk with
                    | zero => exact absurd HA.out (by simp [threshingref02_Print.l1])
                    | succ k2 =>
                      have H := HA.out
                      clear HA
                      simp only [threshingref02_Print.l1] at H
                      by_cases c18 : 0 ≤ x6_1
                      · rw [if_pos c18] at H
                        have c18b0 : decide (0 ≤ x6_1) = true := decide_eq_true c18
                        clear c18
                        by_cases c19 : x6_1 < (l0_1.length : Int)
                        · rw [if_pos c19] at H
                          have c19b0 : decide (x6_1 < (l0_1.length : Int)) = true := decide_eq_true c19
                          clear c19
                          by_cases c20 : x7_2 < ((rd_L6 l0_1 x6_1).length : Int)
                          · rw [if_pos c20] at H
                            have c20b0 : decide (x7_2 < ((rd_L6 l0_1 x6_1).length : Int)) = true := decide_eq_true c20
                            clear c20
                            by_cases c21 : 0 ≤ x7_2
                            · rw [if_pos c21] at H
                              have c21b0 : decide (0 ≤ x7_2) = true := decide_eq_true c21
                              clear c21
                              replace H := Option.bind_eq_some_iff.mp H
                              obtain ⟨t227, A220, H⟩ := H
                              replace H : (if x5_2.size + t227.size ≤ 9223372036854775807 then (if (x5_2 ++ t227).size + 1 ≤ 9223372036854775807 then (threshingref02_Print.l1 k2 ((x5_2 ++ t227) ++ (⟨#[32]⟩ : ByteArray)) x6_1 (wrap64 (x7_2 + 1)) a0_0 l0_1) else (none)) else (none)) = some (r1, r2) := H
                              have A22 := Aside0.mk A220
                              clear A220
                              by_cases c23 : x5_2.size + t227.size ≤ 9223372036854775807
                              · rw [if_pos c23] at H
                                have c23b0 := eq_true c23
                                have c23b1 : decide (x5_2.size + t227.size ≤ 9223372036854775807) = true := decide_eq_true c23
                                try have c23b2 : (9223372036854775807 < x5_2.size + t227.size) = False := eq_false (Nat.not_lt.2 c23)
                                by_cases c24 : (x5_2 ++ t227).size + 1 ≤ 9223372036854775807
                                · rw [if_pos c24] at H
                                  have c24b0 := eq_true c24
                                  have c24b1 : decide ((x5_2 ++ t227).size + 1 ≤ 9223372036854775807) = true := decide_eq_true c24
                                  try have c24b2 : (9223372036854775807 < (x5_2 ++ t227).size + 1) = False := eq_false (Nat.not_lt.2 c24)
                                  have c24b3 : (x5_2).size + (t227).size + 1 ≤ 9223372036854775807 := by have h := c24; simp only [ByteArray.size_append] at h; exact h
                                  have c24b4 : (9223372036854775807 < (x5_2).size + (t227).size + 1) = False := eq_false (Nat.not_lt.2 c24b3)
                                  replace c24b3 := eq_true c24b3
                                  have H' := Aside0.mk H
                                  clear H
                                  have hcz25_0 : wr.cell? ⟨gb220, 0, none⟩ = some (.int .i64 a0_0) := (blk_cell BK220.out 0).trans rfl
                                  have hcz25_1 : wr.cell? ⟨gb220, 1, none⟩ = some (.slice A0_1 l0_1.length c0_1) := (blk_cell BK220.out 1).trans rfl
                                  have hfz25_0 := blk_frozen BK220.out 0
                                  have hfz25_1 := blk_frozen BK220.out 1
                                  have p224 : 0 ≤ (x6_1 : Int) := of_decide_eq_true (by first | (with_reducible assumption) | assumption)
                                  have q224 : x6_1 < (l0_1.length : Int) := of_decide_eq_true (by first | (with_reducible assumption) | assumption)
                                  obtain ⟨ad224, A224_0, c224_0, e224, hx224_0, hl224_0, hi224_0⟩ := at_L6 HR0_1.out x6_1 p224 q224
                                  cases e224
                                  replace hx224_0 := (HB.out.cell (World.block_lt_of_cell? w _ hx224_0)).trans hx224_0
                                  have HR224_0 := Aside0.mk hi224_0
                                  have HC224_0 := Aside0.mk hl224_0
                                  clear hi224_0 hl224_0
                                  replace p224 := eq_true p224
                                  replace q224 := eq_true q224
                                  have p225 : 0 ≤ (x6_1 : Int) := of_decide_eq_true (by first | (with_reducible assumption) | assumption)
                                  have q225 : x6_1 < (l0_1.length : Int) := of_decide_eq_true (by first | (with_reducible assumption) | assumption)
                                  obtain ⟨ad225, A225_0, c225_0, e225, hx225_0, hl225_0, hi225_0⟩ := at_L6 HR0_1.out x6_1 p225 q225
                                  obtain rfl : ad224 = ad225 := (by injection e225)
                                  replace hx225_0 := (HB.out.cell (World.block_lt_of_cell? w _ hx225_0)).trans hx225_0
                                  have HR225_0 := Aside0.mk hi225_0
                                  have HC225_0 := Aside0.mk hl225_0
                                  clear hi225_0 hl225_0
                                  replace p225 := eq_true p225
                                  replace q225 := eq_true q225
                                  have ea_ := Option.some.inj (hx224_0.symm.trans hx225_0)
                                  injection ea_ with ea_ en_ ec_
                                  subst ea_
                                  subst ec_
                                  clear en_
                                  have p226 : 0 ≤ (x7_2 : Int) := of_decide_eq_true (by first | (with_reducible assumption) | assumption)
                                  have q226 : x7_2 < ((rd_L6 l0_1 x6_1).length : Int) := of_decide_eq_true (by first | (with_reducible assumption) | assumption)
                                  obtain ⟨ad226, e226, hx226_0⟩ := Kd.at_int HR225_0.out x7_2 p226 q226
                                  cases e226
                                  replace hx226_0 := (HB.out.cell (World.block_lt_of_cell? w _ hx226_0)).trans hx226_0
                                  replace p226 := eq_true p226
                                  replace q226 := eq_true q226
                                  go_wp2_with (first | ((with_reducible refine gate_callee (f := 39) rfl ?_); refine goesL_ (some 51) rfl rfl Tryz.func39 (by kernel_rfl) rfl #[.int .i64 (wrap64 (rd (rd_L6 l0_1 x6_1) x7_2))] rfl (by (try simp only [List.map_toArray, List.map_cons, List.map_nil]); first | done | rfl | (simp only [List.length_drop, List.length_take]; rfl)) ?_; (with_reducible refine (threshingref02_digits.calls k2 (wrap64 (rd (rd_L6 l0_1 x6_1) x7_2)) t227 _ A22.out).mono ?_); rintro e w26 ⟨rfl, hb⟩; refine ⟨_, rfl, ?_⟩; have n0_ := Aside0.mk (blk_below (g := gb220) (o := .cells #[.int .i64 a0_0, .slice (some ad224) l0_1.length c0_1] 35 (0, 0)) (by (with_reducible repeat (first | refine blk_drewN ?_ _ | refine blk_drew ?_ | refine blk_alloc ?_ _)); exact BK220.out) hb); have n1_ := Aside0.mk (below_step (by repeat (first | (with_reducible first | exact HB.out | apply below_alloc | apply pw_below_drewN | apply below_drew1 | refine below_set ?_ GE220.out) | exact HB.out)) hb); clear BK220; clear HB; have BK220 := n0_; have HB := n1_; clear n0_ n1_; (try clear hb); (try clear hb2); (try clear hk); (try clear hi)))
                                  go_roundg k2
                                  case measure => have := HK1.out; have := HK2.out; omega
                                  case rel => exact ⟨((x5_2 ++ t227) ++ (⟨#[32]⟩ : ByteArray)), (wrap64 (x7_2 + 1)), (by first | rfl | (simp; done) | (simp [*]; done)), (by first | rfl | (simp; done) | (simp [*]; done)), H', ⟨by have := HK1.out; have := HK2.out; omega⟩, ⟨by (with_reducible repeat (first | refine blk_drewN ?_ _ | refine blk_drew ?_ | refine blk_alloc ?_ _)); exact BK220.out⟩, ⟨by repeat (first | (with_reducible first | exact HB.out | apply below_alloc | apply pw_below_drewN | apply below_drew1 | refine below_set ?_ GE220.out) | exact HB.out)⟩⟩
                                · rw [if_neg c24] at H
                                  exact absurd H (by simp)
                              · rw [if_neg c23] at H
                                exact absurd H (by simp)
                            · rw [if_neg c21] at H
                              exact absurd H (by simp)
                          · rw [if_neg c20] at H
                            have c20b0 : decide (x7_2 < ((rd_L6 l0_1 x6_1).length : Int)) = false := decide_eq_false c20
                            clear c20
                            by_cases c27 : x5_2.size + 2 ≤ 9223372036854775807
                            · rw [if_pos c27] at H
                              have c27b0 := eq_true c27
                              have c27b1 : decide (x5_2.size + 2 ≤ 9223372036854775807) = true := decide_eq_true c27
                              try have c27b2 : (9223372036854775807 < x5_2.size + 2) = False := eq_false (Nat.not_lt.2 c27)
                              have H' := Aside0.mk H
                              clear H
                              have hcz28_0 : wr.cell? ⟨gb220, 0, none⟩ = some (.int .i64 a0_0) := (blk_cell BK220.out 0).trans rfl
                              have hcz28_1 : wr.cell? ⟨gb220, 1, none⟩ = some (.slice A0_1 l0_1.length c0_1) := (blk_cell BK220.out 1).trans rfl
                              have hfz28_0 := blk_frozen BK220.out 0
                              have hfz28_1 := blk_frozen BK220.out 1
                              have p224 : 0 ≤ (x6_1 : Int) := of_decide_eq_true (by first | (with_reducible assumption) | assumption)
                              have q224 : x6_1 < (l0_1.length : Int) := of_decide_eq_true (by first | (with_reducible assumption) | assumption)
                              obtain ⟨ad224, A224_0, c224_0, e224, hx224_0, hl224_0, hi224_0⟩ := at_L6 HR0_1.out x6_1 p224 q224
                              cases e224
                              replace hx224_0 := (HB.out.cell (World.block_lt_of_cell? w _ hx224_0)).trans hx224_0
                              have HR224_0 := Aside0.mk hi224_0
                              have HC224_0 := Aside0.mk hl224_0
                              clear hi224_0 hl224_0
                              replace p224 := eq_true p224
                              replace q224 := eq_true q224
                              go_wp2
                              go_roundg k2
                              case measure => have := HK1.out; have := HK2.out; omega
                              case rel => exact ⟨(x5_2 ++ (⟨#[48, 10]⟩ : ByteArray)), (wrap64 (x6_1 + 1)), (by first | rfl | (simp; done) | (simp [*]; done)), (by first | rfl | (simp; done) | (simp [*]; done)), H', ⟨by have := HK1.out; have := HK2.out; omega⟩, ⟨by (with_reducible repeat (first | refine blk_drewN ?_ _ | refine blk_drew ?_ | refine blk_alloc ?_ _)); exact BK220.out⟩, ⟨by repeat (first | (with_reducible first | exact HB.out | apply below_alloc | apply pw_below_drewN | apply below_drew1 | refine below_set ?_ GE220.out) | exact HB.out)⟩⟩
                            · rw [if_neg c27] at H
                              exact absurd H (by simp)
                        · rw [if_neg c19] at H
                          exact absurd H (by simp)
                      · rw [if_neg c18] at H
                        exact absurd H (by simp)
                · rw [if_neg c16] at H
                  have c16b0 : decide (x6_1 < (l0_1.length : Int)) = false := decide_eq_false c16
                  clear c16
                  simp only [Option.some.injEq, Prod.mk.injEq] at H
                  obtain ⟨rfl, rfl⟩ := H
                  have hcz29_0 : wr.cell? ⟨gb220, 0, none⟩ = some (.int .i64 a0_0) := (blk_cell BK220.out 0).trans rfl
                  have hcz29_1 : wr.cell? ⟨gb220, 1, none⟩ = some (.slice A0_1 l0_1.length c0_1) := (blk_cell BK220.out 1).trans rfl
                  have hfz29_0 := blk_frozen BK220.out 0
                  have hfz29_1 := blk_frozen BK220.out 1
                  go_wp2
                  go_ret2
                  exact ⟨by first | rfl | (simp [errW_none, errW_some] <;> rfl) | (simp [*, errW_none, errW_some] <;> rfl), by repeat (first | (with_reducible first | exact HB.out | apply below_alloc | apply pw_below_drewN | apply below_drew1 | refine below_set ?_ GE220.out) | exact HB.out)⟩
          · rw [if_neg c9] at H
            exact absurd H (by simp)
        · rw [if_neg c8] at H
          exact absurd H (by simp)
      · rw [if_neg c6] at H
        exact absurd H (by simp)
    · rw [if_neg c5] at H
      exact absurd H (by simp)
  · rw [if_neg c3] at H
    have c3b0 : (t221 == 0) = false := beq_eq_false_iff_ne.mpr c3
    have c3b1 : (t221 != 0) = true := bne_iff_ne.mpr c3
    simp only [Option.some.injEq, Prod.mk.injEq] at H
    obtain ⟨rfl, rfl⟩ := H
    go_enter Tryz.func30, Tryz.ntmps30
    go_wp2_with (first | ((with_reducible refine gate_dst (N := 1) rfl ?_); refine box_event ?hg (N := 1) ?hd (cs := #[.int .i64 a0_0, .slice A0_1 l0_1.length c0_1]) (t := 35) ?hr ?_; (case hd => rfl); (case hg => rfl); (case hr => first | (go_simp; done) | (go_simp; rfl)); intro gb220 hg w30 hbox hb; have n0_ := Aside0.mk (below_step (by repeat (first | (with_reducible first | exact HB.out | apply below_alloc | apply pw_below_drewN | apply below_drew1) | exact HB.out)) hb); have n1_ := Aside0.mk (hbox); have n2_ := Aside0.mk ((by rw [hg]; exact (below_size (by repeat (first | (with_reducible first | exact HB.out | apply below_alloc | apply pw_below_drewN | apply below_drew1) | exact HB.out))) : w.heap.size ≤ gb220)); have n3_ := Aside0.mk ((by rw [hg]; exact (below_size (by repeat (first | (with_reducible first | exact HB.out | apply below_alloc | apply pw_below_drewN | apply below_drew1) | exact HB.out))) : w.heap.size ≤ gb220)); clear HB; have HB := n0_; have BK220 := n1_; have GW220 := n2_; have GE220 := n3_; clear n0_ n1_ n2_ n3_; clear hb hbox hg; have hcz31_0 : w30.cell? ⟨gb220, 0, none⟩ = some (.int .i64 a0_0) := (blk_cell BK220.out 0).trans rfl; have hcz31_1 : w30.cell? ⟨gb220, 1, none⟩ = some (.slice A0_1 l0_1.length c0_1) := (blk_cell BK220.out 1).trans rfl; have hfz31_0 := blk_frozen BK220.out 0; have hfz31_1 := blk_frozen BK220.out 1) | ((with_reducible refine gate_callee (f := 49) rfl ?_); refine goesL_ (some 9) rfl rfl Tryz.func49 (by kernel_rfl) rfl #[.agg #[.int .i64 a0_0, .slice A0_1 l0_1.length c0_1]] rfl (by (try simp only [List.map_toArray, List.map_cons, List.map_nil]); first | done | rfl | (simp only [List.length_drop, List.length_take]; rfl)) ?_; (with_reducible refine (threshingref01_Right.calls k a0_0 _ _ l0_1 t221 _ ?side1 ?side2 A2.out).mono ?_); (case side1 => repeat (first | exact (Kd.C_below HR0_1.out HB.out) | (with_reducible refine Kd.C_alloc ?_ _) | (with_reducible refine Kd.C_drewN ?_ _) | (with_reducible refine Kd.C_drew ?_))); (case side2 => exact HC0_1.out); rintro e w32 ⟨rfl, hb⟩; refine ⟨_, rfl, ?_⟩; have n0_ := Aside0.mk (blk_below (g := gb220) (o := .cells #[.int .i64 a0_0, .slice A0_1 l0_1.length c0_1] 35 (0, 0)) (by (with_reducible repeat (first | refine blk_drewN ?_ _ | refine blk_drew ?_ | refine blk_alloc ?_ _)); exact BK220.out) hb); have n1_ := Aside0.mk (below_step (by repeat (first | (with_reducible first | exact HB.out | apply below_alloc | apply pw_below_drewN | apply below_drew1 | refine below_set ?_ GE220.out) | exact HB.out)) hb); clear BK220; clear HB; have BK220 := n0_; have HB := n1_; clear n0_ n1_; (try clear hb); (try clear hb2); (try clear hk); (try clear hi)))
    go_ret2
    exact ⟨by first | rfl | (simp [errW_none, errW_some] <;> rfl) | (simp [*, errW_none, errW_some] <;> rfl), by repeat (first | (with_reducible first | exact HB.out | apply below_alloc | apply pw_below_drewN | apply below_drew1 | refine below_set ?_ GE220.out) | exact HB.out)⟩
end Go.Proofs.YtigloobbpcnnhaaGreatDoor.PB
end
section
namespace Go.Proofs.YtigloobbpcnnhaaGreatDoor.PB
open Go.RowKit Go.Proofs.YtigloobbpcnnhaaGreatDoorW.PrintWords Go.Proofs.YtigloobbpcnnhaaGreatDoorW.PrintLast Go.Proofs.YtigloobbpcnnhaaGreatDoorW.PrintMore
attribute [local go_sem] max2_int min2_int max_two min_two max_three min_three max_four min_four   -- for this text's walks alone
set_option linter.unusedVariables false
set_option linter.unusedSimpArgs false
def threshingref02_Values.l0 : Nat → List Bool → ByteArray → ByteArray → Int → Option (ByteArray)
  | 0, _, _, _, _ => none
  | k + 1, x0, x3, x4, x5 => if x5 ≤ (wrap64 ((x0.length : Int) + 1)) then (if x5 ≤ (x0.length : Int) then ((threshingref02_digits.f k x5).bind fun t228 => (if 0 ≤ (wrap64 (x5 - 1)) then (if (wrap64 (x5 - 1)) < (x0.length : Int) then (if (rdOf false x0 (wrap64 (x5 - 1)) = true) then (if (wrap64 ((wrap64 ((x4.size : Int) + 1)) + (t228.size : Int))) > 78 then (if x4.toList = ([118] : List UInt8) then (if x4.size + 1 ≤ 9223372036854775807 then (if (x4 ++ (⟨#[32]⟩ : ByteArray)).size + t228.size ≤ 9223372036854775807 then (threshingref02_Values.l0 k x0 x3 ((x4 ++ (⟨#[32]⟩ : ByteArray)) ++ t228) (wrap64 (x5 + 1))) else (none)) else (none)) else (if x3.size + x4.size ≤ 9223372036854775807 then (if (x3 ++ x4).size + 1 ≤ 9223372036854775807 then (if 1 + 1 ≤ 9223372036854775807 then (if 2 + t228.size ≤ 9223372036854775807 then (threshingref02_Values.l0 k x0 ((x3 ++ x4) ++ (⟨#[10]⟩ : ByteArray)) (((⟨#[118]⟩ : ByteArray) ++ (⟨#[32]⟩ : ByteArray)) ++ t228) (wrap64 (x5 + 1))) else (none)) else (none)) else (none)) else (none))) else (if x4.size + 1 ≤ 9223372036854775807 then (if (x4 ++ (⟨#[32]⟩ : ByteArray)).size + t228.size ≤ 9223372036854775807 then (threshingref02_Values.l0 k x0 x3 ((x4 ++ (⟨#[32]⟩ : ByteArray)) ++ t228) (wrap64 (x5 + 1))) else (none)) else (none))) else (if 1 + t228.size ≤ 9223372036854775807 then (if (wrap64 ((wrap64 ((x4.size : Int) + 1)) + (((⟨#[45]⟩ : ByteArray) ++ t228).size : Int))) > 78 then (if x4.toList = ([118] : List UInt8) then (if x4.size + 1 ≤ 9223372036854775807 then (if (x4 ++ (⟨#[32]⟩ : ByteArray)).size + ((⟨#[45]⟩ : ByteArray) ++ t228).size ≤ 9223372036854775807 then (threshingref02_Values.l0 k x0 x3 ((x4 ++ (⟨#[32]⟩ : ByteArray)) ++ ((⟨#[45]⟩ : ByteArray) ++ t228)) (wrap64 (x5 + 1))) else (none)) else (none)) else (if x3.size + x4.size ≤ 9223372036854775807 then (if (x3 ++ x4).size + 1 ≤ 9223372036854775807 then (if 1 + 1 ≤ 9223372036854775807 then (if 2 + ((⟨#[45]⟩ : ByteArray) ++ t228).size ≤ 9223372036854775807 then (threshingref02_Values.l0 k x0 ((x3 ++ x4) ++ (⟨#[10]⟩ : ByteArray)) (((⟨#[118]⟩ : ByteArray) ++ (⟨#[32]⟩ : ByteArray)) ++ ((⟨#[45]⟩ : ByteArray) ++ t228)) (wrap64 (x5 + 1))) else (none)) else (none)) else (none)) else (none))) else (if x4.size + 1 ≤ 9223372036854775807 then (if (x4 ++ (⟨#[32]⟩ : ByteArray)).size + ((⟨#[45]⟩ : ByteArray) ++ t228).size ≤ 9223372036854775807 then (threshingref02_Values.l0 k x0 x3 ((x4 ++ (⟨#[32]⟩ : ByteArray)) ++ ((⟨#[45]⟩ : ByteArray) ++ t228)) (wrap64 (x5 + 1))) else (none)) else (none))) else (none))) else (none)) else (none))) else (if (wrap64 ((wrap64 ((x4.size : Int) + 1)) + 1)) > 78 then (if x4.toList = ([118] : List UInt8) then (if x4.size + 1 ≤ 9223372036854775807 then (if (x4 ++ (⟨#[32]⟩ : ByteArray)).size + 1 ≤ 9223372036854775807 then (threshingref02_Values.l0 k x0 x3 ((x4 ++ (⟨#[32]⟩ : ByteArray)) ++ (⟨#[48]⟩ : ByteArray)) (wrap64 (x5 + 1))) else (none)) else (none)) else (if x3.size + x4.size ≤ 9223372036854775807 then (if (x3 ++ x4).size + 1 ≤ 9223372036854775807 then (if 1 + 1 ≤ 9223372036854775807 then (threshingref02_Values.l0 k x0 ((x3 ++ x4) ++ (⟨#[10]⟩ : ByteArray)) (((⟨#[118]⟩ : ByteArray) ++ (⟨#[32]⟩ : ByteArray)) ++ (⟨#[48]⟩ : ByteArray)) (wrap64 (x5 + 1))) else (none)) else (none)) else (none))) else (if x4.size + 1 ≤ 9223372036854775807 then (if (x4 ++ (⟨#[32]⟩ : ByteArray)).size + 1 ≤ 9223372036854775807 then (threshingref02_Values.l0 k x0 x3 ((x4 ++ (⟨#[32]⟩ : ByteArray)) ++ (⟨#[48]⟩ : ByteArray)) (wrap64 (x5 + 1))) else (none)) else (none)))) else (if x3.size + x4.size ≤ 9223372036854775807 then (if (x3 ++ x4).size + 1 ≤ 9223372036854775807 then (some ((x3 ++ x4) ++ (⟨#[10]⟩ : ByteArray))) else (none)) else (none))
def threshingref02_Values.f (k : Nat) (l0 : List Bool) : Option (ByteArray) := threshingref02_Values.l0 k l0 (⟨#[]⟩ : ByteArray) (⟨#[118]⟩ : ByteArray) 1
theorem threshingref02_Values.mono_l : ∀ k, (∀ y0 y1 y2 y3, LeO (threshingref02_Values.l0 k y0 y1 y2 y3) (threshingref02_Values.l0 (k + 1) y0 y1 y2 y3))
  | 0 => fun _ _ _ _ r h => by simp [threshingref02_Values.l0] at h
  | k + 1 => by
    have ih0 := threshingref02_Values.mono_l k
    · intro y0 y1 y2 y3
      unfold threshingref02_Values.l0
      repeat' first
      | (with_reducible exact ih0 _ _ _ _)
      | (with_reducible exact threshingref02_digits.mono _ _)
      | (with_reducible exact LeO.refl _)
      | (with_reducible exact LeO.none _)
      | (with_reducible refine LeO.ite ?_ ?_)
      | (with_reducible refine LeO.bind ?_ (fun _ => ?_))
      | exact ih0 _ _ _ _
      | exact threshingref02_digits.mono _ _
      | exact LeO.none _
      | refine LeO.ite ?_ ?_
      | refine LeO.bind ?_ (fun _ => ?_)
theorem threshingref02_Values.mono : ∀ a0 k, LeO (threshingref02_Values.f k a0) (threshingref02_Values.f (k + 1) a0) := by
  intro a0 k
  have ih0 := threshingref02_Values.mono_l k
  unfold threshingref02_Values.f
  repeat' first
      | (with_reducible exact ih0 _ _ _ _)
      | (with_reducible exact threshingref02_digits.mono _ _)
      | (with_reducible exact LeO.refl _)
      | (with_reducible exact LeO.none _)
      | (with_reducible refine LeO.ite ?_ ?_)
      | (with_reducible refine LeO.bind ?_ (fun _ => ?_))
      | exact ih0 _ _ _ _
      | exact threshingref02_digits.mono _ _
      | exact LeO.none _
      | refine LeO.ite ?_ ?_
      | refine LeO.bind ?_ (fun _ => ?_)
theorem wrap_in2 (a b : Int) : wrap64 (wrap64 a + b) = wrap64 (a + b) := by
  unfold wrap64
  omega
set_option maxHeartbeats 8000000 in
set_option maxRecDepth 100000 in
theorem threshingref02_Values.calls (k : Nat) (A0 : Option Addr) (c0 : Nat) (l0 : List Bool) (r : ByteArray) (w : World) (hr0 : Kd.C Kd.bool w A0 l0.length l0) (hc0 : l0.length ≤ c0) (h : threshingref02_Values.f k l0 = some r) :
    Calls Tryz.prog 19 #[.slice A0 l0.length c0] w fun e w' => e = .returned (.string r) ∧ Below w.heap.size w w' := by
  have HR0 := Aside0.mk hr0
  have HC0 := Aside0.mk hc0
  clear hr0 hc0
  have HB := Aside0.mk (Below.refl w.heap.size w)
  have H : (threshingref02_Values.l0 k l0 (⟨#[]⟩ : ByteArray) (⟨#[118]⟩ : ByteArray) 1) = some r := h
  clear h
  have H' := Aside0.mk H
  clear H
  go_enter Tryz.func19, Tryz.ntmps19
  go_wp2
  go_loopg [3, 4, 5] k (fun kq v3 v4 v5 w' => ∃ (x3_1 : ByteArray) (x4_1 : ByteArray) (x5_1 : Int), v3 = .string x3_1 ∧ v4 = .string x4_1 ∧ v5 = .int .i64 x5_1 ∧ Aside0 (threshingref02_Values.l0 kq l0 x3_1 x4_1 x5_1 = some r) ∧ Aside0 (kq ≤ k) ∧ Aside0 (Below w.heap.size w w'))
  case atStart => exact ⟨((⟨#[]⟩ : ByteArray)), ((⟨#[118]⟩ : ByteArray)), (1), (by first | rfl | (simp; done) | (simp [*]; done)), (by first | rfl | (simp; done) | (simp [*]; done)), (by first | rfl | (simp; done) | (simp [*]; done)), H', ⟨Nat.le_refl _⟩, ⟨by repeat (first | (with_reducible first | exact HB.out | apply below_alloc | apply pw_below_drewN | apply below_drew1) | exact HB.out)⟩⟩
  case round =>
    clear H'
    try clear c1
    obtain ⟨x3_1, x4_1, x5_1, rfl, rfl, rfl, HA, HK1, HB⟩ := hrel
    cases gk with
    | zero => exact absurd HA.out (by simp [threshingref02_Values.l0])
    | succ k1 =>
      have H := HA.out
      clear HA
      simp only [threshingref02_Values.l0] at H
      by_cases c2 : x5_1 ≤ (wrap64 ((l0.length : Int) + 1))
      · rw [if_pos c2] at H
        have c2b0 : decide (x5_1 ≤ (wrap64 ((l0.length : Int) + 1))) = true := decide_eq_true c2
        clear c2
        by_cases c3 : x5_1 ≤ (l0.length : Int)
        · rw [if_pos c3] at H
          have c3b0 : decide (x5_1 ≤ (l0.length : Int)) = true := decide_eq_true c3
          clear c3
          replace H := Option.bind_eq_some_iff.mp H
          obtain ⟨t228, A40, H⟩ := H
          replace H : (if 0 ≤ (wrap64 (x5_1 - 1)) then (if (wrap64 (x5_1 - 1)) < (l0.length : Int) then (if (rdOf false l0 (wrap64 (x5_1 - 1)) = true) then (if (wrap64 ((wrap64 ((x4_1.size : Int) + 1)) + (t228.size : Int))) > 78 then (if x4_1.toList = ([118] : List UInt8) then (if x4_1.size + 1 ≤ 9223372036854775807 then (if (x4_1 ++ (⟨#[32]⟩ : ByteArray)).size + t228.size ≤ 9223372036854775807 then (threshingref02_Values.l0 k1 l0 x3_1 ((x4_1 ++ (⟨#[32]⟩ : ByteArray)) ++ t228) (wrap64 (x5_1 + 1))) else (none)) else (none)) else (if x3_1.size + x4_1.size ≤ 9223372036854775807 then (if (x3_1 ++ x4_1).size + 1 ≤ 9223372036854775807 then (if 1 + 1 ≤ 9223372036854775807 then (if 2 + t228.size ≤ 9223372036854775807 then (threshingref02_Values.l0 k1 l0 ((x3_1 ++ x4_1) ++ (⟨#[10]⟩ : ByteArray)) (((⟨#[118]⟩ : ByteArray) ++ (⟨#[32]⟩ : ByteArray)) ++ t228) (wrap64 (x5_1 + 1))) else (none)) else (none)) else (none)) else (none))) else (if x4_1.size + 1 ≤ 9223372036854775807 then (if (x4_1 ++ (⟨#[32]⟩ : ByteArray)).size + t228.size ≤ 9223372036854775807 then (threshingref02_Values.l0 k1 l0 x3_1 ((x4_1 ++ (⟨#[32]⟩ : ByteArray)) ++ t228) (wrap64 (x5_1 + 1))) else (none)) else (none))) else (if 1 + t228.size ≤ 9223372036854775807 then (if (wrap64 ((wrap64 ((x4_1.size : Int) + 1)) + (((⟨#[45]⟩ : ByteArray) ++ t228).size : Int))) > 78 then (if x4_1.toList = ([118] : List UInt8) then (if x4_1.size + 1 ≤ 9223372036854775807 then (if (x4_1 ++ (⟨#[32]⟩ : ByteArray)).size + ((⟨#[45]⟩ : ByteArray) ++ t228).size ≤ 9223372036854775807 then (threshingref02_Values.l0 k1 l0 x3_1 ((x4_1 ++ (⟨#[32]⟩ : ByteArray)) ++ ((⟨#[45]⟩ : ByteArray) ++ t228)) (wrap64 (x5_1 + 1))) else (none)) else (none)) else (if x3_1.size + x4_1.size ≤ 9223372036854775807 then (if (x3_1 ++ x4_1).size + 1 ≤ 9223372036854775807 then (if 1 + 1 ≤ 9223372036854775807 then (if 2 + ((⟨#[45]⟩ : ByteArray) ++ t228).size ≤ 9223372036854775807 then (threshingref02_Values.l0 k1 l0 ((x3_1 ++ x4_1) ++ (⟨#[10]⟩ : ByteArray)) (((⟨#[118]⟩ : ByteArray) ++ (⟨#[32]⟩ : ByteArray)) ++ ((⟨#[45]⟩ : ByteArray) ++ t228)) (wrap64 (x5_1 + 1))) else (none)) else (none)) else (none)) else (none))) else (if x4_1.size + 1 ≤ 9223372036854775807 then (if (x4_1 ++ (⟨#[32]⟩ : ByteArray)).size + ((⟨#[45]⟩ : ByteArray) ++ t228).size ≤ 9223372036854775807 then (threshingref02_Values.l0 k1 l0 x3_1 ((x4_1 ++ (⟨#[32]⟩ : ByteArray)) ++ ((⟨#[45]⟩ : ByteArray) ++ t228)) (wrap64 (x5_1 + 1))) else (none)) else (none))) else (none))) else (none)) else (none)) = some r := H
          have A4 := Aside0.mk A40
          clear A40
          obtain ⟨ji5, hji5⟩ : ∃ j_ : Int, (wrap64 (x5_1 - 1)) = j_ := ⟨_, rfl⟩
          replace H : (if 0 ≤ (ji5) then (if (ji5) < (l0.length : Int) then (if (rdOf false l0 (ji5) = true) then (if (wrap64 ((wrap64 ((x4_1.size : Int) + 1)) + (t228.size : Int))) > 78 then (if x4_1.toList = ([118] : List UInt8) then (if x4_1.size + 1 ≤ 9223372036854775807 then (if (x4_1 ++ (⟨#[32]⟩ : ByteArray)).size + t228.size ≤ 9223372036854775807 then (threshingref02_Values.l0 k1 l0 x3_1 ((x4_1 ++ (⟨#[32]⟩ : ByteArray)) ++ t228) (wrap64 (x5_1 + 1))) else (none)) else (none)) else (if x3_1.size + x4_1.size ≤ 9223372036854775807 then (if (x3_1 ++ x4_1).size + 1 ≤ 9223372036854775807 then (if 1 + 1 ≤ 9223372036854775807 then (if 2 + t228.size ≤ 9223372036854775807 then (threshingref02_Values.l0 k1 l0 ((x3_1 ++ x4_1) ++ (⟨#[10]⟩ : ByteArray)) (((⟨#[118]⟩ : ByteArray) ++ (⟨#[32]⟩ : ByteArray)) ++ t228) (wrap64 (x5_1 + 1))) else (none)) else (none)) else (none)) else (none))) else (if x4_1.size + 1 ≤ 9223372036854775807 then (if (x4_1 ++ (⟨#[32]⟩ : ByteArray)).size + t228.size ≤ 9223372036854775807 then (threshingref02_Values.l0 k1 l0 x3_1 ((x4_1 ++ (⟨#[32]⟩ : ByteArray)) ++ t228) (wrap64 (x5_1 + 1))) else (none)) else (none))) else (if 1 + t228.size ≤ 9223372036854775807 then (if (wrap64 ((wrap64 ((x4_1.size : Int) + 1)) + (((⟨#[45]⟩ : ByteArray) ++ t228).size : Int))) > 78 then (if x4_1.toList = ([118] : List UInt8) then (if x4_1.size + 1 ≤ 9223372036854775807 then (if (x4_1 ++ (⟨#[32]⟩ : ByteArray)).size + ((⟨#[45]⟩ : ByteArray) ++ t228).size ≤ 9223372036854775807 then (threshingref02_Values.l0 k1 l0 x3_1 ((x4_1 ++ (⟨#[32]⟩ : ByteArray)) ++ ((⟨#[45]⟩ : ByteArray) ++ t228)) (wrap64 (x5_1 + 1))) else (none)) else (none)) else (if x3_1.size + x4_1.size ≤ 9223372036854775807 then (if (x3_1 ++ x4_1).size + 1 ≤ 9223372036854775807 then (if 1 + 1 ≤ 9223372036854775807 then (if 2 + ((⟨#[45]⟩ : ByteArray) ++ t228).size ≤ 9223372036854775807 then (threshingref02_Values.l0 k1 l0 ((x3_1 ++ x4_1) ++ (⟨#[10]⟩ : ByteArray)) (((⟨#[118]⟩ : ByteArray) ++ (⟨#[32]⟩ : ByteArray)) ++ ((⟨#[45]⟩ : ByteArray) ++ t228)) (wrap64 (x5_1 + 1))) else (none)) else (none)) else (none)) else (none))) else (if x4_1.size + 1 ≤ 9223372036854775807 then (if (x4_1 ++ (⟨#[32]⟩ : ByteArray)).size + ((⟨#[45]⟩ : ByteArray) ++ t228).size ≤ 9223372036854775807 then (threshingref02_Values.l0 k1 l0 x3_1 ((x4_1 ++ (⟨#[32]⟩ : ByteArray)) ++ ((⟨#[45]⟩ : ByteArray) ++ t228)) (wrap64 (x5_1 + 1))) else (none)) else (none))) else (none))) else (none)) else (none)) = some r := by first | (rw [hji5] at H; exact H) | (simp only [hji5] at H ⊢; exact H)
          (try rw [hji5] at A4)
          have hji5w : (IntKind.i64.wrap (x5_1 - 1)) = ji5 := (i64_w _).trans hji5
          by_cases c6 : 0 ≤ (ji5)
          · rw [if_pos c6] at H
            have c6b0 : decide (0 ≤ (ji5)) = true := decide_eq_true c6
            clear c6
            by_cases c7 : (ji5) < (l0.length : Int)
            · rw [if_pos c7] at H
              have c7b0 : decide ((ji5) < (l0.length : Int)) = true := decide_eq_true c7
              clear c7
              obtain ⟨bq8, hbq8⟩ : ∃ b_ : Bool, b_ = (rdOf false l0 (ji5)) := ⟨_, rfl⟩
              replace H : (if (bq8 = true) then (if (wrap64 ((wrap64 ((x4_1.size : Int) + 1)) + (t228.size : Int))) > 78 then (if x4_1.toList = ([118] : List UInt8) then (if x4_1.size + 1 ≤ 9223372036854775807 then (if (x4_1 ++ (⟨#[32]⟩ : ByteArray)).size + t228.size ≤ 9223372036854775807 then (threshingref02_Values.l0 k1 l0 x3_1 ((x4_1 ++ (⟨#[32]⟩ : ByteArray)) ++ t228) (wrap64 (x5_1 + 1))) else (none)) else (none)) else (if x3_1.size + x4_1.size ≤ 9223372036854775807 then (if (x3_1 ++ x4_1).size + 1 ≤ 9223372036854775807 then (if 1 + 1 ≤ 9223372036854775807 then (if 2 + t228.size ≤ 9223372036854775807 then (threshingref02_Values.l0 k1 l0 ((x3_1 ++ x4_1) ++ (⟨#[10]⟩ : ByteArray)) (((⟨#[118]⟩ : ByteArray) ++ (⟨#[32]⟩ : ByteArray)) ++ t228) (wrap64 (x5_1 + 1))) else (none)) else (none)) else (none)) else (none))) else (if x4_1.size + 1 ≤ 9223372036854775807 then (if (x4_1 ++ (⟨#[32]⟩ : ByteArray)).size + t228.size ≤ 9223372036854775807 then (threshingref02_Values.l0 k1 l0 x3_1 ((x4_1 ++ (⟨#[32]⟩ : ByteArray)) ++ t228) (wrap64 (x5_1 + 1))) else (none)) else (none))) else (if 1 + t228.size ≤ 9223372036854775807 then (if (wrap64 ((wrap64 ((x4_1.size : Int) + 1)) + (((⟨#[45]⟩ : ByteArray) ++ t228).size : Int))) > 78 then (if x4_1.toList = ([118] : List UInt8) then (if x4_1.size + 1 ≤ 9223372036854775807 then (if (x4_1 ++ (⟨#[32]⟩ : ByteArray)).size + ((⟨#[45]⟩ : ByteArray) ++ t228).size ≤ 9223372036854775807 then (threshingref02_Values.l0 k1 l0 x3_1 ((x4_1 ++ (⟨#[32]⟩ : ByteArray)) ++ ((⟨#[45]⟩ : ByteArray) ++ t228)) (wrap64 (x5_1 + 1))) else (none)) else (none)) else (if x3_1.size + x4_1.size ≤ 9223372036854775807 then (if (x3_1 ++ x4_1).size + 1 ≤ 9223372036854775807 then (if 1 + 1 ≤ 9223372036854775807 then (if 2 + ((⟨#[45]⟩ : ByteArray) ++ t228).size ≤ 9223372036854775807 then (threshingref02_Values.l0 k1 l0 ((x3_1 ++ x4_1) ++ (⟨#[10]⟩ : ByteArray)) (((⟨#[118]⟩ : ByteArray) ++ (⟨#[32]⟩ : ByteArray)) ++ ((⟨#[45]⟩ : ByteArray) ++ t228)) (wrap64 (x5_1 + 1))) else (none)) else (none)) else (none)) else (none))) else (if x4_1.size + 1 ≤ 9223372036854775807 then (if (x4_1 ++ (⟨#[32]⟩ : ByteArray)).size + ((⟨#[45]⟩ : ByteArray) ++ t228).size ≤ 9223372036854775807 then (threshingref02_Values.l0 k1 l0 x3_1 ((x4_1 ++ (⟨#[32]⟩ : ByteArray)) ++ ((⟨#[45]⟩ : ByteArray) ++ t228)) (wrap64 (x5_1 + 1))) else (none)) else (none))) else (none))) = some r := by rw [← hbq8] at H; exact H
              have Nbq8 := Aside0.mk hbq8
              clear hbq8
              by_cases c9 : (bq8 = true)
              · subst c9
                have H1 : (if (wrap64 ((wrap64 ((x4_1.size : Int) + 1)) + (t228.size : Int))) > 78 then (if x4_1.toList = ([118] : List UInt8) then (if x4_1.size + 1 ≤ 9223372036854775807 then (if (x4_1 ++ (⟨#[32]⟩ : ByteArray)).size + t228.size ≤ 9223372036854775807 then (threshingref02_Values.l0 k1 l0 x3_1 ((x4_1 ++ (⟨#[32]⟩ : ByteArray)) ++ t228) (wrap64 (x5_1 + 1))) else (none)) else (none)) else (if x3_1.size + x4_1.size ≤ 9223372036854775807 then (if (x3_1 ++ x4_1).size + 1 ≤ 9223372036854775807 then (if 1 + 1 ≤ 9223372036854775807 then (if 2 + t228.size ≤ 9223372036854775807 then (threshingref02_Values.l0 k1 l0 ((x3_1 ++ x4_1) ++ (⟨#[10]⟩ : ByteArray)) (((⟨#[118]⟩ : ByteArray) ++ (⟨#[32]⟩ : ByteArray)) ++ t228) (wrap64 (x5_1 + 1))) else (none)) else (none)) else (none)) else (none))) else (if x4_1.size + 1 ≤ 9223372036854775807 then (if (x4_1 ++ (⟨#[32]⟩ : ByteArray)).size + t228.size ≤ 9223372036854775807 then (threshingref02_Values.l0 k1 l0 x3_1 ((x4_1 ++ (⟨#[32]⟩ : ByteArray)) ++ t228) (wrap64 (x5_1 + 1))) else (none)) else (none))) = some r := by rw [if_pos rfl] at H; exact H
                clear H
                have H := H1
                clear H1
                by_cases c10 : (wrap64 ((wrap64 ((x4_1.size : Int) + 1)) + (t228.size : Int))) > 78
                · rw [if_pos c10] at H
                  have c10b0 : decide (78 < (wrap64 ((wrap64 ((x4_1.size : Int) + 1)) + (t228.size : Int)))) = true := decide_eq_true c10
                  have c10b9 := c10b0
                  rw [wrap_in2] at c10b9
                  try simp only [ByteArray.size_append, Int.natCast_add] at c10b9
                  try rw [show (((⟨#[45]⟩ : ByteArray).size : Nat) : Int) = 1 from rfl] at c10b9
                  have c10b8 := c10b0
                  try simp only [ByteArray.size_append, Int.natCast_add] at c10b8
                  try rw [show (((⟨#[45]⟩ : ByteArray).size : Nat) : Int) = 1 from rfl] at c10b8
                  clear c10
                  by_cases c11 : x4_1.toList = ([118] : List UInt8)
                  · rw [if_pos c11] at H
                    have c11b0 : (x4_1.toList == ([118] : List UInt8)) = true := beq_iff_eq.mpr c11
                    have c11b1 : (x4_1.toList != ([118] : List UInt8)) = false := bne_eq_false_iff_eq.mpr c11
                    clear c11
                    by_cases c12 : x4_1.size + 1 ≤ 9223372036854775807
                    · rw [if_pos c12] at H
                      have c12b0 := eq_true c12
                      have c12b1 : decide (x4_1.size + 1 ≤ 9223372036854775807) = true := decide_eq_true c12
                      try have c12b2 : (9223372036854775807 < x4_1.size + 1) = False := eq_false (Nat.not_lt.2 c12)
                      by_cases c13 : (x4_1 ++ (⟨#[32]⟩ : ByteArray)).size + t228.size ≤ 9223372036854775807
                      · rw [if_pos c13] at H
                        have c13b0 := eq_true c13
                        have c13b1 : decide ((x4_1 ++ (⟨#[32]⟩ : ByteArray)).size + t228.size ≤ 9223372036854775807) = true := decide_eq_true c13
                        try have c13b2 : (9223372036854775807 < (x4_1 ++ (⟨#[32]⟩ : ByteArray)).size + t228.size) = False := eq_false (Nat.not_lt.2 c13)
                        have c13b3 : (x4_1).size + 1 + t228.size ≤ 9223372036854775807 := by have h := c13; simp only [ByteArray.size_append] at h; exact h
                        have c13b4 : (9223372036854775807 < (x4_1).size + 1 + t228.size) = False := eq_false (Nat.not_lt.2 c13b3)
                        replace c13b3 := eq_true c13b3
                        have H' := Aside0.mk H
                        clear H
                        go_wp2_with (first | ((with_reducible refine gate_callee (f := 39) rfl ?_); refine goesL_ (some 19) rfl rfl Tryz.func39 (by kernel_rfl) rfl #[.int .i64 x5_1] rfl (by (try simp only [List.map_toArray, List.map_cons, List.map_nil]); first | done | rfl | (simp only [List.length_drop, List.length_take]; rfl)) ?_; (with_reducible refine (threshingref02_digits.calls k1 x5_1 t228 _ A4.out).mono ?_); rintro e w14 ⟨rfl, hb⟩; refine ⟨_, rfl, ?_⟩; have n0_ := Aside0.mk (below_step (by repeat (first | (with_reducible first | exact HB.out | apply below_alloc | apply pw_below_drewN | apply below_drew1) | exact HB.out)) hb); clear HB; have HB := n0_; clear n0_; (try clear hb); (try clear hb2); (try clear hk); (try clear hi); have p229 : 0 ≤ ((ji5) : Int) := of_decide_eq_true (by first | (with_reducible assumption) | assumption); have q229 : (ji5) < (l0.length : Int) := of_decide_eq_true (by first | (with_reducible assumption) | assumption); obtain ⟨ad229, e229, hx229_0⟩ := Kd.at_bool HR0.out (ji5) p229 q229; (try rw [← Nbq8.out] at hx229_0); cases e229; replace hx229_0 := (HB.out.cell (World.block_lt_of_cell? w _ hx229_0)).trans hx229_0; replace p229 := eq_true p229; replace q229 := eq_true q229))
                        go_roundg k1
                        case measure => have := HK1.out; omega
                        case rel => exact ⟨(x3_1), ((x4_1 ++ (⟨#[32]⟩ : ByteArray)) ++ t228), (wrap64 (x5_1 + 1)), (by first | rfl | (simp; done) | (simp [*]; done)), (by first | rfl | (simp; done) | (simp [*]; done)), (by first | rfl | (simp; done) | (simp [*]; done)), H', ⟨by have := HK1.out; omega⟩, ⟨by repeat (first | (with_reducible first | exact HB.out | apply below_alloc | apply pw_below_drewN | apply below_drew1) | exact HB.out)⟩⟩
                      · rw [if_neg c13] at H
                        exact absurd H (by simp)
                    · rw [if_neg c12] at H
                      exact absurd H (by simp)
                  · rw [if_neg c11] at H
                    have c11b0 : (x4_1.toList == ([118] : List UInt8)) = false := beq_eq_false_iff_ne.mpr c11
                    have c11b1 : (x4_1.toList != ([118] : List UInt8)) = true := bne_iff_ne.mpr c11
                    by_cases c15 : x3_1.size + x4_1.size ≤ 9223372036854775807
                    · rw [if_pos c15] at H
                      have c15b0 := eq_true c15
                      have c15b1 : decide (x3_1.size + x4_1.size ≤ 9223372036854775807) = true := decide_eq_true c15
                      try have c15b2 : (9223372036854775807 < x3_1.size + x4_1.size) = False := eq_false (Nat.not_lt.2 c15)
                      by_cases c16 : (x3_1 ++ x4_1).size + 1 ≤ 9223372036854775807
                      · rw [if_pos c16] at H
                        have c16b0 := eq_true c16
                        have c16b1 : decide ((x3_1 ++ x4_1).size + 1 ≤ 9223372036854775807) = true := decide_eq_true c16
                        try have c16b2 : (9223372036854775807 < (x3_1 ++ x4_1).size + 1) = False := eq_false (Nat.not_lt.2 c16)
                        have c16b3 : (x3_1).size + (x4_1).size + 1 ≤ 9223372036854775807 := by have h := c16; simp only [ByteArray.size_append] at h; exact h
                        have c16b4 : (9223372036854775807 < (x3_1).size + (x4_1).size + 1) = False := eq_false (Nat.not_lt.2 c16b3)
                        replace c16b3 := eq_true c16b3
                        by_cases c17 : 1 + 1 ≤ 9223372036854775807
                        · rw [if_pos c17] at H
                          have c17b0 := eq_true c17
                          have c17b1 : decide (1 + 1 ≤ 9223372036854775807) = true := decide_eq_true c17
                          try have c17b2 : (9223372036854775807 < 1 + 1) = False := eq_false (Nat.not_lt.2 c17)
                          by_cases c18 : 2 + t228.size ≤ 9223372036854775807
                          · rw [if_pos c18] at H
                            have c18b0 := eq_true c18
                            have c18b1 : decide (2 + t228.size ≤ 9223372036854775807) = true := decide_eq_true c18
                            try have c18b2 : (9223372036854775807 < 2 + t228.size) = False := eq_false (Nat.not_lt.2 c18)
                            have H' := Aside0.mk H
                            clear H
                            go_wp2_with (first | ((with_reducible refine gate_callee (f := 39) rfl ?_); refine goesL_ (some 19) rfl rfl Tryz.func39 (by kernel_rfl) rfl #[.int .i64 x5_1] rfl (by (try simp only [List.map_toArray, List.map_cons, List.map_nil]); first | done | rfl | (simp only [List.length_drop, List.length_take]; rfl)) ?_; (with_reducible refine (threshingref02_digits.calls k1 x5_1 t228 _ A4.out).mono ?_); rintro e w19 ⟨rfl, hb⟩; refine ⟨_, rfl, ?_⟩; have n0_ := Aside0.mk (below_step (by repeat (first | (with_reducible first | exact HB.out | apply below_alloc | apply pw_below_drewN | apply below_drew1) | exact HB.out)) hb); clear HB; have HB := n0_; clear n0_; (try clear hb); (try clear hb2); (try clear hk); (try clear hi); have p229 : 0 ≤ ((ji5) : Int) := of_decide_eq_true (by first | (with_reducible assumption) | assumption); have q229 : (ji5) < (l0.length : Int) := of_decide_eq_true (by first | (with_reducible assumption) | assumption); obtain ⟨ad229, e229, hx229_0⟩ := Kd.at_bool HR0.out (ji5) p229 q229; (try rw [← Nbq8.out] at hx229_0); cases e229; replace hx229_0 := (HB.out.cell (World.block_lt_of_cell? w _ hx229_0)).trans hx229_0; replace p229 := eq_true p229; replace q229 := eq_true q229))
                            go_roundg k1
                            case measure => have := HK1.out; omega
                            case rel => exact ⟨((x3_1 ++ x4_1) ++ (⟨#[10]⟩ : ByteArray)), (((⟨#[118]⟩ : ByteArray) ++ (⟨#[32]⟩ : ByteArray)) ++ t228), (wrap64 (x5_1 + 1)), (by first | rfl | (simp; done) | (simp [*]; done)), (by first | rfl | (simp; done) | (simp [*]; done)), (by first | rfl | (simp; done) | (simp [*]; done)), H', ⟨by have := HK1.out; omega⟩, ⟨by repeat (first | (with_reducible first | exact HB.out | apply below_alloc | apply pw_below_drewN | apply below_drew1) | exact HB.out)⟩⟩
                          · rw [if_neg c18] at H
                            exact absurd H (by simp)
                        · rw [if_neg c17] at H
                          exact absurd H (by simp)
                      · rw [if_neg c16] at H
                        exact absurd H (by simp)
                    · rw [if_neg c15] at H
                      exact absurd H (by simp)
                · rw [if_neg c10] at H
                  have c10b0 : decide (78 < (wrap64 ((wrap64 ((x4_1.size : Int) + 1)) + (t228.size : Int)))) = false := decide_eq_false c10
                  have c10b9 := c10b0
                  rw [wrap_in2] at c10b9
                  try simp only [ByteArray.size_append, Int.natCast_add] at c10b9
                  try rw [show (((⟨#[45]⟩ : ByteArray).size : Nat) : Int) = 1 from rfl] at c10b9
                  have c10b8 := c10b0
                  try simp only [ByteArray.size_append, Int.natCast_add] at c10b8
                  try rw [show (((⟨#[45]⟩ : ByteArray).size : Nat) : Int) = 1 from rfl] at c10b8
                  clear c10
                  by_cases c20 : x4_1.size + 1 ≤ 9223372036854775807
                  · rw [if_pos c20] at H
                    have c20b0 := eq_true c20
                    have c20b1 : decide (x4_1.size + 1 ≤ 9223372036854775807) = true := decide_eq_true c20
                    try have c20b2 : (9223372036854775807 < x4_1.size + 1) = False := eq_false (Nat.not_lt.2 c20)
                    by_cases c21 : (x4_1 ++ (⟨#[32]⟩ : ByteArray)).size + t228.size ≤ 9223372036854775807
                    · rw [if_pos c21] at H
                      have c21b0 := eq_true c21
                      have c21b1 : decide ((x4_1 ++ (⟨#[32]⟩ : ByteArray)).size + t228.size ≤ 9223372036854775807) = true := decide_eq_true c21
                      try have c21b2 : (9223372036854775807 < (x4_1 ++ (⟨#[32]⟩ : ByteArray)).size + t228.size) = False := eq_false (Nat.not_lt.2 c21)
                      have c21b3 : (x4_1).size + 1 + t228.size ≤ 9223372036854775807 := by have h := c21; simp only [ByteArray.size_append] at h; exact h
                      have c21b4 : (9223372036854775807 < (x4_1).size + 1 + t228.size) = False := eq_false (Nat.not_lt.2 c21b3)
                      replace c21b3 := eq_true c21b3
                      have H' := Aside0.mk H
                      clear H
                      go_wp2_with (first | ((with_reducible refine gate_callee (f := 39) rfl ?_); refine goesL_ (some 19) rfl rfl Tryz.func39 (by kernel_rfl) rfl #[.int .i64 x5_1] rfl (by (try simp only [List.map_toArray, List.map_cons, List.map_nil]); first | done | rfl | (simp only [List.length_drop, List.length_take]; rfl)) ?_; (with_reducible refine (threshingref02_digits.calls k1 x5_1 t228 _ A4.out).mono ?_); rintro e w22 ⟨rfl, hb⟩; refine ⟨_, rfl, ?_⟩; have n0_ := Aside0.mk (below_step (by repeat (first | (with_reducible first | exact HB.out | apply below_alloc | apply pw_below_drewN | apply below_drew1) | exact HB.out)) hb); clear HB; have HB := n0_; clear n0_; (try clear hb); (try clear hb2); (try clear hk); (try clear hi); have p229 : 0 ≤ ((ji5) : Int) := of_decide_eq_true (by first | (with_reducible assumption) | assumption); have q229 : (ji5) < (l0.length : Int) := of_decide_eq_true (by first | (with_reducible assumption) | assumption); obtain ⟨ad229, e229, hx229_0⟩ := Kd.at_bool HR0.out (ji5) p229 q229; (try rw [← Nbq8.out] at hx229_0); cases e229; replace hx229_0 := (HB.out.cell (World.block_lt_of_cell? w _ hx229_0)).trans hx229_0; replace p229 := eq_true p229; replace q229 := eq_true q229))
                      go_roundg k1
                      case measure => have := HK1.out; omega
                      case rel => exact ⟨(x3_1), ((x4_1 ++ (⟨#[32]⟩ : ByteArray)) ++ t228), (wrap64 (x5_1 + 1)), (by first | rfl | (simp; done) | (simp [*]; done)), (by first | rfl | (simp; done) | (simp [*]; done)), (by first | rfl | (simp; done) | (simp [*]; done)), H', ⟨by have := HK1.out; omega⟩, ⟨by repeat (first | (with_reducible first | exact HB.out | apply below_alloc | apply pw_below_drewN | apply below_drew1) | exact HB.out)⟩⟩
                    · rw [if_neg c21] at H
                      exact absurd H (by simp)
                  · rw [if_neg c20] at H
                    exact absurd H (by simp)
              · replace c9 := Bool.eq_false_iff.mpr c9
                subst c9
                have H1 : (if 1 + t228.size ≤ 9223372036854775807 then (if (wrap64 ((wrap64 ((x4_1.size : Int) + 1)) + (((⟨#[45]⟩ : ByteArray) ++ t228).size : Int))) > 78 then (if x4_1.toList = ([118] : List UInt8) then (if x4_1.size + 1 ≤ 9223372036854775807 then (if (x4_1 ++ (⟨#[32]⟩ : ByteArray)).size + ((⟨#[45]⟩ : ByteArray) ++ t228).size ≤ 9223372036854775807 then (threshingref02_Values.l0 k1 l0 x3_1 ((x4_1 ++ (⟨#[32]⟩ : ByteArray)) ++ ((⟨#[45]⟩ : ByteArray) ++ t228)) (wrap64 (x5_1 + 1))) else (none)) else (none)) else (if x3_1.size + x4_1.size ≤ 9223372036854775807 then (if (x3_1 ++ x4_1).size + 1 ≤ 9223372036854775807 then (if 1 + 1 ≤ 9223372036854775807 then (if 2 + ((⟨#[45]⟩ : ByteArray) ++ t228).size ≤ 9223372036854775807 then (threshingref02_Values.l0 k1 l0 ((x3_1 ++ x4_1) ++ (⟨#[10]⟩ : ByteArray)) (((⟨#[118]⟩ : ByteArray) ++ (⟨#[32]⟩ : ByteArray)) ++ ((⟨#[45]⟩ : ByteArray) ++ t228)) (wrap64 (x5_1 + 1))) else (none)) else (none)) else (none)) else (none))) else (if x4_1.size + 1 ≤ 9223372036854775807 then (if (x4_1 ++ (⟨#[32]⟩ : ByteArray)).size + ((⟨#[45]⟩ : ByteArray) ++ t228).size ≤ 9223372036854775807 then (threshingref02_Values.l0 k1 l0 x3_1 ((x4_1 ++ (⟨#[32]⟩ : ByteArray)) ++ ((⟨#[45]⟩ : ByteArray) ++ t228)) (wrap64 (x5_1 + 1))) else (none)) else (none))) else (none)) = some r := by rw [if_neg (show ¬ (false = true) by decide)] at H; exact H
                clear H
                have H := H1
                clear H1
                by_cases c23 : 1 + t228.size ≤ 9223372036854775807
                · rw [if_pos c23] at H
                  have c23b0 := eq_true c23
                  have c23b1 : decide (1 + t228.size ≤ 9223372036854775807) = true := decide_eq_true c23
                  try have c23b2 : (9223372036854775807 < 1 + t228.size) = False := eq_false (Nat.not_lt.2 c23)
                  by_cases c24 : (wrap64 ((wrap64 ((x4_1.size : Int) + 1)) + (((⟨#[45]⟩ : ByteArray) ++ t228).size : Int))) > 78
                  · rw [if_pos c24] at H
                    have c24b0 : decide (78 < (wrap64 ((wrap64 ((x4_1.size : Int) + 1)) + (((⟨#[45]⟩ : ByteArray) ++ t228).size : Int)))) = true := decide_eq_true c24
                    have c24b9 := c24b0
                    rw [wrap_in2] at c24b9
                    try simp only [ByteArray.size_append, Int.natCast_add] at c24b9
                    try rw [show (((⟨#[45]⟩ : ByteArray).size : Nat) : Int) = 1 from rfl] at c24b9
                    have c24b8 := c24b0
                    try simp only [ByteArray.size_append, Int.natCast_add] at c24b8
                    try rw [show (((⟨#[45]⟩ : ByteArray).size : Nat) : Int) = 1 from rfl] at c24b8
                    clear c24
                    by_cases c25 : x4_1.toList = ([118] : List UInt8)
                    · rw [if_pos c25] at H
                      have c25b0 : (x4_1.toList == ([118] : List UInt8)) = true := beq_iff_eq.mpr c25
                      have c25b1 : (x4_1.toList != ([118] : List UInt8)) = false := bne_eq_false_iff_eq.mpr c25
                      clear c25
                      by_cases c26 : x4_1.size + 1 ≤ 9223372036854775807
                      · rw [if_pos c26] at H
                        have c26b0 := eq_true c26
                        have c26b1 : decide (x4_1.size + 1 ≤ 9223372036854775807) = true := decide_eq_true c26
                        try have c26b2 : (9223372036854775807 < x4_1.size + 1) = False := eq_false (Nat.not_lt.2 c26)
                        by_cases c27 : (x4_1 ++ (⟨#[32]⟩ : ByteArray)).size + ((⟨#[45]⟩ : ByteArray) ++ t228).size ≤ 9223372036854775807
                        · rw [if_pos c27] at H
                          have c27b0 := eq_true c27
                          have c27b1 : decide ((x4_1 ++ (⟨#[32]⟩ : ByteArray)).size + ((⟨#[45]⟩ : ByteArray) ++ t228).size ≤ 9223372036854775807) = true := decide_eq_true c27
                          try have c27b2 : (9223372036854775807 < (x4_1 ++ (⟨#[32]⟩ : ByteArray)).size + ((⟨#[45]⟩ : ByteArray) ++ t228).size) = False := eq_false (Nat.not_lt.2 c27)
                          have c27b3 : (x4_1).size + 1 + (1 + (t228).size) ≤ 9223372036854775807 := by have h := c27; simp only [ByteArray.size_append] at h; exact h
                          have c27b4 : (9223372036854775807 < (x4_1).size + 1 + (1 + (t228).size)) = False := eq_false (Nat.not_lt.2 c27b3)
                          replace c27b3 := eq_true c27b3
                          have H' := Aside0.mk H
                          clear H
                          go_wp2_with (first | ((with_reducible refine gate_callee (f := 39) rfl ?_); refine goesL_ (some 19) rfl rfl Tryz.func39 (by kernel_rfl) rfl #[.int .i64 x5_1] rfl (by (try simp only [List.map_toArray, List.map_cons, List.map_nil]); first | done | rfl | (simp only [List.length_drop, List.length_take]; rfl)) ?_; (with_reducible refine (threshingref02_digits.calls k1 x5_1 t228 _ A4.out).mono ?_); rintro e w28 ⟨rfl, hb⟩; refine ⟨_, rfl, ?_⟩; have n0_ := Aside0.mk (below_step (by repeat (first | (with_reducible first | exact HB.out | apply below_alloc | apply pw_below_drewN | apply below_drew1) | exact HB.out)) hb); clear HB; have HB := n0_; clear n0_; (try clear hb); (try clear hb2); (try clear hk); (try clear hi); have p229 : 0 ≤ ((ji5) : Int) := of_decide_eq_true (by first | (with_reducible assumption) | assumption); have q229 : (ji5) < (l0.length : Int) := of_decide_eq_true (by first | (with_reducible assumption) | assumption); obtain ⟨ad229, e229, hx229_0⟩ := Kd.at_bool HR0.out (ji5) p229 q229; (try rw [← Nbq8.out] at hx229_0); cases e229; replace hx229_0 := (HB.out.cell (World.block_lt_of_cell? w _ hx229_0)).trans hx229_0; replace p229 := eq_true p229; replace q229 := eq_true q229))
                          go_roundg k1
                          case measure => have := HK1.out; omega
                          case rel => exact ⟨(x3_1), ((x4_1 ++ (⟨#[32]⟩ : ByteArray)) ++ ((⟨#[45]⟩ : ByteArray) ++ t228)), (wrap64 (x5_1 + 1)), (by first | rfl | (simp; done) | (simp [*]; done)), (by first | rfl | (simp; done) | (simp [*]; done)), (by first | rfl | (simp; done) | (simp [*]; done)), H', ⟨by have := HK1.out; omega⟩, ⟨by repeat (first | (with_reducible first | exact HB.out | apply below_alloc | apply pw_below_drewN | apply below_drew1) | exact HB.out)⟩⟩
                        · rw [if_neg c27] at H
                          exact absurd H (by simp)
                      · rw [if_neg c26] at H
                        exact absurd H (by simp)
                    · rw [if_neg c25] at H
                      have c25b0 : (x4_1.toList == ([118] : List UInt8)) = false := beq_eq_false_iff_ne.mpr c25
                      have c25b1 : (x4_1.toList != ([118] : List UInt8)) = true := bne_iff_ne.mpr c25
                      by_cases c29 : x3_1.size + x4_1.size ≤ 9223372036854775807
                      · rw [if_pos c29] at H
                        have c29b0 := eq_true c29
                        have c29b1 : decide (x3_1.size + x4_1.size ≤ 9223372036854775807) = true := decide_eq_true c29
                        try have c29b2 : (9223372036854775807 < x3_1.size + x4_1.size) = False := eq_false (Nat.not_lt.2 c29)
                        by_cases c30 : (x3_1 ++ x4_1).size + 1 ≤ 9223372036854775807
                        · rw [if_pos c30] at H
                          have c30b0 := eq_true c30
                          have c30b1 : decide ((x3_1 ++ x4_1).size + 1 ≤ 9223372036854775807) = true := decide_eq_true c30
                          try have c30b2 : (9223372036854775807 < (x3_1 ++ x4_1).size + 1) = False := eq_false (Nat.not_lt.2 c30)
                          have c30b3 : (x3_1).size + (x4_1).size + 1 ≤ 9223372036854775807 := by have h := c30; simp only [ByteArray.size_append] at h; exact h
                          have c30b4 : (9223372036854775807 < (x3_1).size + (x4_1).size + 1) = False := eq_false (Nat.not_lt.2 c30b3)
                          replace c30b3 := eq_true c30b3
                          by_cases c31 : 1 + 1 ≤ 9223372036854775807
                          · rw [if_pos c31] at H
                            have c31b0 := eq_true c31
                            have c31b1 : decide (1 + 1 ≤ 9223372036854775807) = true := decide_eq_true c31
                            try have c31b2 : (9223372036854775807 < 1 + 1) = False := eq_false (Nat.not_lt.2 c31)
                            by_cases c32 : 2 + ((⟨#[45]⟩ : ByteArray) ++ t228).size ≤ 9223372036854775807
                            · rw [if_pos c32] at H
                              have c32b0 := eq_true c32
                              have c32b1 : decide (2 + ((⟨#[45]⟩ : ByteArray) ++ t228).size ≤ 9223372036854775807) = true := decide_eq_true c32
                              try have c32b2 : (9223372036854775807 < 2 + ((⟨#[45]⟩ : ByteArray) ++ t228).size) = False := eq_false (Nat.not_lt.2 c32)
                              have c32b3 : 2 + (1 + (t228).size) ≤ 9223372036854775807 := by have h := c32; simp only [ByteArray.size_append] at h; exact h
                              have c32b4 : (9223372036854775807 < 2 + (1 + (t228).size)) = False := eq_false (Nat.not_lt.2 c32b3)
                              replace c32b3 := eq_true c32b3
                              have H' := Aside0.mk H
                              clear H
                              go_wp2_with (first | ((with_reducible refine gate_callee (f := 39) rfl ?_); refine goesL_ (some 19) rfl rfl Tryz.func39 (by kernel_rfl) rfl #[.int .i64 x5_1] rfl (by (try simp only [List.map_toArray, List.map_cons, List.map_nil]); first | done | rfl | (simp only [List.length_drop, List.length_take]; rfl)) ?_; (with_reducible refine (threshingref02_digits.calls k1 x5_1 t228 _ A4.out).mono ?_); rintro e w33 ⟨rfl, hb⟩; refine ⟨_, rfl, ?_⟩; have n0_ := Aside0.mk (below_step (by repeat (first | (with_reducible first | exact HB.out | apply below_alloc | apply pw_below_drewN | apply below_drew1) | exact HB.out)) hb); clear HB; have HB := n0_; clear n0_; (try clear hb); (try clear hb2); (try clear hk); (try clear hi); have p229 : 0 ≤ ((ji5) : Int) := of_decide_eq_true (by first | (with_reducible assumption) | assumption); have q229 : (ji5) < (l0.length : Int) := of_decide_eq_true (by first | (with_reducible assumption) | assumption); obtain ⟨ad229, e229, hx229_0⟩ := Kd.at_bool HR0.out (ji5) p229 q229; (try rw [← Nbq8.out] at hx229_0); cases e229; replace hx229_0 := (HB.out.cell (World.block_lt_of_cell? w _ hx229_0)).trans hx229_0; replace p229 := eq_true p229; replace q229 := eq_true q229))
                              go_roundg k1
                              case measure => have := HK1.out; omega
                              case rel => exact ⟨((x3_1 ++ x4_1) ++ (⟨#[10]⟩ : ByteArray)), (((⟨#[118]⟩ : ByteArray) ++ (⟨#[32]⟩ : ByteArray)) ++ ((⟨#[45]⟩ : ByteArray) ++ t228)), (wrap64 (x5_1 + 1)), (by first | rfl | (simp; done) | (simp [*]; done)), (by first | rfl | (simp; done) | (simp [*]; done)), (by first | rfl | (simp; done) | (simp [*]; done)), H', ⟨by have := HK1.out; omega⟩, ⟨by repeat (first | (with_reducible first | exact HB.out | apply below_alloc | apply pw_below_drewN | apply below_drew1) | exact HB.out)⟩⟩
                            · rw [if_neg c32] at H
                              exact absurd H (by simp)
                          · rw [if_neg c31] at H
                            exact absurd H (by simp)
                        · rw [if_neg c30] at H
                          exact absurd H (by simp)
                      · rw [if_neg c29] at H
                        exact absurd H (by simp)
                  · rw [if_neg c24] at H
                    have c24b0 : decide (78 < (wrap64 ((wrap64 ((x4_1.size : Int) + 1)) + (((⟨#[45]⟩ : ByteArray) ++ t228).size : Int)))) = false := decide_eq_false c24
                    have c24b9 := c24b0
                    rw [wrap_in2] at c24b9
                    try simp only [ByteArray.size_append, Int.natCast_add] at c24b9
                    try rw [show (((⟨#[45]⟩ : ByteArray).size : Nat) : Int) = 1 from rfl] at c24b9
                    have c24b8 := c24b0
                    try simp only [ByteArray.size_append, Int.natCast_add] at c24b8
                    try rw [show (((⟨#[45]⟩ : ByteArray).size : Nat) : Int) = 1 from rfl] at c24b8
                    clear c24
                    by_cases c34 : x4_1.size + 1 ≤ 9223372036854775807
                    · rw [if_pos c34] at H
                      have c34b0 := eq_true c34
                      have c34b1 : decide (x4_1.size + 1 ≤ 9223372036854775807) = true := decide_eq_true c34
                      try have c34b2 : (9223372036854775807 < x4_1.size + 1) = False := eq_false (Nat.not_lt.2 c34)
                      by_cases c35 : (x4_1 ++ (⟨#[32]⟩ : ByteArray)).size + ((⟨#[45]⟩ : ByteArray) ++ t228).size ≤ 9223372036854775807
                      · rw [if_pos c35] at H
                        have c35b0 := eq_true c35
                        have c35b1 : decide ((x4_1 ++ (⟨#[32]⟩ : ByteArray)).size + ((⟨#[45]⟩ : ByteArray) ++ t228).size ≤ 9223372036854775807) = true := decide_eq_true c35
                        try have c35b2 : (9223372036854775807 < (x4_1 ++ (⟨#[32]⟩ : ByteArray)).size + ((⟨#[45]⟩ : ByteArray) ++ t228).size) = False := eq_false (Nat.not_lt.2 c35)
                        have c35b3 : (x4_1).size + 1 + (1 + (t228).size) ≤ 9223372036854775807 := by have h := c35; simp only [ByteArray.size_append] at h; exact h
                        have c35b4 : (9223372036854775807 < (x4_1).size + 1 + (1 + (t228).size)) = False := eq_false (Nat.not_lt.2 c35b3)
                        replace c35b3 := eq_true c35b3
                        have H' := Aside0.mk H
                        clear H
                        go_wp2_with (first | ((with_reducible refine gate_callee (f := 39) rfl ?_); refine goesL_ (some 19) rfl rfl Tryz.func39 (by kernel_rfl) rfl #[.int .i64 x5_1] rfl (by (try simp only [List.map_toArray, List.map_cons, List.map_nil]); first | done | rfl | (simp only [List.length_drop, List.length_take]; rfl)) ?_; (with_reducible refine (threshingref02_digits.calls k1 x5_1 t228 _ A4.out).mono ?_); rintro e w36 ⟨rfl, hb⟩; refine ⟨_, rfl, ?_⟩; have n0_ := Aside0.mk (below_step (by repeat (first | (with_reducible first | exact HB.out | apply below_alloc | apply pw_below_drewN | apply below_drew1) | exact HB.out)) hb); clear HB; have HB := n0_; clear n0_; (try clear hb); (try clear hb2); (try clear hk); (try clear hi); have p229 : 0 ≤ ((ji5) : Int) := of_decide_eq_true (by first | (with_reducible assumption) | assumption); have q229 : (ji5) < (l0.length : Int) := of_decide_eq_true (by first | (with_reducible assumption) | assumption); obtain ⟨ad229, e229, hx229_0⟩ := Kd.at_bool HR0.out (ji5) p229 q229; (try rw [← Nbq8.out] at hx229_0); cases e229; replace hx229_0 := (HB.out.cell (World.block_lt_of_cell? w _ hx229_0)).trans hx229_0; replace p229 := eq_true p229; replace q229 := eq_true q229))
                        go_roundg k1
                        case measure => have := HK1.out; omega
                        case rel => exact ⟨(x3_1), ((x4_1 ++ (⟨#[32]⟩ : ByteArray)) ++ ((⟨#[45]⟩ : ByteArray) ++ t228)), (wrap64 (x5_1 + 1)), (by first | rfl | (simp; done) | (simp [*]; done)), (by first | rfl | (simp; done) | (simp [*]; done)), (by first | rfl | (simp; done) | (simp [*]; done)), H', ⟨by have := HK1.out; omega⟩, ⟨by repeat (first | (with_reducible first | exact HB.out | apply below_alloc | apply pw_below_drewN | apply below_drew1) | exact HB.out)⟩⟩
                      · rw [if_neg c35] at H
                        exact absurd H (by simp)
                    · rw [if_neg c34] at H
                      exact absurd H (by simp)
                · rw [if_neg c23] at H
                  exact absurd H (by simp)
            · rw [if_neg c7] at H
              exact absurd H (by simp)
          · rw [if_neg c6] at H
            exact absurd H (by simp)
        · rw [if_neg c3] at H
          have c3b0 : decide (x5_1 ≤ (l0.length : Int)) = false := decide_eq_false c3
          clear c3
          by_cases c37 : (wrap64 ((wrap64 ((x4_1.size : Int) + 1)) + 1)) > 78
          · rw [if_pos c37] at H
            have c37b0 : decide (78 < (wrap64 ((wrap64 ((x4_1.size : Int) + 1)) + 1))) = true := decide_eq_true c37
            have c37b9 := c37b0
            rw [wrap_in2] at c37b9
            try simp only [ByteArray.size_append, Int.natCast_add] at c37b9
            try rw [show (((⟨#[45]⟩ : ByteArray).size : Nat) : Int) = 1 from rfl] at c37b9
            have c37b8 := c37b0
            try simp only [ByteArray.size_append, Int.natCast_add] at c37b8
            try rw [show (((⟨#[45]⟩ : ByteArray).size : Nat) : Int) = 1 from rfl] at c37b8
            clear c37
            by_cases c38 : x4_1.toList = ([118] : List UInt8)
            · rw [if_pos c38] at H
              have c38b0 : (x4_1.toList == ([118] : List UInt8)) = true := beq_iff_eq.mpr c38
              have c38b1 : (x4_1.toList != ([118] : List UInt8)) = false := bne_eq_false_iff_eq.mpr c38
              clear c38
              by_cases c39 : x4_1.size + 1 ≤ 9223372036854775807
              · rw [if_pos c39] at H
                have c39b0 := eq_true c39
                have c39b1 : decide (x4_1.size + 1 ≤ 9223372036854775807) = true := decide_eq_true c39
                try have c39b2 : (9223372036854775807 < x4_1.size + 1) = False := eq_false (Nat.not_lt.2 c39)
                by_cases c40 : (x4_1 ++ (⟨#[32]⟩ : ByteArray)).size + 1 ≤ 9223372036854775807
                · rw [if_pos c40] at H
                  have c40b0 := eq_true c40
                  have c40b1 : decide ((x4_1 ++ (⟨#[32]⟩ : ByteArray)).size + 1 ≤ 9223372036854775807) = true := decide_eq_true c40
                  try have c40b2 : (9223372036854775807 < (x4_1 ++ (⟨#[32]⟩ : ByteArray)).size + 1) = False := eq_false (Nat.not_lt.2 c40)
                  have c40b3 : (x4_1).size + 1 + 1 ≤ 9223372036854775807 := by have h := c40; simp only [ByteArray.size_append] at h; exact h
                  have c40b4 : (9223372036854775807 < (x4_1).size + 1 + 1) = False := eq_false (Nat.not_lt.2 c40b3)
                  replace c40b3 := eq_true c40b3
                  have H' := Aside0.mk H
                  clear H
                  go_wp2
                  go_roundg k1
                  case measure => have := HK1.out; omega
                  case rel => exact ⟨(x3_1), ((x4_1 ++ (⟨#[32]⟩ : ByteArray)) ++ (⟨#[48]⟩ : ByteArray)), (wrap64 (x5_1 + 1)), (by first | rfl | (simp; done) | (simp [*]; done)), (by first | rfl | (simp; done) | (simp [*]; done)), (by first | rfl | (simp; done) | (simp [*]; done)), H', ⟨by have := HK1.out; omega⟩, ⟨by repeat (first | (with_reducible first | exact HB.out | apply below_alloc | apply pw_below_drewN | apply below_drew1) | exact HB.out)⟩⟩
                · rw [if_neg c40] at H
                  exact absurd H (by simp)
              · rw [if_neg c39] at H
                exact absurd H (by simp)
            · rw [if_neg c38] at H
              have c38b0 : (x4_1.toList == ([118] : List UInt8)) = false := beq_eq_false_iff_ne.mpr c38
              have c38b1 : (x4_1.toList != ([118] : List UInt8)) = true := bne_iff_ne.mpr c38
              by_cases c41 : x3_1.size + x4_1.size ≤ 9223372036854775807
              · rw [if_pos c41] at H
                have c41b0 := eq_true c41
                have c41b1 : decide (x3_1.size + x4_1.size ≤ 9223372036854775807) = true := decide_eq_true c41
                try have c41b2 : (9223372036854775807 < x3_1.size + x4_1.size) = False := eq_false (Nat.not_lt.2 c41)
                by_cases c42 : (x3_1 ++ x4_1).size + 1 ≤ 9223372036854775807
                · rw [if_pos c42] at H
                  have c42b0 := eq_true c42
                  have c42b1 : decide ((x3_1 ++ x4_1).size + 1 ≤ 9223372036854775807) = true := decide_eq_true c42
                  try have c42b2 : (9223372036854775807 < (x3_1 ++ x4_1).size + 1) = False := eq_false (Nat.not_lt.2 c42)
                  have c42b3 : (x3_1).size + (x4_1).size + 1 ≤ 9223372036854775807 := by have h := c42; simp only [ByteArray.size_append] at h; exact h
                  have c42b4 : (9223372036854775807 < (x3_1).size + (x4_1).size + 1) = False := eq_false (Nat.not_lt.2 c42b3)
                  replace c42b3 := eq_true c42b3
                  by_cases c43 : 1 + 1 ≤ 9223372036854775807
                  · rw [if_pos c43] at H
                    have c43b0 := eq_true c43
                    have c43b1 : decide (1 + 1 ≤ 9223372036854775807) = true := decide_eq_true c43
                    try have c43b2 : (9223372036854775807 < 1 + 1) = False := eq_false (Nat.not_lt.2 c43)
                    have H' := Aside0.mk H
                    clear H
                    go_wp2
                    go_roundg k1
                    case measure => have := HK1.out; omega
                    case rel => exact ⟨((x3_1 ++ x4_1) ++ (⟨#[10]⟩ : ByteArray)), (((⟨#[118]⟩ : ByteArray) ++ (⟨#[32]⟩ : ByteArray)) ++ (⟨#[48]⟩ : ByteArray)), (wrap64 (x5_1 + 1)), (by first | rfl | (simp; done) | (simp [*]; done)), (by first | rfl | (simp; done) | (simp [*]; done)), (by first | rfl | (simp; done) | (simp [*]; done)), H', ⟨by have := HK1.out; omega⟩, ⟨by repeat (first | (with_reducible first | exact HB.out | apply below_alloc | apply pw_below_drewN | apply below_drew1) | exact HB.out)⟩⟩
                  · rw [if_neg c43] at H
                    exact absurd H (by simp)
                · rw [if_neg c42] at H
                  exact absurd H (by simp)
              · rw [if_neg c41] at H
                exact absurd H (by simp)
          · rw [if_neg c37] at H
            have c37b0 : decide (78 < (wrap64 ((wrap64 ((x4_1.size : Int) + 1)) + 1))) = false := decide_eq_false c37
            have c37b9 := c37b0
            rw [wrap_in2] at c37b9
            try simp only [ByteArray.size_append, Int.natCast_add] at c37b9
            try rw [show (((⟨#[45]⟩ : ByteArray).size : Nat) : Int) = 1 from rfl] at c37b9
            have c37b8 := c37b0
            try simp only [ByteArray.size_append, Int.natCast_add] at c37b8
            try rw [show (((⟨#[45]⟩ : ByteArray).size : Nat) : Int) = 1 from rfl] at c37b8
            clear c37
            by_cases c44 : x4_1.size + 1 ≤ 9223372036854775807
            · rw [if_pos c44] at H
              have c44b0 := eq_true c44
              have c44b1 : decide (x4_1.size + 1 ≤ 9223372036854775807) = true := decide_eq_true c44
              try have c44b2 : (9223372036854775807 < x4_1.size + 1) = False := eq_false (Nat.not_lt.2 c44)
              by_cases c45 : (x4_1 ++ (⟨#[32]⟩ : ByteArray)).size + 1 ≤ 9223372036854775807
              · rw [if_pos c45] at H
                have c45b0 := eq_true c45
                have c45b1 : decide ((x4_1 ++ (⟨#[32]⟩ : ByteArray)).size + 1 ≤ 9223372036854775807) = true := decide_eq_true c45
                try have c45b2 : (9223372036854775807 < (x4_1 ++ (⟨#[32]⟩ : ByteArray)).size + 1) = False := eq_false (Nat.not_lt.2 c45)
                have c45b3 : (x4_1).size + 1 + 1 ≤ 9223372036854775807 := by have h := c45; simp only [ByteArray.size_append] at h; exact h
                have c45b4 : (9223372036854775807 < (x4_1).size + 1 + 1) = False := eq_false (Nat.not_lt.2 c45b3)
                replace c45b3 := eq_true c45b3
                have H' := Aside0.mk H
                clear H
                go_wp2
                go_roundg k1
                case measure => have := HK1.out; omega
                case rel => exact ⟨(x3_1), ((x4_1 ++ (⟨#[32]⟩ : ByteArray)) ++ (⟨#[48]⟩ : ByteArray)), (wrap64 (x5_1 + 1)), (by first | rfl | (simp; done) | (simp [*]; done)), (by first | rfl | (simp; done) | (simp [*]; done)), (by first | rfl | (simp; done) | (simp [*]; done)), H', ⟨by have := HK1.out; omega⟩, ⟨by repeat (first | (with_reducible first | exact HB.out | apply below_alloc | apply pw_below_drewN | apply below_drew1) | exact HB.out)⟩⟩
              · rw [if_neg c45] at H
                exact absurd H (by simp)
            · rw [if_neg c44] at H
              exact absurd H (by simp)
      · rw [if_neg c2] at H
        have c2b0 : decide (x5_1 ≤ (wrap64 ((l0.length : Int) + 1))) = false := decide_eq_false c2
        clear c2
        by_cases c46 : x3_1.size + x4_1.size ≤ 9223372036854775807
        · rw [if_pos c46] at H
          have c46b0 := eq_true c46
          have c46b1 : decide (x3_1.size + x4_1.size ≤ 9223372036854775807) = true := decide_eq_true c46
          try have c46b2 : (9223372036854775807 < x3_1.size + x4_1.size) = False := eq_false (Nat.not_lt.2 c46)
          by_cases c47 : (x3_1 ++ x4_1).size + 1 ≤ 9223372036854775807
          · rw [if_pos c47] at H
            have c47b0 := eq_true c47
            have c47b1 : decide ((x3_1 ++ x4_1).size + 1 ≤ 9223372036854775807) = true := decide_eq_true c47
            try have c47b2 : (9223372036854775807 < (x3_1 ++ x4_1).size + 1) = False := eq_false (Nat.not_lt.2 c47)
            have c47b3 : (x3_1).size + (x4_1).size + 1 ≤ 9223372036854775807 := by have h := c47; simp only [ByteArray.size_append] at h; exact h
            have c47b4 : (9223372036854775807 < (x3_1).size + (x4_1).size + 1) = False := eq_false (Nat.not_lt.2 c47b3)
            replace c47b3 := eq_true c47b3
            obtain rfl := Option.some.inj H
            go_wp2
            go_ret
            exact ⟨by first | rfl | (simp [errW_none, errW_some] <;> rfl) | (simp [*, errW_none, errW_some] <;> rfl), by repeat (first | (with_reducible first | exact HB.out | apply below_alloc | apply pw_below_drewN | apply below_drew1) | exact HB.out)⟩
          · rw [if_neg c47] at H
            exact absurd H (by simp)
        · rw [if_neg c46] at H
          exact absurd H (by simp)
end Go.Proofs.YtigloobbpcnnhaaGreatDoor.PB
end
section
namespace Go.Proofs.YtigloobbpcnnhaaGreatDoor.PB
open Go.RowKit Go.Proofs.YtigloobbpcnnhaaGreatDoorW.PrintWords Go.Proofs.YtigloobbpcnnhaaGreatDoorW.PrintLast Go.Proofs.YtigloobbpcnnhaaGreatDoorW.PrintMore
set_option linter.unusedVariables false
set_option linter.unusedSimpArgs false
theorem dig_one (d : Nat) (h : d < 10) (x : Int) (hx : x = 48 + (d : Int)) : strOfNums [x] = baOf [UInt8.ofNat (48 + d)] := by
  have : x.toNat = 48 + d := by omega
  unfold strOfNums baOf
  simp only [List.map_cons, List.map_nil, this]
theorem udigits_ev (u : Nat) (hu : u ≤ 9223372036854775807) : Ev (fun k => threshingref02_digits.f k (u : Int)) (baOf (Lib.decDigits u)) := by
  induction u using Nat.strongRecOn with
  | _ u ih =>
    have e2 : Int.tmod (u : Int) 10 = ((u % 10 : Nat) : Int) := by
      rw [Int.tmod_eq_emod_of_nonneg (by omega)]
      omega
    have e1 : Int.tdiv (u : Int) 10 = ((u / 10 : Nat) : Int) := by
      rw [Int.tdiv_eq_ediv_of_nonneg (by omega)]
      omega
    have e4 : (wrap64 (48 + Int.tmod (u : Int) 10)) % 256 = 48 + ((u % 10 : Nat) : Int) := by
      rw [e2, wrap_id (by omega) (by omega)]
      omega
    have e5 : strOfNums [(wrap64 (48 + Int.tmod (u : Int) 10)) % 256] = baOf [UInt8.ofNat (48 + u % 10)] := by
      rw [e4]
      exact dig_one (u % 10) (by omega) _ rfl
    by_cases h : u < 10
    · refine Ev.step (f := fun k => some (baOf (Lib.decDigits u))) (fun k => ?_) (Ev.now _)
      rw [threshingref02_digits.f, if_neg (by omega)]
      simp only [Option.bind_some]
      rw [if_neg (by omega), e5, Nat.mod_eq_of_lt h, Lib.decDigits, dif_pos h]
    · refine Ev.step (f := fun k => (threshingref02_digits.f k ((u / 10 : Nat) : Int)).bind fun t => (if t.size + (baOf [UInt8.ofNat (48 + u % 10)]).size ≤ 9223372036854775807 then (some (t ++ (baOf [UInt8.ofNat (48 + u % 10)]))) else none)) (fun k => ?_) (Ev.bind (ih (u / 10) (by omega) (by omega)) ?_)
      · rw [threshingref02_digits.f, if_neg (by omega)]
        simp only [Option.bind_some]
        rw [if_pos (by omega), e5, e1, wrap_id (by omega) (by omega)]
      · have hlen : (Lib.decDigits (u / 10)).length ≤ 21 := by
          have := Lib.itoa_length_le ((u / 10 : Nat) : Int) (by omega) (by omega)
          rw [Lib.itoa_nonneg] at this
          exact this
        have e3 : baOf (Lib.decDigits (u / 10)) ++ baOf [UInt8.ofNat (48 + u % 10)] = baOf (Lib.decDigits u) := by
          rw [baOf_append]
          conv => rhs; rw [Lib.decDigits, dif_neg h]
        rw [e3, if_pos (by rw [baOf_size, baOf_size]; simp only [List.length_cons, List.length_nil]; omega)]
        exact Ev.now _
theorem digits_ev (v : Int) (h0 : -9223372036854775807 ≤ v) (h1 : v ≤ 9223372036854775807) : Ev (fun k => threshingref02_digits.f k v) (baOf (Lib.itoa v)) := by
  by_cases h : v < 0
  · have ei : Lib.itoa v = 45 :: Lib.decDigits v.natAbs := by unfold Lib.itoa; rw [if_pos h]
    have hl := Lib.itoa_length_le v (by omega) h1
    rw [ei, List.length_cons] at hl
    refine Ev.step (f := fun k => (threshingref02_digits.f k ((v.natAbs : Nat) : Int)).bind fun t => (if 1 + t.size ≤ 9223372036854775807 then (some ((⟨#[45]⟩ : ByteArray) ++ t)) else none)) (fun k => ?_) (Ev.bind (udigits_ev v.natAbs (by omega)) ?_)
    · rw [threshingref02_digits.f, if_pos h, wrap_id (by omega) (by omega), show -v = ((v.natAbs : Nat) : Int) by omega]
    · rw [if_pos (by rw [baOf_size]; omega), show (⟨#[45]⟩ : ByteArray) = baOf [45] from rfl, baOf_append, ei]
      exact Ev.now _
  · have ei : Lib.itoa v = Lib.decDigits v.toNat := by unfold Lib.itoa; rw [if_neg h]
    rw [ei, show v = ((v.toNat : Nat) : Int) by omega]
    simp only [Int.toNat_natCast]
    exact udigits_ev v.toNat (by omega)
def dPre (v : Int) (cs : List (List Int)) (i : Nat) (c : List Int) : List UInt8 := dHeadL v cs.length ++ [10] ++ (cs.take i).flatMap dClause ++ c.flatMap fun x => Lib.itoa x ++ [32]
theorem refprint_loops (v : Int) (cs : List (List Int)) (hg : ∀ c ∈ cs, c.length ≤ 100000 ∧ ∀ x ∈ c, I32 x) (hl : cs.length ≤ 100000) (hz : ∀ i ≤ cs.length, ∀ c : List Int, c.length ≤ 100000 → (∀ x ∈ c, I32 x) → (dPre v cs i c).length ≤ 9223372036854775000) :
    ∀ (d i : Nat), i + d = cs.length → Ev (fun k => threshingref02_Print.l0 k (baOf (dPre v cs i [])) (i : Int) v cs) (baOf (dPre v cs cs.length []), 0) := by
  intro d
  induction d with
  | zero =>
    intro i hi
    refine Ev.step (f := fun _ => some (baOf (dPre v cs i []), 0)) (fun k => ?_) ?_
    · rw [threshingref02_Print.l0, if_neg (by omega)]
    · obtain rfl : i = cs.length := by omega
      exact Ev.now _
  | succ d ih =>
    intro i hi
    have hlt : i < cs.length := by omega
    have hmem := hg cs[i] (List.getElem_mem hlt)
    obtain ⟨c, hc⟩ : ∃ c, c = cs[i] := ⟨_, rfl⟩
    rw [← hc] at hmem
    have inner : ∀ (e j : Nat), j + e = c.length → Ev (fun k => threshingref02_Print.l1 k (baOf (dPre v cs i (c.take j))) (i : Int) (j : Int) v cs) (baOf (dPre v cs cs.length []), 0) := by
      intro e
      induction e with
      | zero =>
        intro j hj
        refine Ev.step (f := fun k => threshingref02_Print.l0 k (baOf (dPre v cs (i + 1) [])) ((i + 1 : Nat) : Int) v cs) (fun k => ?_) (ih (i + 1) (by omega))
        have hs := hz i (by omega) (c.take j) (by rw [List.length_take]; omega) (fun x hx => hmem.2 x (List.mem_of_mem_take hx))
        have e1 : baOf (dPre v cs i (c.take j)) ++ (⟨#[48, 10]⟩ : ByteArray) = baOf (dPre v cs (i + 1) []) := by
          rw [show (⟨#[48, 10]⟩ : ByteArray) = baOf [48, 10] from rfl, baOf_append]
          congr 1
          unfold dPre
          rw [List.take_of_length_le (l := c) (show c.length ≤ j by omega), List.take_succ_eq_append_getElem hlt, ← hc, List.flatMap_append]
          simp only [dClause, List.flatMap_cons, List.flatMap_nil, List.append_nil, List.append_assoc]
        rw [threshingref02_Print.l1, if_pos (by omega), if_pos (by omega), rdL6_nat cs i hlt, ← hc, if_neg (by omega), if_pos (by rw [baOf_size]; omega), wrap_id (x := (i : Int) + 1) (by omega) (by omega), e1]
        rfl
      | succ e ihe =>
        intro j hj
        have hlj : j < c.length := by omega
        have hxi := hmem.2 c[j] (List.getElem_mem hlj)
        have hs := hz i (by omega) (c.take j) (by rw [List.length_take]; omega) (fun x hx => hmem.2 x (List.mem_of_mem_take hx))
        have hx0 : -2147483648 ≤ c[j] ∧ c[j] ≤ 2147483647 := hxi
        have hil := itoa_len c[j] (by omega) (by omega)
        refine Ev.step (f := fun k => (threshingref02_digits.f k c[j]).bind fun t => (if (baOf (dPre v cs i (c.take j))).size + t.size ≤ 9223372036854775807 then (if (baOf (dPre v cs i (c.take j)) ++ t).size + 1 ≤ 9223372036854775807 then (threshingref02_Print.l1 k ((baOf (dPre v cs i (c.take j)) ++ t) ++ (⟨#[32]⟩ : ByteArray)) (i : Int) ((j + 1 : Nat) : Int) v cs) else none) else none)) (fun k => ?_) (Ev.bind (f := fun k t => (if (baOf (dPre v cs i (c.take j))).size + t.size ≤ 9223372036854775807 then (if (baOf (dPre v cs i (c.take j)) ++ t).size + 1 ≤ 9223372036854775807 then (threshingref02_Print.l1 k ((baOf (dPre v cs i (c.take j)) ++ t) ++ (⟨#[32]⟩ : ByteArray)) (i : Int) ((j + 1 : Nat) : Int) v cs) else none) else none)) (digits_ev c[j] (by omega) (by omega)) ?_)
        · rw [threshingref02_Print.l1, if_pos (by omega), if_pos (by omega), rdL6_nat cs i hlt, ← hc, if_pos (by omega), if_pos (by omega), rd_nat c j hlj, wrap_id (x := c[j]) (by omega) (by omega), wrap_id (x := (j : Int) + 1) (by omega) (by omega)]
          rfl
        · have e1 : baOf (dPre v cs i (c.take j)) ++ baOf (Lib.itoa c[j]) ++ (⟨#[32]⟩ : ByteArray) = baOf (dPre v cs i (c.take (j + 1))) := by
            rw [show (⟨#[32]⟩ : ByteArray) = baOf [32] from rfl, baOf_append, baOf_append]
            congr 1
            unfold dPre
            rw [List.take_succ_eq_append_getElem hlj, List.flatMap_append]
            simp only [List.flatMap_cons, List.flatMap_nil, List.append_nil, List.append_assoc]
          refine Ev.congr (f := fun k => threshingref02_Print.l1 k (baOf (dPre v cs i (c.take (j + 1)))) (i : Int) ((j + 1 : Nat) : Int) v cs) (fun k => ?_) (ihe (j + 1) (by omega))
          rw [if_pos (by rw [baOf_size, baOf_size]; omega), if_pos (by rw [ByteArray.size_append, baOf_size, baOf_size]; omega), e1]
    refine Ev.step (f := fun k => threshingref02_Print.l1 k (baOf (dPre v cs i (c.take 0))) (i : Int) ((0 : Nat) : Int) v cs) (fun k => ?_) (inner c.length 0 (by omega))
    rw [threshingref02_Print.l0, if_pos (by omega)]
    rfl
theorem dPre_all (v : Int) (cs : List (List Int)) : dPre v cs cs.length [] = dText v cs := by
  unfold dPre dText dHeadL
  rw [List.take_of_length_le (Nat.le_refl _)]
  simp only [List.flatMap_nil, List.append_nil, List.append_assoc]
theorem flat_lits_len (c : List Int) (h : ∀ x ∈ c, I32 x) : (c.flatMap fun x => Lib.itoa x ++ [32]).length ≤ 22 * c.length := by
  induction c with
  | nil => simp
  | cons x c ih =>
    have h1 := ih (fun y hy => h y (List.mem_cons_of_mem _ hy))
    have hx : -2147483648 ≤ x ∧ x ≤ 2147483647 := h x List.mem_cons_self
    have := itoa_len x (by omega) (by omega)
    simp only [List.flatMap_cons, List.length_append, List.length_cons, List.length_nil]
    omega
theorem flat_clauses_len (cs : List (List Int)) (h : ∀ c ∈ cs, c.length ≤ 100000 ∧ ∀ x ∈ c, I32 x) : (cs.flatMap dClause).length ≤ 3000000 * cs.length := by
  induction cs with
  | nil => simp
  | cons c cs ih =>
    have h1 := ih (fun y hy => h y (List.mem_cons_of_mem _ hy))
    have hc := h c List.mem_cons_self
    have := flat_lits_len c hc.2
    simp only [List.flatMap_cons, List.length_append, List.length_cons, dClause, List.length_nil]
    omega
theorem dPre_len (v : Int) (cs : List (List Int)) (hv : -9223372036854775808 ≤ v ∧ v ≤ 9223372036854775807) (hg : ∀ c ∈ cs, c.length ≤ 100000 ∧ ∀ x ∈ c, I32 x) (hl : cs.length ≤ 100000) (i : Nat) (c : List Int) (hc : c.length ≤ 100000) (hx : ∀ x ∈ c, I32 x) : (dPre v cs i c).length ≤ 9223372036854775000 := by
  have h1 := flat_lits_len c hx
  have h2 := flat_clauses_len (cs.take i) (fun y hy => hg y (List.mem_of_mem_take hy))
  have h3 := itoa_len v hv.1 hv.2
  have h4 := itoa_len (cs.length : Int) (by omega) (by omega)
  have h5 : (cs.take i).length ≤ 100000 := by rw [List.length_take]; omega
  unfold dPre dHeadL
  simp only [List.length_append, List.length_cons, List.length_nil]
  omega
theorem refprint_ev (v : Int) (cs : List (List Int)) (hv : -9223372036854775808 ≤ v ∧ v ≤ 9223372036854775807) (hg : ∀ c ∈ cs, c.length ≤ 100000 ∧ ∀ x ∈ c, I32 x) (hl : cs.length ≤ 100000) : Ev (fun k => threshingref02_Print.f k v cs) (baOf (dPrint v cs).1, (dPrint v cs).2) := by
  refine Ev.congr (f := fun k => (threshingref01_Right.f k v cs).bind fun t221 => (if t221 = 0 then ((threshingref02_digits.f k v).bind fun t222 => (if 6 + t222.size ≤ 9223372036854775807 then (if ((⟨#[112, 32, 99, 110, 102, 32]⟩ : ByteArray) ++ t222).size + 1 ≤ 9223372036854775807 then ((threshingref02_digits.f k (cs.length : Int)).bind fun t223 => (if (((⟨#[112, 32, 99, 110, 102, 32]⟩ : ByteArray) ++ t222) ++ (⟨#[32]⟩ : ByteArray)).size + t223.size ≤ 9223372036854775807 then (if ((((⟨#[112, 32, 99, 110, 102, 32]⟩ : ByteArray) ++ t222) ++ (⟨#[32]⟩ : ByteArray)) ++ t223).size + 1 ≤ 9223372036854775807 then (threshingref02_Print.l0 k (((((⟨#[112, 32, 99, 110, 102, 32]⟩ : ByteArray) ++ t222) ++ (⟨#[32]⟩ : ByteArray)) ++ t223) ++ (⟨#[10]⟩ : ByteArray)) 0 v cs) else (none)) else (none))) else (none)) else (none))) else (some ((⟨#[]⟩ : ByteArray), t221)))) (fun k => rfl) ?_
  refine Ev.bind (rright_ev v cs (by omega) (fun c hc => ⟨by have := (hg c hc).1; omega, (hg c hc).2⟩)) ?_
  unfold dPrint
  by_cases hr : dRight v cs = 0
  · simp only [if_pos hr]
    have hd := (dRight_zero v cs).1 hr
    have hv2 : 0 ≤ v ∧ v ≤ 1048576 := ⟨hd.v0, hd.v1⟩
    have h3 := itoa_len v hv.1 hv.2
    have h4 := itoa_len (cs.length : Int) (by omega) (by omega)
    refine Ev.bind (digits_ev v (by omega) (by omega)) ?_
    simp only [if_pos (show 6 + (baOf (Lib.itoa v)).size ≤ 9223372036854775807 by rw [baOf_size]; omega), if_pos (show ((⟨#[112, 32, 99, 110, 102, 32]⟩ : ByteArray) ++ baOf (Lib.itoa v)).size + 1 ≤ 9223372036854775807 by rw [ByteArray.size_append, baOf_size]; show 6 + (Lib.itoa v).length + 1 ≤ _; omega)]
    refine Ev.bind (digits_ev (cs.length : Int) (by omega) (by omega)) ?_
    simp only [if_pos (show ((⟨#[112, 32, 99, 110, 102, 32]⟩ : ByteArray) ++ baOf (Lib.itoa v) ++ (⟨#[32]⟩ : ByteArray)).size + (baOf (Lib.itoa (cs.length : Int))).size ≤ 9223372036854775807 by rw [ByteArray.size_append, ByteArray.size_append, baOf_size, baOf_size]; show 6 + (Lib.itoa v).length + 1 + _ ≤ _; omega), if_pos (show ((⟨#[112, 32, 99, 110, 102, 32]⟩ : ByteArray) ++ baOf (Lib.itoa v) ++ (⟨#[32]⟩ : ByteArray) ++ baOf (Lib.itoa (cs.length : Int))).size + 1 ≤ 9223372036854775807 by rw [ByteArray.size_append, ByteArray.size_append, ByteArray.size_append, baOf_size, baOf_size]; show 6 + (Lib.itoa v).length + 1 + _ + 1 ≤ _; omega)]
    have e1 : (⟨#[112, 32, 99, 110, 102, 32]⟩ : ByteArray) ++ baOf (Lib.itoa v) ++ (⟨#[32]⟩ : ByteArray) ++ baOf (Lib.itoa (cs.length : Int)) ++ (⟨#[10]⟩ : ByteArray) = baOf (dPre v cs 0 []) := by
      rw [show (⟨#[112, 32, 99, 110, 102, 32]⟩ : ByteArray) = baOf [112, 32, 99, 110, 102, 32] from rfl, show (⟨#[32]⟩ : ByteArray) = baOf [32] from rfl, show (⟨#[10]⟩ : ByteArray) = baOf [10] from rfl, baOf_append, baOf_append, baOf_append, baOf_append]
      congr 1
      unfold dPre dHeadL
      simp only [List.take_zero, List.flatMap_nil, List.append_nil]
    rw [e1]
    have h := refprint_loops v cs hg hl (fun i _ c hc hx => dPre_len v cs hv hg hl i c hc hx) cs.length 0 (by omega)
    rw [dPre_all] at h
    exact h
  · simp only [if_neg hr]
    exact Ev.now _
/-- One word onto the row of values: the reference's text of it. -/
theorem putB {β : Type} (s : List UInt8 × List UInt8) (w : List UInt8) (h1 : s.1.length ≤ 1000000000) (h2 : s.2.length ≤ 1000) (hw : w.length ≤ 1000) (G : ByteArray → ByteArray → Option β) :
    (if (wrap64 ((wrap64 (((baOf s.2).size : Int) + 1)) + ((baOf w).size : Int))) > 78 then (if (baOf s.2).toList = ([118] : List UInt8) then (if (baOf s.2).size + 1 ≤ 9223372036854775807 then (if (baOf s.2 ++ (⟨#[32]⟩ : ByteArray)).size + (baOf w).size ≤ 9223372036854775807 then (G (baOf s.1) ((baOf s.2 ++ (⟨#[32]⟩ : ByteArray)) ++ baOf w)) else (none)) else (none)) else (if (baOf s.1).size + (baOf s.2).size ≤ 9223372036854775807 then (if (baOf s.1 ++ baOf s.2).size + 1 ≤ 9223372036854775807 then (if 1 + 1 ≤ 9223372036854775807 then (if 2 + (baOf w).size ≤ 9223372036854775807 then (G ((baOf s.1 ++ baOf s.2) ++ (⟨#[10]⟩ : ByteArray)) (((⟨#[118]⟩ : ByteArray) ++ (⟨#[32]⟩ : ByteArray)) ++ baOf w)) else (none)) else (none)) else (none)) else (none))) else (if (baOf s.2).size + 1 ≤ 9223372036854775807 then (if (baOf s.2 ++ (⟨#[32]⟩ : ByteArray)).size + (baOf w).size ≤ 9223372036854775807 then (G (baOf s.1) ((baOf s.2 ++ (⟨#[32]⟩ : ByteArray)) ++ baOf w)) else (none)) else (none)))
    = G (baOf (dPut s w).1) (baOf (dPut s w).2) := by
  have hs1 : (baOf s.1).size = s.1.length := rfl
  have hs2 : (baOf s.2).size = s.2.length := rfl
  have hsw : (baOf w).size = w.length := rfl
  have hk : (baOf s.2).toList = ([118] : List UInt8) ↔ s.2 = [118] := by
    have h := word_eq s.2 [118]
    constructor
    · intro e
      rw [e] at h
      exact of_decide_eq_true h.symm
    · intro e
      rw [decide_eq_true e] at h
      exact eq_of_beq h
  have e32 : baOf s.2 ++ (⟨#[32]⟩ : ByteArray) ++ baOf w = baOf (s.2 ++ [32] ++ w) := by
    rw [show (⟨#[32]⟩ : ByteArray) = baOf [32] from rfl, baOf_append, baOf_append]
  have e10 : baOf s.1 ++ baOf s.2 ++ (⟨#[10]⟩ : ByteArray) = baOf (s.1 ++ s.2 ++ [10]) := by
    rw [show (⟨#[10]⟩ : ByteArray) = baOf [10] from rfl, baOf_append, baOf_append]
  have ev : (⟨#[118]⟩ : ByteArray) ++ (⟨#[32]⟩ : ByteArray) ++ baOf w = baOf ([118, 32] ++ w) := by
    rw [show (⟨#[118]⟩ : ByteArray) = baOf [118] from rfl, show (⟨#[32]⟩ : ByteArray) = baOf [32] from rfl, baOf_append, baOf_append]
    rfl
  have z1 : (baOf s.2).size + 1 ≤ 9223372036854775807 := by rw [hs2]; omega
  have z2 : (baOf s.2 ++ (⟨#[32]⟩ : ByteArray)).size + (baOf w).size ≤ 9223372036854775807 := by rw [ByteArray.size_append, hs2, hsw]; show s.2.length + 1 + w.length ≤ _; omega
  have z3 : (baOf s.1).size + (baOf s.2).size ≤ 9223372036854775807 := by rw [hs1, hs2]; omega
  have z4 : (baOf s.1 ++ baOf s.2).size + 1 ≤ 9223372036854775807 := by rw [ByteArray.size_append, hs1, hs2]; omega
  have z5 : 2 + (baOf w).size ≤ 9223372036854775807 := by rw [hsw]; omega
  have ew : wrap64 ((wrap64 (((baOf s.2).size : Int) + 1)) + ((baOf w).size : Int)) = ((s.2.length + 1 + w.length : Nat) : Int) := by
    rw [hs2, hsw, wrap_id (x := ((s.2.length : Nat) : Int) + 1) (by omega) (by omega), wrap_id (by omega) (by omega)]
    omega
  rw [ew, if_pos z1, if_pos z2, if_pos z3, if_pos z4, if_pos (show 1 + 1 ≤ 9223372036854775807 by omega), if_pos z5, e32, e10, ev]
  unfold dPut
  by_cases ha : 78 < s.2.length + 1 + w.length
  · rw [if_pos (by omega)]
    by_cases hb : s.2 = [118]
    · rw [if_pos (hk.2 hb), if_neg (fun h => h.2 hb)]
    · rw [if_neg (fun h => hb (hk.1 h)), if_pos ⟨ha, hb⟩]
  · rw [if_neg (by omega), if_neg (fun h => ha h.1)]
theorem refvalues_end (m : List Bool) (hm : m.length ≤ 100000) : Ev (fun k => threshingref02_Values.l0 k m (baOf (dVState m).1) (baOf (dVState m).2) ((m.length + 2 : Nat) : Int)) (baOf (dValues m)) := by
  obtain ⟨h1, h2⟩ := dVSt_size m (by omega) m.length (Nat.le_refl _)
  have h3 := dPut_size (dVSt m m.length) [48] h1 (by decide)
  rw [← dVState_eq] at h3
  have e10 : baOf (dVState m).1 ++ baOf (dVState m).2 ++ (⟨#[10]⟩ : ByteArray) = baOf (dValues m) := by
    rw [show (⟨#[10]⟩ : ByteArray) = baOf [10] from rfl, baOf_append, baOf_append]
    rfl
  refine ⟨1, fun k hk => ?_⟩
  obtain ⟨k', rfl⟩ : ∃ k', k = k' + 1 := ⟨k - 1, by omega⟩
  dsimp only
  rw [threshingref02_Values.l0, if_neg (by rw [wrap_id (x := (m.length : Int) + 1) (by omega) (by omega)]; omega), if_pos (by rw [baOf_size, baOf_size]; omega), if_pos (by rw [ByteArray.size_append, baOf_size, baOf_size]; omega), e10]
theorem refvalues_last (m : List Bool) (hm : m.length ≤ 100000) : Ev (fun k => threshingref02_Values.l0 k m (baOf (dVSt m m.length).1) (baOf (dVSt m m.length).2) ((m.length + 1 : Nat) : Int)) (baOf (dValues m)) := by
  obtain ⟨h1, h2⟩ := dVSt_size m (by omega) m.length (Nat.le_refl _)
  obtain ⟨k0, h0⟩ := refvalues_end m hm
  refine ⟨k0 + 1, fun k hk => ?_⟩
  obtain ⟨k', rfl⟩ : ∃ k', k = k' + 1 := ⟨k - 1, by omega⟩
  have hh := h0 k' (by omega)
  dsimp only at hh ⊢
  rw [dVState_eq] at hh
  have hp := putB (dVSt m m.length) [48] (by omega) (by omega) (by decide) (fun a b => threshingref02_Values.l0 k' m a b ((m.length + 2 : Nat) : Int))
  rw [show ((baOf [48]).size : Int) = 1 from rfl, show (baOf [48]).size = 1 from rfl, if_pos (show 2 + 1 ≤ 9223372036854775807 by omega)] at hp
  rw [threshingref02_Values.l0, if_pos (by rw [wrap_id (x := (m.length : Int) + 1) (by omega) (by omega)]; omega), if_neg (by omega), wrap_id (x := ((m.length + 1 : Nat) : Int) + 1) (by omega) (by omega), show ((m.length + 1 : Nat) : Int) + 1 = ((m.length + 2 : Nat) : Int) by omega]
  exact hp.trans hh
theorem refvalues_loop (m : List Bool) (hm : m.length ≤ 100000) : ∀ (d i : Nat), i + d = m.length → Ev (fun k => threshingref02_Values.l0 k m (baOf (dVSt m i).1) (baOf (dVSt m i).2) ((i + 1 : Nat) : Int)) (baOf (dValues m)) := by
  intro d
  induction d with
  | zero =>
    intro i hi
    obtain rfl : i = m.length := by omega
    exact refvalues_last m hm
  | succ d ih =>
    intro i hi
    have hlt : i < m.length := by omega
    obtain ⟨h1, h2⟩ := dVSt_size m (by omega) i (by omega)
    obtain ⟨k0, h0⟩ := digits_ev ((i + 1 : Nat) : Int) (by omega) (by omega)
    obtain ⟨k1, h3⟩ := ih (i + 1) (by omega)
    have hil := itoa_len ((i + 1 : Nat) : Int) (by omega) (by omega)
    refine ⟨k0 + k1 + 1, fun k hk => ?_⟩
    obtain ⟨k', rfl⟩ : ∃ k', k = k' + 1 := ⟨k - 1, by omega⟩
    have hh := h3 k' (by omega)
    have hd := h0 k' (by omega)
    dsimp only at hh hd ⊢
    rw [dVSt_succ m i hlt] at hh
    have hr : rdOf false m (wrap64 (((i + 1 : Nat) : Int) - 1)) = m[i] := by
      rw [wrap_id (by omega) (by omega), show ((i + 1 : Nat) : Int) - 1 = (i : Int) by omega]
      unfold rdOf
      rw [Int.toNat_natCast, List.getD_eq_getElem?_getD, List.getElem?_eq_getElem hlt]
      rfl
    rw [threshingref02_Values.l0, if_pos (by rw [wrap_id (x := (m.length : Int) + 1) (by omega) (by omega)]; omega), if_pos (by omega), hd, Option.bind_some, if_pos (by rw [wrap_id (by omega) (by omega)]; omega), if_pos (by rw [wrap_id (by omega) (by omega)]; omega), hr, wrap_id (x := ((i + 1 : Nat) : Int) + 1) (by omega) (by omega), show ((i + 1 : Nat) : Int) + 1 = ((i + 1 + 1 : Nat) : Int) by omega]
    cases hb : m[i] with
    | true =>
      rw [hb] at hh
      rw [if_pos rfl]
      exact (putB (dVSt m i) (Lib.itoa ((i + 1 : Nat) : Int)) (by omega) (by omega) (by omega) (fun a b => threshingref02_Values.l0 k' m a b ((i + 1 + 1 : Nat) : Int))).trans hh
    | false =>
      rw [hb] at hh
      rw [if_neg (by decide), if_pos (by rw [baOf_size]; omega), show (⟨#[45]⟩ : ByteArray) = baOf [45] from rfl, baOf_append]
      exact (putB (dVSt m i) ([45] ++ Lib.itoa ((i + 1 : Nat) : Int)) (by omega) (by omega) (by simp only [List.length_append, List.length_cons, List.length_nil]; omega) (fun a b => threshingref02_Values.l0 k' m a b ((i + 1 + 1 : Nat) : Int))).trans hh
theorem refvalues_ev (m : List Bool) (hm : m.length ≤ 100000) : Ev (fun k => threshingref02_Values.f k m) (baOf (dValues m)) := by
  have h := refvalues_loop m hm m.length 0 (by omega)
  rw [show dVSt m 0 = ([], [118]) by unfold dVSt; rw [List.take_zero]; rfl] at h
  exact h
end Go.Proofs.YtigloobbpcnnhaaGreatDoor.PB
end
section
namespace Go.Proofs.YtigloobbpcnnhaaGreatDoor.PB
open Go.RowKit Go.Proofs.YtigloobbpcnnhaaGreatDoorW.PrintWords Go.Proofs.YtigloobbpcnnhaaGreatDoorW.PrintLast Go.Proofs.YtigloobbpcnnhaaGreatDoorW.PrintMore
set_option linter.unusedVariables false
set_option linter.unusedSimpArgs false
section
variable {ops : Array Oper} {rest : List Oper} {o : Oper} {a : Act} {W : World} {Q : Exit → Act → World → Prop}
theorem make_event (hgd : o.guard = none) (t : TypeId) (x : Operand) (ho : o.op = .makeSlice t x x) (ht : Tryz.prog.underlying t = some (.slice 4)) (k : Nat) (hk : k ≤ 2000000) (hx : a.eval x = .int .i64 (k : Int))
    (h : ∀ g w1, g = W.heap.size → w1.heap[g]? = some (.cells (boolsA (List.replicate k false)) 4 (0, 0)) → Below W.heap.size W w1 → wpList Tryz.prog ops Q rest (a.put o.dst (.slice (some ⟨g, 0, none⟩) k k)) w1) : wpList Tryz.prog ops Q (o :: rest) a W := by
  have hrun : (execOp a.eval o).run Tryz.prog W = .ok (.value (.slice (some ⟨W.heap.size, 0, none⟩) k k)) (W.alloc (.cells (boolsA (List.replicate k false)) 4)) := by
    unfold execOp
    have hm := print_make_of (P := Tryz.prog) t 4 (.bool false) 1 ht info4 rfl (by omega) k (by omega) W
    rw [made_bools] at hm
    simp only [ho, hx]
    simp [hm, Sem.run_bind, Sem.run_pure, Result.andThen]
  exact Kd.event_run hgd hrun (h _ _ rfl (blk_new W _) (below_alloc (Below.refl _ _) _))
end
abbrev mMark (kv : Nat) (s : List UInt8) (i : Nat) : List Bool := (((dLines s).take i).flatMap dWords).foldl (dMark (kv : Int)) (List.replicate kv false)
theorem mMark_len (kv : Nat) (s : List UInt8) (i : Nat) : (mMark kv s i).length = kv := by rw [mMark, dMark_len]; simp
theorem mMark_succ (kv : Nat) (s : List UInt8) (i : Nat) (h : i < (dLines s).length) : mMark kv s (i + 1) = (dWords (dLines s)[i]).foldl (dMark (kv : Int)) (mMark kv s i) := by
  unfold mMark
  rw [List.take_succ_eq_append_getElem h, List.flatMap_append, List.foldl_append]
  simp
set_option maxHeartbeats 4000000 in
set_option maxRecDepth 100000 in
theorem rmodel_calls (s : List UInt8) (vars : Int) (w : World) (hs : s.length ≤ 100000) (hv : -9223372036854775808 ≤ vars ∧ vars ≤ 9223372036854775807) (hv2 : vars ≤ 100000 ∨ 1048576 < vars) :
    Calls Tryz.prog 6 #[.string (baOf s), .int .i64 vars] w fun e w' => ∃ A c, e = .returned (.tuple #[.slice A (dModel s vars).1.length c, .int .i64 (dModel s vars).2]) ∧ Kd.bool.C w' A (dModel s vars).1.length (dModel s vars).1 ∧ (dModel s vars).1.length ≤ c ∧ Below w.heap.size w w' := by
  have HS := Aside0.mk hs
  obtain ⟨sB, hsB⟩ : ∃ sB, sB = baOf s := ⟨_, rfl⟩
  have HSB := Aside0.mk hsB
  rw [← hsB]
  clear hs hsB
  by_cases hz : vars < 0 ∨ 1048576 < vars
  · have hd : dModel s vars = ([], 2) := by unfold dModel; rw [if_pos hz]
    have HD := Aside0.mk hd
    clear hd hv2
    by_cases h1 : vars < 0
    · have t1 : decide (vars < 0) = true := decide_eq_true h1
      go_enter Tryz.func6, Tryz.ntmps6
      go_wp2_with fail
      go_ret2
      rw [HD.out]
      exact ⟨none, 0, rfl, Kd.C_nil _ _, Nat.le_refl _, Below.refl _ _⟩
    · have t1 : decide (vars < 0) = false := decide_eq_false h1
      have t2 : decide (1048576 < vars) = true := decide_eq_true (by omega)
      go_enter Tryz.func6, Tryz.ntmps6
      go_wp2_with fail
      go_ret2
      rw [HD.out]
      exact ⟨none, 0, rfl, Kd.C_nil _ _, Nat.le_refl _, Below.refl _ _⟩
  have t1 : decide (vars < 0) = false := decide_eq_false (by omega)
  have t2 : decide (1048576 < vars) = false := decide_eq_false (by omega)
  obtain ⟨kv, rfl⟩ : ∃ kv : Nat, vars = (kv : Int) := ⟨vars.toNat, by omega⟩
  have HKV := Aside0.mk (show kv ≤ 100000 by omega)
  have HZ := Aside0.mk hz
  clear hz hv2 hv
  obtain ⟨LS, hLS⟩ : ∃ LS, LS = (dLines s).map dS := ⟨_, rfl⟩
  have hLL : LS.length = (dLines s).length := by rw [hLS, List.length_map]
  have HLS := Aside0.mk hLS
  have HLL := Aside0.mk hLL
  have hnb := (dLines_sum s).2
  have HNB := Aside0.mk (show LS.length ≤ 100000 by have := HS.out; omega)
  obtain ⟨kl, hkl⟩ := (rlines_ev s (by have := HS.out; omega)).rounds
  rw [← hLS] at hkl
  have HKL := Aside0.mk hkl
  clear hLS hLL hnb hkl
  go_enter Tryz.func6, Tryz.ntmps6
  go_wp2_with (first | ((with_reducible refine gate_dst (N := 20) rfl ?_); refine make_event rfl 23 (.tmp 19) rfl Tryz.underlying23 kv (by have := HKV.out; omega) rfl ?_; intro gm wm hgb hbox hb; have HM0 := Aside0.mk hbox; have HBM := Aside0.mk hb; have HGL := Aside0.mk (show w.heap.size ≤ gm by rw [hgb]; exact Nat.le_refl _); clear hbox hb hgb) | ((with_reducible refine gate_dst (N := 22) rfl ?_); refine text_event 9 46 (.tmp 21) rfl rfl s ?hx Tryz.underlying9 Tryz.underlying46 Tryz.underlying5 (by have := HS.out; omega) ?_; (case hx => rw [← HSB.out]; rfl); intro gb cb w1 hC hcc hb; have HT1 := Aside0.mk hC; have HTC := Aside0.mk hcc; have HM1 := Aside0.mk (blk_below HM0.out hb); have HB1 := Aside0.mk (below_step HBM.out hb); clear hC hcc hb) | (go_at_call 17; have hp := threshingref02_Lines.calls kl (some ⟨gb, 0, none⟩) cb (bI s) LS w1 (by rw [bI_length]; exact HT1.out) (by rw [bI_length]; exact HTC.out) HKL.out; rw [bI_length] at hp; refine hp.mono ?_; clear hp; rintro e wL ⟨vl, rfl, hS, hb⟩; obtain ⟨Al, cl, rfl⟩ := Kd.S_slice hS; have HSN := Aside0.mk (Kd.S_newB hS HM1.out); have HLC := Aside0.mk (Kd.S_reads' hS).2.1; have HML := Aside0.mk (blk_below HM1.out hb); have HBL := Aside0.mk (below_step HB1.out hb); clear hS hb))
  go_loopg [8] LS.length (fun gf v8 wr => ∃ (i : Nat), v8 = .int .i64 (i : Int) ∧ i + gf = LS.length ∧ Aside0 (wr.heap[gm]? = some (.cells (boolsA (mMark kv s i)) 4 (0, 0))) ∧ Aside0 (GB gm wL wr) ∧ Aside0 (Below w.heap.size w wr))
  case atStart => exact ⟨0, rfl, by omega, ⟨by rw [show mMark kv s 0 = List.replicate kv false from rfl]; exact HML.out⟩, ⟨GB.refl _ _⟩, HBL⟩
  case round =>
    obtain ⟨i, rfl, hi, HMr, HGr, HBr⟩ := hrel
    by_cases hlt : i < LS.length
    · have t5 : decide ((i : Int) < (LS.length : Int)) = true := decide_eq_true (by omega)
      have t6 : decide (i < LS.length) = true := decide_eq_true hlt
      have hil : i < (dLines s).length := by rw [← HLL.out]; exact hlt
      obtain ⟨LWi, hLWi⟩ : ∃ x, x = (dLines s)[i] := ⟨_, rfl⟩
      obtain ⟨wi, hwi⟩ : ∃ wi, wi = dWords LWi := ⟨_, rfl⟩
      have HRDi := Aside0.mk (show rd_T64 LS (i : Int) = dS LWi by
        unfold rd_T64
        rw [Int.toNat_natCast, HLS.out, List.getD_eq_getElem?_getD, List.getElem?_map, List.getElem?_eq_getElem hil, hLWi]
        rfl)
      have HFWi := Aside0.mk (show (dS LWi).f0 = wi.map baOf by rw [hwi]; rfl)
      have HF0i := Aside0.mk (show (dS LWi).f0.length = wi.length by rw [HFWi.out, List.length_map])
      have HWXi := Aside0.mk (show wi.length ≤ 100000 ∧ ∀ x ∈ wi, x.length ≤ 100000 by
        have h2 := dLines_mem s LWi (by rw [hLWi]; exact List.getElem_mem hil)
        have h3 := HS.out
        refine ⟨by rw [hwi]; have := dWords_len LWi; omega, ?_⟩
        intro x hx
        rw [hwi] at hx
        have h1 := (dWords_mem LWi x hx).2
        omega)
      have HSUC := Aside0.mk (show mMark kv s (i + 1) = wi.foldl (dMark (kv : Int)) (mMark kv s i) by rw [mMark_succ kv s i hil, hwi, hLWi])
      obtain ⟨m0, hm0⟩ : ∃ m0, m0 = mMark kv s i := ⟨_, rfl⟩
      have HM0L := Aside0.mk (show m0.length = kv by rw [hm0]; exact mMark_len kv s i)
      rw [← hm0] at HSUC HMr
      have hpi0 : (0 : Int) ≤ (i : Int) := Int.natCast_nonneg _
      have hpi1 : (i : Int) < (LS.length : Int) := by omega
      have hpi2 : (i : Int) + 1 ≤ 100001 := by have := HNB.out; omega
      have HIL := Aside0.mk hlt
      clear hLWi hwi hm0
      go_wp2_with fail
      obtain ⟨wo, rfl⟩ : ∃ wo : World, wo = wr := ⟨_, rfl⟩
      obtain ⟨gko, hgko⟩ : ∃ gko, gko = gk := ⟨_, rfl⟩
      rw [← hgko] at hi
      have HGKO := Aside0.mk hgko
      clear hgko
      go_loopg [9] wi.length (fun gf v9 wr => ∃ (j : Nat), v9 = .int .i64 (j : Int) ∧ j + gf = wi.length ∧ Aside0 (wr.heap[gm]? = some (.cells (boolsA ((wi.take j).foldl (dMark (kv : Int)) m0)) 4 (0, 0))) ∧ Aside0 (GB gm wL wr) ∧ Aside0 (Below w.heap.size w wr))
      case atStart => exact ⟨0, rfl, by omega, ⟨by rw [List.take_zero]; exact HMr.out⟩, HGr, HBr⟩
      case round =>
        clear HMr HGr HBr
        obtain ⟨j, rfl, hj, HMr, HGr, HBr⟩ := hrel
        have HSr := Kd.S_step HSN.out (fun k ho hk => HGr.out.blk k hk ho.2)
        obtain ⟨adl', Aw, cw', e1, hx0, hx1, hlw, hCw⟩ := at_T64 (Kd.S_reads' HSr).2.2 (i : Int) (Int.natCast_nonneg _) (by have := HIL.out; omega)
        cases e1
        rw [HRDi.out, Int.toNat_natCast, HF0i.out] at hx0
        rw [HRDi.out, HF0i.out] at hlw
        rw [HRDi.out, HF0i.out, HFWi.out] at hCw
        have HWCi := Aside0.mk hCw
        clear hx1 hlw hCw HSr
        by_cases hjt : j < wi.length
        · have t7 : decide ((j : Int) < (wi.length : Int)) = true := decide_eq_true (by omega)
          have t8 : decide (j < wi.length) = true := decide_eq_true hjt
          obtain ⟨x, hx⟩ : ∃ x, x = wi[j] := ⟨_, rfl⟩
          obtain ⟨mj, hmj⟩ : ∃ mj, mj = (wi.take j).foldl (dMark (kv : Int)) m0 := ⟨_, rfl⟩
          have HMJ := Aside0.mk (show mj.length = kv by rw [hmj, dMark_len]; exact HM0L.out)
          have hms : (wi.take (j + 1)).foldl (dMark (kv : Int)) m0 = dMark (kv : Int) mj x := by
            rw [List.take_succ_eq_append_getElem hjt, List.foldl_append, ← hmj, ← hx]
            rfl
          rw [← hmj] at HMr
          have hxz : x.length ≤ 100000 := HWXi.out.2 x (by rw [hx]; exact List.getElem_mem hjt)
          obtain ⟨aw, e1, hxw⟩ := Kd.at_string HWCi.out (j : Int) (by omega) (by omega)
          cases e1
          rw [Int.toNat_natCast, show rdOf ByteArray.empty (wi.map baOf) (j : Int) = baOf x by
            unfold rdOf
            rw [Int.toNat_natCast, List.getD_eq_getElem?_getD, List.getElem?_map, List.getElem?_eq_getElem hjt, hx]
            rfl] at hxw
          have hji : (0 : Int) ≤ (j : Int) := Int.natCast_nonneg _
          have hjl : (j : Int) < (wi.length : Int) := by omega
          have hj1 : (j : Int) + 1 ≤ 100001 := by have := HWXi.out.1; omega
          obtain ⟨nv, y1, y2, hn⟩ : ∃ nv y1 y2, dNum x true (kv : Int) = (nv, y1, y2) := ⟨_, _, _, rfl⟩
          obtain ⟨kx, hkx⟩ := (rnumber_ev x true (kv : Int) (Int.natCast_nonneg _) (by have := HKV.out; omega) (by omega)).rounds
          rw [hn] at hkx
          have HKX := Aside0.mk hkx
          have hle := dNum_le x (kv : Int) (Int.natCast_nonneg _)
          rw [hn] at hle
          have hdm : dMark (kv : Int) mj x = if y1 = true ∧ y2 = true ∧ 0 < nv then mj.set (nv - 1).toNat true else mj := by unfold dMark; rw [hn]
          rw [hdm] at hms
          simp only at hle
          clear hdm hn hkx hx hmj
          by_cases hgo : y1 = true ∧ y2 = true ∧ 0 < nv
          · obtain ⟨rfl, rfl, hnp⟩ := hgo
            rw [if_pos ⟨rfl, rfl, hnp⟩] at hms
            obtain ⟨q, rfl⟩ : ∃ q : Nat, nv = (q : Int) + 1 := ⟨(nv - 1).toNat, by omega⟩
            have hqk := hle rfl
            have HQK := Aside0.mk (show q + 1 ≤ kv by omega)
            rw [show ((q : Int) + 1 - 1).toNat = q by omega] at hms
            have HMK := Aside0.mk hms
            have t9 : decide (0 < (q : Int) + 1) = true := decide_eq_true (by omega)
            have hq0 : (0 : Int) ≤ (q : Int) := Int.natCast_nonneg _
            have hq1 : (q : Int) < (kv : Int) := by omega
            have hq2 : (q : Int) + 1 ≤ 1048576 := by have := HKV.out; omega
            clear hms hle hnp
            go_wp2_with (first | (go_at_call 18; refine (threshingref02_Number.calls kx (baOf x) true (kv : Int) _ _ _ wr HKX.out).mono ?_; rintro e wn ⟨rfl, hdr⟩; have hb := drawn_below hdr; have HMn := Aside0.mk (blk_below HMr.out hb); have HGn := Aside0.mk (HGr.out.below hb); have HBn := Aside0.mk (below_step HBr.out hb); clear hdr hb hxw hx0) | ((with_reducible refine gate_store (t := 4) (p := 65) rfl ?_); refine store_one 4 65 (.const (.bool true)) rfl rfl rfl (off := q) (.bool true) (boolsA (mj.set q true)) rfl rfl HMn.out rfl nsz4 (show q + 1 ≤ (boolsA mj).size by rw [boolsA_size, HMJ.out]; exact HQK.out) rfl (bools_set mj q) ?_; intro V2 hw hsb; have HV2 := Aside0.mk hw; have HSV2 := Aside0.mk hsb; clear hw hsb))
            go_roundg (gk - 1)
            case measure => omega
            case rel => exact ⟨j + 1, by go_num, by omega, ⟨by rw [HMK.out]; exact HV2.out⟩, ⟨HGn.out.same HSV2.out⟩, ⟨HSV2.out.below HBn.out HGL.out⟩⟩
          · rw [if_neg hgo] at hms
            have HMK := Aside0.mk hms
            clear hms hle
            cases y1 with
            | false =>
              go_wp2_with (go_at_call 18; refine (threshingref02_Number.calls kx (baOf x) true (kv : Int) _ _ _ wr HKX.out).mono ?_; rintro e wn ⟨rfl, hdr⟩; have hb := drawn_below hdr; have HMn := Aside0.mk (blk_below HMr.out hb); have HGn := Aside0.mk (HGr.out.below hb); have HBn := Aside0.mk (below_step HBr.out hb); clear hdr hb hxw hx0)
              go_roundg (gk - 1)
              case measure => omega
              case rel => exact ⟨j + 1, by go_num, by omega, ⟨by rw [HMK.out]; exact HMn.out⟩, HGn, HBn⟩
            | true =>
              cases y2 with
              | false =>
                go_wp2_with (go_at_call 18; refine (threshingref02_Number.calls kx (baOf x) true (kv : Int) _ _ _ wr HKX.out).mono ?_; rintro e wn ⟨rfl, hdr⟩; have hb := drawn_below hdr; have HMn := Aside0.mk (blk_below HMr.out hb); have HGn := Aside0.mk (HGr.out.below hb); have HBn := Aside0.mk (below_step HBr.out hb); clear hdr hb hxw hx0)
                go_roundg (gk - 1)
                case measure => omega
                case rel => exact ⟨j + 1, by go_num, by omega, ⟨by rw [HMK.out]; exact HMn.out⟩, HGn, HBn⟩
              | true =>
                have t9 : decide (0 < nv) = false := decide_eq_false (fun h => hgo ⟨rfl, rfl, h⟩)
                clear hgo
                go_wp2_with (go_at_call 18; refine (threshingref02_Number.calls kx (baOf x) true (kv : Int) _ _ _ wr HKX.out).mono ?_; rintro e wn ⟨rfl, hdr⟩; have hb := drawn_below hdr; have HMn := Aside0.mk (blk_below HMr.out hb); have HGn := Aside0.mk (HGr.out.below hb); have HBn := Aside0.mk (below_step HBr.out hb); clear hdr hb hxw hx0)
                go_roundg (gk - 1)
                case measure => omega
                case rel => exact ⟨j + 1, by go_num, by omega, ⟨by rw [HMK.out]; exact HMn.out⟩, HGn, HBn⟩
        · have t7 : decide ((j : Int) < (wi.length : Int)) = false := decide_eq_false (by omega)
          have t8 : decide (j < wi.length) = false := decide_eq_false hjt
          have HME := Aside0.mk (show (wi.take j).foldl (dMark (kv : Int)) m0 = mMark kv s (i + 1) by rw [HSUC.out, List.take_of_length_le (by omega)])
          go_wp2_with fail
          have hgko := HGKO.out
          go_roundg (gko - 1)
          case measure => omega
          case rel => exact ⟨i + 1, by go_num, by omega, ⟨by rw [← HME.out]; exact HMr.out⟩, HGr, HBr⟩
    · have t5 : decide ((i : Int) < (LS.length : Int)) = false := decide_eq_false (by omega)
      have t6 : decide (i < LS.length) = false := decide_eq_false hlt
      obtain ⟨m, hm⟩ : ∃ m, m = mMark kv s i := ⟨_, rfl⟩
      have HMLN := Aside0.mk (show m.length = kv by rw [hm]; exact mMark_len kv s i)
      have hm2 : m = ((dLines s).flatMap dWords).foldl (dMark (kv : Int)) (List.replicate kv false) := by
        rw [hm, mMark, List.take_of_length_le (by rw [← HLL.out]; omega)]
      have HMD := Aside0.mk (show dModel s (kv : Int) = if dValues m = s then (m, 0) else ([], 21) by
        unfold dModel
        rw [if_neg HZ.out, Int.toNat_natCast, ← hm2])
      rw [← hm] at HMr
      have HCB := Aside0.mk (show Kd.bool.C wr (some ⟨gm, 0, none⟩) m.length m from C_bools m wr gm (boolsA m) (by simp [boolsA]) HMr.out (by have := HMLN.out; have := HKV.out; omega))
      obtain ⟨kw, hkw⟩ := (refvalues_ev m (by have := HMLN.out; have := HKV.out; omega)).rounds
      have HKW := Aside0.mk hkw
      obtain ⟨vB, hvB⟩ : ∃ vB, vB = baOf (dValues m) := ⟨_, rfl⟩
      have HVB := Aside0.mk hvB
      clear hm hm2 hkw hvB hi hlt
      by_cases hq : dValues m = s
      · have hvs : vB = sB := by rw [HVB.out, HSB.out, hq]
        have hvs1 : (sB.toList == sB.toList) = true := beq_self_eq_true _
        have HQ := Aside0.mk hq
        clear hq
        subst hvs
        go_wp2_with (go_at_call 19; have hp := threshingref02_Values.calls kw (some ⟨gm, 0, none⟩) kv m (baOf (dValues m)) wr ?hC ?hc HKW.out; (case hC => exact HCB.out); (case hc => rw [HMLN.out]; exact Nat.le_refl _); rw [HMLN.out, ← HVB.out] at hp; refine hp.mono ?_; clear hp; rintro e w9 ⟨rfl, hb⟩; have HM9 := Aside0.mk (blk_below HMr.out hb); have HB9 := Aside0.mk (below_step HBr.out hb); clear hb)
        go_ret2
        rw [HMD.out, if_pos HQ.out]
        have hk := HMLN.out
        subst hk
        exact ⟨_, _, rfl, C_bools m _ gm (boolsA m) (by simp [boolsA]) HM9.out (by have := HKV.out; omega), Nat.le_refl _, HB9.out⟩
      · have hvs1 : (vB.toList == sB.toList) = false := by
          rw [HVB.out, HSB.out, beq_eq_false_iff_ne]
          intro e
          have h1 := word_eq (dValues m) (baOf s).toList
          have h2 := word_eq s (baOf s).toList
          rw [e, beq_self_eq_true] at h1
          rw [beq_self_eq_true] at h2
          exact hq ((of_decide_eq_true h1.symm).trans (of_decide_eq_true h2.symm).symm)
        have HQ := Aside0.mk hq
        clear hq
        go_wp2_with (go_at_call 19; have hp := threshingref02_Values.calls kw (some ⟨gm, 0, none⟩) kv m (baOf (dValues m)) wr ?hC ?hc HKW.out; (case hC => exact HCB.out); (case hc => rw [HMLN.out]; exact Nat.le_refl _); rw [HMLN.out, ← HVB.out] at hp; refine hp.mono ?_; clear hp; rintro e w9 ⟨rfl, hb⟩; have HM9 := Aside0.mk (blk_below HMr.out hb); have HB9 := Aside0.mk (below_step HBr.out hb); clear hb)
        go_ret2
        rw [HMD.out, if_neg HQ.out]
        exact ⟨none, 0, rfl, Kd.C_nil _ _, Nat.le_refl _, HB9.out⟩
end Go.Proofs.YtigloobbpcnnhaaGreatDoor.PB
end
section
namespace Go.Proofs.YtigloobbpcnnhaaGreatDoor.PB
open Go.RowKit Go.Proofs.YtigloobbpcnnhaaGreatDoorW.PrintWords Go.Proofs.YtigloobbpcnnhaaGreatDoorW.PrintLast Go.Proofs.YtigloobbpcnnhaaGreatDoorW.PrintMore
set_option linter.unusedVariables false
set_option linter.unusedSimpArgs false
theorem dModel_len (s : List UInt8) (vars : Int) (h : vars ≤ 3000 ∨ 1048576 < vars) : (dModel s vars).1.length ≤ 3000 := by
  unfold dModel
  split
  · exact Nat.zero_le _
  · rename_i h1
    split
    · simp only [dMark_len, List.length_replicate]
      omega
    · exact Nat.zero_le _
set_option maxHeartbeats 1000000 in
set_option maxRecDepth 100000 in
theorem models_calls (s : List UInt8) (vars : Int) (w : World) (hv : -9223372036854775808 ≤ vars ∧ vars ≤ 9223372036854775807) (hlt : LT w.heap.size w) : Calls Tryz.prog 3 #[.string (baOf s), .int .i64 vars] w fun e w' => e = .returned (.bool true) ∧ Below w.heap.size w w' := by
  have HLT := Aside0.mk hlt
  have HV := Aside0.mk hv
  obtain ⟨sB, hsB⟩ : ∃ sB, sB = baOf s := ⟨_, rfl⟩
  have hsz : sB.size = s.length := by rw [hsB]; rfl
  have HSB := Aside0.mk hsB
  rw [← hsB]
  clear hlt hsB hv
  by_cases h1 : 3000 < sB.size
  · have t1 : decide (3000 < sB.size) = true := decide_eq_true h1
    have t2 : decide (3000 < (sB.size : Int)) = true := decide_eq_true (by omega)
    go_enter Tryz.func3, Tryz.ntmps3
    go_wp2_with fail
    go_ret
    exact ⟨rfl, Below.refl _ _⟩
  have t1 : decide (3000 < sB.size) = false := decide_eq_false h1
  have t2 : decide (3000 < (sB.size : Int)) = false := decide_eq_false (by omega)
  have HSL := Aside0.mk (show s.length ≤ 3000 by omega)
  clear h1 hsz
  by_cases h2 : 3000 < vars ∧ vars ≤ 1048576
  · have t3 : decide (3000 < vars) = true := decide_eq_true h2.1
    have t4 : decide (vars ≤ 1048576) = true := decide_eq_true h2.2
    clear h2
    go_enter Tryz.func3, Tryz.ntmps3
    go_wp2_with fail
    go_ret
    exact ⟨rfl, Below.refl _ _⟩
  have HV2 := Aside0.mk (show vars ≤ 100000 ∨ 1048576 < vars by omega)
  have hml := dModel_len s vars (by omega)
  obtain ⟨m, e0, hd⟩ : ∃ m e0, dModel s vars = (m, e0) := ⟨_, _, rfl⟩
  have HD := Aside0.mk hd
  rw [hd] at hml
  obtain ⟨km, hkm⟩ := (sameM_ev m (by simp only at hml; omega)).rounds
  have HKM := Aside0.mk hkm
  have e1 : (e0 == e0) = true := beq_self_eq_true e0
  clear hd hml hkm
  by_cases h3 : 3000 < vars
  · have t3 : decide (3000 < vars) = true := decide_eq_true h3
    have t4 : decide (vars ≤ 1048576) = false := decide_eq_false (by omega)
    clear h2 h3
    go_enter Tryz.func3, Tryz.ntmps3
    go_wp2_with (first | (go_at_call 5; have hp := model_calls s vars w (by have := HSL.out; omega) HV.out HLT.out; rw [← HSB.out, HD.out] at hp; refine hp.mono ?_; clear hp; rintro e w1 ⟨A1, c1, rfl, hC, hcc, hb⟩; have HC1 := Aside0.mk hC; have HE1 := Aside0.mk hcc; have HB1 := Aside0.mk hb; clear hC hcc hb) | (go_at_call 6; have hp := rmodel_calls s vars w1 (by have := HSL.out; omega) HV.out HV2.out; rw [← HSB.out, HD.out] at hp; refine hp.mono ?_; clear hp; rintro e w2 ⟨A2, c2, rfl, hC, hcc, hb⟩; have HC2 := Aside0.mk hC; have HE2 := Aside0.mk hcc; have HB2 := Aside0.mk (below_step HB1.out hb); have HC12 := Aside0.mk (Kd.C_below HC1.out hb); clear hC hcc hb) | (go_at_call 7; refine (threshingkit_SameModel.calls km A1 c1 m A2 c2 m true w2 HC12.out HE1.out HC2.out HE2.out HKM.out).mono ?_; rintro e w3 ⟨rfl, hdr⟩; have HB3 := Aside0.mk (below_step HB2.out (drawn_below hdr)); clear hdr) | (go_at_call 8; refine (works_c w w3 HLT.out HB3.out).mono ?_; rintro e w4 ⟨rfl, hb⟩; have HB4 := Aside0.mk hb; clear hb))
    go_ret
    exact ⟨rfl, HB4.out⟩
  · have t3 : decide (3000 < vars) = false := decide_eq_false h3
    clear h2 h3
    go_enter Tryz.func3, Tryz.ntmps3
    go_wp2_with (first | (go_at_call 5; have hp := model_calls s vars w (by have := HSL.out; omega) HV.out HLT.out; rw [← HSB.out, HD.out] at hp; refine hp.mono ?_; clear hp; rintro e w1 ⟨A1, c1, rfl, hC, hcc, hb⟩; have HC1 := Aside0.mk hC; have HE1 := Aside0.mk hcc; have HB1 := Aside0.mk hb; clear hC hcc hb) | (go_at_call 6; have hp := rmodel_calls s vars w1 (by have := HSL.out; omega) HV.out HV2.out; rw [← HSB.out, HD.out] at hp; refine hp.mono ?_; clear hp; rintro e w2 ⟨A2, c2, rfl, hC, hcc, hb⟩; have HC2 := Aside0.mk hC; have HE2 := Aside0.mk hcc; have HB2 := Aside0.mk (below_step HB1.out hb); have HC12 := Aside0.mk (Kd.C_below HC1.out hb); clear hC hcc hb) | (go_at_call 7; refine (threshingkit_SameModel.calls km A1 c1 m A2 c2 m true w2 HC12.out HE1.out HC2.out HE2.out HKM.out).mono ?_; rintro e w3 ⟨rfl, hdr⟩; have HB3 := Aside0.mk (below_step HB2.out (drawn_below hdr)); clear hdr) | (go_at_call 8; refine (works_c w w3 HLT.out HB3.out).mono ?_; rintro e w4 ⟨rfl, hb⟩; have HB4 := Aside0.mk hb; clear hb))
    go_ret
    exact ⟨rfl, HB4.out⟩
end Go.Proofs.YtigloobbpcnnhaaGreatDoor.PB
end
section
namespace Go.Proofs.YtigloobbpcnnhaaGreatDoor.PB
open Go.RowKit Go.Proofs.YtigloobbpcnnhaaGreatDoorW.PrintWords Go.Proofs.YtigloobbpcnnhaaGreatDoorW.PrintLast Go.Proofs.YtigloobbpcnnhaaGreatDoorW.PrintMore
set_option linter.unusedVariables false
set_option linter.unusedSimpArgs false
set_option maxHeartbeats 1000000 in
set_option maxRecDepth 100000 in
theorem parses_calls (s : List UInt8) (w : World) (hlt : LT w.heap.size w) : Calls Tryz.prog 9 #[.string (baOf s)] w fun e w' => e = .returned (.bool true) ∧ Below w.heap.size w w' := by
  have HLT := Aside0.mk hlt
  obtain ⟨sB, hsB⟩ : ∃ sB, sB = baOf s := ⟨_, rfl⟩
  have hsz : sB.size = s.length := by rw [hsB]; rfl
  have HSB := Aside0.mk hsB
  rw [← hsB]
  clear hlt hsB
  by_cases h1 : 3000 < sB.size
  · have t1 : decide (3000 < sB.size) = true := decide_eq_true h1
    have t2 : decide (3000 < (sB.size : Int)) = true := decide_eq_true (by omega)
    go_enter Tryz.func9, Tryz.ntmps9
    go_wp2_with fail
    go_ret
    exact ⟨rfl, Below.refl _ _⟩
  have t1 : decide (3000 < sB.size) = false := decide_eq_false h1
  have t2 : decide (3000 < (sB.size : Int)) = false := decide_eq_false (by omega)
  have HSL := Aside0.mk (show s.length ≤ 3000 by omega)
  obtain ⟨v0, cs0, e0, n0, hd⟩ : ∃ v0 cs0 e0 n0, dParse s = ((v0, cs0), e0, n0) := ⟨_, _, _, _, rfl⟩
  have HD := Aside0.mk hd
  have hcl := dParse_small s
  rw [hd] at hcl
  have HCL := Aside0.mk (show cs0.length ≤ 1000000000 ∧ ∀ q ∈ cs0, q.length ≤ 1000000000 from ⟨by have := hcl.1; simp only at this; omega, fun q hq => by have := hcl.2 q hq; omega⟩)
  have e1 : (e0 == e0) = true := beq_self_eq_true e0
  have e2 : (n0 == n0) = true := beq_self_eq_true n0
  clear hd hcl hsz
  go_enter Tryz.func9, Tryz.ntmps9
  go_wp2_with (first | ((with_reducible refine gate_dst (N := 14) rfl ?_); refine text_event 9 46 (.tmp 13) rfl rfl s ?hx Tryz.underlying9 Tryz.underlying46 Tryz.underlying5 (by have := HSL.out; omega) ?_; (case hx => rw [← HSB.out]; rfl); intro g1 c1 w1 hC hcc hb; have HT1 := Aside0.mk hC; have HTC := Aside0.mk hcc; have HB1 := Aside0.mk hb; clear hC hcc hb) | (go_at_call 20; have hp := parse_c w w1 ⟨g1, 0, none⟩ s c1 HT1.out HTC.out (by have := HSL.out; omega) HLT.out HB1.out; rw [HD.out] at hp; refine hp.mono ?_; clear hp; rintro e w2 ⟨A2, c2, rfl, hC, hcc, hb, hb1⟩; have HC2 := Aside0.mk (Kd.C_below hC (below_alloc (Below.refl _ _) (.cells #[.int .i64 v0, .slice A2 cs0.length c2] 35))); have HE2 := Aside0.mk hcc; have HG2 := Aside0.mk (blk_new w2 (.cells #[.int .i64 v0, .slice A2 cs0.length c2] 35)); have HT2 := Aside0.mk (Kd.C_below HT1.out (below_alloc hb1 (.cells #[.int .i64 v0, .slice A2 cs0.length c2] 35))); have HB2 := Aside0.mk (below_alloc hb (.cells #[.int .i64 v0, .slice A2 cs0.length c2] 35)); clear hC hcc hb hb1) | ((with_reducible refine gate_dst (N := 23) rfl ?_); refine text_event 9 46 (.tmp 22) rfl rfl s ?hx Tryz.underlying9 Tryz.underlying46 Tryz.underlying5 (by have := HSL.out; omega) ?_; (case hx => rw [← HSB.out]; rfl); intro g3 c3 w3 hC hcc hb; have HU3 := Aside0.mk hC; have HUC := Aside0.mk hcc; have HB3 := Aside0.mk (below_step HB2.out hb); have HC3 := Aside0.mk (Kd.C_below HC2.out hb); have HG3 := Aside0.mk (blk_below HG2.out hb); have HT3 := Aside0.mk (Kd.C_below HT2.out hb); clear hC hcc hb) | (go_at_call 22; have hp := rparse_calls ⟨g3, 0, none⟩ c3 s w3 HU3.out HUC.out (by have := HSL.out; omega); rw [HD.out] at hp; refine hp.mono ?_; clear hp; rintro e w4 ⟨A4, c4, rfl, hC, hcc, hb⟩; have HC4 := Aside0.mk (Kd.C_below hC (below_alloc (Below.refl _ _) (.cells #[.int .i64 v0, .slice A4 cs0.length c4] 35))); have HE4 := Aside0.mk hcc; have hb2 := below_alloc hb (.cells #[.int .i64 v0, .slice A4 cs0.length c4] 35); have HC42 := Aside0.mk (Kd.C_below HC3.out hb2); have HT4 := Aside0.mk (Kd.C_below HT3.out hb2); have HB4 := Aside0.mk (below_step HB3.out hb2); have hgg := blk_below HG3.out hb2; have hcz0 := (blk_cell hgg 0).trans (show _ = some (Value.int .i64 v0) from rfl); have hcz1 := (blk_cell hgg 1).trans (show _ = some (Value.slice A2 cs0.length c2) from rfl); clear hC hcc hb hb2 hgg) | (go_at_call 23; refine (same_calls (w4.alloc (.cells #[.int .i64 v0, .slice A4 cs0.length c4] 35)) (w4.alloc (.cells #[.int .i64 v0, .slice A4 cs0.length c4] 35)) v0 cs0 A2 A4 c2 c4 HC42.out HE2.out HC4.out HE4.out HCL.out (Below.refl _ _)).mono ?_; rintro e w5 ⟨rfl, hb⟩; have HB5 := Aside0.mk (below_step HB4.out hb); have hcv := (Kd.C_string (P := Tryz.prog) (c := c1) Tryz.underlying46 Tryz.underlying5 Tryz.underlying9 (Kd.C_below HT4.out hb)).trans (show _ = Result.ok (Value.string sB) w5 by rw [bI_str, HSB.out]); clear hb hcz0 hcz1) | (go_at_call 8; refine (works_c w w5 HLT.out HB5.out).mono ?_; rintro e w6 ⟨rfl, hb⟩; have HB6 := Aside0.mk hb; clear hb))
  go_ret
  exact ⟨rfl, HB6.out⟩
end Go.Proofs.YtigloobbpcnnhaaGreatDoor.PB
end
section
namespace Go.Proofs.YtigloobbpcnnhaaGreatDoor.PB
open Go.RowKit Go.Proofs.YtigloobbpcnnhaaGreatDoorW.PrintWords Go.Proofs.YtigloobbpcnnhaaGreatDoorW.PrintLast Go.Proofs.YtigloobbpcnnhaaGreatDoorW.PrintMore
set_option linter.unusedVariables false
set_option linter.unusedSimpArgs false
set_option maxHeartbeats 1000000 in
set_option maxRecDepth 100000 in
theorem blanks_calls (s r : List UInt8) (w : World) (hlt : LT w.heap.size w) : Calls Tryz.prog 11 #[.string (baOf s), .string (baOf r)] w fun e w' => e = .returned (.bool true) ∧ Below w.heap.size w w' := by
  have HLT := Aside0.mk hlt
  have HB := Aside0.mk (Below.refl w.heap.size w)
  obtain ⟨sB, hsB⟩ : ∃ sB, sB = baOf s := ⟨_, rfl⟩
  obtain ⟨rB, hrB⟩ : ∃ rB, rB = baOf r := ⟨_, rfl⟩
  have hsz : sB.size = s.length := by rw [hsB]; rfl
  have hrz : rB.size = r.length := by rw [hrB]; rfl
  have HSB := Aside0.mk hsB
  have HRB := Aside0.mk hrB
  have HSZ := Aside0.mk hsz
  have HRZ := Aside0.mk hrz
  rw [← hsB, ← hrB]
  clear hlt hsB hrB
  by_cases h1 : 3000 < sB.size
  · have t1 : decide (3000 < sB.size) = true := decide_eq_true h1
    have t2 : decide (3000 < (sB.size : Int)) = true := decide_eq_true (by omega)
    go_enter Tryz.func11, Tryz.ntmps11
    go_wp2_with fail
    go_ret
    exact ⟨rfl, HB.out⟩
  have t1 : decide (3000 < sB.size) = false := decide_eq_false h1
  have t2 : decide (3000 < (sB.size : Int)) = false := decide_eq_false (by omega)
  by_cases h2 : 3000 < rB.size
  · have t3 : decide (3000 < rB.size) = true := decide_eq_true h2
    have t4 : decide (3000 < (rB.size : Int)) = true := decide_eq_true (by omega)
    go_enter Tryz.func11, Tryz.ntmps11
    go_wp2_with fail
    go_ret
    exact ⟨rfl, HB.out⟩
  have t3 : decide (3000 < rB.size) = false := decide_eq_false h2
  have t4 : decide (3000 < (rB.size : Int)) = false := decide_eq_false (by omega)
  have HS1 := Aside0.mk (show s.length ≤ 3000 by omega)
  obtain ⟨v0, cs0, e0, n0, hd⟩ : ∃ v0 cs0 e0 n0, dParse s = ((v0, cs0), e0, n0) := ⟨_, _, _, _, rfl⟩
  have HD := Aside0.mk hd
  have hcl := dParse_small s
  rw [hd] at hcl
  have HCL := Aside0.mk (show cs0.length ≤ 1000000000 ∧ ∀ q ∈ cs0, q.length ≤ 1000000000 from ⟨by have := hcl.1; simp only at this; omega, fun q hq => by have := hcl.2 q hq; omega⟩)
  have HNN := Aside0.mk (show 0 ≤ n0 ∧ n0 + 1 ≤ 4000 by
    rcases dParse_kinds s with ⟨e, n, h, _, hn1, hn2⟩ | ⟨v, cs, h, _⟩
    · rw [hd] at h; cases h; omega
    · rw [hd] at h; cases h; omega)
  clear hd hcl
  have HR1 := Aside0.mk (show r.length ≤ 3000 by omega)
  clear hsz hrz
  go_enter Tryz.func11, Tryz.ntmps11
  go_wp2_with fail
  clear t1 t2 t3 t4
  go_loopg [5] rB.size (fun gf v5 wr => ∃ k : Nat, v5 = .int .i64 (k : Int) ∧ k + gf = rB.size ∧ Aside0 (10 ∉ r.take k) ∧ Aside0 (Below w.heap.size w wr))
  case atStart => exact ⟨0, rfl, by omega, ⟨by simp⟩, HB⟩
  case round =>
    clear HB
    obtain ⟨k, rfl, hk, HN, HB⟩ := hrel
    by_cases hlt : k < rB.size
    · have t5 : decide ((k : Int) < (rB.size : Int)) = true := decide_eq_true (by omega)
      have t6 : decide (k < rB.size) = true := decide_eq_true hlt
      have hx := bt_at rB (k : Int)
      rw [Int.toNat_natCast] at hx
      have HX := Aside0.mk hx
      have hk1 : (k : Int) + 1 ≤ 3000 := by omega
      have hk0 : (0 : Int) ≤ (k : Int) := Int.natCast_nonneg _
      obtain ⟨bv, hbv⟩ : ∃ bv, bv = bt rB (k : Int) := ⟨_, rfl⟩
      have HBV := Aside0.mk (show bv = ((r[k]'(by have := HRZ.out; omega)).toNat : Int) by
        have := HX.out hlt
        rw [hbv, ← this]
        have e : rB[k]'hlt = r[k]'(by have := HRZ.out; omega) := by
          have := HRB.out
          subst this
          rfl
        rw [e])
      rw [← hbv] at hx
      clear HX hbv
      by_cases hb : bv = 10
      · have t7 : (bv == 10) = true := beq_iff_eq.mpr hb
        subst hb
        go_wp2_with (go_at_call 8; refine (works_c w wr HLT.out HB.out).mono ?_; rintro e w2 ⟨rfl, hb⟩; have HB2 := Aside0.mk hb; clear hb)
        go_ret
        exact ⟨rfl, HB2.out⟩
      · have t7 : (bv == 10) = false := beq_eq_false_iff_ne.mpr hb
        have HN1 := Aside0.mk (show 10 ∉ r.take (k + 1) by
          have hkr : k < r.length := by have := HRZ.out; omega
          rw [List.take_succ_eq_append_getElem hkr]
          intro hm
          rcases List.mem_append.1 hm with hm | hm
          · exact HN.out hm
          · rw [List.mem_singleton] at hm
            exact hb (by rw [HBV.out, ← hm]; rfl))
        go_wp2_with fail
        go_roundg (gk - 1)
        case measure => omega
        case rel => exact ⟨k + 1, by go_num, by omega, HN1, HB⟩
    · have t5 : decide ((k : Int) < (rB.size : Int)) = false := decide_eq_false (by omega)
      have t6 : decide (k < rB.size) = false := decide_eq_false hlt
      have HNR := Aside0.mk (show 10 ∉ r by
        have h := HN.out
        rwa [List.take_of_length_le (by have := HRZ.out; omega)] at h)
      clear HN hk
      have HLS := Aside0.mk (show s.length ≤ 9223372036854775807 by have := HS1.out; omega)
      have z0 : 1 + rB.size ≤ 9223372036854775807 := by have := HR1.out; have := HRZ.out; omega
      have z1 : decide (1 + rB.size ≤ 9223372036854775807) = true := decide_eq_true z0
      have z2 : (9223372036854775807 < 1 + rB.size) = False := eq_false (Nat.not_lt.2 z0)
      replace z0 := eq_true z0
      have y0 : 1 + rB.size + 1 ≤ 9223372036854775807 := by have := HR1.out; have := HRZ.out; omega
      have y1 : decide (1 + rB.size + 1 ≤ 9223372036854775807) = true := decide_eq_true y0
      have y2 : (9223372036854775807 < 1 + rB.size + 1) = False := eq_false (Nat.not_lt.2 y0)
      replace y0 := eq_true y0
      have x0 : ((⟨#[99]⟩ : ByteArray) ++ rB).size + 1 ≤ 9223372036854775807 := by have := HR1.out; have := HRZ.out; rw [ByteArray.size_append]; show 1 + rB.size + 1 ≤ _; omega
      have x1 : decide (((⟨#[99]⟩ : ByteArray) ++ rB).size + 1 ≤ 9223372036854775807) = true := decide_eq_true x0
      have x2 : (9223372036854775807 < ((⟨#[99]⟩ : ByteArray) ++ rB).size + 1) = False := eq_false (Nat.not_lt.2 x0)
      replace x0 := eq_true x0
      go_wp2_with (first | ((with_reducible refine gate_dst (N := 35) rfl ?_); refine text_event 9 46 (.tmp 34) rfl rfl s ?hx Tryz.underlying9 Tryz.underlying46 Tryz.underlying5 HLS.out ?_; (case hx => rw [← HSB.out]; rfl); intro g1 c1 w1 hC1 hc1 hb; have HC1 := Aside0.mk hC1; have Hc1 := Aside0.mk hc1; have HB1 := Aside0.mk (below_step HB.out hb); clear hC1 hc1 hb) | (go_at_call 20; have hp := parse_c w w1 ⟨g1, 0, none⟩ s c1 HC1.out Hc1.out (by have := HS1.out; omega) HLT.out HB1.out; rw [HD.out] at hp; refine hp.mono ?_; clear hp; rintro e w2 ⟨A2, c2, rfl, hC, hcc, hb, _⟩; have HC2 := Aside0.mk hC; have HE2 := Aside0.mk hcc; have HB2 := Aside0.mk hb; clear hC hcc hb))
      obtain ⟨W0, hW0⟩ : ∃ W0, W0 = (w2.alloc (.cells #[.int .i64 v0, .slice A2 cs0.length c2] 35)).alloc (.cells #[.string ⟨#[10]⟩, .string ⟨#[32, 9, 13, 10]⟩, .string ((⟨#[99]⟩ : ByteArray) ++ rB ++ (⟨#[10]⟩ : ByteArray))] 9) := ⟨_, rfl⟩
      have HG6 := Aside0.mk (show W0.heap[w2.heap.size]? = some (.cells #[.int .i64 v0, .slice A2 cs0.length c2] 35 (0, 0)) by rw [hW0]; exact blk_below (blk_new w2 _) (below_alloc (Below.refl _ _) _))
      have HGS := Aside0.mk (show W0.heap[w2.heap.size + 1]? = some (.cells #[.string ⟨#[10]⟩, .string ⟨#[32, 9, 13, 10]⟩, .string ((⟨#[99]⟩ : ByteArray) ++ rB ++ (⟨#[10]⟩ : ByteArray))] 9 (0, 0)) by rw [hW0]; have h := blk_new (w2.alloc (.cells #[.int .i64 v0, .slice A2 cs0.length c2] 35)) (.cells #[.string ⟨#[10]⟩, .string ⟨#[32, 9, 13, 10]⟩, .string ((⟨#[99]⟩ : ByteArray) ++ rB ++ (⟨#[10]⟩ : ByteArray))] 9); rw [World.size_alloc] at h; exact h)
      have HB3 := Aside0.mk (show Below w.heap.size w W0 by rw [hW0]; exact below_alloc (below_alloc HB2.out _) _)
      have HC3 := Aside0.mk (show kcs.C W0 A2 cs0.length cs0 by rw [hW0]; exact Kd.C_below HC2.out (below_alloc (below_alloc (Below.refl _ _) _) _))
      rw [← hW0]
      clear hW0
      obtain ⟨g6, hg6⟩ : ∃ g6, g6 = w2.heap.size := ⟨_, rfl⟩
      obtain ⟨ad, had⟩ : ∃ ad : Addr, ad = ⟨w2.heap.size + 1, 0, none⟩ := ⟨_, rfl⟩
      rw [← had]
      rw [← hg6] at HG6 ⊢
      clear hg6 HC1 Hc1 HB1 HB2 HB HC2 z0 z1 z2 y0 y1 y2 x0 x1 x2
      have HX := Aside0.mk (show ∀ (W : World) (k2 : Nat), Below W0.heap.size W0 W → k2 < 3 → ∃ x : List UInt8, W.cell? (ad.add k2) = some (.string (baOf x)) ∧ dParse (x ++ s) = ((v0, cs0), e0, if e0 = 0 then 0 else n0 + 1) ∧ x.length ≤ 3002 by
        intro W k2 hb hk
        have key : ∀ x : List UInt8, ((dParse (x ++ s)).1 = (dParse s).1 ∧ (dParse (x ++ s)).2.1 = (dParse s).2.1 ∧ (dParse (x ++ s)).2.2 = if (dParse s).2.1 = 0 then 0 else (dParse s).2.2 + 1) → dParse (x ++ s) = ((v0, cs0), e0, if e0 = 0 then 0 else n0 + 1) := by
          intro x h
          rw [HD.out] at h
          exact Prod.ext h.1 (Prod.ext h.2.1 h.2.2)
        have hg := blk_below HGS.out hb
        rw [had, add_plain, blk_cell hg]
        match k2, hk with
        | 0, _ => exact ⟨[10], rfl, key _ (blank_1 s), by decide⟩
        | 1, _ => exact ⟨[32, 9, 13, 10], rfl, key _ (blank_2 s), by decide⟩
        | 2, _ =>
          refine ⟨[99] ++ r ++ [10], ?_, key _ (blank_3 r s HNR.out), by have := HR1.out; simp; omega⟩
          rw [← baOf_append, ← baOf_append, ← HRB.out]
          rfl)
      clear HGS had HNR
      go_loopg [45] 3 (fun gf v45 wr2 => ∃ k2 : Nat, v45 = .int .i64 (k2 : Int) ∧ k2 + gf = 3 ∧ Aside0 (Below W0.heap.size W0 wr2))
      case atStart => exact ⟨0, rfl, rfl, ⟨Below.refl _ _⟩⟩
      case round =>
        obtain ⟨k2, rfl, hk, HBw⟩ := hrel
        by_cases hlt : k2 < 3
        · have t5 : decide ((k2 : Int) < 3) = true := decide_eq_true (by omega)
          have t6 : decide (k2 < 3) = true := decide_eq_true hlt
          have hk1 : (k2 : Int) + 1 ≤ 3000 := by omega
          have hk0 : (0 : Int) ≤ (k2 : Int) := Int.natCast_nonneg _
          obtain ⟨x, hx, hdx, hxl⟩ := HX.out wr k2 HBw.out hlt
          obtain ⟨xB, hxB⟩ : ∃ xB, xB = baOf x := ⟨_, rfl⟩
          rw [← hxB] at hx
          have HDX := Aside0.mk hdx
          have HXL := Aside0.mk hxl
          obtain ⟨y, hy⟩ : ∃ y, y = x ++ s := ⟨_, rfl⟩
          have HY := Aside0.mk hy
          have HYL := Aside0.mk (show y.length ≤ 6002 by rw [hy, List.length_append]; have := HS1.out; omega)
          rw [← hy] at HDX
          have hxz : xB.size = x.length := by rw [hxB]; rfl
          have HXB := Aside0.mk hxB
          have z0 : xB.size + sB.size ≤ 9223372036854775807 := by have := HS1.out; have := HSZ.out; omega
          have z1 : decide (xB.size + sB.size ≤ 9223372036854775807) = true := decide_eq_true z0
          have z2 : (9223372036854775807 < xB.size + sB.size) = False := eq_false (Nat.not_lt.2 z0)
          replace z0 := eq_true z0
          have hn0 := HNN.out.1
          have hn1 := HNN.out.2
          clear hdx hxl hxB hxz hy
          have HBA := Aside0.mk (HB3.out.trans (HBw.out.mono HB3.out.size))
          by_cases he : e0 = 0
          · subst he
            go_wp2_with (first | ((with_reducible refine gate_dst (N := 53) rfl ?_); refine text_event 9 46 (.tmp 52) rfl rfl y ?hx Tryz.underlying9 Tryz.underlying46 Tryz.underlying5 (by have := HYL.out; omega) ?_; (case hx => rw [HY.out, ← baOf_append, ← HSB.out, ← HXB.out]; rfl); intro g4 c4 w4 hC4 hc4 hb; have HC4 := Aside0.mk hC4; have Hc4 := Aside0.mk hc4; have HB4 := Aside0.mk (below_step HBA.out hb); have HW4 := Aside0.mk (below_step HBw.out hb); clear hC4 hc4 hb) | (go_at_call 20; have hp := parse_c w w4 ⟨g4, 0, none⟩ y c4 HC4.out Hc4.out (by have := HYL.out; omega) HLT.out HB4.out; rw [HDX.out] at hp; refine hp.mono ?_; clear hp; rintro e w5 ⟨A5, c5, rfl, hC, hcc, hb, hb4⟩; have HC5 := Aside0.mk hC; have HE5 := Aside0.mk hcc; have HB5 := Aside0.mk hb; have hw5 := below_step HW4.out hb4; have HW5 := Aside0.mk hw5; have hgg := blk_below HG6.out (below_alloc hw5 (.cells #[.int .i64 v0, .slice A5 cs0.length c5] 35)); have hcz0 := (blk_cell hgg 0).trans (show _ = some (Value.int .i64 v0) from rfl); have hcz1 := (blk_cell hgg 1).trans (show _ = some (Value.slice A2 cs0.length c2) from rfl); clear hC hcc hb hb4 hw5 hgg) | (go_at_call 23; refine (same_calls W0 _ v0 cs0 A2 A5 c2 c5 (Kd.C_below HC3.out (below_alloc HW5.out _)) HE2.out (Kd.C_below HC5.out (below_alloc (Below.refl _ _) _)) HE5.out HCL.out (below_alloc HW5.out _)).mono ?_; rintro e w6 ⟨rfl, hb⟩; have HW6 := Aside0.mk hb; clear hb))
            go_roundg (gk - 1)
            case measure => omega
            case rel => exact ⟨k2 + 1, by go_num, by omega, HW6⟩
          · have t7 : (e0 != 0) = true := by simpa using he
            have t8 : (e0 == 0) = false := by simpa using he
            rw [if_neg he] at HDX
            go_wp2_with (first | ((with_reducible refine gate_dst (N := 53) rfl ?_); refine text_event 9 46 (.tmp 52) rfl rfl y ?hx Tryz.underlying9 Tryz.underlying46 Tryz.underlying5 (by have := HYL.out; omega) ?_; (case hx => rw [HY.out, ← baOf_append, ← HSB.out, ← HXB.out]; rfl); intro g4 c4 w4 hC4 hc4 hb; have HC4 := Aside0.mk hC4; have Hc4 := Aside0.mk hc4; have HB4 := Aside0.mk (below_step HBA.out hb); have HW4 := Aside0.mk (below_step HBw.out hb); clear hC4 hc4 hb) | (go_at_call 20; have hp := parse_c w w4 ⟨g4, 0, none⟩ y c4 HC4.out Hc4.out (by have := HYL.out; omega) HLT.out HB4.out; rw [HDX.out] at hp; refine hp.mono ?_; clear hp; rintro e w5 ⟨A5, c5, rfl, hC, hcc, hb, hb4⟩; have HC5 := Aside0.mk hC; have HE5 := Aside0.mk hcc; have HB5 := Aside0.mk hb; have hw5 := below_step HW4.out hb4; have HW5 := Aside0.mk hw5; have hgg := blk_below HG6.out (below_alloc hw5 (.cells #[.int .i64 v0, .slice A5 cs0.length c5] 35)); have hcz0 := (blk_cell hgg 0).trans (show _ = some (Value.int .i64 v0) from rfl); have hcz1 := (blk_cell hgg 1).trans (show _ = some (Value.slice A2 cs0.length c2) from rfl); clear hC hcc hb hb4 hw5 hgg) | (go_at_call 23; refine (same_calls W0 _ v0 cs0 A2 A5 c2 c5 (Kd.C_below HC3.out (below_alloc HW5.out _)) HE2.out (Kd.C_below HC5.out (below_alloc (Below.refl _ _) _)) HE5.out HCL.out (below_alloc HW5.out _)).mono ?_; rintro e w6 ⟨rfl, hb⟩; have HW6 := Aside0.mk hb; clear hb))
            go_roundg (gk - 1)
            case measure => omega
            case rel => exact ⟨k2 + 1, by go_num, by omega, HW6⟩
        · have t5 : decide ((k2 : Int) < 3) = false := decide_eq_false (by omega)
          have t6 : decide (k2 < 3) = false := decide_eq_false hlt
          have HBA := Aside0.mk (HB3.out.trans (HBw.out.mono HB3.out.size))
          go_wp2_with (go_at_call 8; refine (works_c w wr HLT.out HBA.out).mono ?_; rintro e w2 ⟨rfl, hb⟩; have HB2 := Aside0.mk hb; clear hb)
          go_ret
          exact ⟨rfl, HB2.out⟩
end Go.Proofs.YtigloobbpcnnhaaGreatDoor.PB
end
section
namespace Go.Proofs.YtigloobbpcnnhaaGreatDoor.PB
open Go.RowKit Go.Proofs.YtigloobbpcnnhaaGreatDoorW.PrintWords Go.Proofs.YtigloobbpcnnhaaGreatDoorW.PrintLast Go.Proofs.YtigloobbpcnnhaaGreatDoorW.PrintMore
open Go.ChangeShapes Go.WideShapes
set_option linter.unusedVariables false
set_option linter.unusedSimpArgs false
def GoodF (cs : List (List Int)) : Prop := cs.length ≤ 140737488355328 ∧ ∀ q ∈ cs, q.length ≤ 140737488355328 ∧ ∀ x ∈ q, I32 x
end Go.Proofs.YtigloobbpcnnhaaGreatDoor.PB
end
section
namespace Go.Proofs.YtigloobbpcnnhaaGreatDoor.PB
open Go.RowKit Go.Proofs.YtigloobbpcnnhaaGreatDoorW.PrintWords Go.Proofs.YtigloobbpcnnhaaGreatDoorW.PrintLast Go.Proofs.YtigloobbpcnnhaaGreatDoorW.PrintMore
set_option linter.unusedVariables false
set_option linter.unusedSimpArgs false
set_option maxHeartbeats 1000000 in
set_option maxRecDepth 100000 in
theorem prints_calls (v : Int) (A : Option Addr) (c : Nat) (cs : List (List Int)) (Am : Option Addr) (cm : Nat) (m : List Bool) (w : World) (hC : kcs.C w A cs.length cs) (hc : cs.length ≤ c) (hg : GoodF cs) (hv : -9223372036854775808 ≤ v ∧ v ≤ 9223372036854775807) (hM : Kd.bool.C w Am m.length m) (hmc : m.length ≤ cm) (hlt : LT w.heap.size w) :
    Calls Tryz.prog 13 #[.agg #[.int .i64 v, .slice A cs.length c], .slice Am m.length cm] w fun e w' => e = .returned (.bool true) ∧ Below w.heap.size w w' := by
  have HLT := Aside0.mk hlt
  have HC := Aside0.mk hC
  have HCC := Aside0.mk hc
  have HM := Aside0.mk hM
  have HMC := Aside0.mk hmc
  obtain ⟨sz, hse, hsm⟩ := size_ev v cs hg.1 (fun q hq => (hg.2 q hq).1)
  obtain ⟨ks, hks⟩ := hse.rounds
  have HKS := Aside0.mk hks
  have hml := hM.2.1
  obtain ⟨W1, hW1⟩ : ∃ W1, W1 = w.alloc (.cells #[.int .i64 v, .slice A cs.length c] 35) := ⟨_, rfl⟩
  have HGW1 := Aside0.mk (show W1.heap[w.heap.size]? = some (.cells #[.int .i64 v, .slice A cs.length c] 35 (0, 0)) by rw [hW1]; exact blk_new w _)
  have HCW1 := Aside0.mk (show kcs.C W1 A cs.length cs by rw [hW1]; exact Kd.C_below HC.out (below_alloc (Below.refl _ _) _))
  have HMW1 := Aside0.mk (show Kd.bool.C W1 Am m.length m by rw [hW1]; exact Kd.C_below HM.out (below_alloc (Below.refl _ _) _))
  have HBW1 := Aside0.mk (show Below w.heap.size w W1 by rw [hW1]; exact below_alloc (Below.refl _ _) _)
  clear hlt hC hc hM hmc hse hks
  by_cases h1 : 3000 < sz
  · have t1 : decide (3000 < sz) = true := decide_eq_true h1
    go_enter Tryz.func13, Tryz.ntmps13
    go_wp2_with (go_at_call 24; rw [← hW1]; refine (threshingkit_Size.calls ks v A c cs 3000 sz W1 HCW1.out HCC.out HKS.out).mono ?_; rintro e w2 ⟨rfl, hb⟩; have HB2 := Aside0.mk (below_step HBW1.out hb); clear hb)
    go_ret
    exact ⟨rfl, HB2.out⟩
  have t1 : decide (3000 < sz) = false := decide_eq_false h1
  have hsum := hsm (by omega)
  by_cases h2 : 3000 < m.length
  · have t3 : decide (3000 < m.length) = true := decide_eq_true h2
    have t4 : decide (3000 < (m.length : Int)) = true := decide_eq_true (by omega)
    go_enter Tryz.func13, Tryz.ntmps13
    go_wp2_with (go_at_call 24; rw [← hW1]; refine (threshingkit_Size.calls ks v A c cs 3000 sz W1 HCW1.out HCC.out HKS.out).mono ?_; rintro e w2 ⟨rfl, hb⟩; have HB2 := Aside0.mk (below_step HBW1.out hb); clear hb)
    go_ret
    exact ⟨rfl, HB2.out⟩
  have t3 : decide (3000 < m.length) = false := decide_eq_false h2
  have t4 : decide (3000 < (m.length : Int)) = false := decide_eq_false (by omega)
  have hin : ∀ q ∈ cs, q.length ≤ 3000 := fun q hq => by have := sum_mem cs q hq; omega
  obtain ⟨kp, hkp⟩ := (refprint_ev v cs hv (fun q hq => ⟨by have := hin q hq; omega, (hg.2 q hq).2⟩) (by omega)).rounds
  obtain ⟨kv, hkv⟩ := (refvalues_ev m (by omega)).rounds
  obtain ⟨vB, hvB⟩ : ∃ vB, vB = baOf (dValues m) := ⟨_, rfl⟩
  have HVB := Aside0.mk hvB
  rw [← hvB] at hkv
  have HKV := Aside0.mk hkv
  have HML := Aside0.mk (show m.length ≤ 3000 by omega)
  have HPG := Aside0.mk (show (∀ q ∈ cs, q.length ≤ 140737488355328 ∧ ∀ x ∈ q, I32 x) ∧ cs.length ≤ 140737488355328 ∧ (cs.map List.length).sum + cs.length ≤ 1000000 from ⟨fun q hq => ⟨(hg.2 q hq).1, (hg.2 q hq).2⟩, hg.1, by omega⟩)
  clear hvB hkv hsum hin hg hv hml hsm
  obtain ⟨r1, hr1⟩ : ∃ r1, r1 = baOf (dPrint v cs).1 := ⟨_, rfl⟩
  obtain ⟨pe, hpe⟩ : ∃ pe, pe = (dPrint v cs).2 := ⟨_, rfl⟩
  have HP2 := Aside0.mk hpe.symm
  rw [← hr1, ← hpe] at hkp
  have HKP := Aside0.mk hkp
  have hpp : (pe == pe) = true := beq_self_eq_true pe
  by_cases hz : dRight v cs = 0
  · have HDR := Aside0.mk hz
    have HR1 := Aside0.mk (show r1 = baOf (dText v cs) by rw [hr1]; unfold dPrint; rw [if_pos hz])
    clear hkp hr1 hpe hz
    go_enter Tryz.func13, Tryz.ntmps13
    go_wp2_with (first | (go_at_call 24; rw [← hW1]; refine (threshingkit_Size.calls ks v A c cs 3000 sz W1 HCW1.out HCC.out HKS.out).mono ?_; rintro e w2 ⟨rfl, hb⟩; have HGw2 := Aside0.mk (blk_below HGW1.out hb); have HCw2 := Aside0.mk (Kd.C_below HCW1.out hb); have HMw2 := Aside0.mk (Kd.C_below HMW1.out hb); have HBw2 := Aside0.mk (below_step HBW1.out hb); have hcz0 := (blk_cell HGw2.out 0).trans (show _ = some (Value.int .i64 v) from rfl); have hcz1 := (blk_cell HGw2.out 1).trans (show _ = some (Value.slice A cs.length c) from rfl); clear hb HGW1 HCW1 HMW1; clear hW1) | (go_at_call 21; have hp := print_calls v A c cs w2 HCw2.out HCC.out HPG.out.1 HPG.out.2.1 HPG.out.2.2 (HLT.out.pay HBw2.out); rw [HP2.out] at hp; refine hp.mono ?_; clear hp; rintro e w3 ⟨rv, rfl, ⟨hem, _⟩, hb⟩; have hem1 := hem HDR.out; clear hem; obtain ⟨ge, ce, rfl, _, _, _⟩ := hem1.slice; have HEM3 := Aside0.mk hem1; clear hem1; clear hcz0 hcz1; have HGw3 := Aside0.mk (blk_below HGw2.out hb); have HCw3 := Aside0.mk (Kd.C_below HCw2.out hb); have HMw3 := Aside0.mk (Kd.C_below HMw2.out hb); have HBw3 := Aside0.mk (below_step HBw2.out hb); have hcz0 := (blk_cell HGw3.out 0).trans (show _ = some (Value.int .i64 v) from rfl); have hcz1 := (blk_cell HGw3.out 1).trans (show _ = some (Value.slice A cs.length c) from rfl); clear hb HGw2 HCw2 HMw2) | (go_at_call 30; refine (threshingref02_Print.calls kp v A c cs r1 pe w3 HCw3.out HCC.out HKP.out).mono ?_; rintro e w4 ⟨rfl, hb⟩; clear hcz0 hcz1; have HGw4 := Aside0.mk (blk_below HGw3.out hb); have HCw4 := Aside0.mk (Kd.C_below HCw3.out hb); have HMw4 := Aside0.mk (Kd.C_below HMw3.out hb); have HBw4 := Aside0.mk (below_step HBw3.out hb); have hcz0 := (blk_cell HGw4.out 0).trans (show _ = some (Value.int .i64 v) from rfl); have hcz1 := (blk_cell HGw4.out 1).trans (show _ = some (Value.slice A cs.length c) from rfl); have HEM4 := Aside0.mk (HEM3.out.below hb); clear hb HGw3 HCw3 HMw3; have hcv := (Kd.C_string (P := Tryz.prog) (c := ce) Tryz.underlying46 Tryz.underlying5 Tryz.underlying9 HEM4.out.C).trans (show _ = Result.ok (Value.string r1) w4 by rw [bI_str, HR1.out])) | (go_at_call 12; refine (values_calls Am cm m w4 HMw4.out HMC.out (by have := HML.out; omega) (HLT.out.pay HBw4.out)).mono ?_; rw [← HVB.out]; rintro e w5 ⟨rfl, hb⟩; have HB5 := Aside0.mk (below_step HBw4.out hb); have HM5 := Aside0.mk (Kd.C_below HMw4.out hb); clear hb) | (go_at_call 19; refine (threshingref02_Values.calls kv Am cm m vB w5 HM5.out HMC.out HKV.out).mono ?_; rintro e w6 ⟨rfl, hb⟩; have HB6 := Aside0.mk (below_step HB5.out hb); clear hb) | (go_at_call 8; refine (works_c w w6 HLT.out HB6.out).mono ?_; rintro e w7 ⟨rfl, hb⟩; have HB7 := Aside0.mk hb; clear hb))
    go_ret
    exact ⟨rfl, HB7.out⟩
  · have HDR := Aside0.mk hz
    have HR1 := Aside0.mk (show r1 = baOf [] by rw [hr1]; unfold dPrint; rw [if_neg hz])
    clear hkp hr1 hpe hz
    go_enter Tryz.func13, Tryz.ntmps13
    go_wp2_with (first | (go_at_call 24; rw [← hW1]; refine (threshingkit_Size.calls ks v A c cs 3000 sz W1 HCW1.out HCC.out HKS.out).mono ?_; rintro e w2 ⟨rfl, hb⟩; have HGw2 := Aside0.mk (blk_below HGW1.out hb); have HCw2 := Aside0.mk (Kd.C_below HCW1.out hb); have HMw2 := Aside0.mk (Kd.C_below HMW1.out hb); have HBw2 := Aside0.mk (below_step HBW1.out hb); have hcz0 := (blk_cell HGw2.out 0).trans (show _ = some (Value.int .i64 v) from rfl); have hcz1 := (blk_cell HGw2.out 1).trans (show _ = some (Value.slice A cs.length c) from rfl); clear hb HGW1 HCW1 HMW1; clear hW1) | (go_at_call 21; have hp := print_calls v A c cs w2 HCw2.out HCC.out HPG.out.1 HPG.out.2.1 HPG.out.2.2 (HLT.out.pay HBw2.out); rw [HP2.out] at hp; refine hp.mono ?_; clear hp; rintro e w3 ⟨rv, rfl, ⟨_, hnil⟩, hb⟩; obtain rfl := hnil HDR.out; clear hnil; clear hcz0 hcz1; have HGw3 := Aside0.mk (blk_below HGw2.out hb); have HCw3 := Aside0.mk (Kd.C_below HCw2.out hb); have HMw3 := Aside0.mk (Kd.C_below HMw2.out hb); have HBw3 := Aside0.mk (below_step HBw2.out hb); have hcz0 := (blk_cell HGw3.out 0).trans (show _ = some (Value.int .i64 v) from rfl); have hcz1 := (blk_cell HGw3.out 1).trans (show _ = some (Value.slice A cs.length c) from rfl); clear hb HGw2 HCw2 HMw2) | (go_at_call 30; refine (threshingref02_Print.calls kp v A c cs r1 pe w3 HCw3.out HCC.out HKP.out).mono ?_; rintro e w4 ⟨rfl, hb⟩; clear hcz0 hcz1; have HGw4 := Aside0.mk (blk_below HGw3.out hb); have HCw4 := Aside0.mk (Kd.C_below HCw3.out hb); have HMw4 := Aside0.mk (Kd.C_below HMw3.out hb); have HBw4 := Aside0.mk (below_step HBw3.out hb); have hcz0 := (blk_cell HGw4.out 0).trans (show _ = some (Value.int .i64 v) from rfl); have hcz1 := (blk_cell HGw4.out 1).trans (show _ = some (Value.slice A cs.length c) from rfl); clear hb HGw3 HCw3 HMw3; have hcv := (Kd.C_string (P := Tryz.prog) (w := w4) (A := none) (n := 0) (c := 0) (xs := []) Tryz.underlying46 Tryz.underlying5 Tryz.underlying9 ⟨rfl, by decide, fun hp => absurd hp (by simp)⟩).trans (show _ = Result.ok (Value.string r1) w4 by rw [HR1.out]; rfl)) | (go_at_call 12; refine (values_calls Am cm m w4 HMw4.out HMC.out (by have := HML.out; omega) (HLT.out.pay HBw4.out)).mono ?_; rw [← HVB.out]; rintro e w5 ⟨rfl, hb⟩; have HB5 := Aside0.mk (below_step HBw4.out hb); have HM5 := Aside0.mk (Kd.C_below HMw4.out hb); clear hb) | (go_at_call 19; refine (threshingref02_Values.calls kv Am cm m vB w5 HM5.out HMC.out HKV.out).mono ?_; rintro e w6 ⟨rfl, hb⟩; have HB6 := Aside0.mk (below_step HB5.out hb); clear hb) | (go_at_call 8; refine (works_c w w6 HLT.out HB6.out).mono ?_; rintro e w7 ⟨rfl, hb⟩; have HB7 := Aside0.mk hb; clear hb))
    go_ret
    exact ⟨rfl, HB7.out⟩
end Go.Proofs.YtigloobbpcnnhaaGreatDoor.PB
end
