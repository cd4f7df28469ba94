import Derived.Test.YtfjnkbkcoakooaaDoorHLrat
namespace Go.Proofs.YtfjnkbkcoakooaaDoor.PB
open Go.RowKit Go.Proofs.YtfjnkbkcoakooaaDoorW.PrintWords Go.Proofs.YtfjnkbkcoakooaaDoorW.PrintLast Go.Proofs.YtfjnkbkcoakooaaDoorW.PrintMore
attribute [local go_sem] max2_int min2_int max_two min_two max_three min_three max_four min_four
set_option linter.unusedVariables false
set_option linter.unusedSimpArgs false
/-! ### lrat.Write past its limits -/
set_option maxHeartbeats 1000000 in
set_option maxRecDepth 100000 in
theorem spend_wide (gb : Nat) (a b : Int) (k id : Int) (A2 A3 : Option Addr) (c2 c3 n2 n3 : Nat) (base : Nat) (w : World) (hg : w.heap[gb]? = some (.cells #[.int .i64 a, .int .i64 b] 48 (0, 0))) (hb : base ≤ gb) (ha0 : 0 ≤ a) (ha : a ≤ 4194304) (hb0 : 0 ≤ b) (hb1 : b ≤ 16777217) (h2 : n2 ≤ 70368744177664) (h3 : n3 ≤ 70368744177664) :
    Calls Tryd.prog 19 #[.pointer (some ⟨gb, 0, none⟩), .agg #[.int .u8 k, .int .i64 id, .slice A2 n2 c2, .slice A3 n3 c3]] w fun e w' =>
      e = .returned (.bool (decide (a + 1 ≤ 4194304) && decide (min (b + n2 + n3) 16777217 ≤ 16777216))) ∧ w'.heap[gb]? = some (.cells #[.int .i64 (a + 1), .int .i64 (min (b + n2 + n3) 16777217)] 48 (0, 0)) ∧ Below base w w' ∧ (∀ q, q < w.heap.size → q ≠ gb → w'.heap[q]? = w.heap[q]?) := by
  have HG := Aside0.mk hg
  have hc0 := (blk_cell hg 0).trans (show _ = some (Value.int .i64 a) from rfl)
  have hc1 := (blk_cell hg 1).trans (show _ = some (Value.int .i64 b) from rfl)
  clear hg
  go_enter Tryd.func19, Tryd.ntmps19
  go_upto_region 2 with (first | ((with_reducible refine gate_dst (N := 3) rfl ?_); refine box_event ?hg (N := 3) ?hd (cs := #[.int .u8 k, .int .i64 id, .slice A2 n2 c2, .slice A3 n3 c3]) (t := 43) ?hr ?_; (case hd => rfl); (case hg => rfl); (case hr => first | (go_simp; done) | (go_simp; rfl)); intro g1 hgb w1 hbox hb; have HG1 := Aside0.mk hbox; have HB1 := Aside0.mk (hb.mono (Nat.le_trans ‹base ≤ gb› (Nat.le_of_lt (blk_lt HG.out)))); have HGB1 := Aside0.mk (blk_below HG.out hb); have HBT1 := Aside0.mk (show ∀ q, q < w.heap.size → q ≠ gb → w1.heap[q]? = w.heap[q]? from fun q hq _ => hb.block q hq); clear hbox hb hgb hc0 hc1; have hc0 := (blk_cell HGB1.out 0).trans (show _ = some (Value.int .i64 a) from rfl); have hc1 := (blk_cell HGB1.out 1).trans (show _ = some (Value.int .i64 b) from rfl)) | ((with_reducible refine gate_store (t := 3) (p := 11) rfl ?_); refine store_one 3 11 (.tmp 9) rfl rfl rfl (.int .i64 (a + 1)) #[.int .i64 (a + 1), .int .i64 b] rfl rfl HGB1.out rfl lsz3 (show 0 + 1 ≤ 2 by omega) rfl rfl ?_; intro w2 hw2 hsb; have HGB2 := Aside0.mk hw2; have HG12 := Aside0.mk (hsb.other HG1.out (blk_ne HG1.out HGB1.out (by decide))); have HB2 := Aside0.mk (hsb.below HB1.out ‹base ≤ gb›); have HBT2 := Aside0.mk (show ∀ q, q < w.heap.size → q ≠ gb → w2.heap[q]? = w.heap[q]? from fun q hq hne => (hsb.blk q hne).trans (HBT1.out q hq hne)); clear hw2 hsb hc0 hc1; have hc0 := (blk_cell HGB2.out 0).trans (show _ = some (Value.int .i64 (a + 1)) from rfl); have hc1 := (blk_cell HGB2.out 1).trans (show _ = some (Value.int .i64 b) from rfl); have hd2 := (blk_cell HG12.out 2).trans (show _ = some (Value.slice A2 n2 c2) from rfl); have hd3 := (blk_cell HG12.out 3).trans (show _ = some (Value.slice A3 n3 c3) from rfl); have hfz := blk_frozen HGB2.out 1))
  have hmn : (if 16777217 < b + (n2 : Int) + (n3 : Int) then 16777217 else b + (n2 : Int) + (n3 : Int)) = min (b + n2 + n3) 16777217 := by split <;> omega
  have hne1 : g1 ≠ gb := blk_ne HG12.out HGB2.out (by decide)
  have hne2 : gb ≠ g1 := Ne.symm hne1
  go_still_tail 16, (by kernel_rfl)
  all_goals (try go_wp2)
  all_goals go_ret
  all_goals (refine ⟨?_, ?_, ?_, ?_⟩)
  all_goals (first | rfl | exact (fun q hq hne => (Below.heap_setCell w2 ⟨gb, 1, none⟩ _ q hne).trans (HBT2.out q hq hne)) | (by_cases hq : a + 1 ≤ 4194304; (· simp [hq]); (· simp [hq])) | ((with_reducible repeat (first | refine blk_drewN ?_ _ | refine blk_drew ?_ | refine blk_alloc ?_ _)); refine blk_put (cs := #[.int .i64 (a + 1), .int .i64 b]) ?_ 1 _ rfl; (with_reducible repeat (first | refine blk_drewN ?_ _ | refine blk_drew ?_ | refine blk_alloc ?_ _)); exact HGB2.out) | exact below_drew1 (HB2.out.setCell (p := ⟨gb, 1, none⟩) ‹base ≤ gb› _) | (simp; intros; omega) | skip)
set_option maxHeartbeats 2000000 in
set_option maxRecDepth 100000 in
/-- Steps past a limit: error 3. -/
theorem lwrite_limit (A0 : Option Addr) (c0 : Nat) (l0 : List S43) (w : World) (hr0 : Kd.C k43 w A0 l0.length l0) (hc0 : l0.length ≤ c0) (hsm : ∀ s ∈ l0, s.f2.length ≤ 70368744177664 ∧ s.f3.length ≤ 70368744177664) (hov : 4194304 < l0.length ∨ 16777216 < Btot l0) :
    Calls Tryd.prog 12 #[.slice A0 l0.length c0] w fun e w' => e = .returned (.tuple #[.string ⟨#[]⟩, .int .i64 3]) ∧ Below w.heap.size w w' := by
  have HR0 := Aside0.mk hr0
  have HC0 := Aside0.mk hc0
  have HS := Aside0.mk hsm
  have HOV := Aside0.mk hov
  have hmx : l0.length ≤ 9223372036854775807 := hr0.2.1
  clear hr0 hc0 hsm hov
  go_enter Tryd.func12, Tryd.ntmps12
  go_wp2_with (first | ((with_reducible refine gate_dst (N := 16) rfl ?_); refine box_event ?hg (N := 16) ?hd (cs := #[.int .i64 0, .int .i64 0]) (t := 48) ?hr ?_; (case hd => rfl); (case hg => rfl); (case hr => first | (go_simp; done) | (go_simp; rfl)); intro gu hgb w1 hbox hb; have HGU := Aside0.mk hbox; have HB1 := Aside0.mk hb; have HLU := Aside0.mk (show w.heap.size ≤ gu by rw [hgb]; exact Nat.le_refl _); clear hbox hb hgb))
  go_loopg [21] l0.length (fun j v21 wr => ∃ (x : Int), v21 = .int .i64 x ∧ 0 ≤ x ∧ x + j = l0.length ∧ x ≤ 4194304 ∧ Btot (l0.take x.toNat) ≤ 16777216 ∧ Aside0 (wr.heap[gu]? = some (.cells #[.int .i64 x, .int .i64 (Btot (l0.take x.toNat) : Nat)] 48 (0, 0))) ∧ Aside0 (Below w.heap.size w wr))
  case atStart => exact ⟨0, rfl, by omega, by omega, by omega, by simp [Btot], ⟨by simpa [Btot] using HGU.out⟩, HB1⟩
  case round =>
    obtain ⟨x, rfl, hx0, hxj, hx4, hxb, HG, HB⟩ := hrel
    by_cases hlt : x < (l0.length : Int)
    · obtain ⟨ad, A2, c2, A3, c3, e0, hx_0, hx_1, hx_2, hx_3, hl2, hi2, hl3, hi3⟩ := at_T43 HR0.out x hx0 hlt
      cases e0
      replace hx_0 := (HB.out.cell (World.block_lt_of_cell? w _ hx_0)).trans hx_0
      replace hx_1 := (HB.out.cell (World.block_lt_of_cell? w _ hx_1)).trans hx_1
      replace hx_2 := (HB.out.cell (World.block_lt_of_cell? w _ hx_2)).trans hx_2
      replace hx_3 := (HB.out.cell (World.block_lt_of_cell? w _ hx_3)).trans hx_3
      obtain ⟨s, hs⟩ : ∃ s, s = rd_T43 l0 x := ⟨_, rfl⟩
      rw [← hs] at hx_0 hx_1 hx_2 hx_3
      have HT : Aside0 (l0.take (x + 1).toNat = l0.take x.toNat ++ [s]) := Aside0.mk (by rw [hs]; exact rd43_nat l0 x hx0 hlt)
      have HMEM : Aside0 (s ∈ l0) := Aside0.mk (by rw [hs]; exact rd43_mem l0 x hx0 hlt)
      clear hl2 hi2 hl3 hi3 hs
      obtain ⟨m, hm⟩ : ∃ m, m = Btot (l0.take x.toNat) := ⟨_, rfl⟩
      rw [← hm] at HG hxb
      have HMEM2 := HS.out s HMEM.out
      obtain ⟨hs2, hs3⟩ := HMEM2
      have hbt := Aside0.mk (show Btot (l0.take (x + 1).toNat) = m + (s.f2.length + s.f3.length) by rw [HT.out, Btot_append, ← hm]; simp [Btot])
      clear hm
      by_cases hov : 4194304 < x + 1 ∨ 16777216 < m + (s.f2.length + s.f3.length)
      · have hmin := Aside0.mk (show (decide (x + 1 ≤ 4194304) && decide (min ((m : Int) + (s.f2.length : Int) + (s.f3.length : Int)) 16777217 ≤ 16777216)) = false by
          rcases hov with hov | hov
          · rw [decide_eq_false (by omega)]; rfl
          · rw [decide_eq_false (show ¬ (min ((m : Int) + (s.f2.length : Int) + (s.f3.length : Int)) 16777217 ≤ 16777216) by omega), Bool.and_false])
        clear hov
        go_wp2_with (first | ((with_reducible refine gate_dst (N := 7) rfl ?_); refine box_event ?hg (N := 7) ?hd (cs := #[.int .u8 0, .int .i64 0, .slice none 0 0, .slice none 0 0]) (t := 43) ?hr ?_; (case hd => rfl); (case hg => rfl); (case hr => first | (go_simp; done) | (go_simp; rfl)); intro gc hgb w3 hbox hb; have HX := Aside0.mk hbox; have HB3 := Aside0.mk (below_step HB.out hb); have HG3 := Aside0.mk (blk_below HG.out hb); have HLC := Aside0.mk (show w.heap.size ≤ gc by rw [hgb]; exact HB.out.size); clear hbox hb hgb) | ((with_reducible refine gate_store (t := 43) (p := 7) rfl ?_); refine store_four 43 7 (.tmp 24) rfl rfl rfl (.int .u8 s.f0) (.int .i64 s.f1) (.slice A2 s.f2.length c2) (.slice A3 s.f3.length c3) #[.int .u8 s.f0, .int .i64 s.f1, .slice A2 s.f2.length c2, .slice A3 s.f3.length c3] rfl rfl HX.out lsz39 (Nat.le_refl 4) rfl rfl rfl rfl rfl ?_; intro w4 hw4 hsb; have HX4 := Aside0.mk hw4; have HG4 := Aside0.mk (hsb.other HG3.out (blk_ne HG3.out HX.out (by decide))); have HB4 := Aside0.mk (hsb.below HB3.out HLC.out); clear hw4 hsb; have hcz0 := (blk_cell HX4.out 0).trans (show _ = some (Value.int .u8 s.f0) from rfl); have hcz1 := (blk_cell HX4.out 1).trans (show _ = some (Value.int .i64 s.f1) from rfl); have hcz2 := (blk_cell HX4.out 2).trans (show _ = some (Value.slice A2 s.f2.length c2) from rfl); have hcz3 := (blk_cell HX4.out 3).trans (show _ = some (Value.slice A3 s.f3.length c3) from rfl)) | (go_at_call 19; refine (spend_wide gu x (m : Int) s.f0 s.f1 A2 A3 c2 c3 s.f2.length s.f3.length w.heap.size _ HG4.out HLU.out hx0 hx4 (by omega) (by omega) hs2 hs3).mono ?_; rw [hmin.out]; rintro e w5 ⟨rfl, h5, hb, _⟩; have HG5 := Aside0.mk h5; have HB5 := Aside0.mk (HB4.out.trans hb); clear h5 hb))
        go_ret2
        exact ⟨rfl, HB5.out⟩
      · have hx5 : x + 1 ≤ 4194304 := by omega
        have hm5 : m + (s.f2.length + s.f3.length) ≤ 16777216 := by omega
        clear hov
        have hmin := Aside0.mk (show min ((m : Int) + (s.f2.length : Int) + (s.f3.length : Int)) 16777217 = ((m + (s.f2.length + s.f3.length) : Nat) : Int) by omega)
        have htr := Aside0.mk (show (decide (x + 1 ≤ 4194304) && decide (min ((m : Int) + (s.f2.length : Int) + (s.f3.length : Int)) 16777217 ≤ 16777216)) = true by
          rw [hmin.out, decide_eq_true hx5, decide_eq_true (by omega)]
          rfl)
        go_wp2_with (first | ((with_reducible refine gate_dst (N := 7) rfl ?_); refine box_event ?hg (N := 7) ?hd (cs := #[.int .u8 0, .int .i64 0, .slice none 0 0, .slice none 0 0]) (t := 43) ?hr ?_; (case hd => rfl); (case hg => rfl); (case hr => first | (go_simp; done) | (go_simp; rfl)); intro gc hgb w3 hbox hb; have HX := Aside0.mk hbox; have HB3 := Aside0.mk (below_step HB.out hb); have HG3 := Aside0.mk (blk_below HG.out hb); have HLC := Aside0.mk (show w.heap.size ≤ gc by rw [hgb]; exact HB.out.size); clear hbox hb hgb) | ((with_reducible refine gate_store (t := 43) (p := 7) rfl ?_); refine store_four 43 7 (.tmp 24) rfl rfl rfl (.int .u8 s.f0) (.int .i64 s.f1) (.slice A2 s.f2.length c2) (.slice A3 s.f3.length c3) #[.int .u8 s.f0, .int .i64 s.f1, .slice A2 s.f2.length c2, .slice A3 s.f3.length c3] rfl rfl HX.out lsz39 (Nat.le_refl 4) rfl rfl rfl rfl rfl ?_; intro w4 hw4 hsb; have HX4 := Aside0.mk hw4; have HG4 := Aside0.mk (hsb.other HG3.out (blk_ne HG3.out HX.out (by decide))); have HB4 := Aside0.mk (hsb.below HB3.out HLC.out); clear hw4 hsb; have hcz0 := (blk_cell HX4.out 0).trans (show _ = some (Value.int .u8 s.f0) from rfl); have hcz1 := (blk_cell HX4.out 1).trans (show _ = some (Value.int .i64 s.f1) from rfl); have hcz2 := (blk_cell HX4.out 2).trans (show _ = some (Value.slice A2 s.f2.length c2) from rfl); have hcz3 := (blk_cell HX4.out 3).trans (show _ = some (Value.slice A3 s.f3.length c3) from rfl)) | (go_at_call 19; refine (spend_wide gu x (m : Int) s.f0 s.f1 A2 A3 c2 c3 s.f2.length s.f3.length w.heap.size _ HG4.out HLU.out hx0 hx4 (by omega) (by omega) hs2 hs3).mono ?_; rw [htr.out, hmin.out]; rintro e w5 ⟨rfl, h5, hb, _⟩; have HG5 := Aside0.mk h5; have HB5 := Aside0.mk (HB4.out.trans hb); clear h5 hb))
        have hw : wrap64 (x + 1) = x + 1 := by unfold wrap64; omega
        go_roundg (gk - 1)
        case rel => exact ⟨x + 1, by first | rfl | rw [hw], by omega, by omega, hx5, by rw [hbt.out]; exact hm5, ⟨by rw [hbt.out]; exact HG5.out⟩, HB5⟩
        case measure => omega
    · have e1 : l0.take x.toNat = l0 := List.take_of_length_le (by omega)
      rw [e1] at hxb
      have := HOV.out
      omega
end Go.Proofs.YtfjnkbkcoakooaaDoor.PB
