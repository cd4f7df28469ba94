-- CARRIED OVER (wip/tools/port.py); MADE BY PROGRAM (print.py over stood-in functions; wip/tools/fakeprint.py)
import Derived.Test.YtlimaebaagabaaaDoorPB0
namespace Go.Proofs.YtlimaebaagabaaaDoor.PB
open Go.RowKit Go.Proofs.YtlimaebaagabaaaDoorW.PrintWords Go.Proofs.YtlimaebaagabaaaDoorW.PrintLast Go.Proofs.YtlimaebaagabaaaDoorW.PrintMore
attribute [local go_sem] max2_int min2_int max_two min_two max_three min_three max_four min_four   -- for this text's walks alone
set_option linter.unusedVariables false
set_option linter.unusedSimpArgs false

/-! ### binary_may: function 17 -/
mutual
def binary_may.j0 : Nat → Bool → Int → Int → List Int → List Int → Option (Bool)
  | 0, _, _, _, _, _ => none
  | k + 1, x45, x494000, x494001, x494002, x494003 => if x45 = true then (some false) else (binary_may.l0 k x494002 (x494002.length : Int) 0 x494000 x494001 x494002 x494003)
def binary_may.l0 : Nat → List Int → Int → Int → Int → Int → List Int → List Int → Option (Bool)
  | 0, _, _, _, _, _, _, _ => none
  | k + 1, x47, x48, x49, x494000, x494001, x494002, x494003 => if x49 < x48 then (if 0 ≤ x49 then (if x49 < (x47.length : Int) then (if (rd x47 x49) = 0 then (some false) else (if (rd x47 x49) < (-1048576) then (some false) else (if (rd x47 x49) > 1048576 then (some false) else (binary_may.l0 k x47 x48 (wrap64 (x49 + 1)) x494000 x494001 x494002 x494003)))) else (none)) else (none)) else (binary_may.l1 k x494003 (x494003.length : Int) 0 x494000 x494001 x494002 x494003)
def binary_may.l1 : Nat → List Int → Int → Int → Int → Int → List Int → List Int → Option (Bool)
  | 0, _, _, _, _, _, _, _ => none
  | k + 1, x65, x66, x67, x494000, x494001, x494002, x494003 => if x67 < x66 then (if 0 ≤ x67 then (if x67 < (x65.length : Int) then (if (rd x65 x67) = 0 then (some false) else (if (rd x65 x67) < (-4611686018427387903) then (some false) else (if (rd x65 x67) > 4611686018427387903 then (some false) else (if (rd x65 x67) < 0 then (if x494000 = 2 then (some false) else (binary_may.l1 k x65 x66 (wrap64 (x67 + 1)) x494000 x494001 x494002 x494003)) else (binary_may.l1 k x65 x66 (wrap64 (x67 + 1)) x494000 x494001 x494002 x494003))))) else (none)) else (none)) else (some true)
end
def binary_may.f (k : Nat) (a0_0 : Int) (a0_1 : Int) (l0_2 : List Int) (l0_3 : List Int) : Option (Bool) := if a0_1 > 4611686018427387903 then (binary_may.j0 k true a0_0 a0_1 l0_2 l0_3) else (if a0_0 = 1 then (if a0_1 < 1 then (binary_may.j0 k true a0_0 a0_1 l0_2 l0_3) else (if a0_0 = 2 then (if a0_1 < 0 then (binary_may.j0 k true a0_0 a0_1 l0_2 l0_3) else (if (l0_2.length : Int) > 0 then (binary_may.j0 k true a0_0 a0_1 l0_2 l0_3) else (binary_may.j0 k false a0_0 a0_1 l0_2 l0_3))) else (binary_may.j0 k false a0_0 a0_1 l0_2 l0_3))) else (if a0_0 = 2 then (if a0_1 < 0 then (binary_may.j0 k true a0_0 a0_1 l0_2 l0_3) else (if (l0_2.length : Int) > 0 then (binary_may.j0 k true a0_0 a0_1 l0_2 l0_3) else (binary_may.j0 k (a0_0 != 2) a0_0 a0_1 l0_2 l0_3))) else (binary_may.j0 k (a0_0 != 2) a0_0 a0_1 l0_2 l0_3)))
theorem binary_may.mono_l : ∀ k, (∀ y0 y1 y2 y3 y4, LeO (binary_may.j0 k y0 y1 y2 y3 y4) (binary_may.j0 (k + 1) y0 y1 y2 y3 y4)) ∧ (∀ y0 y1 y2 y3 y4 y5 y6, LeO (binary_may.l0 k y0 y1 y2 y3 y4 y5 y6) (binary_may.l0 (k + 1) y0 y1 y2 y3 y4 y5 y6)) ∧ (∀ y0 y1 y2 y3 y4 y5 y6, LeO (binary_may.l1 k y0 y1 y2 y3 y4 y5 y6) (binary_may.l1 (k + 1) y0 y1 y2 y3 y4 y5 y6))
  | 0 => ⟨fun _ _ _ _ _ r h => by simp [binary_may.j0] at h, fun _ _ _ _ _ _ _ r h => by simp [binary_may.l0] at h, fun _ _ _ _ _ _ _ r h => by simp [binary_may.l1] at h⟩
  | k + 1 => by
    obtain ⟨ih0, ih1, ih2⟩ := binary_may.mono_l k
    refine ⟨?_, ?_, ?_⟩
    · intro y0 y1 y2 y3 y4
      unfold binary_may.j0
      repeat' first
      | (with_reducible exact ih0 _ _ _ _ _)
      | (with_reducible exact ih1 _ _ _ _ _ _ _)
      | (with_reducible exact ih2 _ _ _ _ _ _ _)
      | (with_reducible exact LeO.refl _)
      | (with_reducible exact LeO.none _)
      | (with_reducible refine LeO.ite ?_ ?_)
      | (with_reducible refine LeO.bind ?_ (fun _ => ?_))
      | exact ih0 _ _ _ _ _
      | exact ih1 _ _ _ _ _ _ _
      | exact ih2 _ _ _ _ _ _ _
      | exact LeO.none _
      | refine LeO.ite ?_ ?_
      | refine LeO.bind ?_ (fun _ => ?_)
    · intro y0 y1 y2 y3 y4 y5 y6
      unfold binary_may.l0
      repeat' first
      | (with_reducible exact ih0 _ _ _ _ _)
      | (with_reducible exact ih1 _ _ _ _ _ _ _)
      | (with_reducible exact ih2 _ _ _ _ _ _ _)
      | (with_reducible exact LeO.refl _)
      | (with_reducible exact LeO.none _)
      | (with_reducible refine LeO.ite ?_ ?_)
      | (with_reducible refine LeO.bind ?_ (fun _ => ?_))
      | exact ih0 _ _ _ _ _
      | exact ih1 _ _ _ _ _ _ _
      | exact ih2 _ _ _ _ _ _ _
      | exact LeO.none _
      | refine LeO.ite ?_ ?_
      | refine LeO.bind ?_ (fun _ => ?_)
    · intro y0 y1 y2 y3 y4 y5 y6
      unfold binary_may.l1
      repeat' first
      | (with_reducible exact ih0 _ _ _ _ _)
      | (with_reducible exact ih1 _ _ _ _ _ _ _)
      | (with_reducible exact ih2 _ _ _ _ _ _ _)
      | (with_reducible exact LeO.refl _)
      | (with_reducible exact LeO.none _)
      | (with_reducible refine LeO.ite ?_ ?_)
      | (with_reducible refine LeO.bind ?_ (fun _ => ?_))
      | exact ih0 _ _ _ _ _
      | exact ih1 _ _ _ _ _ _ _
      | exact ih2 _ _ _ _ _ _ _
      | exact LeO.none _
      | refine LeO.ite ?_ ?_
      | refine LeO.bind ?_ (fun _ => ?_)
theorem binary_may.mono : ∀ a0 a1 a2 a3 k, LeO (binary_may.f k a0 a1 a2 a3) (binary_may.f (k + 1) a0 a1 a2 a3) := by
  intro a0 a1 a2 a3 k
  obtain ⟨ih0, ih1, ih2⟩ := binary_may.mono_l k
  unfold binary_may.f
  repeat' first
      | (with_reducible exact ih0 _ _ _ _ _)
      | (with_reducible exact ih1 _ _ _ _ _ _ _)
      | (with_reducible exact ih2 _ _ _ _ _ _ _)
      | (with_reducible exact LeO.refl _)
      | (with_reducible exact LeO.none _)
      | (with_reducible refine LeO.ite ?_ ?_)
      | (with_reducible refine LeO.bind ?_ (fun _ => ?_))
      | exact ih0 _ _ _ _ _
      | exact ih1 _ _ _ _ _ _ _
      | exact ih2 _ _ _ _ _ _ _
      | exact LeO.none _
      | refine LeO.ite ?_ ?_
      | refine LeO.bind ?_ (fun _ => ?_)
set_option maxHeartbeats 8000000 in
set_option maxRecDepth 100000 in
theorem binary_may.calls (k : Nat) (a0_0 : Int) (a0_1 : Int) (A0_2 : Option Addr) (c0_2 : Nat) (l0_2 : List Int) (A0_3 : Option Addr) (c0_3 : Nat) (l0_3 : List Int) (r : Bool) (w : World) (hr0_2 : Kd.C (Kd.int .i32) w A0_2 l0_2.length l0_2) (hc0_2 : l0_2.length ≤ c0_2) (hr0_3 : Kd.C (Kd.int .i64) w A0_3 l0_3.length l0_3) (hc0_3 : l0_3.length ≤ c0_3) (h : binary_may.f k a0_0 a0_1 l0_2 l0_3 = some r) :
    Calls Tryd.prog 10 #[.agg #[.int .u8 a0_0, .int .i64 a0_1, .slice A0_2 l0_2.length c0_2, .slice A0_3 l0_3.length c0_3]] w fun e w' => e = .returned (.bool r) ∧ Below w.heap.size w w' := by
  have hu43 := Tryd.underlying39
  have HR0_2 := Aside0.mk hr0_2
  have HC0_2 := Aside0.mk hc0_2
  clear hr0_2 hc0_2
  have HR0_3 := Aside0.mk hr0_3
  have HC0_3 := Aside0.mk hc0_3
  clear hr0_3 hc0_3
  have HB := Aside0.mk (Below.refl w.heap.size w)
  have H : (if a0_1 > 4611686018427387903 then (binary_may.j0 k true a0_0 a0_1 l0_2 l0_3) else (if a0_0 = 1 then (if a0_1 < 1 then (binary_may.j0 k true a0_0 a0_1 l0_2 l0_3) else (if a0_0 = 2 then (if a0_1 < 0 then (binary_may.j0 k true a0_0 a0_1 l0_2 l0_3) else (if (l0_2.length : Int) > 0 then (binary_may.j0 k true a0_0 a0_1 l0_2 l0_3) else (binary_may.j0 k false a0_0 a0_1 l0_2 l0_3))) else (binary_may.j0 k false a0_0 a0_1 l0_2 l0_3))) else (if a0_0 = 2 then (if a0_1 < 0 then (binary_may.j0 k true a0_0 a0_1 l0_2 l0_3) else (if (l0_2.length : Int) > 0 then (binary_may.j0 k true a0_0 a0_1 l0_2 l0_3) else (binary_may.j0 k (a0_0 != 2) a0_0 a0_1 l0_2 l0_3))) else (binary_may.j0 k (a0_0 != 2) a0_0 a0_1 l0_2 l0_3)))) = some r := h
  clear h
  have HC2 := Aside0.mk H
  clear H
  go_enter Tryd.func10, Tryd.ntmps10
  go_upto_region 1 with (first | ((with_reducible refine gate_dst (N := 1) rfl ?_); (try (refine gate_guard (by rfl) ?_; dsimp only)); refine box_event ?hg (N := 1) ?hd (cs := #[.int .u8 a0_0, .int .i64 a0_1, .slice A0_2 l0_2.length c0_2, .slice A0_3 l0_3.length c0_3]) (t := 39) ?hr ?_; (case hd => rfl); (case hg => rfl); (case hr => first | (go_simp; done) | (go_simp; rfl)); intro gb493 hg w3 hbox hb; have n0_ := Aside0.mk (below_step (by repeat (first | (with_reducible first | exact HB.out | apply below_alloc | apply pw_below_drewN | apply below_drew1) | exact HB.out)) hb); have n1_ := Aside0.mk (hbox); have n2_ := Aside0.mk ((by rw [hg]; exact (below_size (by repeat (first | (with_reducible first | exact HB.out | apply below_alloc | apply pw_below_drewN | apply below_drew1) | exact HB.out))) : w.heap.size ≤ gb493)); have n3_ := Aside0.mk ((by rw [hg]; exact (below_size (by repeat (first | (with_reducible first | exact HB.out | apply below_alloc | apply pw_below_drewN | apply below_drew1) | exact HB.out))) : w.heap.size ≤ gb493)); clear HB; have HB := n0_; have BK493 := n1_; have GW493 := n2_; have GE493 := n3_; clear n0_ n1_ n2_ n3_; clear hb hbox hg))
  (try simp only [Act.put, List.setIfInBounds_toArray, List.set_cons_zero, List.set_cons_succ])
  go_cut [45] (fun v45 wc => ∃ (kq : Nat) (x45_1 : Bool), v45 = .bool x45_1 ∧ Aside0 (binary_may.j0 kq x45_1 a0_0 a0_1 l0_2 l0_3 = some r) ∧ Aside0 (kq ≤ k) ∧ Aside0 (wc.heap[gb493]? = some (.cells #[.int .u8 a0_0, .int .i64 a0_1, (.slice A0_2 l0_2.length c0_2), (.slice A0_3 l0_3.length c0_3)] 39 (0, 0))) ∧ Aside0 (Below w.heap.size w wc))
  case first =>
    have H := HC2.out
    clear HC2
    by_cases c4 : a0_1 > 4611686018427387903
    · rw [if_pos c4] at H
      have c4b0 : decide (4611686018427387903 < a0_1) = true := decide_eq_true c4
      clear c4
      (first | rw [c4b0] | (simp only [i64_w, i32_w]; rw [c4b0]) | skip)
      have H' := Aside0.mk H
      clear H
      have hcz5_0 : w3.cell? ⟨gb493, 0, none⟩ = some (.int .u8 a0_0) := (blk_cell BK493.out 0).trans rfl
      have hcz5_1 : w3.cell? ⟨gb493, 1, none⟩ = some (.int .i64 a0_1) := (blk_cell BK493.out 1).trans rfl
      have hcz5_2 : w3.cell? ⟨gb493, 2, none⟩ = some (.slice A0_2 l0_2.length c0_2) := (blk_cell BK493.out 2).trans rfl
      have hcz5_3 : w3.cell? ⟨gb493, 3, none⟩ = some (.slice A0_3 l0_3.length c0_3) := (blk_cell BK493.out 3).trans rfl
      have hfz5_0 := blk_frozen BK493.out 0
      have hfz5_1 := blk_frozen BK493.out 1
      have hfz5_2 := blk_frozen BK493.out 2
      have hfz5_3 := blk_frozen BK493.out 3
      go_wp2
      go_meet
      case rel => exact ⟨_, (true), (by first | rfl | (simp; done) | (simp [*]; done)), H', ⟨by first | omega | exact Nat.le_refl _⟩, ⟨by (with_reducible repeat (first | refine blk_drewN ?_ _ | refine blk_drew ?_ | refine blk_alloc ?_ _)); exact BK493.out⟩, ⟨by repeat (first | (with_reducible first | exact HB.out | apply below_alloc | apply pw_below_drewN | apply below_drew1 | refine below_set ?_ GE493.out) | exact HB.out)⟩⟩
    · rw [if_neg c4] at H
      have c4b0 : decide (4611686018427387903 < a0_1) = false := decide_eq_false c4
      clear c4
      (first | rw [c4b0] | (simp only [i64_w, i32_w]; rw [c4b0]) | skip)
      by_cases c6 : a0_0 = 1
      · rw [if_pos c6] at H
        have c6b0 : (a0_0 == 1) = true := beq_iff_eq.mpr c6
        have c6b1 : (a0_0 != 1) = false := bne_eq_false_iff_eq.mpr c6
        clear c6
        by_cases c7 : a0_1 < 1
        · rw [if_pos c7] at H
          have c7b0 : decide (a0_1 < 1) = true := decide_eq_true c7
          clear c7
          have H' := Aside0.mk H
          clear H
          have hcz8_0 : w3.cell? ⟨gb493, 0, none⟩ = some (.int .u8 a0_0) := (blk_cell BK493.out 0).trans rfl
          have hcz8_1 : w3.cell? ⟨gb493, 1, none⟩ = some (.int .i64 a0_1) := (blk_cell BK493.out 1).trans rfl
          have hcz8_2 : w3.cell? ⟨gb493, 2, none⟩ = some (.slice A0_2 l0_2.length c0_2) := (blk_cell BK493.out 2).trans rfl
          have hcz8_3 : w3.cell? ⟨gb493, 3, none⟩ = some (.slice A0_3 l0_3.length c0_3) := (blk_cell BK493.out 3).trans rfl
          have hfz8_0 := blk_frozen BK493.out 0
          have hfz8_1 := blk_frozen BK493.out 1
          have hfz8_2 := blk_frozen BK493.out 2
          have hfz8_3 := blk_frozen BK493.out 3
          go_wp2
          go_meet
          case rel => exact ⟨_, (true), (by first | rfl | (simp; done) | (simp [*]; done)), H', ⟨by first | omega | exact Nat.le_refl _⟩, ⟨by (with_reducible repeat (first | refine blk_drewN ?_ _ | refine blk_drew ?_ | refine blk_alloc ?_ _)); exact BK493.out⟩, ⟨by repeat (first | (with_reducible first | exact HB.out | apply below_alloc | apply pw_below_drewN | apply below_drew1 | refine below_set ?_ GE493.out) | exact HB.out)⟩⟩
        · rw [if_neg c7] at H
          have c7b0 : decide (a0_1 < 1) = false := decide_eq_false c7
          clear c7
          by_cases c9 : a0_0 = 2
          · rw [if_pos c9] at H
            have c9b0 : (a0_0 == 2) = true := beq_iff_eq.mpr c9
            have c9b1 : (a0_0 != 2) = false := bne_eq_false_iff_eq.mpr c9
            clear c9
            by_cases c10 : a0_1 < 0
            · rw [if_pos c10] at H
              have c10b0 : decide (a0_1 < 0) = true := decide_eq_true c10
              clear c10
              have H' := Aside0.mk H
              clear H
              have hcz11_0 : w3.cell? ⟨gb493, 0, none⟩ = some (.int .u8 a0_0) := (blk_cell BK493.out 0).trans rfl
              have hcz11_1 : w3.cell? ⟨gb493, 1, none⟩ = some (.int .i64 a0_1) := (blk_cell BK493.out 1).trans rfl
              have hcz11_2 : w3.cell? ⟨gb493, 2, none⟩ = some (.slice A0_2 l0_2.length c0_2) := (blk_cell BK493.out 2).trans rfl
              have hcz11_3 : w3.cell? ⟨gb493, 3, none⟩ = some (.slice A0_3 l0_3.length c0_3) := (blk_cell BK493.out 3).trans rfl
              have hfz11_0 := blk_frozen BK493.out 0
              have hfz11_1 := blk_frozen BK493.out 1
              have hfz11_2 := blk_frozen BK493.out 2
              have hfz11_3 := blk_frozen BK493.out 3
              go_wp2
              go_meet
              case rel => exact ⟨_, (true), (by first | rfl | (simp; done) | (simp [*]; done)), H', ⟨by first | omega | exact Nat.le_refl _⟩, ⟨by (with_reducible repeat (first | refine blk_drewN ?_ _ | refine blk_drew ?_ | refine blk_alloc ?_ _)); exact BK493.out⟩, ⟨by repeat (first | (with_reducible first | exact HB.out | apply below_alloc | apply pw_below_drewN | apply below_drew1 | refine below_set ?_ GE493.out) | exact HB.out)⟩⟩
            · rw [if_neg c10] at H
              have c10b0 : decide (a0_1 < 0) = false := decide_eq_false c10
              clear c10
              by_cases c12 : (l0_2.length : Int) > 0
              · rw [if_pos c12] at H
                have c12b0 : decide (0 < (l0_2.length : Int)) = true := decide_eq_true c12
                have c12b1 : decide (0 < l0_2.length) = true := decide_eq_true (by omega)
                clear c12
                have H' := Aside0.mk H
                clear H
                have hcz13_0 : w3.cell? ⟨gb493, 0, none⟩ = some (.int .u8 a0_0) := (blk_cell BK493.out 0).trans rfl
                have hcz13_1 : w3.cell? ⟨gb493, 1, none⟩ = some (.int .i64 a0_1) := (blk_cell BK493.out 1).trans rfl
                have hcz13_2 : w3.cell? ⟨gb493, 2, none⟩ = some (.slice A0_2 l0_2.length c0_2) := (blk_cell BK493.out 2).trans rfl
                have hcz13_3 : w3.cell? ⟨gb493, 3, none⟩ = some (.slice A0_3 l0_3.length c0_3) := (blk_cell BK493.out 3).trans rfl
                have hfz13_0 := blk_frozen BK493.out 0
                have hfz13_1 := blk_frozen BK493.out 1
                have hfz13_2 := blk_frozen BK493.out 2
                have hfz13_3 := blk_frozen BK493.out 3
                go_wp2
                go_meet
                case rel => exact ⟨_, (true), (by first | rfl | (simp; done) | (simp [*]; done)), H', ⟨by first | omega | exact Nat.le_refl _⟩, ⟨by (with_reducible repeat (first | refine blk_drewN ?_ _ | refine blk_drew ?_ | refine blk_alloc ?_ _)); exact BK493.out⟩, ⟨by repeat (first | (with_reducible first | exact HB.out | apply below_alloc | apply pw_below_drewN | apply below_drew1 | refine below_set ?_ GE493.out) | exact HB.out)⟩⟩
              · rw [if_neg c12] at H
                have c12b0 : decide (0 < (l0_2.length : Int)) = false := decide_eq_false c12
                have c12b1 : decide (0 < l0_2.length) = false := decide_eq_false (by omega)
                clear c12
                have H' := Aside0.mk H
                clear H
                have hcz14_0 : w3.cell? ⟨gb493, 0, none⟩ = some (.int .u8 a0_0) := (blk_cell BK493.out 0).trans rfl
                have hcz14_1 : w3.cell? ⟨gb493, 1, none⟩ = some (.int .i64 a0_1) := (blk_cell BK493.out 1).trans rfl
                have hcz14_2 : w3.cell? ⟨gb493, 2, none⟩ = some (.slice A0_2 l0_2.length c0_2) := (blk_cell BK493.out 2).trans rfl
                have hcz14_3 : w3.cell? ⟨gb493, 3, none⟩ = some (.slice A0_3 l0_3.length c0_3) := (blk_cell BK493.out 3).trans rfl
                have hfz14_0 := blk_frozen BK493.out 0
                have hfz14_1 := blk_frozen BK493.out 1
                have hfz14_2 := blk_frozen BK493.out 2
                have hfz14_3 := blk_frozen BK493.out 3
                go_wp2
                go_meet
                case rel => exact ⟨_, (false), (by first | rfl | (simp; done) | (simp [*]; done)), H', ⟨by first | omega | exact Nat.le_refl _⟩, ⟨by (with_reducible repeat (first | refine blk_drewN ?_ _ | refine blk_drew ?_ | refine blk_alloc ?_ _)); exact BK493.out⟩, ⟨by repeat (first | (with_reducible first | exact HB.out | apply below_alloc | apply pw_below_drewN | apply below_drew1 | refine below_set ?_ GE493.out) | exact HB.out)⟩⟩
          · rw [if_neg c9] at H
            have c9b0 : (a0_0 == 2) = false := beq_eq_false_iff_ne.mpr c9
            have c9b1 : (a0_0 != 2) = true := bne_iff_ne.mpr c9
            have H' := Aside0.mk H
            clear H
            have hcz15_0 : w3.cell? ⟨gb493, 0, none⟩ = some (.int .u8 a0_0) := (blk_cell BK493.out 0).trans rfl
            have hcz15_1 : w3.cell? ⟨gb493, 1, none⟩ = some (.int .i64 a0_1) := (blk_cell BK493.out 1).trans rfl
            have hcz15_2 : w3.cell? ⟨gb493, 2, none⟩ = some (.slice A0_2 l0_2.length c0_2) := (blk_cell BK493.out 2).trans rfl
            have hcz15_3 : w3.cell? ⟨gb493, 3, none⟩ = some (.slice A0_3 l0_3.length c0_3) := (blk_cell BK493.out 3).trans rfl
            have hfz15_0 := blk_frozen BK493.out 0
            have hfz15_1 := blk_frozen BK493.out 1
            have hfz15_2 := blk_frozen BK493.out 2
            have hfz15_3 := blk_frozen BK493.out 3
            go_wp2
            go_meet
            case rel => exact ⟨_, (false), (by first | rfl | (simp; done) | (simp [*]; done)), H', ⟨by first | omega | exact Nat.le_refl _⟩, ⟨by (with_reducible repeat (first | refine blk_drewN ?_ _ | refine blk_drew ?_ | refine blk_alloc ?_ _)); exact BK493.out⟩, ⟨by repeat (first | (with_reducible first | exact HB.out | apply below_alloc | apply pw_below_drewN | apply below_drew1 | refine below_set ?_ GE493.out) | exact HB.out)⟩⟩
      · rw [if_neg c6] at H
        have c6b0 : (a0_0 == 1) = false := beq_eq_false_iff_ne.mpr c6
        have c6b1 : (a0_0 != 1) = true := bne_iff_ne.mpr c6
        by_cases c16 : a0_0 = 2
        · rw [if_pos c16] at H
          have c16b0 : (a0_0 == 2) = true := beq_iff_eq.mpr c16
          have c16b1 : (a0_0 != 2) = false := bne_eq_false_iff_eq.mpr c16
          clear c16
          by_cases c17 : a0_1 < 0
          · rw [if_pos c17] at H
            have c17b0 : decide (a0_1 < 0) = true := decide_eq_true c17
            clear c17
            have H' := Aside0.mk H
            clear H
            have hcz18_0 : w3.cell? ⟨gb493, 0, none⟩ = some (.int .u8 a0_0) := (blk_cell BK493.out 0).trans rfl
            have hcz18_1 : w3.cell? ⟨gb493, 1, none⟩ = some (.int .i64 a0_1) := (blk_cell BK493.out 1).trans rfl
            have hcz18_2 : w3.cell? ⟨gb493, 2, none⟩ = some (.slice A0_2 l0_2.length c0_2) := (blk_cell BK493.out 2).trans rfl
            have hcz18_3 : w3.cell? ⟨gb493, 3, none⟩ = some (.slice A0_3 l0_3.length c0_3) := (blk_cell BK493.out 3).trans rfl
            have hfz18_0 := blk_frozen BK493.out 0
            have hfz18_1 := blk_frozen BK493.out 1
            have hfz18_2 := blk_frozen BK493.out 2
            have hfz18_3 := blk_frozen BK493.out 3
            go_wp2
            go_meet
            case rel => exact ⟨_, (true), (by first | rfl | (simp; done) | (simp [*]; done)), H', ⟨by first | omega | exact Nat.le_refl _⟩, ⟨by (with_reducible repeat (first | refine blk_drewN ?_ _ | refine blk_drew ?_ | refine blk_alloc ?_ _)); exact BK493.out⟩, ⟨by repeat (first | (with_reducible first | exact HB.out | apply below_alloc | apply pw_below_drewN | apply below_drew1 | refine below_set ?_ GE493.out) | exact HB.out)⟩⟩
          · rw [if_neg c17] at H
            have c17b0 : decide (a0_1 < 0) = false := decide_eq_false c17
            clear c17
            by_cases c19 : (l0_2.length : Int) > 0
            · rw [if_pos c19] at H
              have c19b0 : decide (0 < (l0_2.length : Int)) = true := decide_eq_true c19
              have c19b1 : decide (0 < l0_2.length) = true := decide_eq_true (by omega)
              clear c19
              have H' := Aside0.mk H
              clear H
              have hcz20_0 : w3.cell? ⟨gb493, 0, none⟩ = some (.int .u8 a0_0) := (blk_cell BK493.out 0).trans rfl
              have hcz20_1 : w3.cell? ⟨gb493, 1, none⟩ = some (.int .i64 a0_1) := (blk_cell BK493.out 1).trans rfl
              have hcz20_2 : w3.cell? ⟨gb493, 2, none⟩ = some (.slice A0_2 l0_2.length c0_2) := (blk_cell BK493.out 2).trans rfl
              have hcz20_3 : w3.cell? ⟨gb493, 3, none⟩ = some (.slice A0_3 l0_3.length c0_3) := (blk_cell BK493.out 3).trans rfl
              have hfz20_0 := blk_frozen BK493.out 0
              have hfz20_1 := blk_frozen BK493.out 1
              have hfz20_2 := blk_frozen BK493.out 2
              have hfz20_3 := blk_frozen BK493.out 3
              go_wp2
              go_meet
              case rel => exact ⟨_, (true), (by first | rfl | (simp; done) | (simp [*]; done)), H', ⟨by first | omega | exact Nat.le_refl _⟩, ⟨by (with_reducible repeat (first | refine blk_drewN ?_ _ | refine blk_drew ?_ | refine blk_alloc ?_ _)); exact BK493.out⟩, ⟨by repeat (first | (with_reducible first | exact HB.out | apply below_alloc | apply pw_below_drewN | apply below_drew1 | refine below_set ?_ GE493.out) | exact HB.out)⟩⟩
            · rw [if_neg c19] at H
              have c19b0 : decide (0 < (l0_2.length : Int)) = false := decide_eq_false c19
              have c19b1 : decide (0 < l0_2.length) = false := decide_eq_false (by omega)
              clear c19
              have H' := Aside0.mk H
              clear H
              have hcz21_0 : w3.cell? ⟨gb493, 0, none⟩ = some (.int .u8 a0_0) := (blk_cell BK493.out 0).trans rfl
              have hcz21_1 : w3.cell? ⟨gb493, 1, none⟩ = some (.int .i64 a0_1) := (blk_cell BK493.out 1).trans rfl
              have hcz21_2 : w3.cell? ⟨gb493, 2, none⟩ = some (.slice A0_2 l0_2.length c0_2) := (blk_cell BK493.out 2).trans rfl
              have hcz21_3 : w3.cell? ⟨gb493, 3, none⟩ = some (.slice A0_3 l0_3.length c0_3) := (blk_cell BK493.out 3).trans rfl
              have hfz21_0 := blk_frozen BK493.out 0
              have hfz21_1 := blk_frozen BK493.out 1
              have hfz21_2 := blk_frozen BK493.out 2
              have hfz21_3 := blk_frozen BK493.out 3
              go_wp2
              go_meet
              case rel => exact ⟨_, ((a0_0 != 2)), (by first | rfl | (simp; done) | (simp [*]; done)), H', ⟨by first | omega | exact Nat.le_refl _⟩, ⟨by (with_reducible repeat (first | refine blk_drewN ?_ _ | refine blk_drew ?_ | refine blk_alloc ?_ _)); exact BK493.out⟩, ⟨by repeat (first | (with_reducible first | exact HB.out | apply below_alloc | apply pw_below_drewN | apply below_drew1 | refine below_set ?_ GE493.out) | exact HB.out)⟩⟩
        · rw [if_neg c16] at H
          have c16b0 : (a0_0 == 2) = false := beq_eq_false_iff_ne.mpr c16
          have c16b1 : (a0_0 != 2) = true := bne_iff_ne.mpr c16
          have H' := Aside0.mk H
          clear H
          have hcz22_0 : w3.cell? ⟨gb493, 0, none⟩ = some (.int .u8 a0_0) := (blk_cell BK493.out 0).trans rfl
          have hcz22_1 : w3.cell? ⟨gb493, 1, none⟩ = some (.int .i64 a0_1) := (blk_cell BK493.out 1).trans rfl
          have hcz22_2 : w3.cell? ⟨gb493, 2, none⟩ = some (.slice A0_2 l0_2.length c0_2) := (blk_cell BK493.out 2).trans rfl
          have hcz22_3 : w3.cell? ⟨gb493, 3, none⟩ = some (.slice A0_3 l0_3.length c0_3) := (blk_cell BK493.out 3).trans rfl
          have hfz22_0 := blk_frozen BK493.out 0
          have hfz22_1 := blk_frozen BK493.out 1
          have hfz22_2 := blk_frozen BK493.out 2
          have hfz22_3 := blk_frozen BK493.out 3
          go_wp2
          go_meet
          case rel => exact ⟨_, ((a0_0 != 2)), (by first | rfl | (simp; done) | (simp [*]; done)), H', ⟨by first | omega | exact Nat.le_refl _⟩, ⟨by (with_reducible repeat (first | refine blk_drewN ?_ _ | refine blk_drew ?_ | refine blk_alloc ?_ _)); exact BK493.out⟩, ⟨by repeat (first | (with_reducible first | exact HB.out | apply below_alloc | apply pw_below_drewN | apply below_drew1 | refine below_set ?_ GE493.out) | exact HB.out)⟩⟩
  case rest =>
    clear HC2
    try clear c1
    try clear p2
    try clear c4
    try clear c4b0
    try clear c6
    try clear c6b0
    try clear c6b1
    try clear c7
    try clear c7b0
    try clear c9
    try clear c9b0
    try clear c9b1
    try clear c10
    try clear c10b0
    try clear c12
    try clear c12b0
    try clear c12b1
    try clear c16
    try clear c16b0
    try clear c16b1
    try clear c17
    try clear c17b0
    try clear c19
    try clear c19b0
    try clear c19b1
    try clear hcz11_0
    try clear hcz11_1
    try clear hcz11_2
    try clear hcz11_3
    try clear hcz13_0
    try clear hcz13_1
    try clear hcz13_2
    try clear hcz13_3
    try clear hcz14_0
    try clear hcz14_1
    try clear hcz14_2
    try clear hcz14_3
    try clear hcz15_0
    try clear hcz15_1
    try clear hcz15_2
    try clear hcz15_3
    try clear hcz18_0
    try clear hcz18_1
    try clear hcz18_2
    try clear hcz18_3
    try clear hcz20_0
    try clear hcz20_1
    try clear hcz20_2
    try clear hcz20_3
    try clear hcz21_0
    try clear hcz21_1
    try clear hcz21_2
    try clear hcz21_3
    try clear hcz22_0
    try clear hcz22_1
    try clear hcz22_2
    try clear hcz22_3
    try clear hcz5_0
    try clear hcz5_1
    try clear hcz5_2
    try clear hcz5_3
    try clear hcz8_0
    try clear hcz8_1
    try clear hcz8_2
    try clear hcz8_3
    try clear hfz11_0
    try clear hfz11_1
    try clear hfz11_2
    try clear hfz11_3
    try clear hfz13_0
    try clear hfz13_1
    try clear hfz13_2
    try clear hfz13_3
    try clear hfz14_0
    try clear hfz14_1
    try clear hfz14_2
    try clear hfz14_3
    try clear hfz15_0
    try clear hfz15_1
    try clear hfz15_2
    try clear hfz15_3
    try clear hfz18_0
    try clear hfz18_1
    try clear hfz18_2
    try clear hfz18_3
    try clear hfz20_0
    try clear hfz20_1
    try clear hfz20_2
    try clear hfz20_3
    try clear hfz21_0
    try clear hfz21_1
    try clear hfz21_2
    try clear hfz21_3
    try clear hfz22_0
    try clear hfz22_1
    try clear hfz22_2
    try clear hfz22_3
    try clear hfz5_0
    try clear hfz5_1
    try clear hfz5_2
    try clear hfz5_3
    try clear hfz8_0
    try clear hfz8_1
    try clear hfz8_2
    try clear hfz8_3
    obtain ⟨kq, x45_1, rfl, HA, HJ1, BK493, HB⟩ := hcut
    cases kq with
    | zero => exact absurd HA.out (by simp [binary_may.j0])
    | succ kj1 =>
      have H := HA.out
      clear HA
      simp only [binary_may.j0] at H
      by_cases c23 : x45_1 = true
      · subst c23
        have H1 : (some false) = some r := by rw [if_pos rfl] at H; exact H
        clear H
        have H := H1
        clear H1
        obtain rfl := Option.some.inj H
        go_wp2
        go_ret
        exact ⟨by first | rfl | (simp [errW_none, errW_some] <;> rfl) | (simp [*, errW_none, errW_some] <;> rfl), by repeat (first | (with_reducible first | exact HB.out | apply below_alloc | apply pw_below_drewN | apply below_drew1 | refine below_set ?_ GE493.out) | exact HB.out)⟩
      · replace c23 := Bool.eq_false_iff.mpr c23
        subst c23
        have H1 : (binary_may.l0 kj1 l0_2 (l0_2.length : Int) 0 a0_0 a0_1 l0_2 l0_3) = some r := by rw [if_neg (show ¬ (false = true) by decide)] at H; exact H
        clear H
        have H := H1
        clear H1
        have H' := Aside0.mk H
        clear H
        have hcz24_0 : wc.cell? ⟨gb493, 0, none⟩ = some (.int .u8 a0_0) := (blk_cell BK493.out 0).trans rfl
        have hcz24_1 : wc.cell? ⟨gb493, 1, none⟩ = some (.int .i64 a0_1) := (blk_cell BK493.out 1).trans rfl
        have hcz24_2 : wc.cell? ⟨gb493, 2, none⟩ = some (.slice A0_2 l0_2.length c0_2) := (blk_cell BK493.out 2).trans rfl
        have hcz24_3 : wc.cell? ⟨gb493, 3, none⟩ = some (.slice A0_3 l0_3.length c0_3) := (blk_cell BK493.out 3).trans rfl
        have hfz24_0 := blk_frozen BK493.out 0
        have hfz24_1 := blk_frozen BK493.out 1
        have hfz24_2 := blk_frozen BK493.out 2
        have hfz24_3 := blk_frozen BK493.out 3
        go_wp2
        go_loopg [49] kj1 (fun kq v49 w' => ∃ (x49_2 : Int), v49 = .int .i64 x49_2 ∧ Aside0 (binary_may.l0 kq l0_2 (l0_2.length : Int) x49_2 a0_0 a0_1 l0_2 l0_3 = some r) ∧ Aside0 (kq ≤ kj1) ∧ Aside0 (w'.heap[gb493]? = some (.cells #[.int .u8 a0_0, .int .i64 a0_1, (.slice A0_2 l0_2.length c0_2), (.slice A0_3 l0_3.length c0_3)] 39 (0, 0))) ∧ Aside0 (Below w.heap.size w w'))
        case atStart => exact ⟨(0), (by first | rfl | (simp; done) | (simp [*]; done)), H', ⟨Nat.le_refl _⟩, ⟨by (with_reducible repeat (first | refine blk_drewN ?_ _ | refine blk_drew ?_ | refine blk_alloc ?_ _)); exact BK493.out⟩, ⟨by repeat (first | (with_reducible first | exact HB.out | apply below_alloc | apply pw_below_drewN | apply below_drew1 | refine below_set ?_ GE493.out) | exact HB.out)⟩⟩
        case round =>
          clear H'
          try clear c1
          try clear c2
          try clear p2
          try clear c4
          try clear c4b0
          try clear c6
          try clear c6b0
          try clear c6b1
          try clear c7
          try clear c7b0
          try clear c9
          try clear c9b0
          try clear c9b1
          try clear c10
          try clear c10b0
          try clear c12
          try clear c12b0
          try clear c12b1
          try clear c16
          try clear c16b0
          try clear c16b1
          try clear c17
          try clear c17b0
          try clear c19
          try clear c19b0
          try clear c19b1
          try clear c23
          try clear hcz11_0
          try clear hcz11_1
          try clear hcz11_2
          try clear hcz11_3
          try clear hcz13_0
          try clear hcz13_1
          try clear hcz13_2
          try clear hcz13_3
          try clear hcz14_0
          try clear hcz14_1
          try clear hcz14_2
          try clear hcz14_3
          try clear hcz15_0
          try clear hcz15_1
          try clear hcz15_2
          try clear hcz15_3
          try clear hcz18_0
          try clear hcz18_1
          try clear hcz18_2
          try clear hcz18_3
          try clear hcz20_0
          try clear hcz20_1
          try clear hcz20_2
          try clear hcz20_3
          try clear hcz21_0
          try clear hcz21_1
          try clear hcz21_2
          try clear hcz21_3
          try clear hcz22_0
          try clear hcz22_1
          try clear hcz22_2
          try clear hcz22_3
          try clear hcz24_0
          try clear hcz24_1
          try clear hcz24_2
          try clear hcz24_3
          try clear hcz5_0
          try clear hcz5_1
          try clear hcz5_2
          try clear hcz5_3
          try clear hcz8_0
          try clear hcz8_1
          try clear hcz8_2
          try clear hcz8_3
          try clear hfz11_0
          try clear hfz11_1
          try clear hfz11_2
          try clear hfz11_3
          try clear hfz13_0
          try clear hfz13_1
          try clear hfz13_2
          try clear hfz13_3
          try clear hfz14_0
          try clear hfz14_1
          try clear hfz14_2
          try clear hfz14_3
          try clear hfz15_0
          try clear hfz15_1
          try clear hfz15_2
          try clear hfz15_3
          try clear hfz18_0
          try clear hfz18_1
          try clear hfz18_2
          try clear hfz18_3
          try clear hfz20_0
          try clear hfz20_1
          try clear hfz20_2
          try clear hfz20_3
          try clear hfz21_0
          try clear hfz21_1
          try clear hfz21_2
          try clear hfz21_3
          try clear hfz22_0
          try clear hfz22_1
          try clear hfz22_2
          try clear hfz22_3
          try clear hfz24_0
          try clear hfz24_1
          try clear hfz24_2
          try clear hfz24_3
          try clear hfz5_0
          try clear hfz5_1
          try clear hfz5_2
          try clear hfz5_3
          try clear hfz8_0
          try clear hfz8_1
          try clear hfz8_2
          try clear hfz8_3
          try clear p2
          obtain ⟨x49_2, rfl, HA, HK2, BK493, HB⟩ := hrel
          cases gk with
          | zero => exact absurd HA.out (by simp [binary_may.l0])
          | succ k2 =>
            have H := HA.out
            clear HA
            simp only [binary_may.l0] at H
            by_cases c25 : x49_2 < (l0_2.length : Int)
            · rw [if_pos c25] at H
              have c25b0 : decide (x49_2 < (l0_2.length : Int)) = true := decide_eq_true c25
              clear c25
              by_cases c26 : 0 ≤ x49_2
              · rw [if_pos c26] at H
                have c26b0 : decide (0 ≤ x49_2) = true := decide_eq_true c26
                clear c26
                by_cases c27 : x49_2 < (l0_2.length : Int)
                · rw [if_pos c27] at H
                  have c27b0 : decide (x49_2 < (l0_2.length : Int)) = true := decide_eq_true c27
                  clear c27
                  by_cases c28 : (rd l0_2 x49_2) = 0
                  · rw [if_pos c28] at H
                    have c28b0 : ((rd l0_2 x49_2) == 0) = true := beq_iff_eq.mpr c28
                    have c28b1 : ((rd l0_2 x49_2) != 0) = false := bne_eq_false_iff_eq.mpr c28
                    clear c28
                    obtain rfl := Option.some.inj H
                    have p494 : 0 ≤ (x49_2 : Int) := of_decide_eq_true (by first | (with_reducible assumption) | assumption)
                    have q494 : x49_2 < (l0_2.length : Int) := of_decide_eq_true (by first | (with_reducible assumption) | assumption)
                    obtain ⟨ad494, e494, hx494_0⟩ := Kd.at_int HR0_2.out x49_2 p494 q494
                    cases e494
                    replace hx494_0 := (HB.out.cell (World.block_lt_of_cell? w _ hx494_0)).trans hx494_0
                    replace p494 := eq_true p494
                    replace q494 := eq_true q494
                    go_wp2
                    go_ret
                    exact ⟨by first | rfl | (simp [errW_none, errW_some] <;> rfl) | (simp [*, errW_none, errW_some] <;> rfl), by repeat (first | (with_reducible first | exact HB.out | apply below_alloc | apply pw_below_drewN | apply below_drew1 | refine below_set ?_ GE493.out) | exact HB.out)⟩
                  · rw [if_neg c28] at H
                    have c28b0 : ((rd l0_2 x49_2) == 0) = false := beq_eq_false_iff_ne.mpr c28
                    have c28b1 : ((rd l0_2 x49_2) != 0) = true := bne_iff_ne.mpr c28
                    by_cases c29 : (rd l0_2 x49_2) < (-1048576)
                    · rw [if_pos c29] at H
                      have c29b0 : decide ((rd l0_2 x49_2) < (-1048576)) = true := decide_eq_true c29
                      clear c29
                      obtain rfl := Option.some.inj H
                      have p494 : 0 ≤ (x49_2 : Int) := of_decide_eq_true (by first | (with_reducible assumption) | assumption)
                      have q494 : x49_2 < (l0_2.length : Int) := of_decide_eq_true (by first | (with_reducible assumption) | assumption)
                      obtain ⟨ad494, e494, hx494_0⟩ := Kd.at_int HR0_2.out x49_2 p494 q494
                      cases e494
                      replace hx494_0 := (HB.out.cell (World.block_lt_of_cell? w _ hx494_0)).trans hx494_0
                      replace p494 := eq_true p494
                      replace q494 := eq_true q494
                      go_wp2
                      go_ret
                      exact ⟨by first | rfl | (simp [errW_none, errW_some] <;> rfl) | (simp [*, errW_none, errW_some] <;> rfl), by repeat (first | (with_reducible first | exact HB.out | apply below_alloc | apply pw_below_drewN | apply below_drew1 | refine below_set ?_ GE493.out) | exact HB.out)⟩
                    · rw [if_neg c29] at H
                      have c29b0 : decide ((rd l0_2 x49_2) < (-1048576)) = false := decide_eq_false c29
                      clear c29
                      by_cases c30 : (rd l0_2 x49_2) > 1048576
                      · rw [if_pos c30] at H
                        have c30b0 : decide (1048576 < (rd l0_2 x49_2)) = true := decide_eq_true c30
                        clear c30
                        obtain rfl := Option.some.inj H
                        have p494 : 0 ≤ (x49_2 : Int) := of_decide_eq_true (by first | (with_reducible assumption) | assumption)
                        have q494 : x49_2 < (l0_2.length : Int) := of_decide_eq_true (by first | (with_reducible assumption) | assumption)
                        obtain ⟨ad494, e494, hx494_0⟩ := Kd.at_int HR0_2.out x49_2 p494 q494
                        cases e494
                        replace hx494_0 := (HB.out.cell (World.block_lt_of_cell? w _ hx494_0)).trans hx494_0
                        replace p494 := eq_true p494
                        replace q494 := eq_true q494
                        go_wp2
                        go_ret
                        exact ⟨by first | rfl | (simp [errW_none, errW_some] <;> rfl) | (simp [*, errW_none, errW_some] <;> rfl), by repeat (first | (with_reducible first | exact HB.out | apply below_alloc | apply pw_below_drewN | apply below_drew1 | refine below_set ?_ GE493.out) | exact HB.out)⟩
                      · rw [if_neg c30] at H
                        have c30b0 : decide (1048576 < (rd l0_2 x49_2)) = false := decide_eq_false c30
                        clear c30
                        have H' := Aside0.mk H
                        clear H
                        have p494 : 0 ≤ (x49_2 : Int) := of_decide_eq_true (by first | (with_reducible assumption) | assumption)
                        have q494 : x49_2 < (l0_2.length : Int) := of_decide_eq_true (by first | (with_reducible assumption) | assumption)
                        obtain ⟨ad494, e494, hx494_0⟩ := Kd.at_int HR0_2.out x49_2 p494 q494
                        cases e494
                        replace hx494_0 := (HB.out.cell (World.block_lt_of_cell? w _ hx494_0)).trans hx494_0
                        replace p494 := eq_true p494
                        replace q494 := eq_true q494
                        go_wp2
                        go_roundg k2
                        case measure => have := HJ1.out; have := HK2.out; omega
                        case rel => exact ⟨(wrap64 (x49_2 + 1)), (by first | rfl | (simp; done) | (simp [*]; done)), H', ⟨by have := HJ1.out; have := HK2.out; omega⟩, ⟨by (with_reducible repeat (first | refine blk_drewN ?_ _ | refine blk_drew ?_ | refine blk_alloc ?_ _)); exact BK493.out⟩, ⟨by repeat (first | (with_reducible first | exact HB.out | apply below_alloc | apply pw_below_drewN | apply below_drew1 | refine below_set ?_ GE493.out) | exact HB.out)⟩⟩
                · rw [if_neg c27] at H
                  exact absurd H (by simp)
              · rw [if_neg c26] at H
                exact absurd H (by simp)
            · rw [if_neg c25] at H
              have c25b0 : decide (x49_2 < (l0_2.length : Int)) = false := decide_eq_false c25
              clear c25
              have H' := Aside0.mk H
              clear H
              have hcz31_0 : wr.cell? ⟨gb493, 0, none⟩ = some (.int .u8 a0_0) := (blk_cell BK493.out 0).trans rfl
              have hcz31_1 : wr.cell? ⟨gb493, 1, none⟩ = some (.int .i64 a0_1) := (blk_cell BK493.out 1).trans rfl
              have hcz31_2 : wr.cell? ⟨gb493, 2, none⟩ = some (.slice A0_2 l0_2.length c0_2) := (blk_cell BK493.out 2).trans rfl
              have hcz31_3 : wr.cell? ⟨gb493, 3, none⟩ = some (.slice A0_3 l0_3.length c0_3) := (blk_cell BK493.out 3).trans rfl
              have hfz31_0 := blk_frozen BK493.out 0
              have hfz31_1 := blk_frozen BK493.out 1
              have hfz31_2 := blk_frozen BK493.out 2
              have hfz31_3 := blk_frozen BK493.out 3
              go_wp2
              go_loopg [67] k2 (fun kq v67 w' => ∃ (x67_3 : Int), v67 = .int .i64 x67_3 ∧ Aside0 (binary_may.l1 kq l0_3 (l0_3.length : Int) x67_3 a0_0 a0_1 l0_2 l0_3 = some r) ∧ Aside0 (kq ≤ k2) ∧ Aside0 (w'.heap[gb493]? = some (.cells #[.int .u8 a0_0, .int .i64 a0_1, (.slice A0_2 l0_2.length c0_2), (.slice A0_3 l0_3.length c0_3)] 39 (0, 0))) ∧ Aside0 (Below w.heap.size w w'))
              case atStart => exact ⟨(0), (by first | rfl | (simp; done) | (simp [*]; done)), H', ⟨Nat.le_refl _⟩, ⟨by (with_reducible repeat (first | refine blk_drewN ?_ _ | refine blk_drew ?_ | refine blk_alloc ?_ _)); exact BK493.out⟩, ⟨by repeat (first | (with_reducible first | exact HB.out | apply below_alloc | apply pw_below_drewN | apply below_drew1 | refine below_set ?_ GE493.out) | exact HB.out)⟩⟩
              case round =>
                clear H'
                try clear c1
                try clear c2
                try clear p2
                try clear c3
                try clear c4
                try clear c4b0
                try clear p4
                try clear q4
                try clear hx4
                try clear c6
                try clear c6b0
                try clear c6b1
                try clear p6
                try clear c7
                try clear c7b0
                try clear c9
                try clear c9b0
                try clear c9b1
                try clear c10
                try clear c10b0
                try clear c12
                try clear c12b0
                try clear c12b1
                try clear c16
                try clear c16b0
                try clear c16b1
                try clear c17
                try clear c17b0
                try clear c19
                try clear c19b0
                try clear c19b1
                try clear c23
                try clear c25
                try clear c25b0
                try clear c26
                try clear c26b0
                try clear c27
                try clear c27b0
                try clear c28
                try clear c28b0
                try clear c28b1
                try clear c29
                try clear c29b0
                try clear c30
                try clear c30b0
                try clear hcz11_0
                try clear hcz11_1
                try clear hcz11_2
                try clear hcz11_3
                try clear hcz13_0
                try clear hcz13_1
                try clear hcz13_2
                try clear hcz13_3
                try clear hcz14_0
                try clear hcz14_1
                try clear hcz14_2
                try clear hcz14_3
                try clear hcz15_0
                try clear hcz15_1
                try clear hcz15_2
                try clear hcz15_3
                try clear hcz18_0
                try clear hcz18_1
                try clear hcz18_2
                try clear hcz18_3
                try clear hcz20_0
                try clear hcz20_1
                try clear hcz20_2
                try clear hcz20_3
                try clear hcz21_0
                try clear hcz21_1
                try clear hcz21_2
                try clear hcz21_3
                try clear hcz22_0
                try clear hcz22_1
                try clear hcz22_2
                try clear hcz22_3
                try clear hcz24_0
                try clear hcz24_1
                try clear hcz24_2
                try clear hcz24_3
                try clear hcz31_0
                try clear hcz31_1
                try clear hcz31_2
                try clear hcz31_3
                try clear hcz5_0
                try clear hcz5_1
                try clear hcz5_2
                try clear hcz5_3
                try clear hcz8_0
                try clear hcz8_1
                try clear hcz8_2
                try clear hcz8_3
                try clear hfz11_0
                try clear hfz11_1
                try clear hfz11_2
                try clear hfz11_3
                try clear hfz13_0
                try clear hfz13_1
                try clear hfz13_2
                try clear hfz13_3
                try clear hfz14_0
                try clear hfz14_1
                try clear hfz14_2
                try clear hfz14_3
                try clear hfz15_0
                try clear hfz15_1
                try clear hfz15_2
                try clear hfz15_3
                try clear hfz18_0
                try clear hfz18_1
                try clear hfz18_2
                try clear hfz18_3
                try clear hfz20_0
                try clear hfz20_1
                try clear hfz20_2
                try clear hfz20_3
                try clear hfz21_0
                try clear hfz21_1
                try clear hfz21_2
                try clear hfz21_3
                try clear hfz22_0
                try clear hfz22_1
                try clear hfz22_2
                try clear hfz22_3
                try clear hfz24_0
                try clear hfz24_1
                try clear hfz24_2
                try clear hfz24_3
                try clear hfz31_0
                try clear hfz31_1
                try clear hfz31_2
                try clear hfz31_3
                try clear hfz5_0
                try clear hfz5_1
                try clear hfz5_2
                try clear hfz5_3
                try clear hfz8_0
                try clear hfz8_1
                try clear hfz8_2
                try clear hfz8_3
                try clear hx494_0
                try clear p2
                try clear p494
                try clear q494
                obtain ⟨x67_3, rfl, HA, HK3, BK493, HB⟩ := hrel
                cases gk with
                | zero => exact absurd HA.out (by simp [binary_may.l1])
                | succ k3 =>
                  have H := HA.out
                  clear HA
                  simp only [binary_may.l1] at H
                  by_cases c32 : x67_3 < (l0_3.length : Int)
                  · rw [if_pos c32] at H
                    have c32b0 : decide (x67_3 < (l0_3.length : Int)) = true := decide_eq_true c32
                    clear c32
                    by_cases c33 : 0 ≤ x67_3
                    · rw [if_pos c33] at H
                      have c33b0 : decide (0 ≤ x67_3) = true := decide_eq_true c33
                      clear c33
                      by_cases c34 : x67_3 < (l0_3.length : Int)
                      · rw [if_pos c34] at H
                        have c34b0 : decide (x67_3 < (l0_3.length : Int)) = true := decide_eq_true c34
                        clear c34
                        by_cases c35 : (rd l0_3 x67_3) = 0
                        · rw [if_pos c35] at H
                          have c35b0 : ((rd l0_3 x67_3) == 0) = true := beq_iff_eq.mpr c35
                          have c35b1 : ((rd l0_3 x67_3) != 0) = false := bne_eq_false_iff_eq.mpr c35
                          clear c35
                          obtain rfl := Option.some.inj H
                          have p495 : 0 ≤ (x67_3 : Int) := of_decide_eq_true (by first | (with_reducible assumption) | assumption)
                          have q495 : x67_3 < (l0_3.length : Int) := of_decide_eq_true (by first | (with_reducible assumption) | assumption)
                          obtain ⟨ad495, e495, hx495_0⟩ := Kd.at_int HR0_3.out x67_3 p495 q495
                          cases e495
                          replace hx495_0 := (HB.out.cell (World.block_lt_of_cell? w _ hx495_0)).trans hx495_0
                          replace p495 := eq_true p495
                          replace q495 := eq_true q495
                          go_wp2
                          go_ret
                          exact ⟨by first | rfl | (simp [errW_none, errW_some] <;> rfl) | (simp [*, errW_none, errW_some] <;> rfl), by repeat (first | (with_reducible first | exact HB.out | apply below_alloc | apply pw_below_drewN | apply below_drew1 | refine below_set ?_ GE493.out) | exact HB.out)⟩
                        · rw [if_neg c35] at H
                          have c35b0 : ((rd l0_3 x67_3) == 0) = false := beq_eq_false_iff_ne.mpr c35
                          have c35b1 : ((rd l0_3 x67_3) != 0) = true := bne_iff_ne.mpr c35
                          by_cases c36 : (rd l0_3 x67_3) < (-4611686018427387903)
                          · rw [if_pos c36] at H
                            have c36b0 : decide ((rd l0_3 x67_3) < (-4611686018427387903)) = true := decide_eq_true c36
                            clear c36
                            obtain rfl := Option.some.inj H
                            have p495 : 0 ≤ (x67_3 : Int) := of_decide_eq_true (by first | (with_reducible assumption) | assumption)
                            have q495 : x67_3 < (l0_3.length : Int) := of_decide_eq_true (by first | (with_reducible assumption) | assumption)
                            obtain ⟨ad495, e495, hx495_0⟩ := Kd.at_int HR0_3.out x67_3 p495 q495
                            cases e495
                            replace hx495_0 := (HB.out.cell (World.block_lt_of_cell? w _ hx495_0)).trans hx495_0
                            replace p495 := eq_true p495
                            replace q495 := eq_true q495
                            go_wp2
                            go_ret
                            exact ⟨by first | rfl | (simp [errW_none, errW_some] <;> rfl) | (simp [*, errW_none, errW_some] <;> rfl), by repeat (first | (with_reducible first | exact HB.out | apply below_alloc | apply pw_below_drewN | apply below_drew1 | refine below_set ?_ GE493.out) | exact HB.out)⟩
                          · rw [if_neg c36] at H
                            have c36b0 : decide ((rd l0_3 x67_3) < (-4611686018427387903)) = false := decide_eq_false c36
                            clear c36
                            by_cases c37 : (rd l0_3 x67_3) > 4611686018427387903
                            · rw [if_pos c37] at H
                              have c37b0 : decide (4611686018427387903 < (rd l0_3 x67_3)) = true := decide_eq_true c37
                              clear c37
                              obtain rfl := Option.some.inj H
                              have p495 : 0 ≤ (x67_3 : Int) := of_decide_eq_true (by first | (with_reducible assumption) | assumption)
                              have q495 : x67_3 < (l0_3.length : Int) := of_decide_eq_true (by first | (with_reducible assumption) | assumption)
                              obtain ⟨ad495, e495, hx495_0⟩ := Kd.at_int HR0_3.out x67_3 p495 q495
                              cases e495
                              replace hx495_0 := (HB.out.cell (World.block_lt_of_cell? w _ hx495_0)).trans hx495_0
                              replace p495 := eq_true p495
                              replace q495 := eq_true q495
                              go_wp2
                              go_ret
                              exact ⟨by first | rfl | (simp [errW_none, errW_some] <;> rfl) | (simp [*, errW_none, errW_some] <;> rfl), by repeat (first | (with_reducible first | exact HB.out | apply below_alloc | apply pw_below_drewN | apply below_drew1 | refine below_set ?_ GE493.out) | exact HB.out)⟩
                            · rw [if_neg c37] at H
                              have c37b0 : decide (4611686018427387903 < (rd l0_3 x67_3)) = false := decide_eq_false c37
                              clear c37
                              by_cases c38 : (rd l0_3 x67_3) < 0
                              · rw [if_pos c38] at H
                                have c38b0 : decide ((rd l0_3 x67_3) < 0) = true := decide_eq_true c38
                                clear c38
                                by_cases c39 : a0_0 = 2
                                · rw [if_pos c39] at H
                                  have c39b0 : (a0_0 == 2) = true := beq_iff_eq.mpr c39
                                  have c39b1 : (a0_0 != 2) = false := bne_eq_false_iff_eq.mpr c39
                                  clear c39
                                  obtain rfl := Option.some.inj H
                                  have p495 : 0 ≤ (x67_3 : Int) := of_decide_eq_true (by first | (with_reducible assumption) | assumption)
                                  have q495 : x67_3 < (l0_3.length : Int) := of_decide_eq_true (by first | (with_reducible assumption) | assumption)
                                  obtain ⟨ad495, e495, hx495_0⟩ := Kd.at_int HR0_3.out x67_3 p495 q495
                                  cases e495
                                  replace hx495_0 := (HB.out.cell (World.block_lt_of_cell? w _ hx495_0)).trans hx495_0
                                  replace p495 := eq_true p495
                                  replace q495 := eq_true q495
                                  have hcz40_0 : wr.cell? ⟨gb493, 0, none⟩ = some (.int .u8 a0_0) := (blk_cell BK493.out 0).trans rfl
                                  have hcz40_1 : wr.cell? ⟨gb493, 1, none⟩ = some (.int .i64 a0_1) := (blk_cell BK493.out 1).trans rfl
                                  have hcz40_2 : wr.cell? ⟨gb493, 2, none⟩ = some (.slice A0_2 l0_2.length c0_2) := (blk_cell BK493.out 2).trans rfl
                                  have hcz40_3 : wr.cell? ⟨gb493, 3, none⟩ = some (.slice (some ad495) l0_3.length c0_3) := (blk_cell BK493.out 3).trans rfl
                                  have hfz40_0 := blk_frozen BK493.out 0
                                  have hfz40_1 := blk_frozen BK493.out 1
                                  have hfz40_2 := blk_frozen BK493.out 2
                                  have hfz40_3 := blk_frozen BK493.out 3
                                  go_wp2
                                  go_ret
                                  exact ⟨by first | rfl | (simp [errW_none, errW_some] <;> rfl) | (simp [*, errW_none, errW_some] <;> rfl), by repeat (first | (with_reducible first | exact HB.out | apply below_alloc | apply pw_below_drewN | apply below_drew1 | refine below_set ?_ GE493.out) | exact HB.out)⟩
                                · rw [if_neg c39] at H
                                  have c39b0 : (a0_0 == 2) = false := beq_eq_false_iff_ne.mpr c39
                                  have c39b1 : (a0_0 != 2) = true := bne_iff_ne.mpr c39
                                  have H' := Aside0.mk H
                                  clear H
                                  have p495 : 0 ≤ (x67_3 : Int) := of_decide_eq_true (by first | (with_reducible assumption) | assumption)
                                  have q495 : x67_3 < (l0_3.length : Int) := of_decide_eq_true (by first | (with_reducible assumption) | assumption)
                                  obtain ⟨ad495, e495, hx495_0⟩ := Kd.at_int HR0_3.out x67_3 p495 q495
                                  cases e495
                                  replace hx495_0 := (HB.out.cell (World.block_lt_of_cell? w _ hx495_0)).trans hx495_0
                                  replace p495 := eq_true p495
                                  replace q495 := eq_true q495
                                  have hcz41_0 : wr.cell? ⟨gb493, 0, none⟩ = some (.int .u8 a0_0) := (blk_cell BK493.out 0).trans rfl
                                  have hcz41_1 : wr.cell? ⟨gb493, 1, none⟩ = some (.int .i64 a0_1) := (blk_cell BK493.out 1).trans rfl
                                  have hcz41_2 : wr.cell? ⟨gb493, 2, none⟩ = some (.slice A0_2 l0_2.length c0_2) := (blk_cell BK493.out 2).trans rfl
                                  have hcz41_3 : wr.cell? ⟨gb493, 3, none⟩ = some (.slice (some ad495) l0_3.length c0_3) := (blk_cell BK493.out 3).trans rfl
                                  have hfz41_0 := blk_frozen BK493.out 0
                                  have hfz41_1 := blk_frozen BK493.out 1
                                  have hfz41_2 := blk_frozen BK493.out 2
                                  have hfz41_3 := blk_frozen BK493.out 3
                                  go_wp2
                                  go_roundg k3
                                  case measure => have := HJ1.out; have := HK2.out; have := HK3.out; omega
                                  case rel => exact ⟨(wrap64 (x67_3 + 1)), (by first | rfl | (simp; done) | (simp [*]; done)), H', ⟨by have := HJ1.out; have := HK2.out; have := HK3.out; omega⟩, ⟨by (with_reducible repeat (first | refine blk_drewN ?_ _ | refine blk_drew ?_ | refine blk_alloc ?_ _)); exact BK493.out⟩, ⟨by repeat (first | (with_reducible first | exact HB.out | apply below_alloc | apply pw_below_drewN | apply below_drew1 | refine below_set ?_ GE493.out) | exact HB.out)⟩⟩
                              · rw [if_neg c38] at H
                                have c38b0 : decide ((rd l0_3 x67_3) < 0) = false := decide_eq_false c38
                                clear c38
                                have H' := Aside0.mk H
                                clear H
                                have p495 : 0 ≤ (x67_3 : Int) := of_decide_eq_true (by first | (with_reducible assumption) | assumption)
                                have q495 : x67_3 < (l0_3.length : Int) := of_decide_eq_true (by first | (with_reducible assumption) | assumption)
                                obtain ⟨ad495, e495, hx495_0⟩ := Kd.at_int HR0_3.out x67_3 p495 q495
                                cases e495
                                replace hx495_0 := (HB.out.cell (World.block_lt_of_cell? w _ hx495_0)).trans hx495_0
                                replace p495 := eq_true p495
                                replace q495 := eq_true q495
                                go_wp2
                                go_roundg k3
                                case measure => have := HJ1.out; have := HK2.out; have := HK3.out; omega
                                case rel => exact ⟨(wrap64 (x67_3 + 1)), (by first | rfl | (simp; done) | (simp [*]; done)), H', ⟨by have := HJ1.out; have := HK2.out; have := HK3.out; omega⟩, ⟨by (with_reducible repeat (first | refine blk_drewN ?_ _ | refine blk_drew ?_ | refine blk_alloc ?_ _)); exact BK493.out⟩, ⟨by repeat (first | (with_reducible first | exact HB.out | apply below_alloc | apply pw_below_drewN | apply below_drew1 | refine below_set ?_ GE493.out) | exact HB.out)⟩⟩
                      · rw [if_neg c34] at H
                        exact absurd H (by simp)
                    · rw [if_neg c33] at H
                      exact absurd H (by simp)
                  · rw [if_neg c32] at H
                    have c32b0 : decide (x67_3 < (l0_3.length : Int)) = false := decide_eq_false c32
                    clear c32
                    obtain rfl := Option.some.inj H
                    go_wp2
                    go_ret
                    exact ⟨by first | rfl | (simp [errW_none, errW_some] <;> rfl) | (simp [*, errW_none, errW_some] <;> rfl), by repeat (first | (with_reducible first | exact HB.out | apply below_alloc | apply pw_below_drewN | apply below_drew1 | refine below_set ?_ GE493.out) | exact HB.out)⟩

end Go.Proofs.YtlimaebaagabaaaDoor.PB
