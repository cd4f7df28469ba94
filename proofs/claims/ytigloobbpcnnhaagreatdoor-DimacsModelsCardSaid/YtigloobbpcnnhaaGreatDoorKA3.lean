import Derived.Test.YtigloobbpcnnhaaGreatDoorKA2
import Derived.Lib.Builder
import Derived.Laws.Externs
import Derived.Lib.UnsafeStr
import Derived.Outline
import Derived.Lib.AppendStr
import Derived.Shelf.Strconv.AppendUint10
import Derived.Lib.ItoaMem
-- texts of this claim, packed, what nothing reaches struck (wip/tools/prune.py): M7 M5 M6
section
section
namespace Go.Proofs.YtigloobbpcnnhaaGreatDoor.PB
open Go.RowKit Go.Proofs.YtigloobbpcnnhaaGreatDoorW.PrintWords Go.Proofs.YtigloobbpcnnhaaGreatDoorW.PrintLast Go.Proofs.YtigloobbpcnnhaaGreatDoorW.PrintMore
attribute [local go_sem] max2_int min2_int max_two min_two max_three min_three max_four min_four   -- for this text's walks alone
set_option linter.unusedVariables false
set_option linter.unusedSimpArgs false
def cnf_lit_variable.f (a0 : Int) : Option (Int) := if a0 < 0 then (some (wrap64 (-(wrap64 (a0))))) else (some (wrap64 (a0)))
set_option maxHeartbeats 8000000 in
set_option maxRecDepth 100000 in
theorem cnf_lit_variable.calls (a0 : Int) (r : Int) (w : World) (h : cnf_lit_variable.f a0 = some r) :
    Calls Tryz.prog 63 #[.int .i32 a0] w fun e w' => e = .returned (.int .i64 r) ∧ Drawn0 w w' := by
  have H : (if a0 < 0 then (some (wrap64 (-(wrap64 (a0))))) else (some (wrap64 (a0)))) = some r := h
  clear h
  by_cases c2 : a0 < 0
  · rw [if_pos c2] at H
    have c2b0 : decide (a0 < 0) = true := decide_eq_true c2
    clear c2
    obtain rfl := Option.some.inj H
    go_enter Tryz.func63, Tryz.ntmps63
    go_wp2
    go_ret
    exact ⟨by first | rfl | (simp; done) | (simp [*]; done), by repeat (first | exact Drawn0.refl _ | apply Drawn0.step)⟩
  · rw [if_neg c2] at H
    have c2b0 : decide (a0 < 0) = false := decide_eq_false c2
    clear c2
    obtain rfl := Option.some.inj H
    go_enter Tryz.func63, Tryz.ntmps63
    go_wp2
    go_ret
    exact ⟨by first | rfl | (simp; done) | (simp [*]; done), by repeat (first | exact Drawn0.refl _ | apply Drawn0.step)⟩
end Go.Proofs.YtigloobbpcnnhaaGreatDoor.PB
end
section
namespace Go.Proofs.YtigloobbpcnnhaaGreatDoor.PB
open Go.RowKit Go.Proofs.YtigloobbpcnnhaaGreatDoorW.PrintWords Go.Proofs.YtigloobbpcnnhaaGreatDoorW.PrintLast Go.Proofs.YtigloobbpcnnhaaGreatDoorW.PrintMore
attribute [local go_sem] max2_int min2_int max_two min_two max_three min_three max_four min_four   -- for this text's walks alone
set_option linter.unusedVariables false
set_option linter.unusedSimpArgs false
def cnf_Var.f (a0 : Int) : Option (Int) := (cnf_lit_variable.f a0).bind fun t170 => (some t170)
set_option maxHeartbeats 8000000 in
set_option maxRecDepth 100000 in
theorem cnf_Var.calls (a0 : Int) (r : Int) (w : World) (h : cnf_Var.f a0 = some r) :
    Calls Tryz.prog 46 #[.int .i32 a0] w fun e w' => e = .returned (.int .i64 r) ∧ Drawn0 w w' := by
  have H : ((cnf_lit_variable.f a0).bind fun t170 => (some t170)) = some r := h
  clear h
  replace H := Option.bind_eq_some_iff.mp H
  obtain ⟨t170, A20, H⟩ := H
  replace H : (some t170) = some r := H
  have A2 := Aside0.mk A20
  clear A20
  obtain rfl := Option.some.inj H
  go_enter Tryz.func46, Tryz.ntmps46
  go_wp2_with (first | ((with_reducible refine gate_callee (f := 63) rfl ?_); refine goesL_ (some 4) rfl rfl Tryz.func63 (by kernel_rfl) rfl #[.int .i32 a0] rfl (by (try simp only [List.map_toArray, List.map_cons, List.map_nil]); first | done | rfl | (simp only [List.length_drop, List.length_take]; rfl)) ?_; (with_reducible refine (cnf_lit_variable.calls a0 t170 _ A2.out).mono ?_); rintro e w' ⟨rfl, ⟨nd, rfl⟩⟩; refine ⟨_, rfl, ?_⟩))
  go_ret
  exact ⟨by first | rfl | (simp; done) | (simp [*]; done), by repeat (first | exact Drawn0.refl _ | apply Drawn0.step)⟩
end Go.Proofs.YtigloobbpcnnhaaGreatDoor.PB
end
section
namespace Go.Proofs.YtigloobbpcnnhaaGreatDoor.PB
open Go.RowKit Go.Proofs.YtigloobbpcnnhaaGreatDoorW.PrintWords Go.Proofs.YtigloobbpcnnhaaGreatDoorW.PrintLast Go.Proofs.YtigloobbpcnnhaaGreatDoorW.PrintMore
attribute [local go_sem] max2_int min2_int max_two min_two max_three min_three max_four min_four   -- for this text's walks alone
set_option linter.unusedVariables false
set_option linter.unusedSimpArgs false
mutual
def cnf_Right.j0 : Nat → Bool → Int → List (List Int) → Option (Int)
  | 0, _, _, _ => none
  | k + 1, x8, x172000, x172001 => if x8 = true then (some 2) else (if (x172001.length : Int) > 1048576 then (some 3) else (cnf_Right.l0 k 16777216 x172001 (x172001.length : Int) 0 x172000 x172001))
def cnf_Right.l0 : Nat → Int → List (List Int) → Int → Int → Int → List (List Int) → Option (Int)
  | 0, _, _, _, _, _, _ => none
  | k + 1, x3, x21, x22, x23, x172000, x172001 => if x23 < x22 then (if 0 ≤ x23 then (if x23 < (x21.length : Int) then (cnf_Right.l1 k x3 x21 x22 x23 (rd_L6 x21 x23) ((rd_L6 x21 x23).length : Int) 0 x172000 x172001) else (none)) else (none)) else (some 0)
def cnf_Right.l1 : Nat → Int → List (List Int) → Int → Int → List Int → Int → Int → Int → List (List Int) → Option (Int)
  | 0, _, _, _, _, _, _, _, _, _ => none
  | k + 1, x3, x21, x22, x23, x27, x28, x29, x172000, x172001 => if x29 < x28 then (if 0 ≤ x29 then (if x29 < (x27.length : Int) then (if x3 = 0 then (some 3) else (if (rd x27 x29) = 0 then (some 4) else ((cnf_Var.f (rd x27 x29)).bind fun t174 => (if t174 > x172000 then (some 4) else (cnf_Right.l1 k (wrap64 (x3 - 1)) x21 x22 x23 x27 x28 (wrap64 (x29 + 1)) x172000 x172001))))) else (none)) else (none)) else (cnf_Right.l0 k x3 x21 x22 (wrap64 (x23 + 1)) x172000 x172001)
end
def cnf_Right.f (k : Nat) (a0_0 : Int) (l0_1 : List (List Int)) : Option (Int) := if a0_0 < 0 then (cnf_Right.j0 k (decide (a0_0 < 0)) a0_0 l0_1) else (cnf_Right.j0 k (decide (a0_0 > 1048576)) a0_0 l0_1)
theorem cnf_Right.mono_l : ∀ k, (∀ y0 y1 y2, LeO (cnf_Right.j0 k y0 y1 y2) (cnf_Right.j0 (k + 1) y0 y1 y2)) ∧ (∀ y0 y1 y2 y3 y4 y5, LeO (cnf_Right.l0 k y0 y1 y2 y3 y4 y5) (cnf_Right.l0 (k + 1) y0 y1 y2 y3 y4 y5)) ∧ (∀ y0 y1 y2 y3 y4 y5 y6 y7 y8, LeO (cnf_Right.l1 k y0 y1 y2 y3 y4 y5 y6 y7 y8) (cnf_Right.l1 (k + 1) y0 y1 y2 y3 y4 y5 y6 y7 y8))
  | 0 => ⟨fun _ _ _ r h => by simp [cnf_Right.j0] at h, fun _ _ _ _ _ _ r h => by simp [cnf_Right.l0] at h, fun _ _ _ _ _ _ _ _ _ r h => by simp [cnf_Right.l1] at h⟩
  | k + 1 => by
    obtain ⟨ih0, ih1, ih2⟩ := cnf_Right.mono_l k
    refine ⟨?_, ?_, ?_⟩
    · intro y0 y1 y2
      unfold cnf_Right.j0
      repeat' first
      | (with_reducible exact ih0 _ _ _)
      | (with_reducible exact ih1 _ _ _ _ _ _)
      | (with_reducible exact ih2 _ _ _ _ _ _ _ _ _)
      | (with_reducible exact LeO.refl _)
      | (with_reducible exact LeO.none _)
      | (with_reducible refine LeO.ite ?_ ?_)
      | (with_reducible refine LeO.bind ?_ (fun _ => ?_))
      | exact ih0 _ _ _
      | exact ih1 _ _ _ _ _ _
      | exact ih2 _ _ _ _ _ _ _ _ _
      | exact LeO.none _
      | refine LeO.ite ?_ ?_
      | refine LeO.bind ?_ (fun _ => ?_)
    · intro y0 y1 y2 y3 y4 y5
      unfold cnf_Right.l0
      repeat' first
      | (with_reducible exact ih0 _ _ _)
      | (with_reducible exact ih1 _ _ _ _ _ _)
      | (with_reducible exact ih2 _ _ _ _ _ _ _ _ _)
      | (with_reducible exact LeO.refl _)
      | (with_reducible exact LeO.none _)
      | (with_reducible refine LeO.ite ?_ ?_)
      | (with_reducible refine LeO.bind ?_ (fun _ => ?_))
      | exact ih0 _ _ _
      | exact ih1 _ _ _ _ _ _
      | exact ih2 _ _ _ _ _ _ _ _ _
      | exact LeO.none _
      | refine LeO.ite ?_ ?_
      | refine LeO.bind ?_ (fun _ => ?_)
    · intro y0 y1 y2 y3 y4 y5 y6 y7 y8
      unfold cnf_Right.l1
      repeat' first
      | (with_reducible exact ih0 _ _ _)
      | (with_reducible exact ih1 _ _ _ _ _ _)
      | (with_reducible exact ih2 _ _ _ _ _ _ _ _ _)
      | (with_reducible exact LeO.refl _)
      | (with_reducible exact LeO.none _)
      | (with_reducible refine LeO.ite ?_ ?_)
      | (with_reducible refine LeO.bind ?_ (fun _ => ?_))
      | exact ih0 _ _ _
      | exact ih1 _ _ _ _ _ _
      | exact ih2 _ _ _ _ _ _ _ _ _
      | exact LeO.none _
      | refine LeO.ite ?_ ?_
      | refine LeO.bind ?_ (fun _ => ?_)
theorem cnf_Right.mono : ∀ a0 a1 k, LeO (cnf_Right.f k a0 a1) (cnf_Right.f (k + 1) a0 a1) := by
  intro a0 a1 k
  obtain ⟨ih0, ih1, ih2⟩ := cnf_Right.mono_l k
  unfold cnf_Right.f
  repeat' first
      | (with_reducible exact ih0 _ _ _)
      | (with_reducible exact ih1 _ _ _ _ _ _)
      | (with_reducible exact ih2 _ _ _ _ _ _ _ _ _)
      | (with_reducible exact LeO.refl _)
      | (with_reducible exact LeO.none _)
      | (with_reducible refine LeO.ite ?_ ?_)
      | (with_reducible refine LeO.bind ?_ (fun _ => ?_))
      | exact ih0 _ _ _
      | exact ih1 _ _ _ _ _ _
      | exact ih2 _ _ _ _ _ _ _ _ _
      | exact LeO.none _
      | refine LeO.ite ?_ ?_
      | refine LeO.bind ?_ (fun _ => ?_)
set_option maxHeartbeats 8000000 in
set_option maxRecDepth 100000 in
theorem cnf_Right.calls (k : Nat) (a0_0 : Int) (A0_1 : Option Addr) (c0_1 : Nat) (l0_1 : List (List Int)) (r : Int) (w : World) (hr0_1 : Kd.C (Kd.slice 40 (Kd.int .i32)) w A0_1 l0_1.length l0_1) (hc0_1 : l0_1.length ≤ c0_1) (h : cnf_Right.f k a0_0 l0_1 = some r) :
    Calls Tryz.prog 25 #[.agg #[.int .i64 a0_0, .slice A0_1 l0_1.length c0_1]] w fun e w' => e = .returned (.int .i64 r) ∧ Below w.heap.size w w' := by
  have hu25 := Tryz.underlying35
  have HR0_1 := Aside0.mk hr0_1
  have HC0_1 := Aside0.mk hc0_1
  clear hr0_1 hc0_1
  have HB := Aside0.mk (Below.refl w.heap.size w)
  have H : (if a0_0 < 0 then (cnf_Right.j0 k (decide (a0_0 < 0)) a0_0 l0_1) else (cnf_Right.j0 k (decide (a0_0 > 1048576)) a0_0 l0_1)) = some r := h
  clear h
  have HC2 := Aside0.mk H
  clear H
  go_enter Tryz.func25, Tryz.ntmps25
  go_upto_if 8 with (first | ((with_reducible refine gate_dst (N := 1) rfl ?_); refine box_event ?hg (N := 1) ?hd (cs := #[.int .i64 a0_0, .slice A0_1 l0_1.length c0_1]) (t := 35) ?hr ?_; (case hd => rfl); (case hg => rfl); (case hr => first | (go_simp; done) | (go_simp; rfl)); intro gb171 hg w3 hbox hb; have n0_ := Aside0.mk (below_step (by repeat (first | (with_reducible first | exact HB.out | apply below_alloc | apply pw_below_drewN | apply below_drew1) | exact HB.out)) hb); have n1_ := Aside0.mk (hbox); have n2_ := Aside0.mk ((by rw [hg]; exact (below_size (by repeat (first | (with_reducible first | exact HB.out | apply below_alloc | apply pw_below_drewN | apply below_drew1) | exact HB.out))) : w.heap.size ≤ gb171)); have n3_ := Aside0.mk ((by rw [hg]; exact (below_size (by repeat (first | (with_reducible first | exact HB.out | apply below_alloc | apply pw_below_drewN | apply below_drew1) | exact HB.out))) : w.heap.size ≤ gb171)); clear HB; have HB := n0_; have BK171 := n1_; have GW171 := n2_; have GE171 := n3_; clear n0_ n1_ n2_ n3_; clear hb hbox hg; have hcz4_0 : w3.cell? ⟨gb171, 0, none⟩ = some (.int .i64 a0_0) := (blk_cell BK171.out 0).trans rfl; have hcz4_1 : w3.cell? ⟨gb171, 1, none⟩ = some (.slice A0_1 l0_1.length c0_1) := (blk_cell BK171.out 1).trans rfl; have hfz4_0 := blk_frozen BK171.out 0; have hfz4_1 := blk_frozen BK171.out 1))
  repeat (go_quiet (first | ((with_reducible refine gate_dst (N := 1) rfl ?_); refine box_event ?hg (N := 1) ?hd (cs := #[.int .i64 a0_0, .slice A0_1 l0_1.length c0_1]) (t := 35) ?hr ?_; (case hd => rfl); (case hg => rfl); (case hr => first | (go_simp; done) | (go_simp; rfl)); intro gb171 hg w3 hbox hb; have n0_ := Aside0.mk (below_step (by repeat (first | (with_reducible first | exact HB.out | apply below_alloc | apply pw_below_drewN | apply below_drew1) | exact HB.out)) hb); have n1_ := Aside0.mk (hbox); have n2_ := Aside0.mk ((by rw [hg]; exact (below_size (by repeat (first | (with_reducible first | exact HB.out | apply below_alloc | apply pw_below_drewN | apply below_drew1) | exact HB.out))) : w.heap.size ≤ gb171)); have n3_ := Aside0.mk ((by rw [hg]; exact (below_size (by repeat (first | (with_reducible first | exact HB.out | apply below_alloc | apply pw_below_drewN | apply below_drew1) | exact HB.out))) : w.heap.size ≤ gb171)); clear HB; have HB := n0_; have BK171 := n1_; have GW171 := n2_; have GE171 := n3_; clear n0_ n1_ n2_ n3_; clear hb hbox hg; have hcz4_0 : w3.cell? ⟨gb171, 0, none⟩ = some (.int .i64 a0_0) := (blk_cell BK171.out 0).trans rfl; have hcz4_1 : w3.cell? ⟨gb171, 1, none⟩ = some (.slice A0_1 l0_1.length c0_1) := (blk_cell BK171.out 1).trans rfl; have hfz4_0 := blk_frozen BK171.out 0; have hfz4_1 := blk_frozen BK171.out 1)); go_upto_if 8 with (first | ((with_reducible refine gate_dst (N := 1) rfl ?_); refine box_event ?hg (N := 1) ?hd (cs := #[.int .i64 a0_0, .slice A0_1 l0_1.length c0_1]) (t := 35) ?hr ?_; (case hd => rfl); (case hg => rfl); (case hr => first | (go_simp; done) | (go_simp; rfl)); intro gb171 hg w3 hbox hb; have n0_ := Aside0.mk (below_step (by repeat (first | (with_reducible first | exact HB.out | apply below_alloc | apply pw_below_drewN | apply below_drew1) | exact HB.out)) hb); have n1_ := Aside0.mk (hbox); have n2_ := Aside0.mk ((by rw [hg]; exact (below_size (by repeat (first | (with_reducible first | exact HB.out | apply below_alloc | apply pw_below_drewN | apply below_drew1) | exact HB.out))) : w.heap.size ≤ gb171)); have n3_ := Aside0.mk ((by rw [hg]; exact (below_size (by repeat (first | (with_reducible first | exact HB.out | apply below_alloc | apply pw_below_drewN | apply below_drew1) | exact HB.out))) : w.heap.size ≤ gb171)); clear HB; have HB := n0_; have BK171 := n1_; have GW171 := n2_; have GE171 := n3_; clear n0_ n1_ n2_ n3_; clear hb hbox hg; have hcz4_0 : w3.cell? ⟨gb171, 0, none⟩ = some (.int .i64 a0_0) := (blk_cell BK171.out 0).trans rfl; have hcz4_1 : w3.cell? ⟨gb171, 1, none⟩ = some (.slice A0_1 l0_1.length c0_1) := (blk_cell BK171.out 1).trans rfl; have hfz4_0 := blk_frozen BK171.out 0; have hfz4_1 := blk_frozen BK171.out 1)))
  (try simp only [Act.put, List.setIfInBounds_toArray, List.set_cons_zero, List.set_cons_succ])
  go_cut [8] (fun v8 wc => ∃ (kq : Nat) (x8_1 : Bool), v8 = .bool x8_1 ∧ Aside0 (cnf_Right.j0 kq x8_1 a0_0 l0_1 = some r) ∧ Aside0 (kq ≤ k) ∧ Aside0 (wc.heap[gb171]? = some (.cells #[.int .i64 a0_0, (.slice A0_1 l0_1.length c0_1)] 35 (0, 0))) ∧ Aside0 (Below w.heap.size w wc))
  case first =>
    have H := HC2.out
    clear HC2
    by_cases c5 : a0_0 < 0
    · rw [if_pos c5] at H
      have c5b0 : decide (a0_0 < 0) = true := decide_eq_true c5
      clear c5
      (first | rw [c5b0] | (simp only [i64_w, i32_w]; rw [c5b0]) | skip)
      have H' := Aside0.mk H
      clear H
      go_wp2
      repeat (go_quiet (fail); try go_wp2)
      go_meet
      case rel => exact ⟨_, (decide (a0_0 < 0)), (by first | rfl | (simp; done) | (simp [*]; done)), H', ⟨by first | omega | exact Nat.le_refl _⟩, ⟨by (with_reducible repeat (first | refine blk_drewN ?_ _ | refine blk_drew ?_ | refine blk_alloc ?_ _)); exact BK171.out⟩, ⟨by repeat (first | (with_reducible first | exact HB.out | apply below_alloc | apply pw_below_drewN | apply below_drew1 | refine below_set ?_ GE171.out) | exact HB.out)⟩⟩
    · rw [if_neg c5] at H
      have c5b0 : decide (a0_0 < 0) = false := decide_eq_false c5
      clear c5
      (first | rw [c5b0] | (simp only [i64_w, i32_w]; rw [c5b0]) | skip)
      have H' := Aside0.mk H
      clear H
      have hcz6_0 : w3.cell? ⟨gb171, 0, none⟩ = some (.int .i64 a0_0) := (blk_cell BK171.out 0).trans rfl
      have hcz6_1 : w3.cell? ⟨gb171, 1, none⟩ = some (.slice A0_1 l0_1.length c0_1) := (blk_cell BK171.out 1).trans rfl
      have hfz6_0 := blk_frozen BK171.out 0
      have hfz6_1 := blk_frozen BK171.out 1
      go_wp2
      repeat (go_quiet (fail); try go_wp2)
      go_meet
      case rel => exact ⟨_, (decide (a0_0 > 1048576)), (by first | rfl | (simp; done) | (simp [*]; done)), H', ⟨by first | omega | exact Nat.le_refl _⟩, ⟨by (with_reducible repeat (first | refine blk_drewN ?_ _ | refine blk_drew ?_ | refine blk_alloc ?_ _)); exact BK171.out⟩, ⟨by repeat (first | (with_reducible first | exact HB.out | apply below_alloc | apply pw_below_drewN | apply below_drew1 | refine below_set ?_ GE171.out) | exact HB.out)⟩⟩
  case rest =>
    clear HC2
    try clear c1
    try clear p2
    try clear c5
    try clear c5b0
    try clear hcz4_0
    try clear hcz4_1
    try clear hcz6_0
    try clear hcz6_1
    try clear hfz4_0
    try clear hfz4_1
    try clear hfz6_0
    try clear hfz6_1
    obtain ⟨kq, x8_1, rfl, HA, HJ1, BK171, HB⟩ := hcut
    cases kq with
    | zero => exact absurd HA.out (by simp [cnf_Right.j0])
    | succ kj1 =>
      have H := HA.out
      clear HA
      simp only [cnf_Right.j0] at H
      by_cases c7 : x8_1 = true
      · subst c7
        have H1 : (some 2) = some r := by rw [if_pos rfl] at H; exact H
        clear H
        have H := H1
        clear H1
        obtain rfl := Option.some.inj H
        go_wp2
        repeat (go_quiet (fail); try go_wp2)
        go_ret
        exact ⟨by first | rfl | (simp [errW_none, errW_some] <;> rfl) | (simp [*, errW_none, errW_some] <;> rfl), by repeat (first | (with_reducible first | exact HB.out | apply below_alloc | apply pw_below_drewN | apply below_drew1 | refine below_set ?_ GE171.out) | exact HB.out)⟩
      · replace c7 := Bool.eq_false_iff.mpr c7
        subst c7
        have H1 : (if (l0_1.length : Int) > 1048576 then (some 3) else (cnf_Right.l0 kj1 16777216 l0_1 (l0_1.length : Int) 0 a0_0 l0_1)) = some r := by rw [if_neg (show ¬ (false = true) by decide)] at H; exact H
        clear H
        have H := H1
        clear H1
        by_cases c8 : (l0_1.length : Int) > 1048576
        · rw [if_pos c8] at H
          have c8b0 : decide (1048576 < (l0_1.length : Int)) = true := decide_eq_true c8
          have c8b1 : decide (1048576 < l0_1.length) = true := decide_eq_true (by omega)
          clear c8
          obtain rfl := Option.some.inj H
          have hcz9_0 : wc.cell? ⟨gb171, 0, none⟩ = some (.int .i64 a0_0) := (blk_cell BK171.out 0).trans rfl
          have hcz9_1 : wc.cell? ⟨gb171, 1, none⟩ = some (.slice A0_1 l0_1.length c0_1) := (blk_cell BK171.out 1).trans rfl
          have hfz9_0 := blk_frozen BK171.out 0
          have hfz9_1 := blk_frozen BK171.out 1
          go_wp2
          repeat (go_quiet (fail); try go_wp2)
          go_ret
          exact ⟨by first | rfl | (simp [errW_none, errW_some] <;> rfl) | (simp [*, errW_none, errW_some] <;> rfl), by repeat (first | (with_reducible first | exact HB.out | apply below_alloc | apply pw_below_drewN | apply below_drew1 | refine below_set ?_ GE171.out) | exact HB.out)⟩
        · rw [if_neg c8] at H
          have c8b0 : decide (1048576 < (l0_1.length : Int)) = false := decide_eq_false c8
          have c8b1 : decide (1048576 < l0_1.length) = false := decide_eq_false (by omega)
          clear c8
          have H' := Aside0.mk H
          clear H
          have hcz10_0 : wc.cell? ⟨gb171, 0, none⟩ = some (.int .i64 a0_0) := (blk_cell BK171.out 0).trans rfl
          have hcz10_1 : wc.cell? ⟨gb171, 1, none⟩ = some (.slice A0_1 l0_1.length c0_1) := (blk_cell BK171.out 1).trans rfl
          have hfz10_0 := blk_frozen BK171.out 0
          have hfz10_1 := blk_frozen BK171.out 1
          go_wp2
          repeat (go_quiet (fail); try go_wp2)
          go_loopg [3, 23] kj1 (fun kq v3 v23 w' => ∃ (x3_2 : Int) (x23_2 : Int), v3 = .int .i64 x3_2 ∧ v23 = .int .i64 x23_2 ∧ Aside0 (cnf_Right.l0 kq x3_2 l0_1 (l0_1.length : Int) x23_2 a0_0 l0_1 = some r) ∧ Aside0 (kq ≤ kj1) ∧ Aside0 (w'.heap[gb171]? = some (.cells #[.int .i64 a0_0, (.slice A0_1 l0_1.length c0_1)] 35 (0, 0))) ∧ Aside0 (Below w.heap.size w w'))
          case atStart => exact ⟨(16777216), (0), (by first | rfl | (simp; done) | (simp [*]; done)), (by first | rfl | (simp; done) | (simp [*]; done)), H', ⟨Nat.le_refl _⟩, ⟨by (with_reducible repeat (first | refine blk_drewN ?_ _ | refine blk_drew ?_ | refine blk_alloc ?_ _)); exact BK171.out⟩, ⟨by repeat (first | (with_reducible first | exact HB.out | apply below_alloc | apply pw_below_drewN | apply below_drew1 | refine below_set ?_ GE171.out) | exact HB.out)⟩⟩
          case round =>
            clear H'
            try clear c1
            try clear p2
            try clear c5
            try clear c5b0
            try clear c7
            try clear c8
            try clear c8b0
            try clear c8b1
            try clear hcz10_0
            try clear hcz10_1
            try clear hcz4_0
            try clear hcz4_1
            try clear hcz6_0
            try clear hcz6_1
            try clear hcz9_0
            try clear hcz9_1
            try clear hfz10_0
            try clear hfz10_1
            try clear hfz4_0
            try clear hfz4_1
            try clear hfz6_0
            try clear hfz6_1
            try clear hfz9_0
            try clear hfz9_1
            try clear p2
            obtain ⟨x3_2, x23_2, rfl, rfl, HA, HK2, BK171, HB⟩ := hrel
            cases gk with
            | zero => exact absurd HA.out (by simp [cnf_Right.l0])
            | succ k2 =>
              have H := HA.out
              clear HA
              simp only [cnf_Right.l0] at H
              by_cases c11 : x23_2 < (l0_1.length : Int)
              · rw [if_pos c11] at H
                have c11b0 : decide (x23_2 < (l0_1.length : Int)) = true := decide_eq_true c11
                clear c11
                by_cases c12 : 0 ≤ x23_2
                · rw [if_pos c12] at H
                  have c12b0 : decide (0 ≤ x23_2) = true := decide_eq_true c12
                  clear c12
                  by_cases c13 : x23_2 < (l0_1.length : Int)
                  · rw [if_pos c13] at H
                    have c13b0 : decide (x23_2 < (l0_1.length : Int)) = true := decide_eq_true c13
                    clear c13
                    have H' := Aside0.mk H
                    clear H
                    have p172 : 0 ≤ (x23_2 : Int) := of_decide_eq_true (by first | (with_reducible assumption) | assumption)
                    have q172 : x23_2 < (l0_1.length : Int) := of_decide_eq_true (by first | (with_reducible assumption) | assumption)
                    obtain ⟨ad172, A172_0, c172_0, e172, hx172_0, hl172_0, hi172_0⟩ := at_L6 HR0_1.out x23_2 p172 q172
                    cases e172
                    replace hx172_0 := (HB.out.cell (World.block_lt_of_cell? w _ hx172_0)).trans hx172_0
                    have HR172_0 := Aside0.mk hi172_0
                    have HC172_0 := Aside0.mk hl172_0
                    clear hi172_0 hl172_0
                    replace p172 := eq_true p172
                    replace q172 := eq_true q172
                    go_wp2
                    repeat (go_quiet (fail); try go_wp2)
                    go_loopg [3, 29] k2 (fun kq v3 v29 w' => ∃ (x3_3 : Int) (x29_3 : Int), v3 = .int .i64 x3_3 ∧ v29 = .int .i64 x29_3 ∧ Aside0 (cnf_Right.l1 kq x3_3 l0_1 (l0_1.length : Int) x23_2 (rd_L6 l0_1 x23_2) ((rd_L6 l0_1 x23_2).length : Int) x29_3 a0_0 l0_1 = some r) ∧ Aside0 (kq ≤ k2) ∧ Aside0 (w'.heap[gb171]? = some (.cells #[.int .i64 a0_0, (.slice (some ad172) l0_1.length c0_1)] 35 (0, 0))) ∧ Aside0 (Below w.heap.size w w'))
                    case atStart => exact ⟨(x3_2), (0), (by first | rfl | (simp; done) | (simp [*]; done)), (by first | rfl | (simp; done) | (simp [*]; done)), H', ⟨Nat.le_refl _⟩, ⟨by (with_reducible repeat (first | refine blk_drewN ?_ _ | refine blk_drew ?_ | refine blk_alloc ?_ _)); exact BK171.out⟩, ⟨by repeat (first | (with_reducible first | exact HB.out | apply below_alloc | apply pw_below_drewN | apply below_drew1 | refine below_set ?_ GE171.out) | exact HB.out)⟩⟩
                    case round =>
                      clear H'
                      try clear c1
                      try clear p1
                      try clear q1
                      try clear hx1
                      try clear p2
                      try clear c5
                      try clear c5b0
                      try clear c7
                      try clear c8
                      try clear c8b0
                      try clear c8b1
                      try clear c11
                      try clear c11b0
                      try clear c12
                      try clear c12b0
                      try clear c13
                      try clear c13b0
                      try clear hcz10_0
                      try clear hcz10_1
                      try clear hcz4_0
                      try clear hcz4_1
                      try clear hcz6_0
                      try clear hcz6_1
                      try clear hcz9_0
                      try clear hcz9_1
                      try clear hfz10_0
                      try clear hfz10_1
                      try clear hfz4_0
                      try clear hfz4_1
                      try clear hfz6_0
                      try clear hfz6_1
                      try clear hfz9_0
                      try clear hfz9_1
                      try clear hx172_0
                      try clear p172
                      try clear p2
                      try clear q172
                      obtain ⟨x3_3, x29_3, rfl, rfl, HA, HK3, BK171, HB⟩ := hrel
                      cases gk with
                      | zero => exact absurd HA.out (by simp [cnf_Right.l1])
                      | succ k3 =>
                        have H := HA.out
                        clear HA
                        simp only [cnf_Right.l1] at H
                        by_cases c14 : x29_3 < ((rd_L6 l0_1 x23_2).length : Int)
                        · rw [if_pos c14] at H
                          have c14b0 : decide (x29_3 < ((rd_L6 l0_1 x23_2).length : Int)) = true := decide_eq_true c14
                          clear c14
                          by_cases c15 : 0 ≤ x29_3
                          · rw [if_pos c15] at H
                            have c15b0 : decide (0 ≤ x29_3) = true := decide_eq_true c15
                            clear c15
                            by_cases c16 : x29_3 < ((rd_L6 l0_1 x23_2).length : Int)
                            · rw [if_pos c16] at H
                              have c16b0 : decide (x29_3 < ((rd_L6 l0_1 x23_2).length : Int)) = true := decide_eq_true c16
                              clear c16
                              by_cases c17 : x3_3 = 0
                              · rw [if_pos c17] at H
                                have c17b0 : (x3_3 == 0) = true := beq_iff_eq.mpr c17
                                have c17b1 : (x3_3 != 0) = false := bne_eq_false_iff_eq.mpr c17
                                clear c17
                                obtain rfl := Option.some.inj H
                                have p173 : 0 ≤ (x29_3 : Int) := of_decide_eq_true (by first | (with_reducible assumption) | assumption)
                                have q173 : x29_3 < ((rd_L6 l0_1 x23_2).length : Int) := of_decide_eq_true (by first | (with_reducible assumption) | assumption)
                                obtain ⟨ad173, e173, hx173_0⟩ := Kd.at_int HR172_0.out x29_3 p173 q173
                                cases e173
                                replace hx173_0 := (HB.out.cell (World.block_lt_of_cell? w _ hx173_0)).trans hx173_0
                                replace p173 := eq_true p173
                                replace q173 := eq_true q173
                                go_wp2
                                repeat (go_quiet (fail); try go_wp2)
                                go_ret
                                exact ⟨by first | rfl | (simp [errW_none, errW_some] <;> rfl) | (simp [*, errW_none, errW_some] <;> rfl), by repeat (first | (with_reducible first | exact HB.out | apply below_alloc | apply pw_below_drewN | apply below_drew1 | refine below_set ?_ GE171.out) | exact HB.out)⟩
                              · rw [if_neg c17] at H
                                have c17b0 : (x3_3 == 0) = false := beq_eq_false_iff_ne.mpr c17
                                have c17b1 : (x3_3 != 0) = true := bne_iff_ne.mpr c17
                                by_cases c18 : (rd (rd_L6 l0_1 x23_2) x29_3) = 0
                                · rw [if_pos c18] at H
                                  have c18b0 : ((rd (rd_L6 l0_1 x23_2) x29_3) == 0) = true := beq_iff_eq.mpr c18
                                  have c18b1 : ((rd (rd_L6 l0_1 x23_2) x29_3) != 0) = false := bne_eq_false_iff_eq.mpr c18
                                  clear c18
                                  obtain rfl := Option.some.inj H
                                  have p173 : 0 ≤ (x29_3 : Int) := of_decide_eq_true (by first | (with_reducible assumption) | assumption)
                                  have q173 : x29_3 < ((rd_L6 l0_1 x23_2).length : Int) := of_decide_eq_true (by first | (with_reducible assumption) | assumption)
                                  obtain ⟨ad173, e173, hx173_0⟩ := Kd.at_int HR172_0.out x29_3 p173 q173
                                  cases e173
                                  replace hx173_0 := (HB.out.cell (World.block_lt_of_cell? w _ hx173_0)).trans hx173_0
                                  replace p173 := eq_true p173
                                  replace q173 := eq_true q173
                                  go_wp2
                                  repeat (go_quiet (fail); try go_wp2)
                                  go_ret
                                  exact ⟨by first | rfl | (simp [errW_none, errW_some] <;> rfl) | (simp [*, errW_none, errW_some] <;> rfl), by repeat (first | (with_reducible first | exact HB.out | apply below_alloc | apply pw_below_drewN | apply below_drew1 | refine below_set ?_ GE171.out) | exact HB.out)⟩
                                · rw [if_neg c18] at H
                                  have c18b0 : ((rd (rd_L6 l0_1 x23_2) x29_3) == 0) = false := beq_eq_false_iff_ne.mpr c18
                                  have c18b1 : ((rd (rd_L6 l0_1 x23_2) x29_3) != 0) = true := bne_iff_ne.mpr c18
                                  replace H := Option.bind_eq_some_iff.mp H
                                  obtain ⟨t174, A190, H⟩ := H
                                  replace H : (if t174 > a0_0 then (some 4) else (cnf_Right.l1 k3 (wrap64 (x3_3 - 1)) l0_1 (l0_1.length : Int) x23_2 (rd_L6 l0_1 x23_2) ((rd_L6 l0_1 x23_2).length : Int) (wrap64 (x29_3 + 1)) a0_0 l0_1)) = some r := H
                                  have A19 := Aside0.mk A190
                                  clear A190
                                  by_cases c20 : t174 > a0_0
                                  · rw [if_pos c20] at H
                                    have c20b0 : decide (a0_0 < t174) = true := decide_eq_true c20
                                    clear c20
                                    obtain rfl := Option.some.inj H
                                    have p173 : 0 ≤ (x29_3 : Int) := of_decide_eq_true (by first | (with_reducible assumption) | assumption)
                                    have q173 : x29_3 < ((rd_L6 l0_1 x23_2).length : Int) := of_decide_eq_true (by first | (with_reducible assumption) | assumption)
                                    obtain ⟨ad173, e173, hx173_0⟩ := Kd.at_int HR172_0.out x29_3 p173 q173
                                    cases e173
                                    replace hx173_0 := (HB.out.cell (World.block_lt_of_cell? w _ hx173_0)).trans hx173_0
                                    replace p173 := eq_true p173
                                    replace q173 := eq_true q173
                                    go_wp2_with (first | (go_at_call 46; (with_reducible refine (cnf_Var.calls (rd (rd_L6 l0_1 x23_2) x29_3) t174 _ A19.out).mono ?_); rintro e w' ⟨rfl, ⟨nd, rfl⟩⟩; (try first | exact ⟨rfl, _, World.drewN_drewN _ _ _⟩ | exact ⟨rfl, _, Eq.trans (World.drewN_drewN _ _ _) (congrArg (World.drewN _) (Nat.add_assoc _ _ _))⟩); have hcz21_0 : wr.cell? ⟨gb171, 0, none⟩ = some (.int .i64 a0_0) := (blk_cell BK171.out 0).trans rfl; have hcz21_1 : wr.cell? ⟨gb171, 1, none⟩ = some (.slice (some ad172) l0_1.length c0_1) := (blk_cell BK171.out 1).trans rfl; have hfz21_0 := blk_frozen BK171.out 0; have hfz21_1 := blk_frozen BK171.out 1))
                                    repeat (go_quiet (first | (go_at_call 46; (with_reducible refine (cnf_Var.calls (rd (rd_L6 l0_1 x23_2) x29_3) t174 _ A19.out).mono ?_); rintro e w' ⟨rfl, ⟨nd, rfl⟩⟩; (try first | exact ⟨rfl, _, World.drewN_drewN _ _ _⟩ | exact ⟨rfl, _, Eq.trans (World.drewN_drewN _ _ _) (congrArg (World.drewN _) (Nat.add_assoc _ _ _))⟩); have hcz21_0 : wr.cell? ⟨gb171, 0, none⟩ = some (.int .i64 a0_0) := (blk_cell BK171.out 0).trans rfl; have hcz21_1 : wr.cell? ⟨gb171, 1, none⟩ = some (.slice (some ad172) l0_1.length c0_1) := (blk_cell BK171.out 1).trans rfl; have hfz21_0 := blk_frozen BK171.out 0; have hfz21_1 := blk_frozen BK171.out 1)); try go_wp2_with (first | (go_at_call 46; (with_reducible refine (cnf_Var.calls (rd (rd_L6 l0_1 x23_2) x29_3) t174 _ A19.out).mono ?_); rintro e w' ⟨rfl, ⟨nd, rfl⟩⟩; (try first | exact ⟨rfl, _, World.drewN_drewN _ _ _⟩ | exact ⟨rfl, _, Eq.trans (World.drewN_drewN _ _ _) (congrArg (World.drewN _) (Nat.add_assoc _ _ _))⟩); have hcz21_0 : wr.cell? ⟨gb171, 0, none⟩ = some (.int .i64 a0_0) := (blk_cell BK171.out 0).trans rfl; have hcz21_1 : wr.cell? ⟨gb171, 1, none⟩ = some (.slice (some ad172) l0_1.length c0_1) := (blk_cell BK171.out 1).trans rfl; have hfz21_0 := blk_frozen BK171.out 0; have hfz21_1 := blk_frozen BK171.out 1)))
                                    go_ret
                                    exact ⟨by first | rfl | (simp [errW_none, errW_some] <;> rfl) | (simp [*, errW_none, errW_some] <;> rfl), by repeat (first | (with_reducible first | exact HB.out | apply below_alloc | apply pw_below_drewN | apply below_drew1 | refine below_set ?_ GE171.out) | exact HB.out)⟩
                                  · rw [if_neg c20] at H
                                    have c20b0 : decide (a0_0 < t174) = false := decide_eq_false c20
                                    clear c20
                                    have H' := Aside0.mk H
                                    clear H
                                    have p173 : 0 ≤ (x29_3 : Int) := of_decide_eq_true (by first | (with_reducible assumption) | assumption)
                                    have q173 : x29_3 < ((rd_L6 l0_1 x23_2).length : Int) := of_decide_eq_true (by first | (with_reducible assumption) | assumption)
                                    obtain ⟨ad173, e173, hx173_0⟩ := Kd.at_int HR172_0.out x29_3 p173 q173
                                    cases e173
                                    replace hx173_0 := (HB.out.cell (World.block_lt_of_cell? w _ hx173_0)).trans hx173_0
                                    replace p173 := eq_true p173
                                    replace q173 := eq_true q173
                                    go_wp2_with (first | (go_at_call 46; (with_reducible refine (cnf_Var.calls (rd (rd_L6 l0_1 x23_2) x29_3) t174 _ A19.out).mono ?_); rintro e w' ⟨rfl, ⟨nd, rfl⟩⟩; (try first | exact ⟨rfl, _, World.drewN_drewN _ _ _⟩ | exact ⟨rfl, _, Eq.trans (World.drewN_drewN _ _ _) (congrArg (World.drewN _) (Nat.add_assoc _ _ _))⟩); have hcz22_0 : wr.cell? ⟨gb171, 0, none⟩ = some (.int .i64 a0_0) := (blk_cell BK171.out 0).trans rfl; have hcz22_1 : wr.cell? ⟨gb171, 1, none⟩ = some (.slice (some ad172) l0_1.length c0_1) := (blk_cell BK171.out 1).trans rfl; have hfz22_0 := blk_frozen BK171.out 0; have hfz22_1 := blk_frozen BK171.out 1))
                                    repeat (go_quiet (first | (go_at_call 46; (with_reducible refine (cnf_Var.calls (rd (rd_L6 l0_1 x23_2) x29_3) t174 _ A19.out).mono ?_); rintro e w' ⟨rfl, ⟨nd, rfl⟩⟩; (try first | exact ⟨rfl, _, World.drewN_drewN _ _ _⟩ | exact ⟨rfl, _, Eq.trans (World.drewN_drewN _ _ _) (congrArg (World.drewN _) (Nat.add_assoc _ _ _))⟩); have hcz22_0 : wr.cell? ⟨gb171, 0, none⟩ = some (.int .i64 a0_0) := (blk_cell BK171.out 0).trans rfl; have hcz22_1 : wr.cell? ⟨gb171, 1, none⟩ = some (.slice (some ad172) l0_1.length c0_1) := (blk_cell BK171.out 1).trans rfl; have hfz22_0 := blk_frozen BK171.out 0; have hfz22_1 := blk_frozen BK171.out 1)); try go_wp2_with (first | (go_at_call 46; (with_reducible refine (cnf_Var.calls (rd (rd_L6 l0_1 x23_2) x29_3) t174 _ A19.out).mono ?_); rintro e w' ⟨rfl, ⟨nd, rfl⟩⟩; (try first | exact ⟨rfl, _, World.drewN_drewN _ _ _⟩ | exact ⟨rfl, _, Eq.trans (World.drewN_drewN _ _ _) (congrArg (World.drewN _) (Nat.add_assoc _ _ _))⟩); have hcz22_0 : wr.cell? ⟨gb171, 0, none⟩ = some (.int .i64 a0_0) := (blk_cell BK171.out 0).trans rfl; have hcz22_1 : wr.cell? ⟨gb171, 1, none⟩ = some (.slice (some ad172) l0_1.length c0_1) := (blk_cell BK171.out 1).trans rfl; have hfz22_0 := blk_frozen BK171.out 0; have hfz22_1 := blk_frozen BK171.out 1)))
                                    go_roundg k3
                                    case measure => have := HJ1.out; have := HK2.out; have := HK3.out; omega
                                    case rel => exact ⟨(wrap64 (x3_3 - 1)), (wrap64 (x29_3 + 1)), (by first | rfl | (simp; done) | (simp [*]; done)), (by first | rfl | (simp; done) | (simp [*]; done)), H', ⟨by have := HJ1.out; have := HK2.out; have := HK3.out; omega⟩, ⟨by (with_reducible repeat (first | refine blk_drewN ?_ _ | refine blk_drew ?_ | refine blk_alloc ?_ _)); exact BK171.out⟩, ⟨by repeat (first | (with_reducible first | exact HB.out | apply below_alloc | apply pw_below_drewN | apply below_drew1 | refine below_set ?_ GE171.out) | exact HB.out)⟩⟩
                            · rw [if_neg c16] at H
                              exact absurd H (by simp)
                          · rw [if_neg c15] at H
                            exact absurd H (by simp)
                        · rw [if_neg c14] at H
                          have c14b0 : decide (x29_3 < ((rd_L6 l0_1 x23_2).length : Int)) = false := decide_eq_false c14
                          clear c14
                          have H' := Aside0.mk H
                          clear H
                          go_wp2
                          repeat (go_quiet (fail); try go_wp2)
                          go_roundg k3
                          case measure => have := HJ1.out; have := HK2.out; have := HK3.out; omega
                          case rel => exact ⟨(x3_3), (wrap64 (x23_2 + 1)), (by first | rfl | (simp; done) | (simp [*]; done)), (by first | rfl | (simp; done) | (simp [*]; done)), H', ⟨by have := HJ1.out; have := HK2.out; have := HK3.out; omega⟩, ⟨by (with_reducible repeat (first | refine blk_drewN ?_ _ | refine blk_drew ?_ | refine blk_alloc ?_ _)); exact BK171.out⟩, ⟨by repeat (first | (with_reducible first | exact HB.out | apply below_alloc | apply pw_below_drewN | apply below_drew1 | refine below_set ?_ GE171.out) | exact HB.out)⟩⟩
                  · rw [if_neg c13] at H
                    exact absurd H (by simp)
                · rw [if_neg c12] at H
                  exact absurd H (by simp)
              · rw [if_neg c11] at H
                have c11b0 : decide (x23_2 < (l0_1.length : Int)) = false := decide_eq_false c11
                clear c11
                obtain rfl := Option.some.inj H
                go_wp2
                repeat (go_quiet (fail); try go_wp2)
                go_ret
                exact ⟨by first | rfl | (simp [errW_none, errW_some] <;> rfl) | (simp [*, errW_none, errW_some] <;> rfl), by repeat (first | (with_reducible first | exact HB.out | apply below_alloc | apply pw_below_drewN | apply below_drew1 | refine below_set ?_ GE171.out) | exact HB.out)⟩
end Go.Proofs.YtigloobbpcnnhaaGreatDoor.PB
end
section
namespace Go.Proofs.YtigloobbpcnnhaaGreatDoor.PB
open Go.RowKit Go.Proofs.YtigloobbpcnnhaaGreatDoorW.PrintWords Go.Proofs.YtigloobbpcnnhaaGreatDoorW.PrintLast Go.Proofs.YtigloobbpcnnhaaGreatDoorW.PrintMore
attribute [local go_sem] max2_int min2_int max_two min_two max_three min_three max_four min_four   -- for this text's walks alone
set_option linter.unusedVariables false
set_option linter.unusedSimpArgs false
def threshingref01_Var.f (a0 : Int) : Option (Int) := if a0 < 0 then (some (wrap64 (-(wrap64 (a0))))) else (some (wrap64 (a0)))
set_option maxHeartbeats 8000000 in
set_option maxRecDepth 100000 in
theorem threshingref01_Var.calls (a0 : Int) (r : Int) (w : World) (h : threshingref01_Var.f a0 = some r) :
    Calls Tryz.prog 66 #[.int .i32 a0] w fun e w' => e = .returned (.int .i64 r) ∧ Drawn0 w w' := by
  have H : (if a0 < 0 then (some (wrap64 (-(wrap64 (a0))))) else (some (wrap64 (a0)))) = some r := h
  clear h
  by_cases c2 : a0 < 0
  · rw [if_pos c2] at H
    have c2b0 : decide (a0 < 0) = true := decide_eq_true c2
    clear c2
    obtain rfl := Option.some.inj H
    go_enter Tryz.func66, Tryz.ntmps66
    go_wp2
    go_ret
    exact ⟨by first | rfl | (simp; done) | (simp [*]; done), by repeat (first | exact Drawn0.refl _ | apply Drawn0.step)⟩
  · rw [if_neg c2] at H
    have c2b0 : decide (a0 < 0) = false := decide_eq_false c2
    clear c2
    obtain rfl := Option.some.inj H
    go_enter Tryz.func66, Tryz.ntmps66
    go_wp2
    go_ret
    exact ⟨by first | rfl | (simp; done) | (simp [*]; done), by repeat (first | exact Drawn0.refl _ | apply Drawn0.step)⟩
end Go.Proofs.YtigloobbpcnnhaaGreatDoor.PB
end
section
namespace Go.Proofs.YtigloobbpcnnhaaGreatDoor.PB
open Go.RowKit Go.Proofs.YtigloobbpcnnhaaGreatDoorW.PrintWords Go.Proofs.YtigloobbpcnnhaaGreatDoorW.PrintLast Go.Proofs.YtigloobbpcnnhaaGreatDoorW.PrintMore
attribute [local go_sem] max2_int min2_int max_two min_two max_three min_three max_four min_four   -- for this text's walks alone
set_option linter.unusedVariables false
set_option linter.unusedSimpArgs false
mutual
def threshingref01_Right.j0 : Nat → Bool → Int → List (List Int) → Option (Int)
  | 0, _, _, _ => none
  | k + 1, x14, x216000, x216001 => if x14 = true then (some 2) else (if (x216001.length : Int) > 1048576 then (some 3) else (threshingref01_Right.l0 k 0 0 x216000 x216001))
def threshingref01_Right.l0 : Nat → Int → Int → Int → List (List Int) → Option (Int)
  | 0, _, _, _, _ => none
  | k + 1, x3, x4, x216000, x216001 => if x4 < (x216001.length : Int) then (threshingref01_Right.l1 k x3 x4 0 x216000 x216001) else (some 0)
def threshingref01_Right.l1 : Nat → Int → Int → Int → Int → List (List Int) → Option (Int)
  | 0, _, _, _, _, _ => none
  | k + 1, x3, x4, x5, x216000, x216001 => if 0 ≤ x4 then (if x4 < (x216001.length : Int) then (if x5 < ((rd_L6 x216001 x4).length : Int) then (if (wrap64 (x3 + 1)) > 16777216 then (some 3) else (if 0 ≤ x5 then (if (rd (rd_L6 x216001 x4) x5) = 0 then (some 4) else ((threshingref01_Var.f (rd (rd_L6 x216001 x4) x5)).bind fun t219 => (if t219 > x216000 then (some 4) else (threshingref01_Right.l1 k (wrap64 (x3 + 1)) x4 (wrap64 (x5 + 1)) x216000 x216001)))) else (none))) else (threshingref01_Right.l0 k x3 (wrap64 (x4 + 1)) x216000 x216001)) else (none)) else (none)
end
def threshingref01_Right.f (k : Nat) (a0_0 : Int) (l0_1 : List (List Int)) : Option (Int) := if a0_0 < 0 then (threshingref01_Right.j0 k true a0_0 l0_1) else (threshingref01_Right.j0 k (decide (a0_0 > 1048576)) a0_0 l0_1)
theorem threshingref01_Right.mono_l : ∀ k, (∀ y0 y1 y2, LeO (threshingref01_Right.j0 k y0 y1 y2) (threshingref01_Right.j0 (k + 1) y0 y1 y2)) ∧ (∀ y0 y1 y2 y3, LeO (threshingref01_Right.l0 k y0 y1 y2 y3) (threshingref01_Right.l0 (k + 1) y0 y1 y2 y3)) ∧ (∀ y0 y1 y2 y3 y4, LeO (threshingref01_Right.l1 k y0 y1 y2 y3 y4) (threshingref01_Right.l1 (k + 1) y0 y1 y2 y3 y4))
  | 0 => ⟨fun _ _ _ r h => by simp [threshingref01_Right.j0] at h, fun _ _ _ _ r h => by simp [threshingref01_Right.l0] at h, fun _ _ _ _ _ r h => by simp [threshingref01_Right.l1] at h⟩
  | k + 1 => by
    obtain ⟨ih0, ih1, ih2⟩ := threshingref01_Right.mono_l k
    refine ⟨?_, ?_, ?_⟩
    · intro y0 y1 y2
      unfold threshingref01_Right.j0
      repeat' first
      | (with_reducible exact ih0 _ _ _)
      | (with_reducible exact ih1 _ _ _ _)
      | (with_reducible exact ih2 _ _ _ _ _)
      | (with_reducible exact LeO.refl _)
      | (with_reducible exact LeO.none _)
      | (with_reducible refine LeO.ite ?_ ?_)
      | (with_reducible refine LeO.bind ?_ (fun _ => ?_))
      | exact ih0 _ _ _
      | exact ih1 _ _ _ _
      | exact ih2 _ _ _ _ _
      | exact LeO.none _
      | refine LeO.ite ?_ ?_
      | refine LeO.bind ?_ (fun _ => ?_)
    · intro y0 y1 y2 y3
      unfold threshingref01_Right.l0
      repeat' first
      | (with_reducible exact ih0 _ _ _)
      | (with_reducible exact ih1 _ _ _ _)
      | (with_reducible exact ih2 _ _ _ _ _)
      | (with_reducible exact LeO.refl _)
      | (with_reducible exact LeO.none _)
      | (with_reducible refine LeO.ite ?_ ?_)
      | (with_reducible refine LeO.bind ?_ (fun _ => ?_))
      | exact ih0 _ _ _
      | exact ih1 _ _ _ _
      | exact ih2 _ _ _ _ _
      | exact LeO.none _
      | refine LeO.ite ?_ ?_
      | refine LeO.bind ?_ (fun _ => ?_)
    · intro y0 y1 y2 y3 y4
      unfold threshingref01_Right.l1
      repeat' first
      | (with_reducible exact ih0 _ _ _)
      | (with_reducible exact ih1 _ _ _ _)
      | (with_reducible exact ih2 _ _ _ _ _)
      | (with_reducible exact LeO.refl _)
      | (with_reducible exact LeO.none _)
      | (with_reducible refine LeO.ite ?_ ?_)
      | (with_reducible refine LeO.bind ?_ (fun _ => ?_))
      | exact ih0 _ _ _
      | exact ih1 _ _ _ _
      | exact ih2 _ _ _ _ _
      | exact LeO.none _
      | refine LeO.ite ?_ ?_
      | refine LeO.bind ?_ (fun _ => ?_)
theorem threshingref01_Right.mono : ∀ a0 a1 k, LeO (threshingref01_Right.f k a0 a1) (threshingref01_Right.f (k + 1) a0 a1) := by
  intro a0 a1 k
  obtain ⟨ih0, ih1, ih2⟩ := threshingref01_Right.mono_l k
  unfold threshingref01_Right.f
  repeat' first
      | (with_reducible exact ih0 _ _ _)
      | (with_reducible exact ih1 _ _ _ _)
      | (with_reducible exact ih2 _ _ _ _ _)
      | (with_reducible exact LeO.refl _)
      | (with_reducible exact LeO.none _)
      | (with_reducible refine LeO.ite ?_ ?_)
      | (with_reducible refine LeO.bind ?_ (fun _ => ?_))
      | exact ih0 _ _ _
      | exact ih1 _ _ _ _
      | exact ih2 _ _ _ _ _
      | exact LeO.none _
      | refine LeO.ite ?_ ?_
      | refine LeO.bind ?_ (fun _ => ?_)
set_option maxHeartbeats 8000000 in
set_option maxRecDepth 100000 in
theorem threshingref01_Right.calls (k : Nat) (a0_0 : Int) (A0_1 : Option Addr) (c0_1 : Nat) (l0_1 : List (List Int)) (r : Int) (w : World) (hr0_1 : Kd.C (Kd.slice 40 (Kd.int .i32)) w A0_1 l0_1.length l0_1) (hc0_1 : l0_1.length ≤ c0_1) (h : threshingref01_Right.f k a0_0 l0_1 = some r) :
    Calls Tryz.prog 49 #[.agg #[.int .i64 a0_0, .slice A0_1 l0_1.length c0_1]] w fun e w' => e = .returned (.int .i64 r) ∧ Below w.heap.size w w' := by
  have hu25 := Tryz.underlying35
  have HR0_1 := Aside0.mk hr0_1
  have HC0_1 := Aside0.mk hc0_1
  clear hr0_1 hc0_1
  have HB := Aside0.mk (Below.refl w.heap.size w)
  have H : (if a0_0 < 0 then (threshingref01_Right.j0 k true a0_0 l0_1) else (threshingref01_Right.j0 k (decide (a0_0 > 1048576)) a0_0 l0_1)) = some r := h
  clear h
  have HC2 := Aside0.mk H
  clear H
  go_enter Tryz.func49, Tryz.ntmps49
  go_upto_region 1 with (first | ((with_reducible refine gate_dst (N := 1) rfl ?_); refine box_event ?hg (N := 1) ?hd (cs := #[.int .i64 a0_0, .slice A0_1 l0_1.length c0_1]) (t := 35) ?hr ?_; (case hd => rfl); (case hg => rfl); (case hr => first | (go_simp; done) | (go_simp; rfl)); intro gb215 hg w3 hbox hb; have n0_ := Aside0.mk (below_step (by repeat (first | (with_reducible first | exact HB.out | apply below_alloc | apply pw_below_drewN | apply below_drew1) | exact HB.out)) hb); have n1_ := Aside0.mk (hbox); have n2_ := Aside0.mk ((by rw [hg]; exact (below_size (by repeat (first | (with_reducible first | exact HB.out | apply below_alloc | apply pw_below_drewN | apply below_drew1) | exact HB.out))) : w.heap.size ≤ gb215)); have n3_ := Aside0.mk ((by rw [hg]; exact (below_size (by repeat (first | (with_reducible first | exact HB.out | apply below_alloc | apply pw_below_drewN | apply below_drew1) | exact HB.out))) : w.heap.size ≤ gb215)); clear HB; have HB := n0_; have BK215 := n1_; have GW215 := n2_; have GE215 := n3_; clear n0_ n1_ n2_ n3_; clear hb hbox hg))
  repeat (go_quiet (first | ((with_reducible refine gate_dst (N := 1) rfl ?_); refine box_event ?hg (N := 1) ?hd (cs := #[.int .i64 a0_0, .slice A0_1 l0_1.length c0_1]) (t := 35) ?hr ?_; (case hd => rfl); (case hg => rfl); (case hr => first | (go_simp; done) | (go_simp; rfl)); intro gb215 hg w3 hbox hb; have n0_ := Aside0.mk (below_step (by repeat (first | (with_reducible first | exact HB.out | apply below_alloc | apply pw_below_drewN | apply below_drew1) | exact HB.out)) hb); have n1_ := Aside0.mk (hbox); have n2_ := Aside0.mk ((by rw [hg]; exact (below_size (by repeat (first | (with_reducible first | exact HB.out | apply below_alloc | apply pw_below_drewN | apply below_drew1) | exact HB.out))) : w.heap.size ≤ gb215)); have n3_ := Aside0.mk ((by rw [hg]; exact (below_size (by repeat (first | (with_reducible first | exact HB.out | apply below_alloc | apply pw_below_drewN | apply below_drew1) | exact HB.out))) : w.heap.size ≤ gb215)); clear HB; have HB := n0_; have BK215 := n1_; have GW215 := n2_; have GE215 := n3_; clear n0_ n1_ n2_ n3_; clear hb hbox hg)); go_upto_region 1 with (first | ((with_reducible refine gate_dst (N := 1) rfl ?_); refine box_event ?hg (N := 1) ?hd (cs := #[.int .i64 a0_0, .slice A0_1 l0_1.length c0_1]) (t := 35) ?hr ?_; (case hd => rfl); (case hg => rfl); (case hr => first | (go_simp; done) | (go_simp; rfl)); intro gb215 hg w3 hbox hb; have n0_ := Aside0.mk (below_step (by repeat (first | (with_reducible first | exact HB.out | apply below_alloc | apply pw_below_drewN | apply below_drew1) | exact HB.out)) hb); have n1_ := Aside0.mk (hbox); have n2_ := Aside0.mk ((by rw [hg]; exact (below_size (by repeat (first | (with_reducible first | exact HB.out | apply below_alloc | apply pw_below_drewN | apply below_drew1) | exact HB.out))) : w.heap.size ≤ gb215)); have n3_ := Aside0.mk ((by rw [hg]; exact (below_size (by repeat (first | (with_reducible first | exact HB.out | apply below_alloc | apply pw_below_drewN | apply below_drew1) | exact HB.out))) : w.heap.size ≤ gb215)); clear HB; have HB := n0_; have BK215 := n1_; have GW215 := n2_; have GE215 := n3_; clear n0_ n1_ n2_ n3_; clear hb hbox hg)))
  (try simp only [Act.put, List.setIfInBounds_toArray, List.set_cons_zero, List.set_cons_succ])
  go_cut [14] (fun v14 wc => ∃ (kq : Nat) (x14_1 : Bool), v14 = .bool x14_1 ∧ Aside0 (threshingref01_Right.j0 kq x14_1 a0_0 l0_1 = some r) ∧ Aside0 (kq ≤ k) ∧ Aside0 (wc.heap[gb215]? = some (.cells #[.int .i64 a0_0, (.slice A0_1 l0_1.length c0_1)] 35 (0, 0))) ∧ Aside0 (Below w.heap.size w wc))
  case first =>
    have H := HC2.out
    clear HC2
    by_cases c4 : a0_0 < 0
    · rw [if_pos c4] at H
      have c4b0 : decide (a0_0 < 0) = true := decide_eq_true c4
      clear c4
      (first | rw [c4b0] | (simp only [i64_w, i32_w]; rw [c4b0]) | skip)
      have H' := Aside0.mk H
      clear H
      have hcz5_0 : w3.cell? ⟨gb215, 0, none⟩ = some (.int .i64 a0_0) := (blk_cell BK215.out 0).trans rfl
      have hcz5_1 : w3.cell? ⟨gb215, 1, none⟩ = some (.slice A0_1 l0_1.length c0_1) := (blk_cell BK215.out 1).trans rfl
      have hfz5_0 := blk_frozen BK215.out 0
      have hfz5_1 := blk_frozen BK215.out 1
      go_wp2
      repeat (go_quiet (fail); try go_wp2)
      go_meet
      case rel => exact ⟨_, (true), (by first | rfl | (simp; done) | (simp [*]; done)), H', ⟨by first | omega | exact Nat.le_refl _⟩, ⟨by (with_reducible repeat (first | refine blk_drewN ?_ _ | refine blk_drew ?_ | refine blk_alloc ?_ _)); exact BK215.out⟩, ⟨by repeat (first | (with_reducible first | exact HB.out | apply below_alloc | apply pw_below_drewN | apply below_drew1 | refine below_set ?_ GE215.out) | exact HB.out)⟩⟩
    · rw [if_neg c4] at H
      have c4b0 : decide (a0_0 < 0) = false := decide_eq_false c4
      clear c4
      (first | rw [c4b0] | (simp only [i64_w, i32_w]; rw [c4b0]) | skip)
      have H' := Aside0.mk H
      clear H
      have hcz6_0 : w3.cell? ⟨gb215, 0, none⟩ = some (.int .i64 a0_0) := (blk_cell BK215.out 0).trans rfl
      have hcz6_1 : w3.cell? ⟨gb215, 1, none⟩ = some (.slice A0_1 l0_1.length c0_1) := (blk_cell BK215.out 1).trans rfl
      have hfz6_0 := blk_frozen BK215.out 0
      have hfz6_1 := blk_frozen BK215.out 1
      go_wp2
      repeat (go_quiet (fail); try go_wp2)
      go_meet
      case rel => exact ⟨_, (decide (a0_0 > 1048576)), (by first | rfl | (simp; done) | (simp [*]; done)), H', ⟨by first | omega | exact Nat.le_refl _⟩, ⟨by (with_reducible repeat (first | refine blk_drewN ?_ _ | refine blk_drew ?_ | refine blk_alloc ?_ _)); exact BK215.out⟩, ⟨by repeat (first | (with_reducible first | exact HB.out | apply below_alloc | apply pw_below_drewN | apply below_drew1 | refine below_set ?_ GE215.out) | exact HB.out)⟩⟩
  case rest =>
    clear HC2
    try clear p2
    try clear c3
    try clear c4
    try clear c4b0
    try clear hcz5_0
    try clear hcz5_1
    try clear hcz6_0
    try clear hcz6_1
    try clear hfz5_0
    try clear hfz5_1
    try clear hfz6_0
    try clear hfz6_1
    obtain ⟨kq, x14_1, rfl, HA, HJ1, BK215, HB⟩ := hcut
    cases kq with
    | zero => exact absurd HA.out (by simp [threshingref01_Right.j0])
    | succ kj1 =>
      have H := HA.out
      clear HA
      simp only [threshingref01_Right.j0] at H
      by_cases c7 : x14_1 = true
      · subst c7
        have H1 : (some 2) = some r := by rw [if_pos rfl] at H; exact H
        clear H
        have H := H1
        clear H1
        obtain rfl := Option.some.inj H
        go_wp2
        repeat (go_quiet (fail); try go_wp2)
        go_ret
        exact ⟨by first | rfl | (simp [errW_none, errW_some] <;> rfl) | (simp [*, errW_none, errW_some] <;> rfl), by repeat (first | (with_reducible first | exact HB.out | apply below_alloc | apply pw_below_drewN | apply below_drew1 | refine below_set ?_ GE215.out) | exact HB.out)⟩
      · replace c7 := Bool.eq_false_iff.mpr c7
        subst c7
        have H1 : (if (l0_1.length : Int) > 1048576 then (some 3) else (threshingref01_Right.l0 kj1 0 0 a0_0 l0_1)) = some r := by rw [if_neg (show ¬ (false = true) by decide)] at H; exact H
        clear H
        have H := H1
        clear H1
        by_cases c8 : (l0_1.length : Int) > 1048576
        · rw [if_pos c8] at H
          have c8b0 : decide (1048576 < (l0_1.length : Int)) = true := decide_eq_true c8
          have c8b1 : decide (1048576 < l0_1.length) = true := decide_eq_true (by omega)
          clear c8
          obtain rfl := Option.some.inj H
          have hcz9_0 : wc.cell? ⟨gb215, 0, none⟩ = some (.int .i64 a0_0) := (blk_cell BK215.out 0).trans rfl
          have hcz9_1 : wc.cell? ⟨gb215, 1, none⟩ = some (.slice A0_1 l0_1.length c0_1) := (blk_cell BK215.out 1).trans rfl
          have hfz9_0 := blk_frozen BK215.out 0
          have hfz9_1 := blk_frozen BK215.out 1
          go_wp2
          repeat (go_quiet (fail); try go_wp2)
          go_ret
          exact ⟨by first | rfl | (simp [errW_none, errW_some] <;> rfl) | (simp [*, errW_none, errW_some] <;> rfl), by repeat (first | (with_reducible first | exact HB.out | apply below_alloc | apply pw_below_drewN | apply below_drew1 | refine below_set ?_ GE215.out) | exact HB.out)⟩
        · rw [if_neg c8] at H
          have c8b0 : decide (1048576 < (l0_1.length : Int)) = false := decide_eq_false c8
          have c8b1 : decide (1048576 < l0_1.length) = false := decide_eq_false (by omega)
          clear c8
          have H' := Aside0.mk H
          clear H
          have hcz10_0 : wc.cell? ⟨gb215, 0, none⟩ = some (.int .i64 a0_0) := (blk_cell BK215.out 0).trans rfl
          have hcz10_1 : wc.cell? ⟨gb215, 1, none⟩ = some (.slice A0_1 l0_1.length c0_1) := (blk_cell BK215.out 1).trans rfl
          have hfz10_0 := blk_frozen BK215.out 0
          have hfz10_1 := blk_frozen BK215.out 1
          go_wp2
          repeat (go_quiet (fail); try go_wp2)
          go_loopg [3, 4] kj1 (fun kq v3 v4 w' => ∃ (x3_2 : Int) (x4_2 : Int), v3 = .int .i64 x3_2 ∧ v4 = .int .i64 x4_2 ∧ Aside0 (threshingref01_Right.l0 kq x3_2 x4_2 a0_0 l0_1 = some r) ∧ Aside0 (kq ≤ kj1) ∧ Aside0 (w'.heap[gb215]? = some (.cells #[.int .i64 a0_0, (.slice A0_1 l0_1.length c0_1)] 35 (0, 0))) ∧ Aside0 (Below w.heap.size w w'))
          case atStart => exact ⟨(0), (0), (by first | rfl | (simp; done) | (simp [*]; done)), (by first | rfl | (simp; done) | (simp [*]; done)), H', ⟨Nat.le_refl _⟩, ⟨by (with_reducible repeat (first | refine blk_drewN ?_ _ | refine blk_drew ?_ | refine blk_alloc ?_ _)); exact BK215.out⟩, ⟨by repeat (first | (with_reducible first | exact HB.out | apply below_alloc | apply pw_below_drewN | apply below_drew1 | refine below_set ?_ GE215.out) | exact HB.out)⟩⟩
          case round =>
            clear H'
            try clear p2
            try clear c3
            try clear c4
            try clear c4b0
            try clear c7
            try clear c8
            try clear c8b0
            try clear c8b1
            try clear hcz10_0
            try clear hcz10_1
            try clear hcz5_0
            try clear hcz5_1
            try clear hcz6_0
            try clear hcz6_1
            try clear hcz9_0
            try clear hcz9_1
            try clear hfz10_0
            try clear hfz10_1
            try clear hfz5_0
            try clear hfz5_1
            try clear hfz6_0
            try clear hfz6_1
            try clear hfz9_0
            try clear hfz9_1
            try clear p2
            obtain ⟨x3_2, x4_2, rfl, rfl, HA, HK2, BK215, HB⟩ := hrel
            cases gk with
            | zero => exact absurd HA.out (by simp [threshingref01_Right.l0])
            | succ k2 =>
              have H := HA.out
              clear HA
              simp only [threshingref01_Right.l0] at H
              by_cases c11 : x4_2 < (l0_1.length : Int)
              · rw [if_pos c11] at H
                have c11b0 : decide (x4_2 < (l0_1.length : Int)) = true := decide_eq_true c11
                clear c11
                have H' := Aside0.mk H
                clear H
                have hcz12_0 : wr.cell? ⟨gb215, 0, none⟩ = some (.int .i64 a0_0) := (blk_cell BK215.out 0).trans rfl
                have hcz12_1 : wr.cell? ⟨gb215, 1, none⟩ = some (.slice A0_1 l0_1.length c0_1) := (blk_cell BK215.out 1).trans rfl
                have hfz12_0 := blk_frozen BK215.out 0
                have hfz12_1 := blk_frozen BK215.out 1
                go_wp2
                repeat (go_quiet (fail); try go_wp2)
                go_loopg [3, 5] k2 (fun kq v3 v5 w' => ∃ (x3_3 : Int) (x5_3 : Int), v3 = .int .i64 x3_3 ∧ v5 = .int .i64 x5_3 ∧ Aside0 (threshingref01_Right.l1 kq x3_3 x4_2 x5_3 a0_0 l0_1 = some r) ∧ Aside0 (kq ≤ k2) ∧ Aside0 (w'.heap[gb215]? = some (.cells #[.int .i64 a0_0, (.slice A0_1 l0_1.length c0_1)] 35 (0, 0))) ∧ Aside0 (Below w.heap.size w w'))
                case atStart => exact ⟨(x3_2), (0), (by first | rfl | (simp; done) | (simp [*]; done)), (by first | rfl | (simp; done) | (simp [*]; done)), H', ⟨Nat.le_refl _⟩, ⟨by (with_reducible repeat (first | refine blk_drewN ?_ _ | refine blk_drew ?_ | refine blk_alloc ?_ _)); exact BK215.out⟩, ⟨by repeat (first | (with_reducible first | exact HB.out | apply below_alloc | apply pw_below_drewN | apply below_drew1 | refine below_set ?_ GE215.out) | exact HB.out)⟩⟩
                case round =>
                  clear H'
                  try clear c1
                  try clear p2
                  try clear c3
                  try clear c4
                  try clear c4b0
                  try clear c7
                  try clear c8
                  try clear c8b0
                  try clear c8b1
                  try clear c11
                  try clear c11b0
                  try clear hcz10_0
                  try clear hcz10_1
                  try clear hcz12_0
                  try clear hcz12_1
                  try clear hcz5_0
                  try clear hcz5_1
                  try clear hcz6_0
                  try clear hcz6_1
                  try clear hcz9_0
                  try clear hcz9_1
                  try clear hfz10_0
                  try clear hfz10_1
                  try clear hfz12_0
                  try clear hfz12_1
                  try clear hfz5_0
                  try clear hfz5_1
                  try clear hfz6_0
                  try clear hfz6_1
                  try clear hfz9_0
                  try clear hfz9_1
                  try clear p2
                  obtain ⟨x3_3, x5_3, rfl, rfl, HA, HK3, BK215, HB⟩ := hrel
                  cases gk with
                  | zero => exact absurd HA.out (by simp [threshingref01_Right.l1])
                  | succ k3 =>
                    have H := HA.out
                    clear HA
                    simp only [threshingref01_Right.l1] at H
                    by_cases c13 : 0 ≤ x4_2
                    · rw [if_pos c13] at H
                      have c13b0 : decide (0 ≤ x4_2) = true := decide_eq_true c13
                      clear c13
                      by_cases c14 : x4_2 < (l0_1.length : Int)
                      · rw [if_pos c14] at H
                        have c14b0 : decide (x4_2 < (l0_1.length : Int)) = true := decide_eq_true c14
                        clear c14
                        by_cases c15 : x5_3 < ((rd_L6 l0_1 x4_2).length : Int)
                        · rw [if_pos c15] at H
                          have c15b0 : decide (x5_3 < ((rd_L6 l0_1 x4_2).length : Int)) = true := decide_eq_true c15
                          clear c15
                          by_cases c16 : (wrap64 (x3_3 + 1)) > 16777216
                          · rw [if_pos c16] at H
                            have c16b0 : decide (16777216 < (wrap64 (x3_3 + 1))) = true := decide_eq_true c16
                            clear c16
                            obtain rfl := Option.some.inj H
                            have hcz17_0 : wr.cell? ⟨gb215, 0, none⟩ = some (.int .i64 a0_0) := (blk_cell BK215.out 0).trans rfl
                            have hcz17_1 : wr.cell? ⟨gb215, 1, none⟩ = some (.slice A0_1 l0_1.length c0_1) := (blk_cell BK215.out 1).trans rfl
                            have hfz17_0 := blk_frozen BK215.out 0
                            have hfz17_1 := blk_frozen BK215.out 1
                            have p216 : 0 ≤ (x4_2 : Int) := of_decide_eq_true (by first | (with_reducible assumption) | assumption)
                            have q216 : x4_2 < (l0_1.length : Int) := of_decide_eq_true (by first | (with_reducible assumption) | assumption)
                            obtain ⟨ad216, A216_0, c216_0, e216, hx216_0, hl216_0, hi216_0⟩ := at_L6 HR0_1.out x4_2 p216 q216
                            cases e216
                            replace hx216_0 := (HB.out.cell (World.block_lt_of_cell? w _ hx216_0)).trans hx216_0
                            have HR216_0 := Aside0.mk hi216_0
                            have HC216_0 := Aside0.mk hl216_0
                            clear hi216_0 hl216_0
                            replace p216 := eq_true p216
                            replace q216 := eq_true q216
                            go_wp2
                            repeat (go_quiet (fail); try go_wp2)
                            go_ret
                            exact ⟨by first | rfl | (simp [errW_none, errW_some] <;> rfl) | (simp [*, errW_none, errW_some] <;> rfl), by repeat (first | (with_reducible first | exact HB.out | apply below_alloc | apply pw_below_drewN | apply below_drew1 | refine below_set ?_ GE215.out) | exact HB.out)⟩
                          · rw [if_neg c16] at H
                            have c16b0 : decide (16777216 < (wrap64 (x3_3 + 1))) = false := decide_eq_false c16
                            clear c16
                            by_cases c18 : 0 ≤ x5_3
                            · rw [if_pos c18] at H
                              have c18b0 : decide (0 ≤ x5_3) = true := decide_eq_true c18
                              clear c18
                              by_cases c19 : (rd (rd_L6 l0_1 x4_2) x5_3) = 0
                              · rw [if_pos c19] at H
                                have c19b0 : ((rd (rd_L6 l0_1 x4_2) x5_3) == 0) = true := beq_iff_eq.mpr c19
                                have c19b1 : ((rd (rd_L6 l0_1 x4_2) x5_3) != 0) = false := bne_eq_false_iff_eq.mpr c19
                                clear c19
                                obtain rfl := Option.some.inj H
                                have hcz20_0 : wr.cell? ⟨gb215, 0, none⟩ = some (.int .i64 a0_0) := (blk_cell BK215.out 0).trans rfl
                                have hcz20_1 : wr.cell? ⟨gb215, 1, none⟩ = some (.slice A0_1 l0_1.length c0_1) := (blk_cell BK215.out 1).trans rfl
                                have hfz20_0 := blk_frozen BK215.out 0
                                have hfz20_1 := blk_frozen BK215.out 1
                                have p216 : 0 ≤ (x4_2 : Int) := of_decide_eq_true (by first | (with_reducible assumption) | assumption)
                                have q216 : x4_2 < (l0_1.length : Int) := of_decide_eq_true (by first | (with_reducible assumption) | assumption)
                                obtain ⟨ad216, A216_0, c216_0, e216, hx216_0, hl216_0, hi216_0⟩ := at_L6 HR0_1.out x4_2 p216 q216
                                cases e216
                                replace hx216_0 := (HB.out.cell (World.block_lt_of_cell? w _ hx216_0)).trans hx216_0
                                have HR216_0 := Aside0.mk hi216_0
                                have HC216_0 := Aside0.mk hl216_0
                                clear hi216_0 hl216_0
                                replace p216 := eq_true p216
                                replace q216 := eq_true q216
                                have p217 : 0 ≤ (x4_2 : Int) := of_decide_eq_true (by first | (with_reducible assumption) | assumption)
                                have q217 : x4_2 < (l0_1.length : Int) := of_decide_eq_true (by first | (with_reducible assumption) | assumption)
                                obtain ⟨ad217, A217_0, c217_0, e217, hx217_0, hl217_0, hi217_0⟩ := at_L6 HR0_1.out x4_2 p217 q217
                                obtain rfl : ad216 = ad217 := (by injection e217)
                                replace hx217_0 := (HB.out.cell (World.block_lt_of_cell? w _ hx217_0)).trans hx217_0
                                have HR217_0 := Aside0.mk hi217_0
                                have HC217_0 := Aside0.mk hl217_0
                                clear hi217_0 hl217_0
                                replace p217 := eq_true p217
                                replace q217 := eq_true q217
                                have ea_ := Option.some.inj (hx216_0.symm.trans hx217_0)
                                injection ea_ with ea_ en_ ec_
                                subst ea_
                                subst ec_
                                clear en_
                                have p218 : 0 ≤ (x5_3 : Int) := of_decide_eq_true (by first | (with_reducible assumption) | assumption)
                                have q218 : x5_3 < ((rd_L6 l0_1 x4_2).length : Int) := of_decide_eq_true (by first | (with_reducible assumption) | assumption)
                                obtain ⟨ad218, e218, hx218_0⟩ := Kd.at_int HR217_0.out x5_3 p218 q218
                                cases e218
                                replace hx218_0 := (HB.out.cell (World.block_lt_of_cell? w _ hx218_0)).trans hx218_0
                                replace p218 := eq_true p218
                                replace q218 := eq_true q218
                                go_wp2
                                repeat (go_quiet (fail); try go_wp2)
                                go_ret
                                exact ⟨by first | rfl | (simp [errW_none, errW_some] <;> rfl) | (simp [*, errW_none, errW_some] <;> rfl), by repeat (first | (with_reducible first | exact HB.out | apply below_alloc | apply pw_below_drewN | apply below_drew1 | refine below_set ?_ GE215.out) | exact HB.out)⟩
                              · rw [if_neg c19] at H
                                have c19b0 : ((rd (rd_L6 l0_1 x4_2) x5_3) == 0) = false := beq_eq_false_iff_ne.mpr c19
                                have c19b1 : ((rd (rd_L6 l0_1 x4_2) x5_3) != 0) = true := bne_iff_ne.mpr c19
                                replace H := Option.bind_eq_some_iff.mp H
                                obtain ⟨t219, A210, H⟩ := H
                                replace H : (if t219 > a0_0 then (some 4) else (threshingref01_Right.l1 k3 (wrap64 (x3_3 + 1)) x4_2 (wrap64 (x5_3 + 1)) a0_0 l0_1)) = some r := H
                                have A21 := Aside0.mk A210
                                clear A210
                                by_cases c22 : t219 > a0_0
                                · rw [if_pos c22] at H
                                  have c22b0 : decide (a0_0 < t219) = true := decide_eq_true c22
                                  clear c22
                                  obtain rfl := Option.some.inj H
                                  have hcz23_0 : wr.cell? ⟨gb215, 0, none⟩ = some (.int .i64 a0_0) := (blk_cell BK215.out 0).trans rfl
                                  have hcz23_1 : wr.cell? ⟨gb215, 1, none⟩ = some (.slice A0_1 l0_1.length c0_1) := (blk_cell BK215.out 1).trans rfl
                                  have hfz23_0 := blk_frozen BK215.out 0
                                  have hfz23_1 := blk_frozen BK215.out 1
                                  have p216 : 0 ≤ (x4_2 : Int) := of_decide_eq_true (by first | (with_reducible assumption) | assumption)
                                  have q216 : x4_2 < (l0_1.length : Int) := of_decide_eq_true (by first | (with_reducible assumption) | assumption)
                                  obtain ⟨ad216, A216_0, c216_0, e216, hx216_0, hl216_0, hi216_0⟩ := at_L6 HR0_1.out x4_2 p216 q216
                                  cases e216
                                  replace hx216_0 := (HB.out.cell (World.block_lt_of_cell? w _ hx216_0)).trans hx216_0
                                  have HR216_0 := Aside0.mk hi216_0
                                  have HC216_0 := Aside0.mk hl216_0
                                  clear hi216_0 hl216_0
                                  replace p216 := eq_true p216
                                  replace q216 := eq_true q216
                                  have p217 : 0 ≤ (x4_2 : Int) := of_decide_eq_true (by first | (with_reducible assumption) | assumption)
                                  have q217 : x4_2 < (l0_1.length : Int) := of_decide_eq_true (by first | (with_reducible assumption) | assumption)
                                  obtain ⟨ad217, A217_0, c217_0, e217, hx217_0, hl217_0, hi217_0⟩ := at_L6 HR0_1.out x4_2 p217 q217
                                  obtain rfl : ad216 = ad217 := (by injection e217)
                                  replace hx217_0 := (HB.out.cell (World.block_lt_of_cell? w _ hx217_0)).trans hx217_0
                                  have HR217_0 := Aside0.mk hi217_0
                                  have HC217_0 := Aside0.mk hl217_0
                                  clear hi217_0 hl217_0
                                  replace p217 := eq_true p217
                                  replace q217 := eq_true q217
                                  have ea_ := Option.some.inj (hx216_0.symm.trans hx217_0)
                                  injection ea_ with ea_ en_ ec_
                                  subst ea_
                                  subst ec_
                                  clear en_
                                  have p218 : 0 ≤ (x5_3 : Int) := of_decide_eq_true (by first | (with_reducible assumption) | assumption)
                                  have q218 : x5_3 < ((rd_L6 l0_1 x4_2).length : Int) := of_decide_eq_true (by first | (with_reducible assumption) | assumption)
                                  obtain ⟨ad218, e218, hx218_0⟩ := Kd.at_int HR217_0.out x5_3 p218 q218
                                  cases e218
                                  replace hx218_0 := (HB.out.cell (World.block_lt_of_cell? w _ hx218_0)).trans hx218_0
                                  replace p218 := eq_true p218
                                  replace q218 := eq_true q218
                                  go_wp2_with (first | (go_at_call 66; (with_reducible refine (threshingref01_Var.calls (rd (rd_L6 l0_1 x4_2) x5_3) t219 _ A21.out).mono ?_); rintro e w' ⟨rfl, ⟨nd, rfl⟩⟩; (try first | exact ⟨rfl, _, World.drewN_drewN _ _ _⟩ | exact ⟨rfl, _, Eq.trans (World.drewN_drewN _ _ _) (congrArg (World.drewN _) (Nat.add_assoc _ _ _))⟩)))
                                  repeat (go_quiet (first | (go_at_call 66; (with_reducible refine (threshingref01_Var.calls (rd (rd_L6 l0_1 x4_2) x5_3) t219 _ A21.out).mono ?_); rintro e w' ⟨rfl, ⟨nd, rfl⟩⟩; (try first | exact ⟨rfl, _, World.drewN_drewN _ _ _⟩ | exact ⟨rfl, _, Eq.trans (World.drewN_drewN _ _ _) (congrArg (World.drewN _) (Nat.add_assoc _ _ _))⟩))); try go_wp2_with (first | (go_at_call 66; (with_reducible refine (threshingref01_Var.calls (rd (rd_L6 l0_1 x4_2) x5_3) t219 _ A21.out).mono ?_); rintro e w' ⟨rfl, ⟨nd, rfl⟩⟩; (try first | exact ⟨rfl, _, World.drewN_drewN _ _ _⟩ | exact ⟨rfl, _, Eq.trans (World.drewN_drewN _ _ _) (congrArg (World.drewN _) (Nat.add_assoc _ _ _))⟩))))
                                  go_ret
                                  exact ⟨by first | rfl | (simp [errW_none, errW_some] <;> rfl) | (simp [*, errW_none, errW_some] <;> rfl), by repeat (first | (with_reducible first | exact HB.out | apply below_alloc | apply pw_below_drewN | apply below_drew1 | refine below_set ?_ GE215.out) | exact HB.out)⟩
                                · rw [if_neg c22] at H
                                  have c22b0 : decide (a0_0 < t219) = false := decide_eq_false c22
                                  clear c22
                                  have H' := Aside0.mk H
                                  clear H
                                  have hcz24_0 : wr.cell? ⟨gb215, 0, none⟩ = some (.int .i64 a0_0) := (blk_cell BK215.out 0).trans rfl
                                  have hcz24_1 : wr.cell? ⟨gb215, 1, none⟩ = some (.slice A0_1 l0_1.length c0_1) := (blk_cell BK215.out 1).trans rfl
                                  have hfz24_0 := blk_frozen BK215.out 0
                                  have hfz24_1 := blk_frozen BK215.out 1
                                  have p216 : 0 ≤ (x4_2 : Int) := of_decide_eq_true (by first | (with_reducible assumption) | assumption)
                                  have q216 : x4_2 < (l0_1.length : Int) := of_decide_eq_true (by first | (with_reducible assumption) | assumption)
                                  obtain ⟨ad216, A216_0, c216_0, e216, hx216_0, hl216_0, hi216_0⟩ := at_L6 HR0_1.out x4_2 p216 q216
                                  cases e216
                                  replace hx216_0 := (HB.out.cell (World.block_lt_of_cell? w _ hx216_0)).trans hx216_0
                                  have HR216_0 := Aside0.mk hi216_0
                                  have HC216_0 := Aside0.mk hl216_0
                                  clear hi216_0 hl216_0
                                  replace p216 := eq_true p216
                                  replace q216 := eq_true q216
                                  have p217 : 0 ≤ (x4_2 : Int) := of_decide_eq_true (by first | (with_reducible assumption) | assumption)
                                  have q217 : x4_2 < (l0_1.length : Int) := of_decide_eq_true (by first | (with_reducible assumption) | assumption)
                                  obtain ⟨ad217, A217_0, c217_0, e217, hx217_0, hl217_0, hi217_0⟩ := at_L6 HR0_1.out x4_2 p217 q217
                                  obtain rfl : ad216 = ad217 := (by injection e217)
                                  replace hx217_0 := (HB.out.cell (World.block_lt_of_cell? w _ hx217_0)).trans hx217_0
                                  have HR217_0 := Aside0.mk hi217_0
                                  have HC217_0 := Aside0.mk hl217_0
                                  clear hi217_0 hl217_0
                                  replace p217 := eq_true p217
                                  replace q217 := eq_true q217
                                  have ea_ := Option.some.inj (hx216_0.symm.trans hx217_0)
                                  injection ea_ with ea_ en_ ec_
                                  subst ea_
                                  subst ec_
                                  clear en_
                                  have p218 : 0 ≤ (x5_3 : Int) := of_decide_eq_true (by first | (with_reducible assumption) | assumption)
                                  have q218 : x5_3 < ((rd_L6 l0_1 x4_2).length : Int) := of_decide_eq_true (by first | (with_reducible assumption) | assumption)
                                  obtain ⟨ad218, e218, hx218_0⟩ := Kd.at_int HR217_0.out x5_3 p218 q218
                                  cases e218
                                  replace hx218_0 := (HB.out.cell (World.block_lt_of_cell? w _ hx218_0)).trans hx218_0
                                  replace p218 := eq_true p218
                                  replace q218 := eq_true q218
                                  go_wp2_with (first | (go_at_call 66; (with_reducible refine (threshingref01_Var.calls (rd (rd_L6 l0_1 x4_2) x5_3) t219 _ A21.out).mono ?_); rintro e w' ⟨rfl, ⟨nd, rfl⟩⟩; (try first | exact ⟨rfl, _, World.drewN_drewN _ _ _⟩ | exact ⟨rfl, _, Eq.trans (World.drewN_drewN _ _ _) (congrArg (World.drewN _) (Nat.add_assoc _ _ _))⟩)))
                                  repeat (go_quiet (first | (go_at_call 66; (with_reducible refine (threshingref01_Var.calls (rd (rd_L6 l0_1 x4_2) x5_3) t219 _ A21.out).mono ?_); rintro e w' ⟨rfl, ⟨nd, rfl⟩⟩; (try first | exact ⟨rfl, _, World.drewN_drewN _ _ _⟩ | exact ⟨rfl, _, Eq.trans (World.drewN_drewN _ _ _) (congrArg (World.drewN _) (Nat.add_assoc _ _ _))⟩))); try go_wp2_with (first | (go_at_call 66; (with_reducible refine (threshingref01_Var.calls (rd (rd_L6 l0_1 x4_2) x5_3) t219 _ A21.out).mono ?_); rintro e w' ⟨rfl, ⟨nd, rfl⟩⟩; (try first | exact ⟨rfl, _, World.drewN_drewN _ _ _⟩ | exact ⟨rfl, _, Eq.trans (World.drewN_drewN _ _ _) (congrArg (World.drewN _) (Nat.add_assoc _ _ _))⟩))))
                                  go_roundg k3
                                  case measure => have := HJ1.out; have := HK2.out; have := HK3.out; omega
                                  case rel => exact ⟨(wrap64 (x3_3 + 1)), (wrap64 (x5_3 + 1)), (by first | rfl | (simp; done) | (simp [*]; done)), (by first | rfl | (simp; done) | (simp [*]; done)), H', ⟨by have := HJ1.out; have := HK2.out; have := HK3.out; omega⟩, ⟨by (with_reducible repeat (first | refine blk_drewN ?_ _ | refine blk_drew ?_ | refine blk_alloc ?_ _)); exact BK215.out⟩, ⟨by repeat (first | (with_reducible first | exact HB.out | apply below_alloc | apply pw_below_drewN | apply below_drew1 | refine below_set ?_ GE215.out) | exact HB.out)⟩⟩
                            · rw [if_neg c18] at H
                              exact absurd H (by simp)
                        · rw [if_neg c15] at H
                          have c15b0 : decide (x5_3 < ((rd_L6 l0_1 x4_2).length : Int)) = false := decide_eq_false c15
                          clear c15
                          have H' := Aside0.mk H
                          clear H
                          have hcz25_0 : wr.cell? ⟨gb215, 0, none⟩ = some (.int .i64 a0_0) := (blk_cell BK215.out 0).trans rfl
                          have hcz25_1 : wr.cell? ⟨gb215, 1, none⟩ = some (.slice A0_1 l0_1.length c0_1) := (blk_cell BK215.out 1).trans rfl
                          have hfz25_0 := blk_frozen BK215.out 0
                          have hfz25_1 := blk_frozen BK215.out 1
                          have p216 : 0 ≤ (x4_2 : Int) := of_decide_eq_true (by first | (with_reducible assumption) | assumption)
                          have q216 : x4_2 < (l0_1.length : Int) := of_decide_eq_true (by first | (with_reducible assumption) | assumption)
                          obtain ⟨ad216, A216_0, c216_0, e216, hx216_0, hl216_0, hi216_0⟩ := at_L6 HR0_1.out x4_2 p216 q216
                          cases e216
                          replace hx216_0 := (HB.out.cell (World.block_lt_of_cell? w _ hx216_0)).trans hx216_0
                          have HR216_0 := Aside0.mk hi216_0
                          have HC216_0 := Aside0.mk hl216_0
                          clear hi216_0 hl216_0
                          replace p216 := eq_true p216
                          replace q216 := eq_true q216
                          go_wp2
                          repeat (go_quiet (fail); try go_wp2)
                          go_roundg k3
                          case measure => have := HJ1.out; have := HK2.out; have := HK3.out; omega
                          case rel => exact ⟨(x3_3), (wrap64 (x4_2 + 1)), (by first | rfl | (simp; done) | (simp [*]; done)), (by first | rfl | (simp; done) | (simp [*]; done)), H', ⟨by have := HJ1.out; have := HK2.out; have := HK3.out; omega⟩, ⟨by (with_reducible repeat (first | refine blk_drewN ?_ _ | refine blk_drew ?_ | refine blk_alloc ?_ _)); exact BK215.out⟩, ⟨by repeat (first | (with_reducible first | exact HB.out | apply below_alloc | apply pw_below_drewN | apply below_drew1 | refine below_set ?_ GE215.out) | exact HB.out)⟩⟩
                      · rw [if_neg c14] at H
                        exact absurd H (by simp)
                    · rw [if_neg c13] at H
                      exact absurd H (by simp)
              · rw [if_neg c11] at H
                have c11b0 : decide (x4_2 < (l0_1.length : Int)) = false := decide_eq_false c11
                clear c11
                obtain rfl := Option.some.inj H
                have hcz26_0 : wr.cell? ⟨gb215, 0, none⟩ = some (.int .i64 a0_0) := (blk_cell BK215.out 0).trans rfl
                have hcz26_1 : wr.cell? ⟨gb215, 1, none⟩ = some (.slice A0_1 l0_1.length c0_1) := (blk_cell BK215.out 1).trans rfl
                have hfz26_0 := blk_frozen BK215.out 0
                have hfz26_1 := blk_frozen BK215.out 1
                go_wp2
                repeat (go_quiet (fail); try go_wp2)
                go_ret
                exact ⟨by first | rfl | (simp [errW_none, errW_some] <;> rfl) | (simp [*, errW_none, errW_some] <;> rfl), by repeat (first | (with_reducible first | exact HB.out | apply below_alloc | apply pw_below_drewN | apply below_drew1 | refine below_set ?_ GE215.out) | exact HB.out)⟩
end Go.Proofs.YtigloobbpcnnhaaGreatDoor.PB
end
section
namespace Go.Proofs.YtigloobbpcnnhaaGreatDoor.PB
open Go.RowKit Go.Proofs.YtigloobbpcnnhaaGreatDoorW.PrintWords Go.Proofs.YtigloobbpcnnhaaGreatDoorW.PrintLast Go.Proofs.YtigloobbpcnnhaaGreatDoorW.PrintMore
attribute [local go_sem] max2_int min2_int max_two min_two max_three min_three max_four min_four   -- for this text's walks alone
set_option linter.unusedVariables false
set_option linter.unusedSimpArgs false
def threshingkit_SameClause.l0 : Nat → List Int → List Int → Int → Option (Bool)
  | 0, _, _, _ => none
  | k + 1, x0, x1, x5 => if x5 < (x0.length : Int) then (if 0 ≤ x5 then (if x5 < (x1.length : Int) then (if (rd x0 x5) = (rd x1 x5) then (threshingkit_SameClause.l0 k x0 x1 (wrap64 (x5 + 1))) else (some false)) else (none)) else (none)) else (some true)
def threshingkit_SameClause.f (k : Nat) (l0 : List Int) (l1 : List Int) : Option (Bool) := if (l0.length : Int) = (l1.length : Int) then (threshingkit_SameClause.l0 k l0 l1 0) else (some false)
theorem threshingkit_SameClause.mono_l : ∀ k, (∀ y0 y1 y2, LeO (threshingkit_SameClause.l0 k y0 y1 y2) (threshingkit_SameClause.l0 (k + 1) y0 y1 y2))
  | 0 => fun _ _ _ r h => by simp [threshingkit_SameClause.l0] at h
  | k + 1 => by
    have ih0 := threshingkit_SameClause.mono_l k
    · intro y0 y1 y2
      unfold threshingkit_SameClause.l0
      repeat' first
      | (with_reducible exact ih0 _ _ _)
      | (with_reducible exact LeO.refl _)
      | (with_reducible exact LeO.none _)
      | (with_reducible refine LeO.ite ?_ ?_)
      | (with_reducible refine LeO.bind ?_ (fun _ => ?_))
      | exact ih0 _ _ _
      | exact LeO.none _
      | refine LeO.ite ?_ ?_
      | refine LeO.bind ?_ (fun _ => ?_)
theorem threshingkit_SameClause.mono : ∀ a0 a1 k, LeO (threshingkit_SameClause.f k a0 a1) (threshingkit_SameClause.f (k + 1) a0 a1) := by
  intro a0 a1 k
  have ih0 := threshingkit_SameClause.mono_l k
  unfold threshingkit_SameClause.f
  repeat' first
      | (with_reducible exact ih0 _ _ _)
      | (with_reducible exact LeO.refl _)
      | (with_reducible exact LeO.none _)
      | (with_reducible refine LeO.ite ?_ ?_)
      | (with_reducible refine LeO.bind ?_ (fun _ => ?_))
      | exact ih0 _ _ _
      | exact LeO.none _
      | refine LeO.ite ?_ ?_
      | refine LeO.bind ?_ (fun _ => ?_)
set_option maxHeartbeats 8000000 in
set_option maxRecDepth 100000 in
theorem threshingkit_SameClause.calls (k : Nat) (A0 : Option Addr) (c0 : Nat) (l0 : List Int) (A1 : Option Addr) (c1 : Nat) (l1 : List Int) (r : Bool) (w : World) (hr0 : Kd.C (Kd.int .i32) w A0 l0.length l0) (hc0 : l0.length ≤ c0) (hr1 : Kd.C (Kd.int .i32) w A1 l1.length l1) (hc1 : l1.length ≤ c1) (h : threshingkit_SameClause.f k l0 l1 = some r) :
    Calls Tryz.prog 45 #[.slice A0 l0.length c0, .slice A1 l1.length c1] w fun e w' => e = .returned (.bool r) ∧ Drawn0 w w' := by
  have HR0 := Aside0.mk hr0
  have HC0 := Aside0.mk hc0
  clear hr0 hc0
  have HR1 := Aside0.mk hr1
  have HC1 := Aside0.mk hc1
  clear hr1 hc1
  have H : (if (l0.length : Int) = (l1.length : Int) then (threshingkit_SameClause.l0 k l0 l1 0) else (some false)) = some r := h
  clear h
  by_cases c3 : (l0.length : Int) = (l1.length : Int)
  · rw [if_pos c3] at H
    have c3b0 : ((l0.length : Int) == (l1.length : Int)) = true := beq_iff_eq.mpr c3
    have c3b1 : ((l0.length : Int) != (l1.length : Int)) = false := bne_eq_false_iff_eq.mpr c3
    have c3b2 : (l0.length == l1.length) = true := by first | simpa using c3 | (simp at c3 ⊢; omega)
    clear c3
    have H' := Aside0.mk H
    clear H
    go_enter Tryz.func45, Tryz.ntmps45
    go_wp2
    repeat (go_quiet (fail); try go_wp2)
    go_loopg [5] k (fun kq v5 w' => ∃ (x5_1 : Int), v5 = .int .i64 x5_1 ∧ Aside0 (threshingkit_SameClause.l0 kq l0 l1 x5_1 = some r) ∧ Aside0 (kq ≤ k) ∧ Drawn0 w w')
    case atStart => exact ⟨(0), (by first | rfl | (simp; done) | (simp [*]; done)), H', ⟨Nat.le_refl _⟩, by repeat (first | exact Drawn0.refl _ | apply Drawn0.step)⟩
    case round =>
      clear H'
      try clear c1
      try clear c2
      try clear p2
      try clear c3
      try clear c3b0
      try clear c3b1
      try clear c3b2
      obtain ⟨x5_1, rfl, HA, HK1, ⟨m1, rfl⟩⟩ := hrel
      cases gk with
      | zero => exact absurd HA.out (by simp [threshingkit_SameClause.l0])
      | succ k1 =>
        have H := HA.out
        clear HA
        simp only [threshingkit_SameClause.l0] at H
        by_cases c4 : x5_1 < (l0.length : Int)
        · rw [if_pos c4] at H
          have c4b0 : decide (x5_1 < (l0.length : Int)) = true := decide_eq_true c4
          clear c4
          by_cases c5 : 0 ≤ x5_1
          · rw [if_pos c5] at H
            have c5b0 : decide (0 ≤ x5_1) = true := decide_eq_true c5
            clear c5
            by_cases c6 : x5_1 < (l1.length : Int)
            · rw [if_pos c6] at H
              have c6b0 : decide (x5_1 < (l1.length : Int)) = true := decide_eq_true c6
              clear c6
              by_cases c7 : (rd l0 x5_1) = (rd l1 x5_1)
              · rw [if_pos c7] at H
                have c7b0 : ((rd l0 x5_1) == (rd l1 x5_1)) = true := beq_iff_eq.mpr c7
                have c7b1 : ((rd l0 x5_1) != (rd l1 x5_1)) = false := bne_eq_false_iff_eq.mpr c7
                clear c7
                have H' := Aside0.mk H
                clear H
                have p163 : 0 ≤ (x5_1 : Int) := of_decide_eq_true (by first | (with_reducible assumption) | assumption)
                have q163 : x5_1 < (l0.length : Int) := of_decide_eq_true (by first | (with_reducible assumption) | assumption)
                obtain ⟨ad163, e163, hx163_0⟩ := Kd.at_int HR0.out x5_1 p163 q163
                cases e163
                replace p163 := eq_true p163
                replace q163 := eq_true q163
                have p164 : 0 ≤ (x5_1 : Int) := of_decide_eq_true (by first | (with_reducible assumption) | assumption)
                have q164 : x5_1 < (l1.length : Int) := of_decide_eq_true (by first | (with_reducible assumption) | assumption)
                obtain ⟨ad164, e164, hx164_0⟩ := Kd.at_int HR1.out x5_1 p164 q164
                cases e164
                replace p164 := eq_true p164
                replace q164 := eq_true q164
                go_wp2
                repeat (go_quiet (fail); try go_wp2)
                go_roundg k1
                case measure => have := HK1.out; omega
                case rel => exact ⟨(wrap64 (x5_1 + 1)), (by first | rfl | (simp; done) | (simp [*]; done)), H', ⟨by have := HK1.out; omega⟩, by repeat (first | exact Drawn0.refl _ | apply Drawn0.step)⟩
              · rw [if_neg c7] at H
                have c7b0 : ((rd l0 x5_1) == (rd l1 x5_1)) = false := beq_eq_false_iff_ne.mpr c7
                have c7b1 : ((rd l0 x5_1) != (rd l1 x5_1)) = true := bne_iff_ne.mpr c7
                obtain rfl := Option.some.inj H
                have p163 : 0 ≤ (x5_1 : Int) := of_decide_eq_true (by first | (with_reducible assumption) | assumption)
                have q163 : x5_1 < (l0.length : Int) := of_decide_eq_true (by first | (with_reducible assumption) | assumption)
                obtain ⟨ad163, e163, hx163_0⟩ := Kd.at_int HR0.out x5_1 p163 q163
                cases e163
                replace p163 := eq_true p163
                replace q163 := eq_true q163
                have p164 : 0 ≤ (x5_1 : Int) := of_decide_eq_true (by first | (with_reducible assumption) | assumption)
                have q164 : x5_1 < (l1.length : Int) := of_decide_eq_true (by first | (with_reducible assumption) | assumption)
                obtain ⟨ad164, e164, hx164_0⟩ := Kd.at_int HR1.out x5_1 p164 q164
                cases e164
                replace p164 := eq_true p164
                replace q164 := eq_true q164
                go_wp2
                repeat (go_quiet (fail); try go_wp2)
                go_ret
                exact ⟨by first | rfl | (simp; done) | (simp [*]; done), by repeat (first | exact Drawn0.refl _ | apply Drawn0.step)⟩
            · rw [if_neg c6] at H
              exact absurd H (by simp)
          · rw [if_neg c5] at H
            exact absurd H (by simp)
        · rw [if_neg c4] at H
          have c4b0 : decide (x5_1 < (l0.length : Int)) = false := decide_eq_false c4
          clear c4
          obtain rfl := Option.some.inj H
          go_wp2
          repeat (go_quiet (fail); try go_wp2)
          go_ret
          exact ⟨by first | rfl | (simp; done) | (simp [*]; done), by repeat (first | exact Drawn0.refl _ | apply Drawn0.step)⟩
  · rw [if_neg c3] at H
    have c3b0 : ((l0.length : Int) == (l1.length : Int)) = false := beq_eq_false_iff_ne.mpr c3
    have c3b1 : ((l0.length : Int) != (l1.length : Int)) = true := bne_iff_ne.mpr c3
    have c3b2 : (l0.length == l1.length) = false := by first | simpa using c3 | (simp at c3 ⊢; omega)
    obtain rfl := Option.some.inj H
    go_enter Tryz.func45, Tryz.ntmps45
    go_wp2
    repeat (go_quiet (fail); try go_wp2)
    go_ret
    exact ⟨by first | rfl | (simp; done) | (simp [*]; done), by repeat (first | exact Drawn0.refl _ | apply Drawn0.step)⟩
end Go.Proofs.YtigloobbpcnnhaaGreatDoor.PB
end
section
namespace Go.Proofs.YtigloobbpcnnhaaGreatDoor.PB
open Go.RowKit Go.Proofs.YtigloobbpcnnhaaGreatDoorW.PrintWords Go.Proofs.YtigloobbpcnnhaaGreatDoorW.PrintLast Go.Proofs.YtigloobbpcnnhaaGreatDoorW.PrintMore
attribute [local go_sem] max2_int min2_int max_two min_two max_three min_three max_four min_four   -- for this text's walks alone
set_option linter.unusedVariables false
set_option linter.unusedSimpArgs false
mutual
def threshingkit_SameFormula.j0 : Nat → Bool → Int → List (List Int) → Int → List (List Int) → Option (Bool)
  | 0, _, _, _, _, _ => none
  | k + 1, x19, x166000, x166001, x167000, x167001 => if x19 = true then (some false) else (threshingkit_SameFormula.l0 k 0 x166000 x166001 x167000 x167001)
def threshingkit_SameFormula.l0 : Nat → Int → Int → List (List Int) → Int → List (List Int) → Option (Bool)
  | 0, _, _, _, _, _ => none
  | k + 1, x5, x166000, x166001, x167000, x167001 => if x5 < (x166001.length : Int) then (if 0 ≤ x5 then (if x5 < (x167001.length : Int) then ((threshingkit_SameClause.f k (rd_L6 x166001 x5) (rd_L6 x167001 x5)).bind fun t169 => (if t169 = true then (threshingkit_SameFormula.l0 k (wrap64 (x5 + 1)) x166000 x166001 x167000 x167001) else (some false))) else (none)) else (none)) else (some true)
end
def threshingkit_SameFormula.f (k : Nat) (a0_0 : Int) (l0_1 : List (List Int)) (a1_0 : Int) (l1_1 : List (List Int)) : Option (Bool) := if a0_0 = a1_0 then (threshingkit_SameFormula.j0 k ((l0_1.length : Int) != (l1_1.length : Int)) a0_0 l0_1 a1_0 l1_1) else (threshingkit_SameFormula.j0 k true a0_0 l0_1 a1_0 l1_1)
theorem threshingkit_SameFormula.mono_l : ∀ k, (∀ y0 y1 y2 y3 y4, LeO (threshingkit_SameFormula.j0 k y0 y1 y2 y3 y4) (threshingkit_SameFormula.j0 (k + 1) y0 y1 y2 y3 y4)) ∧ (∀ y0 y1 y2 y3 y4, LeO (threshingkit_SameFormula.l0 k y0 y1 y2 y3 y4) (threshingkit_SameFormula.l0 (k + 1) y0 y1 y2 y3 y4))
  | 0 => ⟨fun _ _ _ _ _ r h => by simp [threshingkit_SameFormula.j0] at h, fun _ _ _ _ _ r h => by simp [threshingkit_SameFormula.l0] at h⟩
  | k + 1 => by
    obtain ⟨ih0, ih1⟩ := threshingkit_SameFormula.mono_l k
    refine ⟨?_, ?_⟩
    · intro y0 y1 y2 y3 y4
      unfold threshingkit_SameFormula.j0
      repeat' first
      | (with_reducible exact ih0 _ _ _ _ _)
      | (with_reducible exact ih1 _ _ _ _ _)
      | (with_reducible exact threshingkit_SameClause.mono _ _ _)
      | (with_reducible exact LeO.refl _)
      | (with_reducible exact LeO.none _)
      | (with_reducible refine LeO.ite ?_ ?_)
      | (with_reducible refine LeO.bind ?_ (fun _ => ?_))
      | exact ih0 _ _ _ _ _
      | exact ih1 _ _ _ _ _
      | exact threshingkit_SameClause.mono _ _ _
      | exact LeO.none _
      | refine LeO.ite ?_ ?_
      | refine LeO.bind ?_ (fun _ => ?_)
    · intro y0 y1 y2 y3 y4
      unfold threshingkit_SameFormula.l0
      repeat' first
      | (with_reducible exact ih0 _ _ _ _ _)
      | (with_reducible exact ih1 _ _ _ _ _)
      | (with_reducible exact threshingkit_SameClause.mono _ _ _)
      | (with_reducible exact LeO.refl _)
      | (with_reducible exact LeO.none _)
      | (with_reducible refine LeO.ite ?_ ?_)
      | (with_reducible refine LeO.bind ?_ (fun _ => ?_))
      | exact ih0 _ _ _ _ _
      | exact ih1 _ _ _ _ _
      | exact threshingkit_SameClause.mono _ _ _
      | exact LeO.none _
      | refine LeO.ite ?_ ?_
      | refine LeO.bind ?_ (fun _ => ?_)
theorem threshingkit_SameFormula.mono : ∀ a0 a1 a2 a3 k, LeO (threshingkit_SameFormula.f k a0 a1 a2 a3) (threshingkit_SameFormula.f (k + 1) a0 a1 a2 a3) := by
  intro a0 a1 a2 a3 k
  obtain ⟨ih0, ih1⟩ := threshingkit_SameFormula.mono_l k
  unfold threshingkit_SameFormula.f
  repeat' first
      | (with_reducible exact ih0 _ _ _ _ _)
      | (with_reducible exact ih1 _ _ _ _ _)
      | (with_reducible exact threshingkit_SameClause.mono _ _ _)
      | (with_reducible exact LeO.refl _)
      | (with_reducible exact LeO.none _)
      | (with_reducible refine LeO.ite ?_ ?_)
      | (with_reducible refine LeO.bind ?_ (fun _ => ?_))
      | exact ih0 _ _ _ _ _
      | exact ih1 _ _ _ _ _
      | exact threshingkit_SameClause.mono _ _ _
      | exact LeO.none _
      | refine LeO.ite ?_ ?_
      | refine LeO.bind ?_ (fun _ => ?_)
set_option maxHeartbeats 8000000 in
set_option maxRecDepth 100000 in
theorem threshingkit_SameFormula.calls (k : Nat) (a0_0 : Int) (A0_1 : Option Addr) (c0_1 : Nat) (l0_1 : List (List Int)) (a1_0 : Int) (A1_1 : Option Addr) (c1_1 : Nat) (l1_1 : List (List Int)) (r : Bool) (w : World) (hr0_1 : Kd.C (Kd.slice 40 (Kd.int .i32)) w A0_1 l0_1.length l0_1) (hc0_1 : l0_1.length ≤ c0_1) (hr1_1 : Kd.C (Kd.slice 40 (Kd.int .i32)) w A1_1 l1_1.length l1_1) (hc1_1 : l1_1.length ≤ c1_1) (h : threshingkit_SameFormula.f k a0_0 l0_1 a1_0 l1_1 = some r) :
    Calls Tryz.prog 23 #[.agg #[.int .i64 a0_0, .slice A0_1 l0_1.length c0_1], .agg #[.int .i64 a1_0, .slice A1_1 l1_1.length c1_1]] w fun e w' => e = .returned (.bool r) ∧ Below w.heap.size w w' := by
  have hu25 := Tryz.underlying35
  have HR0_1 := Aside0.mk hr0_1
  have HC0_1 := Aside0.mk hc0_1
  clear hr0_1 hc0_1
  have HR1_1 := Aside0.mk hr1_1
  have HC1_1 := Aside0.mk hc1_1
  clear hr1_1 hc1_1
  have HB := Aside0.mk (Below.refl w.heap.size w)
  have H : (if a0_0 = a1_0 then (threshingkit_SameFormula.j0 k ((l0_1.length : Int) != (l1_1.length : Int)) a0_0 l0_1 a1_0 l1_1) else (threshingkit_SameFormula.j0 k true a0_0 l0_1 a1_0 l1_1)) = some r := h
  clear h
  have HC3 := Aside0.mk H
  clear H
  go_enter Tryz.func23, Tryz.ntmps23
  go_upto_region 1 with (first | ((with_reducible refine gate_dst (N := 2) rfl ?_); (try (refine gate_guard (by rfl) ?_; dsimp only)); refine box_event ?hg (N := 2) ?hd (cs := #[.int .i64 a0_0, .slice A0_1 l0_1.length c0_1]) (t := 35) ?hr ?_; (case hd => rfl); (case hg => rfl); (case hr => first | (go_simp; done) | (go_simp; rfl)); intro gb165 hg w4 hbox hb; have n0_ := Aside0.mk (below_step (by repeat (first | (with_reducible first | exact HB.out | apply below_alloc | apply pw_below_drewN | apply below_drew1) | exact HB.out)) hb); have n1_ := Aside0.mk (hbox); have n2_ := Aside0.mk ((by rw [hg]; exact (below_size (by repeat (first | (with_reducible first | exact HB.out | apply below_alloc | apply pw_below_drewN | apply below_drew1) | exact HB.out))) : w.heap.size ≤ gb165)); have n3_ := Aside0.mk ((by rw [hg]; exact (below_size (by repeat (first | (with_reducible first | exact HB.out | apply below_alloc | apply pw_below_drewN | apply below_drew1) | exact HB.out))) : w.heap.size ≤ gb165)); clear HB; have HB := n0_; have BK165 := n1_; have GW165 := n2_; have GE165 := n3_; clear n0_ n1_ n2_ n3_; clear hb hbox hg) | ((with_reducible refine gate_dst (N := 3) rfl ?_); (try (refine gate_guard (by rfl) ?_; dsimp only)); refine box_event ?hg (N := 3) ?hd (cs := #[.int .i64 a1_0, .slice A1_1 l1_1.length c1_1]) (t := 35) ?hr ?_; (case hd => rfl); (case hg => rfl); (case hr => first | (go_simp; done) | (go_simp; rfl)); intro gb166 hg w5 hbox hb; have n0_ := Aside0.mk (blk_below (g := gb165) (o := .cells #[.int .i64 a0_0, .slice A0_1 l0_1.length c0_1] 35 (0, 0)) (by (with_reducible repeat (first | refine blk_drewN ?_ _ | refine blk_drew ?_ | refine blk_alloc ?_ _)); exact BK165.out) hb); have n1_ := Aside0.mk (below_step (by repeat (first | (with_reducible first | exact HB.out | apply below_alloc | apply pw_below_drewN | apply below_drew1 | refine below_set ?_ GE165.out) | exact HB.out)) hb); have n2_ := Aside0.mk (hbox); have n3_ := Aside0.mk ((by rw [hg]; exact (below_size (by repeat (first | (with_reducible first | exact HB.out | apply below_alloc | apply pw_below_drewN | apply below_drew1 | refine below_set ?_ GE165.out) | exact HB.out))) : w.heap.size ≤ gb166)); have n4_ := Aside0.mk ((by rw [hg]; exact (below_size (by repeat (first | (with_reducible first | exact HB.out | apply below_alloc | apply pw_below_drewN | apply below_drew1 | refine below_set ?_ GE165.out) | exact HB.out))) : w.heap.size ≤ gb166)); have n5_ := Aside0.mk ((by rw [hg]; exact Nat.ne_of_lt (blk_lt (g := gb165) (o := .cells #[.int .i64 a0_0, .slice A0_1 l0_1.length c0_1] 35 (0, 0)) (by (with_reducible repeat (first | refine blk_drewN ?_ _ | refine blk_drew ?_ | refine blk_alloc ?_ _)); exact BK165.out)) : gb165 ≠ gb166)); have n6_ := Aside0.mk ((by rw [hg]; exact Nat.ne_of_gt (blk_lt (g := gb165) (o := .cells #[.int .i64 a0_0, .slice A0_1 l0_1.length c0_1] 35 (0, 0)) (by (with_reducible repeat (first | refine blk_drewN ?_ _ | refine blk_drew ?_ | refine blk_alloc ?_ _)); exact BK165.out)) : gb166 ≠ gb165)); clear BK165; clear HB; have BK165 := n0_; have HB := n1_; have BK166 := n2_; have GW166 := n3_; have GE166 := n4_; have NB165_166 := n5_; have NB166_165 := n6_; clear n0_ n1_ n2_ n3_ n4_ n5_ n6_; clear hb hbox hg))
  repeat (go_quiet (first | ((with_reducible refine gate_dst (N := 2) rfl ?_); (try (refine gate_guard (by rfl) ?_; dsimp only)); refine box_event ?hg (N := 2) ?hd (cs := #[.int .i64 a0_0, .slice A0_1 l0_1.length c0_1]) (t := 35) ?hr ?_; (case hd => rfl); (case hg => rfl); (case hr => first | (go_simp; done) | (go_simp; rfl)); intro gb165 hg w4 hbox hb; have n0_ := Aside0.mk (below_step (by repeat (first | (with_reducible first | exact HB.out | apply below_alloc | apply pw_below_drewN | apply below_drew1) | exact HB.out)) hb); have n1_ := Aside0.mk (hbox); have n2_ := Aside0.mk ((by rw [hg]; exact (below_size (by repeat (first | (with_reducible first | exact HB.out | apply below_alloc | apply pw_below_drewN | apply below_drew1) | exact HB.out))) : w.heap.size ≤ gb165)); have n3_ := Aside0.mk ((by rw [hg]; exact (below_size (by repeat (first | (with_reducible first | exact HB.out | apply below_alloc | apply pw_below_drewN | apply below_drew1) | exact HB.out))) : w.heap.size ≤ gb165)); clear HB; have HB := n0_; have BK165 := n1_; have GW165 := n2_; have GE165 := n3_; clear n0_ n1_ n2_ n3_; clear hb hbox hg) | ((with_reducible refine gate_dst (N := 3) rfl ?_); (try (refine gate_guard (by rfl) ?_; dsimp only)); refine box_event ?hg (N := 3) ?hd (cs := #[.int .i64 a1_0, .slice A1_1 l1_1.length c1_1]) (t := 35) ?hr ?_; (case hd => rfl); (case hg => rfl); (case hr => first | (go_simp; done) | (go_simp; rfl)); intro gb166 hg w5 hbox hb; have n0_ := Aside0.mk (blk_below (g := gb165) (o := .cells #[.int .i64 a0_0, .slice A0_1 l0_1.length c0_1] 35 (0, 0)) (by (with_reducible repeat (first | refine blk_drewN ?_ _ | refine blk_drew ?_ | refine blk_alloc ?_ _)); exact BK165.out) hb); have n1_ := Aside0.mk (below_step (by repeat (first | (with_reducible first | exact HB.out | apply below_alloc | apply pw_below_drewN | apply below_drew1 | refine below_set ?_ GE165.out) | exact HB.out)) hb); have n2_ := Aside0.mk (hbox); have n3_ := Aside0.mk ((by rw [hg]; exact (below_size (by repeat (first | (with_reducible first | exact HB.out | apply below_alloc | apply pw_below_drewN | apply below_drew1 | refine below_set ?_ GE165.out) | exact HB.out))) : w.heap.size ≤ gb166)); have n4_ := Aside0.mk ((by rw [hg]; exact (below_size (by repeat (first | (with_reducible first | exact HB.out | apply below_alloc | apply pw_below_drewN | apply below_drew1 | refine below_set ?_ GE165.out) | exact HB.out))) : w.heap.size ≤ gb166)); have n5_ := Aside0.mk ((by rw [hg]; exact Nat.ne_of_lt (blk_lt (g := gb165) (o := .cells #[.int .i64 a0_0, .slice A0_1 l0_1.length c0_1] 35 (0, 0)) (by (with_reducible repeat (first | refine blk_drewN ?_ _ | refine blk_drew ?_ | refine blk_alloc ?_ _)); exact BK165.out)) : gb165 ≠ gb166)); have n6_ := Aside0.mk ((by rw [hg]; exact Nat.ne_of_gt (blk_lt (g := gb165) (o := .cells #[.int .i64 a0_0, .slice A0_1 l0_1.length c0_1] 35 (0, 0)) (by (with_reducible repeat (first | refine blk_drewN ?_ _ | refine blk_drew ?_ | refine blk_alloc ?_ _)); exact BK165.out)) : gb166 ≠ gb165)); clear BK165; clear HB; have BK165 := n0_; have HB := n1_; have BK166 := n2_; have GW166 := n3_; have GE166 := n4_; have NB165_166 := n5_; have NB166_165 := n6_; clear n0_ n1_ n2_ n3_ n4_ n5_ n6_; clear hb hbox hg)); go_upto_region 1 with (first | ((with_reducible refine gate_dst (N := 2) rfl ?_); (try (refine gate_guard (by rfl) ?_; dsimp only)); refine box_event ?hg (N := 2) ?hd (cs := #[.int .i64 a0_0, .slice A0_1 l0_1.length c0_1]) (t := 35) ?hr ?_; (case hd => rfl); (case hg => rfl); (case hr => first | (go_simp; done) | (go_simp; rfl)); intro gb165 hg w4 hbox hb; have n0_ := Aside0.mk (below_step (by repeat (first | (with_reducible first | exact HB.out | apply below_alloc | apply pw_below_drewN | apply below_drew1) | exact HB.out)) hb); have n1_ := Aside0.mk (hbox); have n2_ := Aside0.mk ((by rw [hg]; exact (below_size (by repeat (first | (with_reducible first | exact HB.out | apply below_alloc | apply pw_below_drewN | apply below_drew1) | exact HB.out))) : w.heap.size ≤ gb165)); have n3_ := Aside0.mk ((by rw [hg]; exact (below_size (by repeat (first | (with_reducible first | exact HB.out | apply below_alloc | apply pw_below_drewN | apply below_drew1) | exact HB.out))) : w.heap.size ≤ gb165)); clear HB; have HB := n0_; have BK165 := n1_; have GW165 := n2_; have GE165 := n3_; clear n0_ n1_ n2_ n3_; clear hb hbox hg) | ((with_reducible refine gate_dst (N := 3) rfl ?_); (try (refine gate_guard (by rfl) ?_; dsimp only)); refine box_event ?hg (N := 3) ?hd (cs := #[.int .i64 a1_0, .slice A1_1 l1_1.length c1_1]) (t := 35) ?hr ?_; (case hd => rfl); (case hg => rfl); (case hr => first | (go_simp; done) | (go_simp; rfl)); intro gb166 hg w5 hbox hb; have n0_ := Aside0.mk (blk_below (g := gb165) (o := .cells #[.int .i64 a0_0, .slice A0_1 l0_1.length c0_1] 35 (0, 0)) (by (with_reducible repeat (first | refine blk_drewN ?_ _ | refine blk_drew ?_ | refine blk_alloc ?_ _)); exact BK165.out) hb); have n1_ := Aside0.mk (below_step (by repeat (first | (with_reducible first | exact HB.out | apply below_alloc | apply pw_below_drewN | apply below_drew1 | refine below_set ?_ GE165.out) | exact HB.out)) hb); have n2_ := Aside0.mk (hbox); have n3_ := Aside0.mk ((by rw [hg]; exact (below_size (by repeat (first | (with_reducible first | exact HB.out | apply below_alloc | apply pw_below_drewN | apply below_drew1 | refine below_set ?_ GE165.out) | exact HB.out))) : w.heap.size ≤ gb166)); have n4_ := Aside0.mk ((by rw [hg]; exact (below_size (by repeat (first | (with_reducible first | exact HB.out | apply below_alloc | apply pw_below_drewN | apply below_drew1 | refine below_set ?_ GE165.out) | exact HB.out))) : w.heap.size ≤ gb166)); have n5_ := Aside0.mk ((by rw [hg]; exact Nat.ne_of_lt (blk_lt (g := gb165) (o := .cells #[.int .i64 a0_0, .slice A0_1 l0_1.length c0_1] 35 (0, 0)) (by (with_reducible repeat (first | refine blk_drewN ?_ _ | refine blk_drew ?_ | refine blk_alloc ?_ _)); exact BK165.out)) : gb165 ≠ gb166)); have n6_ := Aside0.mk ((by rw [hg]; exact Nat.ne_of_gt (blk_lt (g := gb165) (o := .cells #[.int .i64 a0_0, .slice A0_1 l0_1.length c0_1] 35 (0, 0)) (by (with_reducible repeat (first | refine blk_drewN ?_ _ | refine blk_drew ?_ | refine blk_alloc ?_ _)); exact BK165.out)) : gb166 ≠ gb165)); clear BK165; clear HB; have BK165 := n0_; have HB := n1_; have BK166 := n2_; have GW166 := n3_; have GE166 := n4_; have NB165_166 := n5_; have NB166_165 := n6_; clear n0_ n1_ n2_ n3_ n4_ n5_ n6_; clear hb hbox hg)))
  (try simp only [Act.put, List.setIfInBounds_toArray, List.set_cons_zero, List.set_cons_succ])
  go_cut [19] (fun v19 wc => ∃ (kq : Nat) (x19_2 : Bool), v19 = .bool x19_2 ∧ Aside0 (threshingkit_SameFormula.j0 kq x19_2 a0_0 l0_1 a1_0 l1_1 = some r) ∧ Aside0 (kq ≤ k) ∧ Aside0 (wc.heap[gb165]? = some (.cells #[.int .i64 a0_0, (.slice A0_1 l0_1.length c0_1)] 35 (0, 0))) ∧ Aside0 (wc.heap[gb166]? = some (.cells #[.int .i64 a1_0, (.slice A1_1 l1_1.length c1_1)] 35 (0, 0))) ∧ Aside0 (Below w.heap.size w wc))
  case first =>
    have H := HC3.out
    clear HC3
    by_cases c6 : a0_0 = a1_0
    · rw [if_pos c6] at H
      have c6b0 : (a0_0 == a1_0) = true := beq_iff_eq.mpr c6
      have c6b1 : (a0_0 != a1_0) = false := bne_eq_false_iff_eq.mpr c6
      clear c6
      (first | rw [c6b0] | (simp only [i64_w, i32_w]; rw [c6b0]) | skip)
      have H' := Aside0.mk H
      clear H
      have hnb7 := NB165_166.out
      have hnc7 := NB166_165.out
      have hcz8_0 : w5.cell? ⟨gb165, 0, none⟩ = some (.int .i64 a0_0) := (blk_cell BK165.out 0).trans rfl
      have hcz8_1 : w5.cell? ⟨gb165, 1, none⟩ = some (.slice A0_1 l0_1.length c0_1) := (blk_cell BK165.out 1).trans rfl
      have hfz8_0 := blk_frozen BK165.out 0
      have hfz8_1 := blk_frozen BK165.out 1
      have hcz9_0 : w5.cell? ⟨gb166, 0, none⟩ = some (.int .i64 a1_0) := (blk_cell BK166.out 0).trans rfl
      have hcz9_1 : w5.cell? ⟨gb166, 1, none⟩ = some (.slice A1_1 l1_1.length c1_1) := (blk_cell BK166.out 1).trans rfl
      have hfz9_0 := blk_frozen BK166.out 0
      have hfz9_1 := blk_frozen BK166.out 1
      go_wp2
      repeat (go_quiet (fail); try go_wp2)
      go_meet
      case rel => exact ⟨_, (((l0_1.length : Int) != (l1_1.length : Int))), (by first | rfl | (simp; done) | (simp [*]; done)), H', ⟨by first | omega | exact Nat.le_refl _⟩, ⟨by (with_reducible repeat (first | refine blk_drewN ?_ _ | refine blk_drew ?_ | refine blk_alloc ?_ _)); exact BK165.out⟩, ⟨by (with_reducible repeat (first | refine blk_drewN ?_ _ | refine blk_drew ?_ | refine blk_alloc ?_ _)); exact BK166.out⟩, ⟨by repeat (first | (with_reducible first | exact HB.out | apply below_alloc | apply pw_below_drewN | apply below_drew1 | refine below_set ?_ GE165.out | refine below_set ?_ GE166.out) | exact HB.out)⟩⟩
    · rw [if_neg c6] at H
      have c6b0 : (a0_0 == a1_0) = false := beq_eq_false_iff_ne.mpr c6
      have c6b1 : (a0_0 != a1_0) = true := bne_iff_ne.mpr c6
      (first | rw [c6b0] | (simp only [i64_w, i32_w]; rw [c6b0]) | skip)
      have H' := Aside0.mk H
      clear H
      have hnb10 := NB165_166.out
      have hnc10 := NB166_165.out
      have hcz11_0 : w5.cell? ⟨gb165, 0, none⟩ = some (.int .i64 a0_0) := (blk_cell BK165.out 0).trans rfl
      have hcz11_1 : w5.cell? ⟨gb165, 1, none⟩ = some (.slice A0_1 l0_1.length c0_1) := (blk_cell BK165.out 1).trans rfl
      have hfz11_0 := blk_frozen BK165.out 0
      have hfz11_1 := blk_frozen BK165.out 1
      have hcz12_0 : w5.cell? ⟨gb166, 0, none⟩ = some (.int .i64 a1_0) := (blk_cell BK166.out 0).trans rfl
      have hcz12_1 : w5.cell? ⟨gb166, 1, none⟩ = some (.slice A1_1 l1_1.length c1_1) := (blk_cell BK166.out 1).trans rfl
      have hfz12_0 := blk_frozen BK166.out 0
      have hfz12_1 := blk_frozen BK166.out 1
      go_wp2
      repeat (go_quiet (fail); try go_wp2)
      go_meet
      case rel => exact ⟨_, (true), (by first | rfl | (simp; done) | (simp [*]; done)), H', ⟨by first | omega | exact Nat.le_refl _⟩, ⟨by (with_reducible repeat (first | refine blk_drewN ?_ _ | refine blk_drew ?_ | refine blk_alloc ?_ _)); exact BK165.out⟩, ⟨by (with_reducible repeat (first | refine blk_drewN ?_ _ | refine blk_drew ?_ | refine blk_alloc ?_ _)); exact BK166.out⟩, ⟨by repeat (first | (with_reducible first | exact HB.out | apply below_alloc | apply pw_below_drewN | apply below_drew1 | refine below_set ?_ GE165.out | refine below_set ?_ GE166.out) | exact HB.out)⟩⟩
  case rest =>
    clear HC3
    try clear c1
    try clear p2
    try clear c6
    try clear c6b0
    try clear c6b1
    try clear c7
    try clear c9
    try clear c10
    try clear hcz11_0
    try clear hcz11_1
    try clear hcz12_0
    try clear hcz12_1
    try clear hcz8_0
    try clear hcz8_1
    try clear hcz9_0
    try clear hcz9_1
    try clear hfz11_0
    try clear hfz11_1
    try clear hfz12_0
    try clear hfz12_1
    try clear hfz8_0
    try clear hfz8_1
    try clear hfz9_0
    try clear hfz9_1
    obtain ⟨kq, x19_2, rfl, HA, HJ2, BK165, BK166, HB⟩ := hcut
    cases kq with
    | zero => exact absurd HA.out (by simp [threshingkit_SameFormula.j0])
    | succ kj2 =>
      have H := HA.out
      clear HA
      simp only [threshingkit_SameFormula.j0] at H
      by_cases c13 : x19_2 = true
      · subst c13
        have H1 : (some false) = some r := by rw [if_pos rfl] at H; exact H
        clear H
        have H := H1
        clear H1
        obtain rfl := Option.some.inj H
        go_wp2
        repeat (go_quiet (fail); try go_wp2)
        go_ret
        exact ⟨by first | rfl | (simp [errW_none, errW_some] <;> rfl) | (simp [*, errW_none, errW_some] <;> rfl), by repeat (first | (with_reducible first | exact HB.out | apply below_alloc | apply pw_below_drewN | apply below_drew1 | refine below_set ?_ GE165.out | refine below_set ?_ GE166.out) | exact HB.out)⟩
      · replace c13 := Bool.eq_false_iff.mpr c13
        subst c13
        have H1 : (threshingkit_SameFormula.l0 kj2 0 a0_0 l0_1 a1_0 l1_1) = some r := by rw [if_neg (show ¬ (false = true) by decide)] at H; exact H
        clear H
        have H := H1
        clear H1
        have H' := Aside0.mk H
        clear H
        go_wp2
        repeat (go_quiet (fail); try go_wp2)
        go_loopg [5] kj2 (fun kq v5 w' => ∃ (x5_2 : Int), v5 = .int .i64 x5_2 ∧ Aside0 (threshingkit_SameFormula.l0 kq x5_2 a0_0 l0_1 a1_0 l1_1 = some r) ∧ Aside0 (kq ≤ kj2) ∧ Aside0 (w'.heap[gb165]? = some (.cells #[.int .i64 a0_0, (.slice A0_1 l0_1.length c0_1)] 35 (0, 0))) ∧ Aside0 (w'.heap[gb166]? = some (.cells #[.int .i64 a1_0, (.slice A1_1 l1_1.length c1_1)] 35 (0, 0))) ∧ Aside0 (Below w.heap.size w w'))
        case atStart => exact ⟨(0), (by first | rfl | (simp; done) | (simp [*]; done)), H', ⟨Nat.le_refl _⟩, ⟨by (with_reducible repeat (first | refine blk_drewN ?_ _ | refine blk_drew ?_ | refine blk_alloc ?_ _)); exact BK165.out⟩, ⟨by (with_reducible repeat (first | refine blk_drewN ?_ _ | refine blk_drew ?_ | refine blk_alloc ?_ _)); exact BK166.out⟩, ⟨by repeat (first | (with_reducible first | exact HB.out | apply below_alloc | apply pw_below_drewN | apply below_drew1 | refine below_set ?_ GE165.out | refine below_set ?_ GE166.out) | exact HB.out)⟩⟩
        case round =>
          clear H'
          try clear c1
          try clear p2
          try clear c6
          try clear c6b0
          try clear c6b1
          try clear c7
          try clear c9
          try clear c10
          try clear c13
          try clear hcz11_0
          try clear hcz11_1
          try clear hcz12_0
          try clear hcz12_1
          try clear hcz8_0
          try clear hcz8_1
          try clear hcz9_0
          try clear hcz9_1
          try clear hfz11_0
          try clear hfz11_1
          try clear hfz12_0
          try clear hfz12_1
          try clear hfz8_0
          try clear hfz8_1
          try clear hfz9_0
          try clear hfz9_1
          try clear p2
          obtain ⟨x5_2, rfl, HA, HK2, BK165, BK166, HB⟩ := hrel
          cases gk with
          | zero => exact absurd HA.out (by simp [threshingkit_SameFormula.l0])
          | succ k2 =>
            have H := HA.out
            clear HA
            simp only [threshingkit_SameFormula.l0] at H
            by_cases c14 : x5_2 < (l0_1.length : Int)
            · rw [if_pos c14] at H
              have c14b0 : decide (x5_2 < (l0_1.length : Int)) = true := decide_eq_true c14
              clear c14
              by_cases c15 : 0 ≤ x5_2
              · rw [if_pos c15] at H
                have c15b0 : decide (0 ≤ x5_2) = true := decide_eq_true c15
                clear c15
                by_cases c16 : x5_2 < (l1_1.length : Int)
                · rw [if_pos c16] at H
                  have c16b0 : decide (x5_2 < (l1_1.length : Int)) = true := decide_eq_true c16
                  clear c16
                  replace H := Option.bind_eq_some_iff.mp H
                  obtain ⟨t169, A170, H⟩ := H
                  replace H : (if t169 = true then (threshingkit_SameFormula.l0 k2 (wrap64 (x5_2 + 1)) a0_0 l0_1 a1_0 l1_1) else (some false)) = some r := H
                  have A17 := Aside0.mk A170
                  clear A170
                  by_cases c18 : t169 = true
                  · subst c18
                    have H1 : (threshingkit_SameFormula.l0 k2 (wrap64 (x5_2 + 1)) a0_0 l0_1 a1_0 l1_1) = some r := by rw [if_pos rfl] at H; exact H
                    clear H
                    have H := H1
                    clear H1
                    have H' := Aside0.mk H
                    clear H
                    have hnb19 := NB165_166.out
                    have hnc19 := NB166_165.out
                    have hcz20_0 : wr.cell? ⟨gb165, 0, none⟩ = some (.int .i64 a0_0) := (blk_cell BK165.out 0).trans rfl
                    have hcz20_1 : wr.cell? ⟨gb165, 1, none⟩ = some (.slice A0_1 l0_1.length c0_1) := (blk_cell BK165.out 1).trans rfl
                    have hfz20_0 := blk_frozen BK165.out 0
                    have hfz20_1 := blk_frozen BK165.out 1
                    have p167 : 0 ≤ (x5_2 : Int) := of_decide_eq_true (by first | (with_reducible assumption) | assumption)
                    have q167 : x5_2 < (l0_1.length : Int) := of_decide_eq_true (by first | (with_reducible assumption) | assumption)
                    obtain ⟨ad167, A167_0, c167_0, e167, hx167_0, hl167_0, hi167_0⟩ := at_L6 HR0_1.out x5_2 p167 q167
                    cases e167
                    replace hx167_0 := (HB.out.cell (World.block_lt_of_cell? w _ hx167_0)).trans hx167_0
                    have HR167_0 := Aside0.mk hi167_0
                    have HC167_0 := Aside0.mk hl167_0
                    clear hi167_0 hl167_0
                    replace p167 := eq_true p167
                    replace q167 := eq_true q167
                    have hcz21_0 : wr.cell? ⟨gb166, 0, none⟩ = some (.int .i64 a1_0) := (blk_cell BK166.out 0).trans rfl
                    have hcz21_1 : wr.cell? ⟨gb166, 1, none⟩ = some (.slice A1_1 l1_1.length c1_1) := (blk_cell BK166.out 1).trans rfl
                    have hfz21_0 := blk_frozen BK166.out 0
                    have hfz21_1 := blk_frozen BK166.out 1
                    have p168 : 0 ≤ (x5_2 : Int) := of_decide_eq_true (by first | (with_reducible assumption) | assumption)
                    have q168 : x5_2 < (l1_1.length : Int) := of_decide_eq_true (by first | (with_reducible assumption) | assumption)
                    obtain ⟨ad168, A168_0, c168_0, e168, hx168_0, hl168_0, hi168_0⟩ := at_L6 HR1_1.out x5_2 p168 q168
                    cases e168
                    replace hx168_0 := (HB.out.cell (World.block_lt_of_cell? w _ hx168_0)).trans hx168_0
                    have HR168_0 := Aside0.mk hi168_0
                    have HC168_0 := Aside0.mk hl168_0
                    clear hi168_0 hl168_0
                    replace p168 := eq_true p168
                    replace q168 := eq_true q168
                    go_wp2_with (first | (go_at_call 45; (with_reducible refine (threshingkit_SameClause.calls k2 _ _ (rd_L6 l0_1 x5_2) _ _ (rd_L6 l1_1 x5_2) true _ ?side1 ?side2 ?side3 ?side4 A17.out).mono ?_); (case side1 => repeat (first | exact (Kd.C_below HR167_0.out HB.out) | (with_reducible refine Kd.C_alloc ?_ _) | (with_reducible refine Kd.C_drewN ?_ _) | (with_reducible refine Kd.C_drew ?_))); (case side2 => exact HC167_0.out); (case side3 => repeat (first | exact (Kd.C_below HR168_0.out HB.out) | (with_reducible refine Kd.C_alloc ?_ _) | (with_reducible refine Kd.C_drewN ?_ _) | (with_reducible refine Kd.C_drew ?_))); (case side4 => exact HC168_0.out); rintro e w' ⟨rfl, ⟨nd, rfl⟩⟩; (try first | exact ⟨rfl, _, World.drewN_drewN _ _ _⟩ | exact ⟨rfl, _, Eq.trans (World.drewN_drewN _ _ _) (congrArg (World.drewN _) (Nat.add_assoc _ _ _))⟩)))
                    repeat (go_quiet (first | (go_at_call 45; (with_reducible refine (threshingkit_SameClause.calls k2 _ _ (rd_L6 l0_1 x5_2) _ _ (rd_L6 l1_1 x5_2) true _ ?side1 ?side2 ?side3 ?side4 A17.out).mono ?_); (case side1 => repeat (first | exact (Kd.C_below HR167_0.out HB.out) | (with_reducible refine Kd.C_alloc ?_ _) | (with_reducible refine Kd.C_drewN ?_ _) | (with_reducible refine Kd.C_drew ?_))); (case side2 => exact HC167_0.out); (case side3 => repeat (first | exact (Kd.C_below HR168_0.out HB.out) | (with_reducible refine Kd.C_alloc ?_ _) | (with_reducible refine Kd.C_drewN ?_ _) | (with_reducible refine Kd.C_drew ?_))); (case side4 => exact HC168_0.out); rintro e w' ⟨rfl, ⟨nd, rfl⟩⟩; (try first | exact ⟨rfl, _, World.drewN_drewN _ _ _⟩ | exact ⟨rfl, _, Eq.trans (World.drewN_drewN _ _ _) (congrArg (World.drewN _) (Nat.add_assoc _ _ _))⟩))); try go_wp2_with (first | (go_at_call 45; (with_reducible refine (threshingkit_SameClause.calls k2 _ _ (rd_L6 l0_1 x5_2) _ _ (rd_L6 l1_1 x5_2) true _ ?side1 ?side2 ?side3 ?side4 A17.out).mono ?_); (case side1 => repeat (first | exact (Kd.C_below HR167_0.out HB.out) | (with_reducible refine Kd.C_alloc ?_ _) | (with_reducible refine Kd.C_drewN ?_ _) | (with_reducible refine Kd.C_drew ?_))); (case side2 => exact HC167_0.out); (case side3 => repeat (first | exact (Kd.C_below HR168_0.out HB.out) | (with_reducible refine Kd.C_alloc ?_ _) | (with_reducible refine Kd.C_drewN ?_ _) | (with_reducible refine Kd.C_drew ?_))); (case side4 => exact HC168_0.out); rintro e w' ⟨rfl, ⟨nd, rfl⟩⟩; (try first | exact ⟨rfl, _, World.drewN_drewN _ _ _⟩ | exact ⟨rfl, _, Eq.trans (World.drewN_drewN _ _ _) (congrArg (World.drewN _) (Nat.add_assoc _ _ _))⟩))))
                    go_roundg k2
                    case measure => have := HJ2.out; have := HK2.out; omega
                    case rel => exact ⟨(wrap64 (x5_2 + 1)), (by first | rfl | (simp; done) | (simp [*]; done)), H', ⟨by have := HJ2.out; have := HK2.out; omega⟩, ⟨by (with_reducible repeat (first | refine blk_drewN ?_ _ | refine blk_drew ?_ | refine blk_alloc ?_ _)); exact BK165.out⟩, ⟨by (with_reducible repeat (first | refine blk_drewN ?_ _ | refine blk_drew ?_ | refine blk_alloc ?_ _)); exact BK166.out⟩, ⟨by repeat (first | (with_reducible first | exact HB.out | apply below_alloc | apply pw_below_drewN | apply below_drew1 | refine below_set ?_ GE165.out | refine below_set ?_ GE166.out) | exact HB.out)⟩⟩
                  · replace c18 := Bool.eq_false_iff.mpr c18
                    subst c18
                    have H1 : (some false) = some r := by rw [if_neg (show ¬ (false = true) by decide)] at H; exact H
                    clear H
                    have H := H1
                    clear H1
                    obtain rfl := Option.some.inj H
                    have hnb22 := NB165_166.out
                    have hnc22 := NB166_165.out
                    have hcz23_0 : wr.cell? ⟨gb165, 0, none⟩ = some (.int .i64 a0_0) := (blk_cell BK165.out 0).trans rfl
                    have hcz23_1 : wr.cell? ⟨gb165, 1, none⟩ = some (.slice A0_1 l0_1.length c0_1) := (blk_cell BK165.out 1).trans rfl
                    have hfz23_0 := blk_frozen BK165.out 0
                    have hfz23_1 := blk_frozen BK165.out 1
                    have p167 : 0 ≤ (x5_2 : Int) := of_decide_eq_true (by first | (with_reducible assumption) | assumption)
                    have q167 : x5_2 < (l0_1.length : Int) := of_decide_eq_true (by first | (with_reducible assumption) | assumption)
                    obtain ⟨ad167, A167_0, c167_0, e167, hx167_0, hl167_0, hi167_0⟩ := at_L6 HR0_1.out x5_2 p167 q167
                    cases e167
                    replace hx167_0 := (HB.out.cell (World.block_lt_of_cell? w _ hx167_0)).trans hx167_0
                    have HR167_0 := Aside0.mk hi167_0
                    have HC167_0 := Aside0.mk hl167_0
                    clear hi167_0 hl167_0
                    replace p167 := eq_true p167
                    replace q167 := eq_true q167
                    have hcz24_0 : wr.cell? ⟨gb166, 0, none⟩ = some (.int .i64 a1_0) := (blk_cell BK166.out 0).trans rfl
                    have hcz24_1 : wr.cell? ⟨gb166, 1, none⟩ = some (.slice A1_1 l1_1.length c1_1) := (blk_cell BK166.out 1).trans rfl
                    have hfz24_0 := blk_frozen BK166.out 0
                    have hfz24_1 := blk_frozen BK166.out 1
                    have p168 : 0 ≤ (x5_2 : Int) := of_decide_eq_true (by first | (with_reducible assumption) | assumption)
                    have q168 : x5_2 < (l1_1.length : Int) := of_decide_eq_true (by first | (with_reducible assumption) | assumption)
                    obtain ⟨ad168, A168_0, c168_0, e168, hx168_0, hl168_0, hi168_0⟩ := at_L6 HR1_1.out x5_2 p168 q168
                    cases e168
                    replace hx168_0 := (HB.out.cell (World.block_lt_of_cell? w _ hx168_0)).trans hx168_0
                    have HR168_0 := Aside0.mk hi168_0
                    have HC168_0 := Aside0.mk hl168_0
                    clear hi168_0 hl168_0
                    replace p168 := eq_true p168
                    replace q168 := eq_true q168
                    go_wp2_with (first | (go_at_call 45; (with_reducible refine (threshingkit_SameClause.calls k2 _ _ (rd_L6 l0_1 x5_2) _ _ (rd_L6 l1_1 x5_2) false _ ?side1 ?side2 ?side3 ?side4 A17.out).mono ?_); (case side1 => repeat (first | exact (Kd.C_below HR167_0.out HB.out) | (with_reducible refine Kd.C_alloc ?_ _) | (with_reducible refine Kd.C_drewN ?_ _) | (with_reducible refine Kd.C_drew ?_))); (case side2 => exact HC167_0.out); (case side3 => repeat (first | exact (Kd.C_below HR168_0.out HB.out) | (with_reducible refine Kd.C_alloc ?_ _) | (with_reducible refine Kd.C_drewN ?_ _) | (with_reducible refine Kd.C_drew ?_))); (case side4 => exact HC168_0.out); rintro e w' ⟨rfl, ⟨nd, rfl⟩⟩; (try first | exact ⟨rfl, _, World.drewN_drewN _ _ _⟩ | exact ⟨rfl, _, Eq.trans (World.drewN_drewN _ _ _) (congrArg (World.drewN _) (Nat.add_assoc _ _ _))⟩)))
                    repeat (go_quiet (first | (go_at_call 45; (with_reducible refine (threshingkit_SameClause.calls k2 _ _ (rd_L6 l0_1 x5_2) _ _ (rd_L6 l1_1 x5_2) false _ ?side1 ?side2 ?side3 ?side4 A17.out).mono ?_); (case side1 => repeat (first | exact (Kd.C_below HR167_0.out HB.out) | (with_reducible refine Kd.C_alloc ?_ _) | (with_reducible refine Kd.C_drewN ?_ _) | (with_reducible refine Kd.C_drew ?_))); (case side2 => exact HC167_0.out); (case side3 => repeat (first | exact (Kd.C_below HR168_0.out HB.out) | (with_reducible refine Kd.C_alloc ?_ _) | (with_reducible refine Kd.C_drewN ?_ _) | (with_reducible refine Kd.C_drew ?_))); (case side4 => exact HC168_0.out); rintro e w' ⟨rfl, ⟨nd, rfl⟩⟩; (try first | exact ⟨rfl, _, World.drewN_drewN _ _ _⟩ | exact ⟨rfl, _, Eq.trans (World.drewN_drewN _ _ _) (congrArg (World.drewN _) (Nat.add_assoc _ _ _))⟩))); try go_wp2_with (first | (go_at_call 45; (with_reducible refine (threshingkit_SameClause.calls k2 _ _ (rd_L6 l0_1 x5_2) _ _ (rd_L6 l1_1 x5_2) false _ ?side1 ?side2 ?side3 ?side4 A17.out).mono ?_); (case side1 => repeat (first | exact (Kd.C_below HR167_0.out HB.out) | (with_reducible refine Kd.C_alloc ?_ _) | (with_reducible refine Kd.C_drewN ?_ _) | (with_reducible refine Kd.C_drew ?_))); (case side2 => exact HC167_0.out); (case side3 => repeat (first | exact (Kd.C_below HR168_0.out HB.out) | (with_reducible refine Kd.C_alloc ?_ _) | (with_reducible refine Kd.C_drewN ?_ _) | (with_reducible refine Kd.C_drew ?_))); (case side4 => exact HC168_0.out); rintro e w' ⟨rfl, ⟨nd, rfl⟩⟩; (try first | exact ⟨rfl, _, World.drewN_drewN _ _ _⟩ | exact ⟨rfl, _, Eq.trans (World.drewN_drewN _ _ _) (congrArg (World.drewN _) (Nat.add_assoc _ _ _))⟩))))
                    go_ret
                    exact ⟨by first | rfl | (simp [errW_none, errW_some] <;> rfl) | (simp [*, errW_none, errW_some] <;> rfl), by repeat (first | (with_reducible first | exact HB.out | apply below_alloc | apply pw_below_drewN | apply below_drew1 | refine below_set ?_ GE165.out | refine below_set ?_ GE166.out) | exact HB.out)⟩
                · rw [if_neg c16] at H
                  exact absurd H (by simp)
              · rw [if_neg c15] at H
                exact absurd H (by simp)
            · rw [if_neg c14] at H
              have c14b0 : decide (x5_2 < (l0_1.length : Int)) = false := decide_eq_false c14
              clear c14
              obtain rfl := Option.some.inj H
              have hnb25 := NB165_166.out
              have hnc25 := NB166_165.out
              have hcz26_0 : wr.cell? ⟨gb165, 0, none⟩ = some (.int .i64 a0_0) := (blk_cell BK165.out 0).trans rfl
              have hcz26_1 : wr.cell? ⟨gb165, 1, none⟩ = some (.slice A0_1 l0_1.length c0_1) := (blk_cell BK165.out 1).trans rfl
              have hfz26_0 := blk_frozen BK165.out 0
              have hfz26_1 := blk_frozen BK165.out 1
              go_wp2
              repeat (go_quiet (fail); try go_wp2)
              go_ret
              exact ⟨by first | rfl | (simp [errW_none, errW_some] <;> rfl) | (simp [*, errW_none, errW_some] <;> rfl), by repeat (first | (with_reducible first | exact HB.out | apply below_alloc | apply pw_below_drewN | apply below_drew1 | refine below_set ?_ GE165.out | refine below_set ?_ GE166.out) | exact HB.out)⟩
end Go.Proofs.YtigloobbpcnnhaaGreatDoor.PB
end
section
namespace Go.Proofs.YtigloobbpcnnhaaGreatDoor.PB
open Go.RowKit Go.Proofs.YtigloobbpcnnhaaGreatDoorW.PrintWords Go.Proofs.YtigloobbpcnnhaaGreatDoorW.PrintLast Go.Proofs.YtigloobbpcnnhaaGreatDoorW.PrintMore
attribute [local go_sem] max2_int min2_int max_two min_two max_three min_three max_four min_four   -- for this text's walks alone
set_option linter.unusedVariables false
set_option linter.unusedSimpArgs false
def threshingkit_SameModel.l0 : Nat → List Bool → List Bool → Int → Option (Bool)
  | 0, _, _, _ => none
  | k + 1, x0, x1, x5 => if x5 < (x0.length : Int) then (if 0 ≤ x5 then (if x5 < (x1.length : Int) then (if ((rdOf false x0 x5) != (rdOf false x1 x5)) = true then (some false) else (threshingkit_SameModel.l0 k x0 x1 (wrap64 (x5 + 1)))) else (none)) else (none)) else (some true)
def threshingkit_SameModel.f (k : Nat) (l0 : List Bool) (l1 : List Bool) : Option (Bool) := if (l0.length : Int) = (l1.length : Int) then (threshingkit_SameModel.l0 k l0 l1 0) else (some false)
theorem threshingkit_SameModel.mono_l : ∀ k, (∀ y0 y1 y2, LeO (threshingkit_SameModel.l0 k y0 y1 y2) (threshingkit_SameModel.l0 (k + 1) y0 y1 y2))
  | 0 => fun _ _ _ r h => by simp [threshingkit_SameModel.l0] at h
  | k + 1 => by
    have ih0 := threshingkit_SameModel.mono_l k
    · intro y0 y1 y2
      unfold threshingkit_SameModel.l0
      repeat' first
      | (with_reducible exact ih0 _ _ _)
      | (with_reducible exact LeO.refl _)
      | (with_reducible exact LeO.none _)
      | (with_reducible refine LeO.ite ?_ ?_)
      | (with_reducible refine LeO.bind ?_ (fun _ => ?_))
      | exact ih0 _ _ _
      | exact LeO.none _
      | refine LeO.ite ?_ ?_
      | refine LeO.bind ?_ (fun _ => ?_)
theorem threshingkit_SameModel.mono : ∀ a0 a1 k, LeO (threshingkit_SameModel.f k a0 a1) (threshingkit_SameModel.f (k + 1) a0 a1) := by
  intro a0 a1 k
  have ih0 := threshingkit_SameModel.mono_l k
  unfold threshingkit_SameModel.f
  repeat' first
      | (with_reducible exact ih0 _ _ _)
      | (with_reducible exact LeO.refl _)
      | (with_reducible exact LeO.none _)
      | (with_reducible refine LeO.ite ?_ ?_)
      | (with_reducible refine LeO.bind ?_ (fun _ => ?_))
      | exact ih0 _ _ _
      | exact LeO.none _
      | refine LeO.ite ?_ ?_
      | refine LeO.bind ?_ (fun _ => ?_)
set_option maxHeartbeats 8000000 in
set_option maxRecDepth 100000 in
theorem threshingkit_SameModel.calls (k : Nat) (A0 : Option Addr) (c0 : Nat) (l0 : List Bool) (A1 : Option Addr) (c1 : Nat) (l1 : List Bool) (r : Bool) (w : World) (hr0 : Kd.C Kd.bool w A0 l0.length l0) (hc0 : l0.length ≤ c0) (hr1 : Kd.C Kd.bool w A1 l1.length l1) (hc1 : l1.length ≤ c1) (h : threshingkit_SameModel.f k l0 l1 = some r) :
    Calls Tryz.prog 7 #[.slice A0 l0.length c0, .slice A1 l1.length c1] w fun e w' => e = .returned (.bool r) ∧ Drawn0 w w' := by
  have HR0 := Aside0.mk hr0
  have HC0 := Aside0.mk hc0
  clear hr0 hc0
  have HR1 := Aside0.mk hr1
  have HC1 := Aside0.mk hc1
  clear hr1 hc1
  have H : (if (l0.length : Int) = (l1.length : Int) then (threshingkit_SameModel.l0 k l0 l1 0) else (some false)) = some r := h
  clear h
  by_cases c3 : (l0.length : Int) = (l1.length : Int)
  · rw [if_pos c3] at H
    have c3b0 : ((l0.length : Int) == (l1.length : Int)) = true := beq_iff_eq.mpr c3
    have c3b1 : ((l0.length : Int) != (l1.length : Int)) = false := bne_eq_false_iff_eq.mpr c3
    have c3b2 : (l0.length == l1.length) = true := by first | simpa using c3 | (simp at c3 ⊢; omega)
    clear c3
    have H' := Aside0.mk H
    clear H
    go_enter Tryz.func7, Tryz.ntmps7
    go_wp2
    repeat (go_quiet (fail); try go_wp2)
    go_loopg [5] k (fun kq v5 w' => ∃ (x5_1 : Int), v5 = .int .i64 x5_1 ∧ Aside0 (threshingkit_SameModel.l0 kq l0 l1 x5_1 = some r) ∧ Aside0 (kq ≤ k) ∧ Drawn0 w w')
    case atStart => exact ⟨(0), (by first | rfl | (simp; done) | (simp [*]; done)), H', ⟨Nat.le_refl _⟩, by repeat (first | exact Drawn0.refl _ | apply Drawn0.step)⟩
    case round =>
      clear H'
      try clear c1
      try clear p2
      try clear c3
      try clear c3b0
      try clear c3b1
      try clear c3b2
      obtain ⟨x5_1, rfl, HA, HK1, ⟨m1, rfl⟩⟩ := hrel
      cases gk with
      | zero => exact absurd HA.out (by simp [threshingkit_SameModel.l0])
      | succ k1 =>
        have H := HA.out
        clear HA
        simp only [threshingkit_SameModel.l0] at H
        by_cases c4 : x5_1 < (l0.length : Int)
        · rw [if_pos c4] at H
          have c4b0 : decide (x5_1 < (l0.length : Int)) = true := decide_eq_true c4
          clear c4
          by_cases c5 : 0 ≤ x5_1
          · rw [if_pos c5] at H
            have c5b0 : decide (0 ≤ x5_1) = true := decide_eq_true c5
            clear c5
            by_cases c6 : x5_1 < (l1.length : Int)
            · rw [if_pos c6] at H
              have c6b0 : decide (x5_1 < (l1.length : Int)) = true := decide_eq_true c6
              clear c6
              by_cases c7 : ((rdOf false l0 x5_1) != (rdOf false l1 x5_1)) = true
              · rw [if_pos c7] at H
                have c7b0 : ((rdOf false l0 x5_1) != (rdOf false l1 x5_1)) = true := c7
                (try (have c7b1 : decide ((rdOf false l0 x5_1) = (rdOf false l1 x5_1)) = false := by simpa using c7))
                (try (have c7b2 : ((rdOf false l0 x5_1) == (rdOf false l1 x5_1)) = false := by simpa using c7))
                (try (have c7b3 : ¬ ((rdOf false l0 x5_1) = (rdOf false l1 x5_1)) := by simpa using c7))
                clear c7
                obtain rfl := Option.some.inj H
                have p254 : 0 ≤ (x5_1 : Int) := of_decide_eq_true (by first | (with_reducible assumption) | assumption)
                have q254 : x5_1 < (l0.length : Int) := of_decide_eq_true (by first | (with_reducible assumption) | assumption)
                obtain ⟨ad254, e254, hx254_0⟩ := Kd.at_bool HR0.out x5_1 p254 q254
                cases e254
                replace p254 := eq_true p254
                replace q254 := eq_true q254
                have p255 : 0 ≤ (x5_1 : Int) := of_decide_eq_true (by first | (with_reducible assumption) | assumption)
                have q255 : x5_1 < (l1.length : Int) := of_decide_eq_true (by first | (with_reducible assumption) | assumption)
                obtain ⟨ad255, e255, hx255_0⟩ := Kd.at_bool HR1.out x5_1 p255 q255
                cases e255
                replace p255 := eq_true p255
                replace q255 := eq_true q255
                go_wp2
                repeat (go_quiet (fail); try go_wp2)
                go_ret
                exact ⟨by first | rfl | (simp; done) | (simp [*]; done), by repeat (first | exact Drawn0.refl _ | apply Drawn0.step)⟩
              · rw [if_neg c7] at H
                have c7b0 : ((rdOf false l0 x5_1) != (rdOf false l1 x5_1)) = false := by simpa using c7
                (try (have c7b1 : decide ((rdOf false l0 x5_1) = (rdOf false l1 x5_1)) = true := by simpa using c7))
                (try (have c7b2 : ((rdOf false l0 x5_1) == (rdOf false l1 x5_1)) = true := by simpa using c7))
                clear c7
                have H' := Aside0.mk H
                clear H
                have p254 : 0 ≤ (x5_1 : Int) := of_decide_eq_true (by first | (with_reducible assumption) | assumption)
                have q254 : x5_1 < (l0.length : Int) := of_decide_eq_true (by first | (with_reducible assumption) | assumption)
                obtain ⟨ad254, e254, hx254_0⟩ := Kd.at_bool HR0.out x5_1 p254 q254
                cases e254
                replace p254 := eq_true p254
                replace q254 := eq_true q254
                have p255 : 0 ≤ (x5_1 : Int) := of_decide_eq_true (by first | (with_reducible assumption) | assumption)
                have q255 : x5_1 < (l1.length : Int) := of_decide_eq_true (by first | (with_reducible assumption) | assumption)
                obtain ⟨ad255, e255, hx255_0⟩ := Kd.at_bool HR1.out x5_1 p255 q255
                cases e255
                replace p255 := eq_true p255
                replace q255 := eq_true q255
                go_wp2
                repeat (go_quiet (fail); try go_wp2)
                go_roundg k1
                case measure => have := HK1.out; omega
                case rel => exact ⟨(wrap64 (x5_1 + 1)), (by first | rfl | (simp; done) | (simp [*]; done)), H', ⟨by have := HK1.out; omega⟩, by repeat (first | exact Drawn0.refl _ | apply Drawn0.step)⟩
            · rw [if_neg c6] at H
              exact absurd H (by simp)
          · rw [if_neg c5] at H
            exact absurd H (by simp)
        · rw [if_neg c4] at H
          have c4b0 : decide (x5_1 < (l0.length : Int)) = false := decide_eq_false c4
          clear c4
          obtain rfl := Option.some.inj H
          go_wp2
          repeat (go_quiet (fail); try go_wp2)
          go_ret
          exact ⟨by first | rfl | (simp; done) | (simp [*]; done), by repeat (first | exact Drawn0.refl _ | apply Drawn0.step)⟩
  · rw [if_neg c3] at H
    have c3b0 : ((l0.length : Int) == (l1.length : Int)) = false := beq_eq_false_iff_ne.mpr c3
    have c3b1 : ((l0.length : Int) != (l1.length : Int)) = true := bne_iff_ne.mpr c3
    have c3b2 : (l0.length == l1.length) = false := by first | simpa using c3 | (simp at c3 ⊢; omega)
    obtain rfl := Option.some.inj H
    go_enter Tryz.func7, Tryz.ntmps7
    go_wp2
    repeat (go_quiet (fail); try go_wp2)
    go_ret
    exact ⟨by first | rfl | (simp; done) | (simp [*]; done), by repeat (first | exact Drawn0.refl _ | apply Drawn0.step)⟩
end Go.Proofs.YtigloobbpcnnhaaGreatDoor.PB
end
section
namespace Go.Proofs.YtigloobbpcnnhaaGreatDoor.PB
open Go.RowKit Go.Proofs.YtigloobbpcnnhaaGreatDoorW.PrintWords Go.Proofs.YtigloobbpcnnhaaGreatDoorW.PrintLast Go.Proofs.YtigloobbpcnnhaaGreatDoorW.PrintMore
attribute [local go_sem] max2_int min2_int max_two min_two max_three min_three max_four min_four   -- for this text's walks alone
set_option linter.unusedVariables false
set_option linter.unusedSimpArgs false
def threshingkit_Size.l0 : Nat → Int → Int → Int → Int → List (List Int) → Option (Int)
  | 0, _, _, _, _, _ => none
  | k + 1, x1, x5, x6, x214000, x214001 => if x6 < (x214001.length : Int) then (if x5 ≤ x1 then (if 0 ≤ x6 then (threshingkit_Size.l0 k x1 (wrap64 (x5 + ((rd_L6 x214001 x6).length : Int))) (wrap64 (x6 + 1)) x214000 x214001) else (none)) else (some (mn x5 (wrap64 (x1 + 1))))) else (some (mn x5 (wrap64 (x1 + 1))))
def threshingkit_Size.f (k : Nat) (a0_0 : Int) (l0_1 : List (List Int)) (a1 : Int) : Option (Int) := threshingkit_Size.l0 k a1 (l0_1.length : Int) 0 a0_0 l0_1
theorem threshingkit_Size.mono_l : ∀ k, (∀ y0 y1 y2 y3 y4, LeO (threshingkit_Size.l0 k y0 y1 y2 y3 y4) (threshingkit_Size.l0 (k + 1) y0 y1 y2 y3 y4))
  | 0 => fun _ _ _ _ _ r h => by simp [threshingkit_Size.l0] at h
  | k + 1 => by
    have ih0 := threshingkit_Size.mono_l k
    · intro y0 y1 y2 y3 y4
      unfold threshingkit_Size.l0
      repeat' first
      | (with_reducible exact ih0 _ _ _ _ _)
      | (with_reducible exact LeO.refl _)
      | (with_reducible exact LeO.none _)
      | (with_reducible refine LeO.ite ?_ ?_)
      | (with_reducible refine LeO.bind ?_ (fun _ => ?_))
      | exact ih0 _ _ _ _ _
      | exact LeO.none _
      | refine LeO.ite ?_ ?_
      | refine LeO.bind ?_ (fun _ => ?_)
theorem threshingkit_Size.mono : ∀ a0 a1 a2 k, LeO (threshingkit_Size.f k a0 a1 a2) (threshingkit_Size.f (k + 1) a0 a1 a2) := by
  intro a0 a1 a2 k
  have ih0 := threshingkit_Size.mono_l k
  unfold threshingkit_Size.f
  repeat' first
      | (with_reducible exact ih0 _ _ _ _ _)
      | (with_reducible exact LeO.refl _)
      | (with_reducible exact LeO.none _)
      | (with_reducible refine LeO.ite ?_ ?_)
      | (with_reducible refine LeO.bind ?_ (fun _ => ?_))
      | exact ih0 _ _ _ _ _
      | exact LeO.none _
      | refine LeO.ite ?_ ?_
      | refine LeO.bind ?_ (fun _ => ?_)
set_option maxHeartbeats 8000000 in
set_option maxRecDepth 100000 in
theorem threshingkit_Size.calls (k : Nat) (a0_0 : Int) (A0_1 : Option Addr) (c0_1 : Nat) (l0_1 : List (List Int)) (a1 : Int) (r : Int) (w : World) (hr0_1 : Kd.C (Kd.slice 40 (Kd.int .i32)) w A0_1 l0_1.length l0_1) (hc0_1 : l0_1.length ≤ c0_1) (h : threshingkit_Size.f k a0_0 l0_1 a1 = some r) :
    Calls Tryz.prog 24 #[.agg #[.int .i64 a0_0, .slice A0_1 l0_1.length c0_1], .int .i64 a1] w fun e w' => e = .returned (.int .i64 r) ∧ Below w.heap.size w w' := by
  have hu25 := Tryz.underlying35
  have HR0_1 := Aside0.mk hr0_1
  have HC0_1 := Aside0.mk hc0_1
  clear hr0_1 hc0_1
  have HB := Aside0.mk (Below.refl w.heap.size w)
  have H : (threshingkit_Size.l0 k a1 (l0_1.length : Int) 0 a0_0 l0_1) = some r := h
  clear h
  have H' := Aside0.mk H
  clear H
  go_enter Tryz.func24, Tryz.ntmps24
  go_wp2_with (first | ((with_reducible refine gate_dst (N := 2) rfl ?_); refine box_event ?hg (N := 2) ?hd (cs := #[.int .i64 a0_0, .slice A0_1 l0_1.length c0_1]) (t := 35) ?hr ?_; (case hd => rfl); (case hg => rfl); (case hr => first | (go_simp; done) | (go_simp; rfl)); intro gb213 hg w3 hbox hb; have n0_ := Aside0.mk (below_step (by repeat (first | (with_reducible first | exact HB.out | apply below_alloc | apply pw_below_drewN | apply below_drew1) | exact HB.out)) hb); have n1_ := Aside0.mk (hbox); have n2_ := Aside0.mk ((by rw [hg]; exact (below_size (by repeat (first | (with_reducible first | exact HB.out | apply below_alloc | apply pw_below_drewN | apply below_drew1) | exact HB.out))) : w.heap.size ≤ gb213)); have n3_ := Aside0.mk ((by rw [hg]; exact (below_size (by repeat (first | (with_reducible first | exact HB.out | apply below_alloc | apply pw_below_drewN | apply below_drew1) | exact HB.out))) : w.heap.size ≤ gb213)); clear HB; have HB := n0_; have BK213 := n1_; have GW213 := n2_; have GE213 := n3_; clear n0_ n1_ n2_ n3_; clear hb hbox hg; have hcz4_0 : w3.cell? ⟨gb213, 0, none⟩ = some (.int .i64 a0_0) := (blk_cell BK213.out 0).trans rfl; have hcz4_1 : w3.cell? ⟨gb213, 1, none⟩ = some (.slice A0_1 l0_1.length c0_1) := (blk_cell BK213.out 1).trans rfl; have hfz4_0 := blk_frozen BK213.out 0; have hfz4_1 := blk_frozen BK213.out 1))
  go_loopg [5, 6] k (fun kq v5 v6 w' => ∃ (x5_1 : Int) (x6_1 : Int), v5 = .int .i64 x5_1 ∧ v6 = .int .i64 x6_1 ∧ Aside0 (threshingkit_Size.l0 kq a1 x5_1 x6_1 a0_0 l0_1 = some r) ∧ Aside0 (kq ≤ k) ∧ Aside0 (w'.heap[gb213]? = some (.cells #[.int .i64 a0_0, (.slice A0_1 l0_1.length c0_1)] 35 (0, 0))) ∧ Aside0 (Below w.heap.size w w'))
  case atStart => exact ⟨((l0_1.length : Int)), (0), (by first | rfl | (simp; done) | (simp [*]; done)), (by first | rfl | (simp; done) | (simp [*]; done)), H', ⟨Nat.le_refl _⟩, ⟨by (with_reducible repeat (first | refine blk_drewN ?_ _ | refine blk_drew ?_ | refine blk_alloc ?_ _)); exact BK213.out⟩, ⟨by repeat (first | (with_reducible first | exact HB.out | apply below_alloc | apply pw_below_drewN | apply below_drew1 | refine below_set ?_ GE213.out) | exact HB.out)⟩⟩
  case round =>
    clear H'
    try clear c1
    try clear p2
    try clear hcz4_0
    try clear hcz4_1
    try clear hfz4_0
    try clear hfz4_1
    obtain ⟨x5_1, x6_1, rfl, rfl, HA, HK1, BK213, HB⟩ := hrel
    cases gk with
    | zero => exact absurd HA.out (by simp [threshingkit_Size.l0])
    | succ k1 =>
      have H := HA.out
      clear HA
      simp only [threshingkit_Size.l0] at H
      by_cases c5 : x6_1 < (l0_1.length : Int)
      · rw [if_pos c5] at H
        have c5b0 : decide (x6_1 < (l0_1.length : Int)) = true := decide_eq_true c5
        clear c5
        by_cases c6 : x5_1 ≤ a1
        · rw [if_pos c6] at H
          have c6b0 : decide (x5_1 ≤ a1) = true := decide_eq_true c6
          clear c6
          by_cases c7 : 0 ≤ x6_1
          · rw [if_pos c7] at H
            have c7b0 : decide (0 ≤ x6_1) = true := decide_eq_true c7
            clear c7
            have H' := Aside0.mk H
            clear H
            have hcz8_0 : wr.cell? ⟨gb213, 0, none⟩ = some (.int .i64 a0_0) := (blk_cell BK213.out 0).trans rfl
            have hcz8_1 : wr.cell? ⟨gb213, 1, none⟩ = some (.slice A0_1 l0_1.length c0_1) := (blk_cell BK213.out 1).trans rfl
            have hfz8_0 := blk_frozen BK213.out 0
            have hfz8_1 := blk_frozen BK213.out 1
            have p214 : 0 ≤ (x6_1 : Int) := of_decide_eq_true (by first | (with_reducible assumption) | assumption)
            have q214 : x6_1 < (l0_1.length : Int) := of_decide_eq_true (by first | (with_reducible assumption) | assumption)
            obtain ⟨ad214, A214_0, c214_0, e214, hx214_0, hl214_0, hi214_0⟩ := at_L6 HR0_1.out x6_1 p214 q214
            cases e214
            replace hx214_0 := (HB.out.cell (World.block_lt_of_cell? w _ hx214_0)).trans hx214_0
            have HR214_0 := Aside0.mk hi214_0
            have HC214_0 := Aside0.mk hl214_0
            clear hi214_0 hl214_0
            replace p214 := eq_true p214
            replace q214 := eq_true q214
            go_wp2
            go_roundg k1
            case measure => have := HK1.out; omega
            case rel => exact ⟨(wrap64 (x5_1 + ((rd_L6 l0_1 x6_1).length : Int))), (wrap64 (x6_1 + 1)), (by first | rfl | (simp; done) | (simp [*]; done)), (by first | rfl | (simp; done) | (simp [*]; done)), H', ⟨by have := HK1.out; omega⟩, ⟨by (with_reducible repeat (first | refine blk_drewN ?_ _ | refine blk_drew ?_ | refine blk_alloc ?_ _)); exact BK213.out⟩, ⟨by repeat (first | (with_reducible first | exact HB.out | apply below_alloc | apply pw_below_drewN | apply below_drew1 | refine below_set ?_ GE213.out) | exact HB.out)⟩⟩
          · rw [if_neg c7] at H
            exact absurd H (by simp)
        · rw [if_neg c6] at H
          have c6b0 : decide (x5_1 ≤ a1) = false := decide_eq_false c6
          clear c6
          obtain ⟨ji9, hji9⟩ : ∃ j_ : Int, (mn x5_1 (wrap64 (a1 + 1))) = j_ := ⟨_, rfl⟩
          replace H : (some ji9) = some r := by first | (rw [hji9] at H; exact H) | (simp only [hji9] at H ⊢; exact H)
          have hji9_ : (if (wrap64 (a1 + 1)) < x5_1 then (wrap64 (a1 + 1)) else x5_1) = ji9 := hji9
          obtain rfl := Option.some.inj H
          have hcz10_0 : wr.cell? ⟨gb213, 0, none⟩ = some (.int .i64 a0_0) := (blk_cell BK213.out 0).trans rfl
          have hcz10_1 : wr.cell? ⟨gb213, 1, none⟩ = some (.slice A0_1 l0_1.length c0_1) := (blk_cell BK213.out 1).trans rfl
          have hfz10_0 := blk_frozen BK213.out 0
          have hfz10_1 := blk_frozen BK213.out 1
          go_wp2
          go_ret
          exact ⟨by first | rfl | (simp [errW_none, errW_some] <;> rfl) | (simp only [← hji9]; first | rfl | (simp [errW_none, errW_some] <;> rfl)) | (simp [*, errW_none, errW_some] <;> rfl), by repeat (first | (with_reducible first | exact HB.out | apply below_alloc | apply pw_below_drewN | apply below_drew1 | refine below_set ?_ GE213.out) | exact HB.out)⟩
      · rw [if_neg c5] at H
        have c5b0 : decide (x6_1 < (l0_1.length : Int)) = false := decide_eq_false c5
        clear c5
        obtain ⟨ji11, hji11⟩ : ∃ j_ : Int, (mn x5_1 (wrap64 (a1 + 1))) = j_ := ⟨_, rfl⟩
        replace H : (some ji11) = some r := by first | (rw [hji11] at H; exact H) | (simp only [hji11] at H ⊢; exact H)
        have hji11_ : (if (wrap64 (a1 + 1)) < x5_1 then (wrap64 (a1 + 1)) else x5_1) = ji11 := hji11
        obtain rfl := Option.some.inj H
        have hcz12_0 : wr.cell? ⟨gb213, 0, none⟩ = some (.int .i64 a0_0) := (blk_cell BK213.out 0).trans rfl
        have hcz12_1 : wr.cell? ⟨gb213, 1, none⟩ = some (.slice A0_1 l0_1.length c0_1) := (blk_cell BK213.out 1).trans rfl
        have hfz12_0 := blk_frozen BK213.out 0
        have hfz12_1 := blk_frozen BK213.out 1
        go_wp2
        go_ret
        exact ⟨by first | rfl | (simp [errW_none, errW_some] <;> rfl) | (simp only [← hji11]; first | rfl | (simp [errW_none, errW_some] <;> rfl)) | (simp [*, errW_none, errW_some] <;> rfl), by repeat (first | (with_reducible first | exact HB.out | apply below_alloc | apply pw_below_drewN | apply below_drew1 | refine below_set ?_ GE213.out) | exact HB.out)⟩
end Go.Proofs.YtigloobbpcnnhaaGreatDoor.PB
end
end
section
section
namespace Go.Proofs.YtigloobbpcnnhaaGreatDoor.PB
open Go.RowKit Go.Proofs.YtigloobbpcnnhaaGreatDoorW.PrintWords Go.Proofs.YtigloobbpcnnhaaGreatDoorW.PrintLast Go.Proofs.YtigloobbpcnnhaaGreatDoorW.PrintMore
set_option linter.unusedVariables false
set_option linter.unusedSimpArgs false
theorem bsz23 : (Tryz.prog.info? 46).map (·.size) = some 1 := by kernel_rfl
theorem bsz51 : (Tryz.prog.info? 63).map (·.size) = some 2 := by kernel_rfl
theorem blies51 : liesAt Tryz.prog Tryz.prog.depth 63 (2 / Tryz.prog.cellsOf 63) 0 63 1 = true := by kernel_rfl
/-- Types and number of cells of a block. -/
theorem shape_blk {w : World} {g t : Nat} {cs : Array Value} (h : w.heap[g]? = some (.cells cs t (0, 0))) : w.shape? g = some (t, cs.size) := by
  simp [World.shape?, h]
set_option maxHeartbeats 1000000 in
set_option maxRecDepth 100000 in
theorem cc_calls (g : Nat) (p : Option Addr) (v : Value) (w : World) (hg : w.heap[g]? = some (.cells #[.pointer p, v] 63 (0, 0))) (hp : p = none ∨ p = some ⟨g, 0, none⟩) :
    Calls Tryz.prog 47 #[.pointer (some ⟨g, 0, none⟩)] w fun e w' => e = .returned (.tuple #[]) ∧ w'.heap[g]? = some (.cells #[.pointer (some ⟨g, 0, none⟩), v] 63 (0, 0)) ∧ SameBut g w w' := by
  have HG := Aside0.mk hg
  have hcell := (blk_cell hg 0).trans (show _ = some (Value.pointer p) from rfl)
  have hfz := blk_frozen hg 0
  have hsh : w.shape? g = some (63, 2) := shape_blk hg
  obtain ⟨j, hj, hjs⟩ := Option.map_eq_some_iff.1 bsz51
  clear hg
  go_enter Tryz.func47, Tryz.ntmps47
  rcases hp with rfl | rfl
  · go_wp2
    rw [Lib.run_to_unsafe w ⟨g, 0, none⟩ Tryz.underlying61 Tryz.underlying106 hj (by rw [hjs]; decide) hsh (Nat.zero_lt_succ 1)]
    simp only [Result.andThen]
    rw [Oper.upon_value]
    go_wp2
    rw [run_callFunc_extern Tryz.func64 (by kernel_rfl) (by kernel_rfl) (by kernel_rfl) (e := Extern.AbiNoEscape.same) (by kernel_rfl)]
    rw [Lib.run_noEscape]
    simp only [Result.andThen]
    rw [Oper.upon_value]
    go_wp2
    rw [Lib.run_from_unsafe w ⟨g, 0, none⟩ Tryz.underlying106 Tryz.underlying61 hj hsh blies51]
    simp only [Result.andThen]
    rw [Oper.upon_value]
    go_wp2
    go_end0
    exact ⟨rfl, blk_put HG.out 0 _ rfl, ⟨rfl, rfl, rfl, by simp [World.setCell], fun k hk => Below.heap_setCell w ⟨g, 0, none⟩ _ k hk⟩⟩
  · go_wp2
    rw [Lib.run_neq_ptr_same w _ Tryz.underlying61 hj]
    go_wp2
    go_end0
    exact ⟨rfl, HG.out, SameBut.refl _ _⟩
/-- A builder (block g, one of the own blocks from base on) that holds bs. -/
structure BD (base g : Nat) (bs : List Int) (w : World) : Prop where
  ex : ∃ (p : Option Addr) (v : Value), w.heap[g]? = some (.cells #[.pointer p, v] 63 (0, 0)) ∧ (p = none ∨ p = some ⟨g, 0, none⟩) ∧ Kd.R (Kd.int .u8) 5 w base (fun _ => True) v bs
  lt : base ≤ g
theorem info5r : (Tryz.prog.info? 5).map (fun i => (i.zero, i.size, i.bytes)) = some (some (.int .u8 0), 1, 1) := by kernel_rfl
set_option maxHeartbeats 1000000 in
set_option maxRecDepth 100000 in
theorem ws_calls (base g : Nat) (bs : List Int) (s : ByteArray) (w : World) (h : BD base g bs w) (hl : bs.length + s.size ≤ 140737488355328) :
    Calls Tryz.prog 27 #[.pointer (some ⟨g, 0, none⟩), .string s] w fun e w' => e = .returned (.tuple #[.int .i64 s.size, .nilIface]) ∧ BD base g (bs ++ bytesOf s) w' ∧ Below base w w' ∧ KT [63, 5] w w' := by
  obtain ⟨p, v, hg, hp, hR⟩ := h.ex
  have hlt := h.lt
  obtain ⟨A, c, rfl⟩ := Kd.R_slice hR
  have hb0 := Aside0.mk (show base ≤ w.heap.size by have := blk_lt hg; omega)
  have HG := Aside0.mk hg
  have HR := Aside0.mk hR
  have HL := Aside0.mk hl
  have HP := Aside0.mk hp
  clear hg hR hl hp h
  go_enter Tryz.func27, Tryz.ntmps27
  go_wp2_with (first | (go_at_call 47; refine (cc_calls g p _ w HG.out HP.out).mono ?_; rintro e w1 ⟨rfl, h1, hs⟩; have HG1 := Aside0.mk h1; have HS1 := Aside0.mk hs; have HR1 := Aside0.mk (hs.Rt HR.out HG.out (by decide)); have hcell := (blk_cell h1 1).trans (show _ = some (Value.slice A bs.length c) from rfl); have hfz := blk_frozen h1 1; clear h1 hs) | ((with_reducible refine gate_builtin (b := .append) (xs := #[.tmp 12, .tmp 13]) rfl ?_); at_builtin; refine print_append_str (w0 := w1) base rfl (.tmp 12) (.tmp 13) 46 9 5 rfl Tryz.underlying46 Tryz.underlying9 info5r (.slice A bs.length c) bs s rfl rfl (Kd.own_of_R HR1.out) (Below.refl _ _) (by rw [HS1.out.size]; exact hb0.out) HL.out ?_; intro v2 w2 ho hb hg2; have HO2 := Aside0.mk ho; have HB2 := Aside0.mk hb; have HG2 := Aside0.mk (blk_grown HG1.out hg2 (Kd.R_ne HR1.out HG1.out (by decide))); have HK2 := Aside0.mk (((HS1.out.kt (KT.refl [63, 5] w) HG.out (by decide)).grown hg2 (R_row HR1.out (by decide)))); clear ho hb hg2 hcell hfz; have hcell := (blk_cell HG2.out 1).trans (show _ = some (Value.slice A bs.length c) from rfl); have hfz := blk_frozen HG2.out 1) | ((with_reducible refine gate_store (t := 46) (p := 16) rfl ?_); refine store_one 46 16 (.tmp 14) rfl rfl rfl v2 #[.pointer (some ⟨g, 0, none⟩), v2] rfl rfl HG2.out (Kd.R_val (Kd.R_of_own (h1 := fun _ => rfl) (ok := fun _ => True) HO2.out (fun _ _ => trivial))).1 bsz23 (show 1 + 1 ≤ 2 by omega) (Kd.R_val (Kd.R_of_own (h1 := fun _ => rfl) (ok := fun _ => True) HO2.out (fun _ _ => trivial))).2 rfl ?_; intro w8 hw8 hsb; have HW8 := Aside0.mk hw8; have HS8 := Aside0.mk hsb; clear hw8 hsb))
  go_ret2
  exact ⟨rfl, ⟨⟨some ⟨g, 0, none⟩, v2, HW8.out, .inr rfl, HS8.out.Rt (Kd.R_of_own (h1 := fun _ => rfl) (ok := fun _ => True) HO2.out (fun _ _ => trivial)) HG2.out (by decide)⟩, hlt⟩, HS8.out.below ((HS1.out.below (Below.refl base w) hlt).trans HB2.out) hlt, HS8.out.kt HK2.out HG2.out (by decide)⟩
theorem BD.below {base g : Nat} {bs : List Int} {w w' : World} (h : BD base g bs w) (hb : Below w.heap.size w w') : BD base g bs w' := by
  obtain ⟨p, v, hg, hp, hR⟩ := h.ex
  exact ⟨⟨p, v, blk_below hg hb, hp, Kd.R_below hR hb⟩, h.lt⟩
theorem BD.same {base g k t : Nat} {bs : List Int} {w w' : World} {cs : Array Value} (h : BD base g bs w) (hs : SameBut k w w') (hk : w.heap[k]? = some (.cells cs t (0, 0))) (h1 : t ≠ 63) (h5 : t ≠ 5) : BD base g bs w' := by
  obtain ⟨p, v, hg, hp, hR⟩ := h.ex
  exact ⟨⟨p, v, hs.other hg (blk_ne hg hk (Ne.symm h1)), hp, hs.Rt hR hk (fun q hq => by
    rcases List.mem_cons.1 hq with rfl | hq
    · exact Ne.symm h5
    · exact absurd hq (by simp [Kd.E, Kd.int, Kd.scalar]))⟩, h.lt⟩
end Go.Proofs.YtigloobbpcnnhaaGreatDoor.PB
end
section
namespace Go.Proofs.YtigloobbpcnnhaaGreatDoor.PB
open Go.RowKit Go.Proofs.YtigloobbpcnnhaaGreatDoorW.PrintWords Go.Proofs.YtigloobbpcnnhaaGreatDoorW.PrintLast Go.Proofs.YtigloobbpcnnhaaGreatDoorW.PrintMore
set_option linter.unusedVariables false
set_option linter.unusedSimpArgs false
theorem nsz9 : (Tryz.prog.info? 9).map (·.size) = some 1 := by kernel_rfl
theorem baOf_append (a b : List UInt8) : baOf a ++ baOf b = baOf (a ++ b) := by
  apply ByteArray.ext
  rw [ByteArray.data_append]
  apply Array.ext'
  simp [baOf]
theorem bI_append (a b : List UInt8) : bI (a ++ b) = bI a ++ bI b := by unfold bI; rw [List.map_append]
theorem bytesOf_baOf (l : List UInt8) : bytesOf (baOf l) = bI l := rfl
theorem baOf_size (l : List UInt8) : (baOf l).size = l.length := rfl
/-- What is written, and the row that is open. -/
structure VS (base g3 g4 : Nat) (st : List UInt8 × List UInt8) (W : World) : Prop where
  bd : BD base g3 (bI st.1) W
  row : W.heap[g4]? = some (.cells #[.string (baOf st.2)] 9 (0, 0))
  b4 : base ≤ g4
theorem VS.below {base g3 g4 : Nat} {st : List UInt8 × List UInt8} {W W' : World} (h : VS base g3 g4 st W) (hb : Below W.heap.size W W') : VS base g3 g4 st W' := ⟨h.bd.below hb, blk_below h.row hb, h.b4⟩
theorem KT.cells {T : List Nat} {a b : World} (h : KT T a b) {i : Nat} {cs : Array Value} {t : TypeId} (hi : a.heap[i]? = some (.cells cs t (0, 0))) (ht : t ∉ T) : b.heap[i]? = some (.cells cs t (0, 0)) := h.blk i cs t _ hi ht
set_option maxHeartbeats 1000000 in
set_option maxRecDepth 100000 in
theorem put_calls (base g3 g4 : Nat) (st : List UInt8 × List UInt8) (x : List UInt8) (W : World) (h : VS base g3 g4 st W) (hr : st.2.length ≤ 1000) (hx : x.length ≤ 1000) (ho : st.1.length ≤ 1000000000) :
    Calls Tryz.prog 26 #[.string (baOf x), .pointer (some ⟨g4, 0, none⟩), .pointer (some ⟨g3, 0, none⟩)] W fun e w' => e = .returned (.tuple #[]) ∧ VS base g3 g4 (dPut st x) w' ∧ Below base W w' := by
  have H := Aside0.mk h
  obtain ⟨r, hrB⟩ : ∃ r, r = baOf st.2 := ⟨_, rfl⟩
  obtain ⟨y, hyB⟩ : ∃ y, y = baOf x := ⟨_, rfl⟩
  have hrs : r.size = st.2.length := by rw [hrB]; rfl
  have hys : y.size = x.length := by rw [hyB]; rfl
  have hrz : r.size ≤ 1000 := by omega
  have hyz : y.size ≤ 1000 := by omega
  have hrow := h.row
  rw [← hrB] at hrow
  have hc4 := (blk_cell hrow 0).trans (show _ = some (Value.string r) from rfl)
  have hf4 := blk_frozen hrow 0
  have HROW := Aside0.mk hrow
  have HRB := Aside0.mk hrB
  have HYB := Aside0.mk hyB
  have hw : (r.toList == ([118] : List UInt8)) = decide (st.2 = [118]) := by rw [hrB]; exact word_eq st.2 [118]
  rw [← hyB]
  by_cases h1 : 78 < st.2.length + 1 + x.length
  · have t1 : decide ((78 : Int) < (r.size : Int) + 1 + (y.size : Int)) = true := decide_eq_true (by omega)
    have t1b : decide (78 < r.size + 1 + y.size) = true := decide_eq_true (by omega)
    by_cases h2 : st.2 = [118]
    · have hp := Aside0.mk (show dPut st x = (st.1, st.2 ++ [32] ++ x) by unfold dPut; rw [if_neg (fun h => h.2 h2)])
      have t2 : (r.toList == ([118] : List UInt8)) = true := by rw [hw]; exact decide_eq_true h2
      have t2n : (r.toList != ([118] : List UInt8)) = false := by rw [bne, t2]; rfl
      clear hw h1 h2 hrow hrB hyB h hrs hys ho hr hx
      have z0 : 1 + y.size ≤ 9223372036854775807 := by omega
      have z1 : decide (1 + y.size ≤ 9223372036854775807) = true := decide_eq_true z0
      have z2 : (9223372036854775807 < 1 + y.size) = False := eq_false (Nat.not_lt.2 z0)
      replace z0 := eq_true z0
      have q0 : r.size + (1 + y.size) ≤ 9223372036854775807 := by omega
      have q1 : decide (r.size + (1 + y.size) ≤ 9223372036854775807) = true := decide_eq_true q0
      have q2 : (9223372036854775807 < r.size + (1 + y.size)) = False := eq_false (Nat.not_lt.2 q0)
      replace q0 := eq_true q0
      go_enter Tryz.func26, Tryz.ntmps26
      go_wp2_with ((with_reducible refine gate_store (t := 9) (p := 1) rfl ?_); refine store_one 9 1 (.tmp 21) rfl rfl rfl (.string (r ++ ((⟨#[32]⟩ : ByteArray) ++ y))) #[.string (r ++ ((⟨#[32]⟩ : ByteArray) ++ y))] rfl rfl HROW.out rfl nsz9 (show 0 + 1 ≤ 1 by omega) rfl rfl ?_; intro w2 hw2 hsb; have HW2 := Aside0.mk hw2; have HSB := Aside0.mk hsb; clear hw2 hsb)
      go_end0
      refine ⟨rfl, ?_, HSB.out.below (Below.refl _ _) H.out.b4⟩
      rw [hp.out]
      refine ⟨H.out.bd.same HSB.out HROW.out (by decide) (by decide), ?_, H.out.b4⟩
      rw [HW2.out, HRB.out, HYB.out, show (⟨#[32]⟩ : ByteArray) = baOf [32] from rfl, baOf_append, baOf_append, List.append_assoc]
    · have hp := Aside0.mk (show dPut st x = (st.1 ++ st.2 ++ [10], [118, 32] ++ x) by unfold dPut; rw [if_pos ⟨h1, h2⟩])
      have t2 : (r.toList == ([118] : List UInt8)) = false := by rw [hw]; exact decide_eq_false h2
      have t2n : (r.toList != ([118] : List UInt8)) = true := by rw [bne, t2]; rfl
      have HL := Aside0.mk (show (bI st.1).length + (r ++ ⟨#[10]⟩ : ByteArray).size ≤ 140737488355328 by rw [bI_length, ByteArray.size_append]; show st.1.length + (r.size + 1) ≤ _; omega)
      clear hw h1 h2 hrow hrB hyB h hrs hys ho hr hx
      have z0 : 1 + y.size ≤ 9223372036854775807 := by omega
      have z1 : decide (1 + y.size ≤ 9223372036854775807) = true := decide_eq_true z0
      have z2 : (9223372036854775807 < 1 + y.size) = False := eq_false (Nat.not_lt.2 z0)
      replace z0 := eq_true z0
      have q0 : r.size + 1 ≤ 9223372036854775807 := by omega
      have q1 : decide (r.size + 1 ≤ 9223372036854775807) = true := decide_eq_true q0
      have q2 : (9223372036854775807 < r.size + 1) = False := eq_false (Nat.not_lt.2 q0)
      replace q0 := eq_true q0
      have x_0 : 1 + (1 + y.size) ≤ 9223372036854775807 := by omega
      have x_1 : decide (1 + (1 + y.size) ≤ 9223372036854775807) = true := decide_eq_true x_0
      have x_2 : (9223372036854775807 < 1 + (1 + y.size)) = False := eq_false (Nat.not_lt.2 x_0)
      replace x_0 := eq_true x_0
      go_enter Tryz.func26, Tryz.ntmps26
      go_wp2_with (first | (go_at_call 27; refine (ws_calls base g3 (bI st.1) (r ++ (⟨#[10]⟩ : ByteArray)) W H.out.bd HL.out).mono ?_; rintro e w2 ⟨rfl, hbd, hb, hk⟩; have HBD := Aside0.mk hbd; have HB := Aside0.mk hb; have HR2 := Aside0.mk (hk.cells HROW.out (by decide)); clear hbd hb hk hc4 hf4) | ((with_reducible refine gate_store (t := 9) (p := 1) rfl ?_); refine store_one 9 1 (.const (.string ⟨#[118]⟩)) rfl rfl rfl (.string ⟨#[118]⟩) #[.string ⟨#[118]⟩] rfl rfl HR2.out rfl nsz9 (show 0 + 1 ≤ 1 by omega) rfl rfl ?_; intro w3 hw2 hsb; have HW3 := Aside0.mk hw2; have HSB3 := Aside0.mk hsb; have hc4 := (blk_cell hw2 0).trans (show _ = some (Value.string ⟨#[118]⟩) from rfl); have hf4 := blk_frozen hw2 0; clear hw2 hsb))
      have HW4 := Aside0.mk (blk_put HW3.out 0 (.string ((⟨#[118]⟩ : ByteArray) ++ ((⟨#[32]⟩ : ByteArray) ++ y))) (show _ = #[.string ((⟨#[118]⟩ : ByteArray) ++ ((⟨#[32]⟩ : ByteArray) ++ y))] from rfl))
      have HSB4 := Aside0.mk (show SameBut g4 w3 (w3.setCell ⟨g4, 0, none⟩ (.string ((⟨#[118]⟩ : ByteArray) ++ ((⟨#[32]⟩ : ByteArray) ++ y)))) from ⟨rfl, rfl, rfl, by simp [World.setCell], fun k hk => Below.heap_setCell w3 ⟨g4, 0, none⟩ _ k hk⟩)
      go_end0
      refine ⟨rfl, ?_, HSB4.out.below (HSB3.out.below HB.out H.out.b4) H.out.b4⟩
      rw [hp.out]
      refine ⟨?_, ?_, H.out.b4⟩
      · have := (HBD.out.same HSB3.out HR2.out (by decide) (by decide)).same HSB4.out HW3.out (by decide) (by decide)
        rw [HRB.out, show (⟨#[10]⟩ : ByteArray) = baOf [10] from rfl, baOf_append, bytesOf_baOf, ← bI_append, ← List.append_assoc] at this
        exact this
      · rw [HW4.out, HYB.out, show (⟨#[32]⟩ : ByteArray) = baOf [32] from rfl, show (⟨#[118]⟩ : ByteArray) = baOf [118] from rfl, baOf_append, baOf_append]
        rfl
  · have t1 : decide ((78 : Int) < (r.size : Int) + 1 + (y.size : Int)) = false := decide_eq_false (by omega)
    have t1b : decide (78 < r.size + 1 + y.size) = false := decide_eq_false (by omega)
    have hp := Aside0.mk (show dPut st x = (st.1, st.2 ++ [32] ++ x) by unfold dPut; rw [if_neg (fun h => h1 h.1)])
    clear hw h1 hrow hrB hyB h hrs hys ho hr hx
    have z0 : 1 + y.size ≤ 9223372036854775807 := by omega
    have z1 : decide (1 + y.size ≤ 9223372036854775807) = true := decide_eq_true z0
    have z2 : (9223372036854775807 < 1 + y.size) = False := eq_false (Nat.not_lt.2 z0)
    replace z0 := eq_true z0
    have q0 : r.size + (1 + y.size) ≤ 9223372036854775807 := by omega
    have q1 : decide (r.size + (1 + y.size) ≤ 9223372036854775807) = true := decide_eq_true q0
    have q2 : (9223372036854775807 < r.size + (1 + y.size)) = False := eq_false (Nat.not_lt.2 q0)
    replace q0 := eq_true q0
    go_enter Tryz.func26, Tryz.ntmps26
    go_wp2_with ((with_reducible refine gate_store (t := 9) (p := 1) rfl ?_); refine store_one 9 1 (.tmp 21) rfl rfl rfl (.string (r ++ ((⟨#[32]⟩ : ByteArray) ++ y))) #[.string (r ++ ((⟨#[32]⟩ : ByteArray) ++ y))] rfl rfl HROW.out rfl nsz9 (show 0 + 1 ≤ 1 by omega) rfl rfl ?_; intro w2 hw2 hsb; have HW2 := Aside0.mk hw2; have HSB := Aside0.mk hsb; clear hw2 hsb)
    go_end0
    refine ⟨rfl, ?_, HSB.out.below (Below.refl _ _) H.out.b4⟩
    rw [hp.out]
    refine ⟨H.out.bd.same HSB.out HROW.out (by decide) (by decide), ?_, H.out.b4⟩
    rw [HW2.out, HRB.out, HYB.out, show (⟨#[32]⟩ : ByteArray) = baOf [32] from rfl, baOf_append, baOf_append, List.append_assoc]
end Go.Proofs.YtigloobbpcnnhaaGreatDoor.PB
end
section
namespace Go.Proofs.YtigloobbpcnnhaaGreatDoor.PB
open Go.RowKit Go.Proofs.YtigloobbpcnnhaaGreatDoorW.PrintWords Go.Proofs.YtigloobbpcnnhaaGreatDoorW.PrintLast Go.Proofs.YtigloobbpcnnhaaGreatDoorW.PrintMore
set_option linter.unusedVariables false
set_option linter.unusedSimpArgs false
theorem itoa_calls (n : Int) (w : World) (h0 : -9223372036854775808 ≤ n) (h1 : n ≤ 9223372036854775807) (hlt : LF w) :
    Calls Tryz.prog 28 #[.int .i64 n] w fun e w' => e = .returned (.string (baOf (Lib.itoa n))) ∧ Below w.heap.size w w' := by
  refine (Tryz.strconv_Itoa n h0 h1 w hlt.tab).mono ?_
  rintro e w' ⟨he, k, os, rfl⟩
  exact ⟨he, Lib.below_grow _ w (Nat.le_refl _) k os⟩
theorem bI_cells (l : List UInt8) : encs (Value.int .u8) (bI l) = Lib.byteCells l := by
  unfold encs bI Lib.byteCells
  rw [List.map_map]
  rfl
theorem bstring_calls (base g : Nat) (l : List UInt8) (w : World) (h : BD base g (bI l) w) :
    Calls Tryz.prog 29 #[.pointer (some ⟨g, 0, none⟩)] w fun e w' => e = .returned (.string (baOf l)) ∧ Below base w w' ∧ Lib.OthersKept 5 (some g) w w' := by
  obtain ⟨p, v, hg, hp, hR⟩ := h.ex
  have ho := Kd.own_of_R hR
  rw [bI_cells] at ho
  have hl : (Lib.byteCells l).length = (bI l).length := by rw [← bI_cells, encs_length]
  have hat : Lib.BuilderAtF 63 5 base g (.pointer p) (Lib.byteCells l) w := ⟨h.lt, v, hg, World.ownsRowF_of (by rw [hl]; exact ho), (Kd.R_ne hR hg (by decide)).symm⟩
  have hb : Lib.IsBuilderF 63 5 base g (Lib.byteCells l) w := by
    rcases hp with rfl | rfl
    · exact .inl hat
    · exact .inr hat
  refine (Tryz.Builder_String_any_k base g l w hb (Nat.le_trans h.lt (Nat.le_of_lt (blk_lt hg)))).mono ?_
  rintro e w' ⟨rfl, _, h1, h2⟩
  exact ⟨rfl, h1, h2⟩
theorem dVW_snoc (b : Bool) : ∀ (l : List Bool) (n : Nat), dVW n (l ++ [b]) = dVW n l ++ [dVWord (n + l.length) b]
  | [], n => rfl
  | a :: l, n => by
    rw [List.cons_append, dVW, dVW, dVW_snoc b l (n + 1), List.length_cons, show n + 1 + l.length = n + (l.length + 1) by omega]
    rfl
/-- Behind k values. -/
def dVSt (m : List Bool) (k : Nat) : List UInt8 × List UInt8 := (dVW 1 (m.take k)).foldl dPut ([], [118])
theorem dVSt_succ (m : List Bool) (k : Nat) (h : k < m.length) : dVSt m (k + 1) = dPut (dVSt m k) (dVWord (k + 1) m[k]) := by
  unfold dVSt
  rw [List.take_succ_eq_append_getElem h, dVW_snoc, List.foldl_append, List.length_take, Nat.min_eq_left (by omega), show 1 + k = k + 1 by omega]
  rfl
theorem dVState_eq (m : List Bool) : dVState m = dPut (dVSt m m.length) [48] := by
  unfold dVState dVSt
  rw [List.take_length, List.foldl_append]
  rfl
theorem dPut_size (s : List UInt8 × List UInt8) (x : List UInt8) (h : s.2.length ≤ 78) (hx : x.length ≤ 22) : (dPut s x).2.length ≤ 78 ∧ (dPut s x).1.length ≤ s.1.length + 79 := by
  unfold dPut
  split
  · simp only [List.length_append, List.length_cons, List.length_nil]
    omega
  · rename_i hn
    by_cases e : s.2 = [118]
    · simp only [e, List.length_append, List.length_cons, List.length_nil]
      omega
    · have : ¬ (78 < s.2.length + 1 + x.length) := fun h => hn ⟨h, e⟩
      simp only [List.length_append, List.length_cons, List.length_nil]
      omega
theorem dVWord_len (n : Nat) (b : Bool) (h : n ≤ 4611686018427387904) : (dVWord n b).length ≤ 22 := by
  have := itoa_len (n : Int) (by omega) (by omega)
  unfold dVWord
  split
  · omega
  · rw [List.length_cons]; omega
theorem dVSt_size (m : List Bool) (hm : m.length ≤ 1100000) : ∀ k, k ≤ m.length → (dVSt m k).2.length ≤ 78 ∧ (dVSt m k).1.length ≤ 79 * k
  | 0, _ => by
    have : dVSt m 0 = ([], [118]) := by unfold dVSt; rw [List.take_zero]; rfl
    rw [this]
    exact ⟨by decide, by decide⟩
  | k + 1, h => by
    obtain ⟨h1, h2⟩ := dVSt_size m hm k (by omega)
    rw [dVSt_succ m k (by omega)]
    have := dPut_size (dVSt m k) (dVWord (k + 1) m[k]) h1 (dVWord_len _ _ (by omega))
    omega
def values.T13 : Bool × List (List Nat × List Nat) := (true, [([], []), ([], []), ([0, 1], [0, 1]), ([2], [2]), ([3, 0, 0, 1, 2, 3], [3])])
def values.B13 : List Nat := [0, 0, 3, 7, 15]
theorem values.tab13 : rtab .any (opsOf Tryz.f12 13) = values.T13 := by kernel_rfl
theorem values.bits13 : waitsOk values.T13.2 values.B13 = true := by kernel_rfl
set_option maxHeartbeats 2000000 in
set_option maxRecDepth 100000 in
theorem values_calls (A : Option Addr) (c : Nat) (m : List Bool) (w : World) (hC : Kd.bool.C w A m.length m) (hc : m.length ≤ c) (hm : m.length ≤ 1100000) (hlt : LT w.heap.size w) :
    Calls Tryz.prog 12 #[.slice A m.length c] w fun e w' => e = .returned (.string (baOf (dValues m))) ∧ Below w.heap.size w w' := by
  have HLT := Aside0.mk hlt
  have HC := Aside0.mk hC
  have HM := Aside0.mk hm
  have hml : (m.length : Int) ≤ 1100000 := by omega
  clear hlt hC
  go_enter Tryz.func12, Tryz.ntmps12
  go_wp2_with (first | ((with_reducible refine gate_dst (N := 3) rfl ?_); refine box_event ?hg (N := 3) ?hd (cs := #[.pointer none, .slice none 0 0]) (t := 63) ?hr ?_; (case hd => rfl); (case hg => rfl); (case hr => first | (go_simp; done) | (go_simp; rfl)); intro g3 hgb w1 hbox hb; have HG3 := Aside0.mk hbox; have HB1 := Aside0.mk hb; have HL3 := Aside0.mk (show w.heap.size ≤ g3 by rw [hgb]; exact Nat.le_refl _); clear hbox hb hgb) | ((with_reducible refine gate_dst (N := 4) rfl ?_); refine box_event ?hg (N := 4) ?hd (cs := #[.string ⟨#[]⟩]) (t := 9) ?hr ?_; (case hd => rfl); (case hg => rfl); (case hr => first | (go_simp; done) | (go_simp; rfl)); intro g4 hgb w2 hbox hb; have HG4 := Aside0.mk hbox; have HB2 := Aside0.mk (below_step HB1.out hb); have HL4 := Aside0.mk (show w.heap.size ≤ g4 by rw [hgb]; exact HB1.out.size); have HG3' := Aside0.mk (blk_below HG3.out hb); clear hbox hb hgb) | ((with_reducible refine gate_store (t := 9) (p := 4) rfl ?_); refine store_one 9 4 (.const (.string ⟨#[118]⟩)) rfl rfl rfl (.string ⟨#[118]⟩) #[.string ⟨#[118]⟩] rfl rfl HG4.out rfl nsz9 (show 0 + 1 ≤ 1 by omega) rfl rfl ?_; intro w3 hw2 hsb; have HW3 := Aside0.mk hw2; have HB3 := Aside0.mk (hsb.below HB2.out HL4.out); have HG33 := Aside0.mk (hsb.other HG3'.out (blk_ne HG3'.out HG4.out (by decide))); clear hw2 hsb))
  have HVS := Aside0.mk (show VS w.heap.size g3 g4 (dVSt m 0) w3 from by
    have : dVSt m 0 = ([], [118]) := by unfold dVSt; rw [List.take_zero]; rfl
    rw [this]
    exact ⟨⟨⟨none, .slice none 0 0, HG33.out, .inl rfl, Kd.R_nil _ _ _ _ _⟩, HL3.out⟩, HW3.out, HL4.out⟩)
  clear HG3 HG4 HG3' HG33 HW3 HB1 HB2
  go_loopg [12] m.length (fun gf v12 wr => ∃ k : Nat, v12 = .int .i64 (k : Int) ∧ k + gf = m.length ∧ Aside0 (VS w.heap.size g3 g4 (dVSt m k) wr) ∧ Aside0 (Below w.heap.size w wr))
  case atStart => exact ⟨0, rfl, by omega, HVS, HB3⟩
  case round =>
    clear HVS HB3
    obtain ⟨k, rfl, hk, HVS, HB3⟩ := hrel
    by_cases hlt : k < m.length
    · have t5 : decide ((k : Int) < (m.length : Int)) = true := decide_eq_true (by omega)
      have t6 : decide (k < m.length) = true := decide_eq_true hlt
      have hk0 : (0 : Int) ≤ (k : Int) := Int.natCast_nonneg _
      have hkl : (k : Int) < (m.length : Int) := by omega
      have hk1 : (k : Int) + 1 ≤ 1100000 := by omega
      obtain ⟨ad, e1, hx⟩ := Kd.at_bool (Kd.C_below HC.out HB3.out) (k : Int) hk0 hkl
      cases e1
      obtain ⟨bb, hbb⟩ : ∃ bb, bb = m[k] := ⟨_, rfl⟩
      rw [Int.toNat_natCast, show rdOf false m (k : Int) = bb by unfold rdOf; rw [Int.toNat_natCast, List.getD_eq_getElem?_getD, List.getElem?_eq_getElem hlt, hbb]; rfl] at hx
      have HX := Aside0.mk hx
      have HS := Aside0.mk (dVSt_size m HM.out k (by omega))
      have hsu := dVSt_succ m k hlt
      rw [← hbb] at hsu
      have HSU := Aside0.mk hsu
      obtain ⟨sB, hsB⟩ : ∃ sB, sB = baOf (Lib.itoa ((k : Int) + 1)) := ⟨_, rfl⟩
      have HSB := Aside0.mk hsB
      have hsz : sB.size ≤ 21 := by rw [hsB]; exact itoa_len ((k : Int) + 1) (by omega) (by omega)
      have HWL := Aside0.mk (show (dVWord (k + 1) bb).length ≤ 1000 from Nat.le_trans (dVWord_len _ _ (by omega)) (by omega))
      have HVSU := Aside0.mk (show ∀ W, VS w.heap.size g3 g4 (dVSt m k) W → Calls Tryz.prog 26 #[.string (baOf (dVWord (k + 1) bb)), .pointer (some ⟨g4, 0, none⟩), .pointer (some ⟨g3, 0, none⟩)] W fun e w' => e = .returned (.tuple #[]) ∧ VS w.heap.size g3 g4 (dPut (dVSt m k) (dVWord (k + 1) bb)) w' ∧ Below w.heap.size W w' from fun W hv => put_calls w.heap.size g3 g4 (dVSt m k) (dVWord (k + 1) bb) W hv (by have := HS.out.1; omega) HWL.out (by have := HS.out.2; omega))
      clear hsu hbb
      cases bb with
      | true =>
        have HWD := Aside0.mk (show baOf (dVWord (k + 1) true) = sB by rw [hsB]; rfl)
        clear hsB
        go_wp2_with (first | (go_at_call 28; refine (itoa_calls ((k : Int) + 1) wr (by omega) (by omega) (HLT.out.on HB3.out).here).mono ?_; rw [← HSB.out]; rintro e w4 ⟨rfl, hb⟩; have HB4 := Aside0.mk (below_step HB3.out hb); have HV4 := Aside0.mk (HVS.out.below hb); clear hb hx) | (go_at_call 26; have hp := HVSU.out w4 HV4.out; rw [HWD.out] at hp; refine hp.mono ?_; clear hp; rintro e w5 ⟨rfl, hv, hb⟩; have HV5 := Aside0.mk hv; have HB5 := Aside0.mk (HB4.out.trans hb); clear hv hb))
        go_roundg (gk - 1)
        case measure => omega
        case rel => exact ⟨k + 1, by go_num, by omega, ⟨by rw [HSU.out]; exact HV5.out⟩, HB5⟩
      | false =>
        have HWD := Aside0.mk (show baOf (dVWord (k + 1) false) = (⟨#[45]⟩ : ByteArray) ++ sB by rw [hsB, show (⟨#[45]⟩ : ByteArray) = baOf [45] from rfl, baOf_append]; rfl)
        clear hsB
        have z0 : 1 + sB.size ≤ 9223372036854775807 := by omega
        have z1 : decide (1 + sB.size ≤ 9223372036854775807) = true := decide_eq_true z0
        have z2 : (9223372036854775807 < 1 + sB.size) = False := eq_false (Nat.not_lt.2 z0)
        replace z0 := eq_true z0
        go_wp2_with (first | (go_at_call 28; refine (itoa_calls ((k : Int) + 1) wr (by omega) (by omega) (HLT.out.on HB3.out).here).mono ?_; rw [← HSB.out]; rintro e w4 ⟨rfl, hb⟩; have HB4 := Aside0.mk (below_step HB3.out hb); have HV4 := Aside0.mk (HVS.out.below hb); clear hb hx) | (go_at_call 26; have hp := HVSU.out w4 HV4.out; rw [HWD.out] at hp; refine hp.mono ?_; clear hp; rintro e w5 ⟨rfl, hv, hb⟩; have HV5 := Aside0.mk hv; have HB5 := Aside0.mk (HB4.out.trans hb); clear hv hb))
        go_roundg (gk - 1)
        case measure => omega
        case rel => exact ⟨k + 1, by go_num, by omega, ⟨by rw [HSU.out]; exact HV5.out⟩, HB5⟩
    · have t5 : decide ((k : Int) < (m.length : Int)) = false := decide_eq_false (by omega)
      have t6 : decide (k < m.length) = false := decide_eq_false hlt
      obtain rfl : k = m.length := by omega
      have HS := Aside0.mk (dVSt_size m HM.out m.length (Nat.le_refl _))
      have HVSU := Aside0.mk (show Calls Tryz.prog 26 #[.string ⟨#[48]⟩, .pointer (some ⟨g4, 0, none⟩), .pointer (some ⟨g3, 0, none⟩)] wr fun e w' => e = .returned (.tuple #[]) ∧ VS w.heap.size g3 g4 (dVState m) w' ∧ Below w.heap.size wr w' from by
        rw [dVState_eq]
        exact put_calls w.heap.size g3 g4 (dVSt m m.length) [48] wr HVS.out (by have := HS.out.1; omega) (by decide) (by have := HS.out.2; omega))
      have HS2 := Aside0.mk (show (dVState m).2.length ≤ 78 ∧ (dVState m).1.length ≤ 79 * m.length + 79 from by
        have := dPut_size (dVSt m m.length) [48] HS.out.1 (by decide)
        rw [dVState_eq]
        have := HS.out.2
        omega)
      obtain ⟨rB, hrB⟩ : ∃ rB, rB = baOf (dVState m).2 := ⟨_, rfl⟩
      obtain ⟨oB, hoB⟩ : ∃ oB, oB = baOf (dVState m).1 := ⟨_, rfl⟩
      have HRB := Aside0.mk hrB
      have HOB := Aside0.mk hoB
      have hrz : rB.size ≤ 78 := by rw [hrB]; exact HS2.out.1
      have hoz : oB.size ≤ 100000000 := by rw [hoB]; have := HS2.out.2; show (dVState m).1.length ≤ _; omega
      clear hrB hoB
      have z0 : oB.size + rB.size ≤ 9223372036854775807 := by omega
      have z1 : decide (oB.size + rB.size ≤ 9223372036854775807) = true := decide_eq_true z0
      have z2 : (9223372036854775807 < oB.size + rB.size) = False := eq_false (Nat.not_lt.2 z0)
      replace z0 := eq_true z0
      have q0 : (oB ++ rB).size + 1 ≤ 9223372036854775807 := by rw [ByteArray.size_append]; omega
      have q1 : decide ((oB ++ rB).size + 1 ≤ 9223372036854775807) = true := decide_eq_true q0
      have q2 : (9223372036854775807 < (oB ++ rB).size + 1) = False := eq_false (Nat.not_lt.2 q0)
      replace q0 := eq_true q0
      have x_0 : oB.size + rB.size + 1 ≤ 9223372036854775807 := by omega
      have x_1 : decide (oB.size + rB.size + 1 ≤ 9223372036854775807) = true := decide_eq_true x_0
      have x_2 : (9223372036854775807 < oB.size + rB.size + 1) = False := eq_false (Nat.not_lt.2 x_0)
      replace x_0 := eq_true x_0
      go_upto_region 13 with (go_at_call 26; refine HVSU.out.mono ?_; rintro e wf ⟨rfl, hv, hb⟩; have HVF := Aside0.mk hv; have HBF := Aside0.mk (HB3.out.trans hb); clear hv hb)
      have HROW := Aside0.mk (show wf.heap[g4]? = some (.cells #[.string rB] 9 (0, 0)) by rw [HRB.out]; exact HVF.out.row)
      refine start_ (n := 5) (S := fun w' => w'.heap[g4]? = some (.cells #[.string rB] 9 (0, 0))) (ds := []) #[false, false, false, false, false] (by kernel_rfl) rfl rfl (blk_drew HROW.out) (fun hHeld => ?_); refine with_tabW values.tab13 values.bits13 (fun HT_ HW_ => ?_)
      have HB6 := Aside0.mk (below_drew1 HBF.out)
      have HV6 := Aside0.mk (show VS w.heap.size g3 g4 (dVState m) wf.drew from HVF.out.below (below_drew1 (Below.refl _ _)))
      have HROW6 := Aside0.mk (blk_drew HROW.out)
      generalize wf.drew = w6 at HB6 HV6 HROW6 hHeld ⊢
      refine take_ (i := 1) (N := some 31) (v := ?_) (a' := ?_) #[false, true, false, false, false] rfl rfl (take_ofW HT_.out HW_.out (by kernel_rfl)) (fun _ _ _ h => h) (Or.inl ⟨by rfl, ?_⟩) hHeld ?_ ?_
      rotate_left
      · rintro w' hS
        have hcz1 := (blk_cell hS 0).trans (show _ = some (Value.string rB) from rfl)
        go_simp
        with_reducible rfl
      rotate_left
      · simp only [Act.put, List.setIfInBounds_toArray, List.set_cons_zero, List.set_cons_succ, i64_w, i32_w]
        rfl
      refine one_ (i := 0) (N := some 30) #[true, true, false, false, false] rfl rfl (one_of HT_.out (by kernel_rfl)) (by decide) (fun K hK => ?_)
      refine goes_ Tryz.func29 (by kernel_rfl) rfl #[.pointer (some ⟨g3, 0, none⟩)] (by rfl) rfl rfl (by (try simp only [List.map_toArray, List.map_cons, List.map_nil]); first | done | rfl) ?_
      refine (bstring_calls w.heap.size g3 (dVState m).1 w6 HV6.out.bd).mono ?_
      rw [← HOB.out]
      rintro e7 w7 ⟨rfl, hb, hk⟩
      refine ⟨_, rfl, ?_⟩
      have HB7 := Aside0.mk (HB6.out.trans hb)
      have HROW7 := Aside0.mk (show w7.heap[g4]? = some (.cells #[.string rB] 9 (0, 0)) from hk g4 _ HROW6.out (by intro e; injection e with e; obtain ⟨p, v, hg, _⟩ := HV6.out.bd.ex; exact absurd e (blk_ne HROW6.out hg (by decide))) (by intro c fz e; injection e with _ e _; exact absurd e (by decide)))
      clear hb hk
      refine hK.out _ _ HROW7.out (fun hHeld => ?_)
      clear hK K
      refine norm_ (a' := ?_) ?_ ?_
      rotate_left
      · show Act.put _ (some 30) _ = _
        simp only [Act.put, List.setIfInBounds_toArray, List.set_cons_zero, List.set_cons_succ, i64_w, i32_w]
        rfl
      refine pure_ (i := 2) (N := some 32) (v := ?_) (a' := ?_) #[true, true, true, false, false] rfl rfl (any_of HT_.out (by kernel_rfl)) (fun _ _ _ h => h) (Or.inl ⟨by rfl, ?_⟩) ?_ ?_
      rotate_left
      · intro w'
        go_simp
        with_reducible rfl
      rotate_left
      · simp only [Act.put, List.setIfInBounds_toArray, List.set_cons_zero, List.set_cons_succ, i64_w, i32_w]
        rfl
      refine pure_ (i := 3) (N := some 33) (v := ?_) (a' := ?_) #[true, true, true, true, false] rfl rfl (any_of HT_.out (by kernel_rfl)) (fun _ _ _ h => h) (Or.inl ⟨by rfl, ?_⟩) ?_ ?_
      rotate_left
      · intro w'
        go_simp
        with_reducible rfl
      rotate_left
      · simp only [Act.put, List.setIfInBounds_toArray, List.set_cons_zero, List.set_cons_succ, i64_w, i32_w]
        rfl
      refine pure_ (i := 4) (N := some 2) (v := ?_) (a' := ?_) #[true, true, true, true, true] rfl rfl (any_of HT_.out (by kernel_rfl)) (fun _ _ _ h => h) (Or.inl ⟨by rfl, ?_⟩) ?_ ?_
      rotate_left
      · intro w'
        go_simp
        with_reducible rfl
      rotate_left
      · simp only [Act.put, List.setIfInBounds_toArray, List.set_cons_zero, List.set_cons_succ, i64_w, i32_w]
        rfl
      refine done_ (done_of HT_.out (by kernel_rfl)) ?_
      go_wp2
      go_ret
      exact ⟨by rw [HOB.out, HRB.out, show (⟨#[10]⟩ : ByteArray) = baOf [10] from rfl, baOf_append, baOf_append]; rfl, HB7.out⟩
end Go.Proofs.YtigloobbpcnnhaaGreatDoor.PB
end
end
section
section
namespace Go.Proofs.YtigloobbpcnnhaaGreatDoor.PB
open Go.RowKit Go.Proofs.YtigloobbpcnnhaaGreatDoorW.PrintWords Go.Proofs.YtigloobbpcnnhaaGreatDoorW.PrintLast Go.Proofs.YtigloobbpcnnhaaGreatDoorW.PrintMore
set_option linter.unusedVariables false
set_option linter.unusedSimpArgs false
theorem byteCells_append (a b : List UInt8) : Lib.byteCells (a ++ b) = Lib.byteCells a ++ Lib.byteCells b := by unfold Lib.byteCells; rw [List.map_append]
theorem byteCells_one (l : List UInt8) : ∀ u ∈ Lib.byteCells l, u.oneCell' = true := by
  intro u hu
  obtain ⟨b, _, rfl⟩ := List.mem_map.1 hu
  rfl
theorem strCells_baOf (l : List UInt8) : Lib.strCells (baOf l) = Lib.byteCells l := by
  unfold Lib.strCells Lib.byteCells baOf
  simp
/-- The mark is none, or behind the cells. -/
def Clear (n : Nat) (fz : Nat × Nat) : Prop := fz.2 = 0 ∨ n ≤ fz.1
theorem store_clear (P : Program) (g o : Nat) (t : TypeId) (fz : Nat × Nat) : ∀ (vs : List Value) (i : Nat) (cur : Array Value) (w : World), w.heap[g]? = some (.cells cur t fz) → Clear cur.size fz → o + i + vs.length ≤ cur.size → (∀ v ∈ vs, v.oneCell' = true) →
    (storeCells ⟨g, o, none⟩ vs i).run P w = .ok () (w.setRow g (cur.toList.take (o + i) ++ vs ++ cur.toList.drop (o + i + vs.length)).toArray)
  | [], i, cur, w, hg, _, _, _ => by
    simp only [storeCells, List.append_nil, List.length_nil, Nat.add_zero, List.take_append_drop, Array.toArray_toList]
    rw [setRow_self w g cur t fz hg]
    rfl
  | v :: rest, i, cur, w, hg, hfz, hl, h1 => by
    have hlt : o + i < cur.size := by simp only [List.length_cons] at hl; omega
    have hat : (⟨g, o, none⟩ : Addr).add i = ⟨g, o + i, none⟩ := by unfold Addr.add; split <;> simp_all
    have hfree : w.frozen? ⟨g, o + i, none⟩ = false := by
      obtain ⟨lo, hi⟩ := fz
      unfold Clear at hfz
      simp only at hfz
      simp only [World.frozen?, hg, Bool.and_eq_false_iff, decide_eq_false_iff_not]
      rcases hfz with h | h
      · right; omega
      · left; omega
    have hst : (store ((⟨g, o, none⟩ : Addr).add i) v).run P w = .ok () (w.setRow g (cur.setIfInBounds (o + i) v)) := by
      rw [hat, run_store P w _ v _ (h1 v List.mem_cons_self), show w.cell? ⟨g, o + i, none⟩ = some cur[o + i] by simp [World.cell?, hg, hlt]]
      simp [hfree, setCell_eq_setRow w g (o + i) cur t fz v hg]
    have next := store_clear P g o t fz rest (i + 1) (cur.setIfInBounds (o + i) v) _ (setRow_heap w g cur _ t _ hg) (by rw [Array.size_setIfInBounds]; exact hfz) (by rw [Array.size_setIfInBounds]; simp only [List.length_cons] at hl; omega) (fun x hx => h1 x (List.mem_cons_of_mem _ hx))
    simp only [storeCells, Sem.run_bind, hst, Result.andThen_ok, next, setRow_setRow]
    congr 3
    have e := list_seg_step cur.toList (o + i) v rest (by simp only [List.length_cons] at hl; simp only [Array.length_toList]; omega)
    simpa [Array.toList_setIfInBounds, Nat.add_assoc] using e
/-- A value that owns the bytes l. -/
def EM (w : World) (base : Nat) (v : Value) (l : List UInt8) : Prop :=
  ∃ g cap cur fz, v = .slice (some ⟨g, 0, none⟩) l.length cap ∧ base ≤ g ∧ w.heap[g]? = some (.cells cur 5 fz) ∧ Clear cur.size fz ∧ l.length ≤ cap ∧ cap ≤ maxLen ∧ cur.size = cap ∧ cur.toList.take l.length = Lib.byteCells l
theorem EM.below {w w' : World} {base : Nat} {v : Value} {l : List UInt8} (h : EM w base v l) (hb : Below w.heap.size w w') : EM w' base v l := by
  obtain ⟨g, cap, cur, fz, rfl, h1, h2, h3⟩ := h
  exact ⟨g, cap, cur, fz, rfl, h1, blk_below h2 hb, h3⟩
theorem EM.same {w w' : World} {base : Nat} {v : Value} {l : List UInt8} {g t : Nat} {cs : Array Value} (h : EM w base v l) (hs : SameBut g w w') (hg : w.heap[g]? = some (.cells cs t (0, 0))) (ht : t ≠ 5) : EM w' base v l := by
  obtain ⟨g2, cap, cur, fz, rfl, h1, h2, h3⟩ := h
  refine ⟨g2, cap, cur, fz, rfl, h1, (hs.blk g2 (fun e => ?_)).trans h2, h3⟩
  subst e
  rw [hg] at h2
  injection h2 with h2
  injection h2 with _ h2 _
  exact ht h2
theorem EM.lt {w : World} {base : Nat} {v : Value} {l : List UInt8} (h : EM w base v l) : ∀ k, v.ownBlock = some k → base ≤ k ∧ k < w.heap.size := by
  obtain ⟨g, cap, cur, fz, rfl, h1, h2, _⟩ := h
  intro k hk
  simp only [Value.ownBlock, Option.some.injEq] at hk
  subst hk
  exact ⟨h1, blk_lt h2⟩
theorem EM.slice {w : World} {base : Nat} {v : Value} {l : List UInt8} (h : EM w base v l) : ∃ g c, v = .slice (some ⟨g, 0, none⟩) l.length c ∧ base ≤ g ∧ g < w.heap.size ∧ l.length ≤ c := by
  obtain ⟨g, cap, cur, fz, rfl, h1, h2, _, h4, _⟩ := h
  exact ⟨g, cap, rfl, h1, blk_lt h2, h4⟩
theorem EM.cells {w : World} {base g c : Nat} {l : List UInt8} (h : EM w base (.slice (some ⟨g, 0, none⟩) l.length c) l) : ∀ j u, (Lib.byteCells l)[j]? = some u → w.cell? ((⟨g, 0, none⟩ : Addr).add j) = some u := by
  obtain ⟨g', cap, cur, fz, e, h1, h2, _, h4, _, h5, h6⟩ := h
  injection e with e _ _
  injection e with e
  injection e with e
  subst e
  intro j u hu
  rw [add_plain, cell_of_row w g j cur 5 fz h2]
  rw [← h6, List.getElem?_take] at hu
  split at hu
  · simpa using hu
  · cases hu
theorem EM.C {w : World} {base g c : Nat} {l : List UInt8} (h : EM w base (.slice (some ⟨g, 0, none⟩) l.length c) l) : (Kd.int .u8).C w (some ⟨g, 0, none⟩) l.length (bI l) := by
  have hm : l.length ≤ 9223372036854775807 := by
    obtain ⟨_, cap, _, _, _, _, _, _, h4, h5, _⟩ := h
    simp only [maxLen] at h5
    omega
  refine Kd.C_of_reads (d := (0 : Int)) (h1 := fun _ => rfl) ⟨bI_length l, hm, fun hp => ⟨_, rfl, fun j hj => ?_⟩⟩
  refine h.cells j _ ?_
  unfold Lib.byteCells bI
  rw [List.getElem?_map, List.getElem?_eq_getElem hj, List.getD_eq_getElem?_getD, List.getElem?_map, List.getElem?_eq_getElem hj]
  rfl
theorem em_new (w : World) (base : Nat) (hb : base ≤ w.heap.size) (l r : List UInt8) (old : Nat) (h63 : l.length + r.length ≤ maxLen) :
    EM (w.drew.alloc (.cells ((Lib.byteCells l).toArray ++ (Lib.byteCells r).toArray ++ Builtin.zeroCells (Value.int .u8 0).cells (grownCap w (l.length + r.length) old 5 - (l.length + r.length))) 5)) base (.slice (some ⟨w.heap.size, 0, none⟩) (l.length + r.length) (grownCap w (l.length + r.length) old 5)) (l ++ r) := by
  have hge := grownCap_ge w (l.length + r.length) old 5
  have hcm := grownCap_le_maxLen w (l.length + r.length) old 5 h63
  have hz1 : (Value.int IntKind.u8 0).cells.size = 1 := rfl
  refine ⟨w.heap.size, _, _, (0, 0), by rw [List.length_append], hb, heap_alloc_new w.drew _, .inl rfl, by rw [List.length_append]; exact hge, hcm, ?_, ?_⟩
  · simp only [Array.size_append, List.size_toArray, size_zeroCells, hz1, Lib.byteCells_length]
    omega
  · simp only [Array.toList_append, List.append_assoc]
    rw [← List.append_assoc, byteCells_append, ← Lib.byteCells_length (l ++ r), byteCells_append]
    exact List.take_left
theorem em_run_cells {P : Program} {w : World} {base : Nat} {v : Value} {l : List UInt8} (h : EM w base v l) (t ty : TypeId) (i : TypeInfo) (ht : P.underlying t = some (.slice 5)) (hi : P.info? 5 = some i) (hz : i.zero = some (.int .u8 0)) (hs : i.size = 1) (hby : i.bytes = 1)
    (a : Addr) (c : Nat) (r : List UInt8) (hr : ∀ j u, (Lib.byteCells r)[j]? = some u → w.cell? (a.add j) = some u) (hl : l.length + r.length ≤ 140737488355328) (hb : base ≤ w.heap.size) :
    ∃ v' w', (Builtin.append_ #[t, t] ty #[v, .slice (some a) r.length c]).run P w = .ok v' w' ∧ EM w' base v' (l ++ r) ∧ w.grownBy w' v.ownBlock := by
  have h' := h
  obtain ⟨g, cap, cur, fz, rfl, h1, h2, h3, h4, h5, h6, h7⟩ := h'
  have hm : l.length + r.length ≤ maxLen := by simp only [maxLen]; omega
  have hn : (Lib.byteCells r).length = r.length * i.size := by rw [hs, Nat.mul_one, Lib.byteCells_length]
  by_cases hroom : l.length + r.length ≤ cap
  · have hf := run_firstCells_some (P := P) w i.size r.length a r.length c (Lib.byteCells r) hn hr
    have hst := store_clear P g (l.length * i.size) 5 fz (Lib.byteCells r) 0 cur w h2 h3 (by rw [hs, Lib.byteCells_length]; omega) (byteCells_one r)
    simp only [Nat.add_zero] at hst
    have hrun : (Builtin.append_ #[t, t] ty #[.slice (some ⟨g, 0, none⟩) l.length cap, .slice (some a) r.length c]).run P w = .ok (.slice (some ⟨g, 0, none⟩) (l.length + r.length) cap) (w.setRow g (cur.toList.take (l.length * i.size) ++ Lib.byteCells r ++ cur.toList.drop (l.length * i.size + (Lib.byteCells r).length)).toArray) := by
      simp [Builtin.append_, run_underlying ht, sizeOf, typeInfo, hi, Builtin.lenOf, hroom, hf, Addr.add_lit, hst]
    refine ⟨_, _, hrun, ⟨g, cap, _, fz, by rw [List.length_append], h1, setRow_heap w g cur _ 5 _ h2, ?_, by rw [List.length_append]; exact hroom, h5, ?_, ?_⟩, ⟨rfl, rfl, rfl, by simp, fun k _ hk => setRow_other w g k _ (fun e => hk (by simp [Value.ownBlock, e]))⟩⟩
    · refine h3.imp id (fun h => ?_)
      simp only [List.size_toArray, List.length_append, List.length_take, List.length_drop, Array.length_toList, hs, Nat.mul_one, Lib.byteCells_length]
      omega
    · simp only [List.size_toArray, List.length_append, List.length_take, List.length_drop, Array.length_toList, hs, Nat.mul_one, Lib.byteCells_length]
      omega
    · rw [hs, Nat.mul_one, h7, byteCells_append, ← Lib.byteCells_length (l ++ r), byteCells_append]
      exact List.take_left
  · have hrun := run_append_grow (P := P) w t ty 5 i (.int .u8 0) ht hi hz ⟨g, 0, none⟩ l.length cap (Lib.byteCells l) (by rw [hs, Nat.mul_one, Lib.byteCells_length]) h.cells a r.length c (Lib.byteCells r) hn hr (by omega) (by simp only [maxLen] at hm; omega) (by rw [hby]; exact growslice_fits (by omega) (by omega))
    exact ⟨_, _, hrun, em_new w base hb l r cap hm, ⟨rfl, rfl, rfl, by simp, fun k hk _ => Below.heap_alloc w.drew _ k hk⟩⟩
theorem em_run_string {P : Program} {w : World} {base : Nat} {v : Value} {l : List UInt8} (h : EM w base v l) (t u ty : TypeId) (i : TypeInfo) (ht : P.underlying t = some (.slice 5)) (hu : P.underlying u = some .string) (hi : P.info? 5 = some i) (hz : i.zero = some (.int .u8 0)) (hs : i.size = 1) (hby : i.bytes = 1)
    (r : List UInt8) (hl : l.length + r.length ≤ 140737488355328) (hb : base ≤ w.heap.size) :
    ∃ v' w', (Builtin.append_ #[t, u] ty #[v, .string (baOf r)]).run P w = .ok v' w' ∧ EM w' base v' (l ++ r) ∧ w.grownBy w' v.ownBlock := by
  have h' := h
  obtain ⟨g, cap, cur, fz, rfl, h1, h2, h3, h4, h5, h6, h7⟩ := h'
  have hm : l.length + r.length ≤ maxLen := by simp only [maxLen]; omega
  have hsz : (baOf r).size = r.length := rfl
  by_cases hroom : l.length + r.length ≤ cap
  · have hf := Lib.run_firstCells_string (P := P) w 1 (baOf r)
    rw [strCells_baOf, hsz] at hf
    have hst := store_clear P g l.length 5 fz (Lib.byteCells r) 0 cur w h2 h3 (by rw [Lib.byteCells_length]; omega) (byteCells_one r)
    simp only [Nat.add_zero] at hst
    have hrun : (Builtin.append_ #[t, u] ty #[.slice (some ⟨g, 0, none⟩) l.length cap, .string (baOf r)]).run P w = .ok (.slice (some ⟨g, 0, none⟩) (l.length + r.length) cap) (w.setRow g (cur.toList.take l.length ++ Lib.byteCells r ++ cur.toList.drop (l.length + (Lib.byteCells r).length)).toArray) := by
      simp [Builtin.append_, run_underlying ht, run_underlying hu, sizeOf, typeInfo, hi, hs, Builtin.lenOf, hsz, hroom, hf, Addr.add_lit, hst]
    refine ⟨_, _, hrun, ⟨g, cap, _, fz, by rw [List.length_append], h1, setRow_heap w g cur _ 5 _ h2, ?_, by rw [List.length_append]; exact hroom, h5, ?_, ?_⟩, ⟨rfl, rfl, rfl, by simp, fun k _ hk => setRow_other w g k _ (fun e => hk (by simp [Value.ownBlock, e]))⟩⟩
    · refine h3.imp id (fun h => ?_)
      simp only [List.size_toArray, List.length_append, List.length_take, List.length_drop, Array.length_toList, Lib.byteCells_length]
      omega
    · simp only [List.size_toArray, List.length_append, List.length_take, List.length_drop, Array.length_toList, Lib.byteCells_length]
      omega
    · rw [h7, byteCells_append, ← Lib.byteCells_length (l ++ r), byteCells_append]
      exact List.take_left
  · have hrun := Lib.run_append_grow_string (P := P) w t u ty 5 i (.int .u8 0) ht hu hi hz ⟨g, 0, none⟩ l.length cap (Lib.byteCells l) (by rw [hs, Nat.mul_one, Lib.byteCells_length]) h.cells (baOf r) (by rw [hsz]; omega) (by simp only [maxLen] at hm; rw [hsz]; omega) (by rw [hby, hsz]; exact growslice_fits (by omega) (by omega))
    rw [strCells_baOf, hsz] at hrun
    exact ⟨_, _, hrun, em_new w base hb l r cap hm, ⟨rfl, rfl, rfl, by simp, fun k hk _ => Below.heap_alloc w.drew _ k hk⟩⟩
section
variable {P : Program} {ops : Array Oper} {rest : List Oper} {o : Oper} {a : Act} {Q : Exit → Act → World → Prop}
theorem em_cells {w : World} (hgd : o.guard = none) (s x : Operand) (t : TypeId) (ho : o.op = .call { callee := .builtin .append, args := #[s, x], argTypes := #[t, t] })
    (ht : P.underlying t = some (.slice 5)) (hinfo : (P.info? 5).map (fun i => (i.zero, i.size, i.bytes)) = some (some (.int .u8 0), 1, 1)) {base : Nat} {v : Value} {l : List UInt8} (hs : a.eval s = v) (h : EM w base v l)
    (ad : Addr) (c : Nat) (r : List UInt8) (hx : a.eval x = .slice (some ad) r.length c) (hr : ∀ j u, (Lib.byteCells r)[j]? = some u → w.cell? (ad.add j) = some u) (hl : l.length + r.length ≤ 140737488355328) (hb : base ≤ w.heap.size)
    (hk : ∀ v' w', EM w' base v' (l ++ r) → Below base w w' → w.grownBy w' v.ownBlock → wpList P ops Q rest (a.put o.dst v') w') : wpList P ops Q (o :: rest) a w := by
  obtain ⟨i, hi, hzz⟩ := Option.map_eq_some_iff.1 hinfo
  simp only [Prod.mk.injEq] at hzz
  obtain ⟨hz0, hz1, hz2⟩ := hzz
  obtain ⟨v', w', hrun, h1, h2⟩ := em_run_cells (P := P) h t o.type i ht hi hz0 hz1 hz2 ad c r hr hl hb
  refine wpList_plain hgd fun K hK => ?_
  unfold Oper.wp execOp
  simp only [ho, resolve, invoke, builtin, Sem.run_bind, Sem.run_pure, Result.andThen_ok, List.map_toArray, List.map_cons, List.map_nil, hs, hx, hrun]
  exact hK _ _ (hk v' w' h1 ((Below.refl base w).grown h2 hb (fun k hk => (h.lt k hk).1)) h2)
theorem em_string {w : World} (hgd : o.guard = none) (s x : Operand) (t u : TypeId) (ho : o.op = .call { callee := .builtin .append, args := #[s, x], argTypes := #[t, u] })
    (ht : P.underlying t = some (.slice 5)) (hu : P.underlying u = some .string) (hinfo : (P.info? 5).map (fun i => (i.zero, i.size, i.bytes)) = some (some (.int .u8 0), 1, 1)) {base : Nat} {v : Value} {l : List UInt8} (hs : a.eval s = v) (h : EM w base v l)
    (r : List UInt8) (hx : a.eval x = .string (baOf r)) (hl : l.length + r.length ≤ 140737488355328) (hb : base ≤ w.heap.size)
    (hk : ∀ v' w', EM w' base v' (l ++ r) → Below base w w' → w.grownBy w' v.ownBlock → wpList P ops Q rest (a.put o.dst v') w') : wpList P ops Q (o :: rest) a w := by
  obtain ⟨i, hi, hzz⟩ := Option.map_eq_some_iff.1 hinfo
  simp only [Prod.mk.injEq] at hzz
  obtain ⟨hz0, hz1, hz2⟩ := hzz
  obtain ⟨v', w', hrun, h1, h2⟩ := em_run_string (P := P) h t u o.type i ht hu hi hz0 hz1 hz2 r hl hb
  refine wpList_plain hgd fun K hK => ?_
  unfold Oper.wp execOp
  simp only [ho, resolve, invoke, builtin, Sem.run_bind, Sem.run_pure, Result.andThen_ok, List.map_toArray, List.map_cons, List.map_nil, hs, hx, hrun]
  exact hK _ _ (hk v' w' h1 ((Below.refl base w).grown h2 hb (fun k hk => (h.lt k hk).1)) h2)
end
/-- []byte(s): such a row. -/
theorem em_bytes (w : World) (l : List UInt8) (hl : l.length ≤ 9223372036854775807) : EM (Lib.bytesWorld w 5 (baOf l)) w.heap.size (.slice (some ⟨w.heap.size, 0, none⟩) l.length (grownCap w l.length 0 5)) l := by
  have hm : l.length ≤ maxLen := by simp only [maxLen]; omega
  have hge := grownCap_ge w l.length 0 5
  have hcm := grownCap_le_maxLen w l.length 0 5 hm
  have hsz : (baOf l).size = l.length := rfl
  have hcs : (Lib.bytesCells w 5 (baOf l)).size = grownCap w l.length 0 5 := by
    unfold Lib.bytesCells
    rw [hsz]
    simp only [Array.size_append, Array.size_map, Array.size_replicate]
    show (baOf l).size + _ = _
    rw [hsz]
    omega
  refine ⟨w.heap.size, _, _, _, rfl, Nat.le_refl _, Lib.bytesWorld_at_new w 5 (baOf l), .inr (Nat.le_refl _), hge, hcm, hcs, ?_⟩
  unfold Lib.bytesCells Lib.byteCells
  rw [Array.toList_append, Array.toList_map, List.take_left' (by rw [List.length_map]; rfl)]
  rfl
end Go.Proofs.YtigloobbpcnnhaaGreatDoor.PB
end
section
namespace Go.Proofs.YtigloobbpcnnhaaGreatDoor.PB
open Go.RowKit Go.Sort Go.Lib Go.Proofs.YtigloobbpcnnhaaGreatDoorW.PrintWords Go.Proofs.YtigloobbpcnnhaaGreatDoorW.PrintLast Go.Proofs.YtigloobbpcnnhaaGreatDoorW.PrintMore
set_option linter.unusedVariables false
set_option linter.unusedSimpArgs false
theorem small_calls (u : Nat) (hu : u < 100) (w : World) : Calls Tryz.prog 85 #[.int .i64 (u : Int)] w fun e w' => e = .returned (.string (baOf (Lib.decDigits u))) ∧ w' = w :=
  Any.internal_strconv_small (ρ := Tryz.laysM176_ren) { Tryz.laysM176 with } u hu w
theorem ndig_calls (u : Nat) (h1 : 1 ≤ u) (h2 : u < 18446744073709551616) (w : World) (hlt : LF w) : Calls Tryz.prog 86 #[.int .u64 (u : Int)] w fun e w' => e = .returned (.int .i64 (Lib.nDigits u : Int)) ∧ w' = w :=
  Any.internal_strconv_numDigits (ρ := Tryz.laysM176_ren) { Tryz.laysM176 with } u h1 h2 w hlt.tab
/-- The digits laid: a new world, all that was there as it was, the digits at the array's beginning. -/
theorem fmt_calls (u : Nat) (h1 : 1 ≤ u) (hu64 : u < 18446744073709551616) (w : World) :
    Calls Tryz.prog 87 #[.slice (some ⟨w.heap.size, 0, none⟩) (Lib.nDigits u) 24, .int .u64 (u : Int)] (w.alloc (.cells Lib.zeros24 125)) fun e w' => e = .returned (.tuple #[]) ∧ Below w.heap.size w w' ∧ w.heap.size < w'.heap.size ∧ ∀ j x, (Lib.byteCells (Lib.decDigits u))[j]? = some x → w'.cell? ((⟨w.heap.size, 0, none⟩ : Addr).add j) = some x := by
  have hnd : Lib.nDigits u ≤ 20 := by have := Lib.numDigits_eq u h1 hu64; split at this <;> omega
  have hH := Lib.holds_zero0 w 125 (Lib.nDigits u) (by omega)
  have hf := Any.internal_strconv_formatBase10 (ρ := Tryz.laysM176_ren) { Tryz.laysM176 with } w.heap.size 0 24 u (Array.replicate (Lib.nDigits u) 0) (w.alloc (.cells Lib.zeros24 125)) hH (by rw [Array.size_replicate]; exact Lib.lt_pow_nDigits u) hu64 (by rw [Array.size_replicate]; omega)
  rw [Array.size_replicate] at hf
  refine Calls.mono hf ?_
  rintro e w' ⟨rfl, k, v', dk, rfl, hF⟩
  obtain ⟨os, eo⟩ := Lib.fin_at w (.cells Lib.zeros24 125) dk k 0
  refine ⟨rfl, by rw [eo]; exact Lib.below_grow w.heap.size w (Nat.le_refl _) k os, ?_, ?_⟩
  · have hnp := Lib.nDigits_pos u
    have hc := cell?_putRow (fun (b : UInt8) => Value.int .u8 (b.toNat : Int)) (w.alloc (.cells Lib.zeros24 125)) w.heap.size 0 _ dk hH (by rw [hF.size, Array.size_replicate]) 0 (by rw [hF.size]; omega)
    have := World.block_lt_of_cell? _ _ hc
    exact this
  · intro j x hj
    have hjl : j < (Lib.decDigits u).length := by
      have h5 := (List.getElem?_eq_some_iff.1 hj).1
      rwa [Lib.byteCells_length] at h5
    have e5 : (Lib.byteCells (Lib.decDigits u))[j]? = some (Value.int .u8 ((Lib.decDigits u)[j].toNat : Int)) := by simp [Lib.byteCells, hjl]
    rw [e5] at hj
    cases hj
    rw [Lib.row_is_numeral hF j hjl, Lib.add_plain, World.cell?_drewN]
    exact cell?_putRow (fun (b : UInt8) => Value.int .u8 (b.toNat : Int)) _ w.heap.size 0 _ dk hH (by rw [hF.size, Array.size_replicate]) j (by rw [hF.size]; rw [Lib.decDigits_length] at hjl; exact hjl)
set_option maxHeartbeats 1000000 in
set_option maxRecDepth 100000 in
theorem appendU_calls (base : Nat) (v : Value) (l : List UInt8) (u : Nat) (hu64 : u < 18446744073709551616) (w : World) (h : EM w base v l) (hb : base ≤ w.heap.size) (hl : l.length + 30 ≤ 140737488355328) (hlt : LT base w) :
    Calls Tryz.prog 84 #[v, .int .u64 (u : Int), .int .i64 10] w fun e w' => ∃ v', e = .returned v' ∧ EM w' base v' (l ++ Lib.decDigits u) ∧ Below base w w' := by
  have H := Aside0.mk h
  have HB := Aside0.mk hb
  have HLT := Aside0.mk hlt
  by_cases hu : u < 100
  · have hn : (Lib.decDigits u).length ≤ 20 := by
      rw [Lib.decDigits_length]
      by_cases h10 : u < 10
      · rw [Lib.nDigits_small h10]; omega
      · rw [Lib.nDigits_big h10, Lib.nDigits_small (show u / 10 < 10 by omega)]; omega
    have t1 : decide ((u : Int) < 100) = true := decide_eq_true (by omega)
    have hu0 : (0 : Int) ≤ (u : Int) := Int.natCast_nonneg _
    have hu1 : (u : Int) < 100 := by omega
    clear h hlt hb
    go_enter Tryz.func84, Tryz.ntmps84
    go_wp2_with (first | (go_at_call 85; refine (small_calls u hu w).mono ?_; rintro e w2 ⟨rfl, hw⟩; obtain rfl : w = w2 := hw.symm; clear hw) | ((with_reducible refine gate_builtin (b := .append) (xs := #[.tmp 13, .tmp 16]) rfl ?_); refine em_string rfl (.tmp 13) (.tmp 16) 46 9 rfl Tryz.underlying46 Tryz.underlying9 info5 rfl H.out (Lib.decDigits u) rfl (by omega) HB.out ?_; intro v2 w2 he hbw hg; have HE := Aside0.mk he; have HBW := Aside0.mk hbw; clear he hbw hg))
    go_ret
    exact ⟨v2, rfl, HE.out, HBW.out⟩
  · have hu1 : 1 ≤ u := by omega
    have t1 : decide ((u : Int) < 100) = false := decide_eq_false (by omega)
    have hu0 : (0 : Int) ≤ (u : Int) := Int.natCast_nonneg _
    have hu2 : (100 : Int) ≤ (u : Int) := by omega
    have hnd : Lib.nDigits u ≤ 20 := by have := Lib.numDigits_eq u hu1 hu64; split at this <;> omega
    have hlen : (Lib.decDigits u).length = Lib.nDigits u := Lib.decDigits_length u
    have hal : Tryz.prog.arrayLen 125 = 24 := by kernel_rfl
    have hsl : ∀ W, (Instr.sliceAt 125 (.pointer (some ⟨w.heap.size, 0, none⟩)) none (some (.int .i64 (Lib.nDigits u : Int))) none).run Tryz.prog W = .ok (.slice (some ⟨w.heap.size, 0, none⟩) (Lib.nDigits u) 24) W := fun W => by
      rw [run_sliceAt_array_h W 125 ⟨w.heap.size, 0, none⟩ (by kernel_rfl) .i64 (Lib.nDigits u : Int) (by omega) (by rw [hal]; omega)]
      rw [hal]
      go_simp
    have HU64 := Aside0.mk hu64
    have HLEN := Aside0.mk hlen
    clear h hlt hb hal hlen hu64
    go_enter Tryz.func84, Tryz.ntmps84
    go_wp2_with (first | (go_at_call 86; refine (ndig_calls u hu1 HU64.out _ ((HLT.out.on ((Below.refl base w).alloc HB.out _)).here)).mono ?_; rintro e w2 ⟨rfl, hw⟩; subst hw) | (go_at_call 87; refine (fmt_calls u hu1 HU64.out w).mono ?_; rintro e w3 ⟨rfl, hbw, hsz, hcs⟩; have HB3 := Aside0.mk hbw; have HS3 := Aside0.mk (Nat.le_trans HB.out hbw.size); have HC3 := Aside0.mk hcs; have HE3 := Aside0.mk (H.out.below hbw); clear hbw hsz hcs) | ((with_reducible refine gate_builtin (b := .append) (xs := #[.tmp 24, .tmp 26]) rfl ?_); refine em_cells rfl (.tmp 24) (.tmp 26) 46 rfl Tryz.underlying46 info5 rfl HE3.out ⟨w.heap.size, 0, none⟩ 24 (Lib.decDigits u) (by rw [HLEN.out]; rfl) HC3.out (by rw [HLEN.out]; omega) HS3.out ?_; intro v4 w4 he hbw hg; have HE4 := Aside0.mk he; have HB4 := Aside0.mk hbw; clear he hbw hg))
    go_ret
    exact ⟨v4, rfl, HE4.out, (HB3.out.mono HB.out).trans HB4.out⟩
set_option maxHeartbeats 1000000 in
set_option maxRecDepth 100000 in
theorem appendI0_calls (base : Nat) (v : Value) (l : List UInt8) (n : Int) (h0 : -9223372036854775808 < n) (h1 : n ≤ 9223372036854775807) (w : World) (h : EM w base v l) (hb : base ≤ w.heap.size) (hl : l.length + 31 ≤ 140737488355328) (hlt : LT base w) :
    Calls Tryz.prog 62 #[v, .int .i64 n, .int .i64 10] w fun e w' => ∃ v', e = .returned v' ∧ EM w' base v' (l ++ Lib.itoa n) ∧ Below base w w' := by
  have H := Aside0.mk h
  have HB := Aside0.mk hb
  have HLT := Aside0.mk hlt
  by_cases hneg : n < 0
  · obtain ⟨u, rfl⟩ : ∃ u : Nat, n = -(u : Int) := ⟨n.natAbs, by omega⟩
    have hu1 : 1 ≤ u := by omega
    have hu64 : u < 18446744073709551616 := by omega
    have hwr : IntKind.u64.wrap (-IntKind.u64.wrap (-(u : Int))) = (u : Int) := by rw [IntKind.wrap_u64, IntKind.wrap_u64]; omega
    have hi := Aside0.mk (Lib.itoa_neg u hu1)
    have t1 : decide (-(u : Int) < 0) = true := decide_eq_true (by omega)
    have HU := Aside0.mk hu64
    clear h hb hlt hu64
    go_enter Tryz.func62, Tryz.ntmps62
    go_wp2_with (first | ((with_reducible refine gate_builtin (b := .append) (xs := #[.tmp 12, .tmp 13]) rfl ?_); refine em_cells rfl (.tmp 12) (.tmp 13) 46 rfl Tryz.underlying46 info5 rfl (EM.below H.out (below_alloc (Below.refl _ w) (.cells #[.int .u8 45] 5))) ⟨w.heap.size, 0, none⟩ 1 [45] rfl ?hr ?hl2 ?hb2 ?_; (case hr => intro j x hj; match j, hj with | 0, hj => exact (blk_cell (blk_new w (.cells #[.int .u8 45] 5 (0, 0))) 0).trans hj); (case hl2 => show l.length + 1 ≤ _; omega); (case hb2 => exact Nat.le_trans HB.out (below_alloc (Below.refl _ w) (.cells #[.int .u8 45] 5)).size); intro v2 w2 he hbw hg; have HE := Aside0.mk he; have HBW := Aside0.mk (((Below.refl base w).alloc HB.out _).trans hbw); have HS2 := Aside0.mk (Nat.le_trans HB.out (((Below.refl base w).alloc HB.out (.cells #[.int .u8 45] 5)).trans hbw).size); clear he hbw hg) | (go_at_call 84; refine (appendU_calls base v2 (l ++ [45]) u HU.out w2 HE.out HS2.out (by rw [List.length_append]; show l.length + 1 + 30 ≤ _; omega) (HLT.out.on HBW.out)).mono ?_; rintro e w3 ⟨v3, rfl, he, hbw⟩; have HE3 := Aside0.mk he; have HB3 := Aside0.mk hbw; clear he hbw))
    go_ret
    refine ⟨v3, rfl, ?_, HBW.out.trans HB3.out⟩
    rw [hi.out]
    have := HE3.out
    rw [List.append_assoc] at this
    exact this
  · obtain ⟨u, rfl⟩ : ∃ u : Nat, n = (u : Int) := ⟨n.toNat, by omega⟩
    have hu64 : u < 18446744073709551616 := by omega
    have hi := Aside0.mk (Lib.itoa_nonneg u)
    have t1 : decide ((u : Int) < 0) = false := decide_eq_false (by omega)
    have hu0 : (0 : Int) ≤ (u : Int) := Int.natCast_nonneg _
    have HU := Aside0.mk hu64
    clear h hb hlt hu64
    go_enter Tryz.func62, Tryz.ntmps62
    go_wp2_with (go_at_call 84; refine (appendU_calls base v l u HU.out w H.out HB.out (by omega) HLT.out).mono ?_; rintro e w3 ⟨v3, rfl, he, hbw⟩; have HE3 := Aside0.mk he; have HB3 := Aside0.mk hbw; clear he hbw)
    go_ret
    exact ⟨v3, rfl, by rw [hi.out]; exact HE3.out, HB3.out⟩
theorem appendI_calls (base : Nat) (v : Value) (l : List UInt8) (n : Int) (h0 : -9223372036854775808 < n) (h1 : n ≤ 9223372036854775807) (w : World) (h : EM w base v l) (hb : base ≤ w.heap.size) (hl : l.length + 31 ≤ 140737488355328) (hlt : LT base w) :
    Calls Tryz.prog 43 #[v, .int .i64 n, .int .i64 10] w fun e w' => ∃ v', e = .returned v' ∧ EM w' base v' (l ++ Lib.itoa n) ∧ Below base w w' := by
  have H := Aside0.mk (appendI0_calls base v l n h0 h1 w h hb hl hlt)
  clear h hb hl hlt
  go_enter Tryz.func43, Tryz.ntmps43
  go_wp2_with (go_at_call 62; refine H.out.mono ?_; rintro e w3 ⟨v3, rfl, he, hbw⟩; have HE3 := Aside0.mk he; have HB3 := Aside0.mk hbw; clear he hbw)
  go_ret
  exact ⟨v3, rfl, HE3.out, HB3.out⟩
end Go.Proofs.YtigloobbpcnnhaaGreatDoor.PB
end
end
