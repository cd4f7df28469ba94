import Derived.Test.YtigloobbpcnnhaaGreatDoorKA4
import Derived.Laws.Tables
-- texts of this claim, packed, what nothing reaches struck (wip/tools/prune.py): MB MN
section
section
namespace Go.Proofs.YtigloobbpcnnhaaGreatDoor.PB
open Go.RowKit Go.Proofs.YtigloobbpcnnhaaGreatDoorW.PrintWords Go.Proofs.YtigloobbpcnnhaaGreatDoorW.PrintLast Go.Proofs.YtigloobbpcnnhaaGreatDoorW.PrintMore
attribute [local go_sem] max2_int min2_int max_two min_two max_three min_three max_four min_four   -- for this text's walks alone
set_option linter.unusedVariables false
set_option linter.unusedSimpArgs false
mutual
def threshingref02_line.j0 : Nat → List Int → Bool → Option (List ByteArray × Bool)
  | 0, _, _ => none
  | k + 1, x0, x14 => if x14 = true then (some (([] : List ByteArray), true)) else (threshingref02_line.l0 k x0 (⟨#[]⟩ : ByteArray) 0 ([] : List ByteArray) false)
def threshingref02_line.l0 : Nat → List Int → ByteArray → Int → List ByteArray → Bool → Option (List ByteArray × Bool)
  | 0, _, _, _, _, _ => none
  | k + 1, x0, x4, x5, x104000, x104001 => if x5 ≤ (x0.length : Int) then (if x5 < (x0.length : Int) then (if 0 ≤ x5 then (if (rd x0 x5) = 32 then (threshingref02_line.j2 k x0 x4 x5 false x104000 x104001) else (if (rd x0 x5) = 9 then (threshingref02_line.j2 k x0 x4 x5 false x104000 x104001) else (threshingref02_line.j2 k x0 x4 x5 ((rd x0 x5) != 13) x104000 x104001))) else (none)) else (threshingref02_line.j2 k x0 x4 x5 false x104000 x104001)) else (some (x104000, x104001))
def threshingref02_line.j2 : Nat → List Int → ByteArray → Int → Bool → List ByteArray → Bool → Option (List ByteArray × Bool)
  | 0, _, _, _, _, _, _ => none
  | k + 1, x0, x4, x5, x46, x104000, x104001 => if x46 = true then (if 0 ≤ x5 then (if x5 ≤ (wrap64 (x5 + 1)) then (if (wrap64 (x5 + 1)) ≤ (x0.length : Int) then (if x4.size + (strOfNums ((x0.take ((wrap64 (x5 + 1)) : Int).toNat).drop (x5 : Int).toNat)).size ≤ 9223372036854775807 then (threshingref02_line.l0 k x0 (x4 ++ (strOfNums ((x0.take ((wrap64 (x5 + 1)) : Int).toNat).drop (x5 : Int).toNat))) (wrap64 (x5 + 1)) x104000 x104001) else (none)) else (none)) else (none)) else (none)) else (if x4.toList = ([] : List UInt8) then (threshingref02_line.l0 k x0 (⟨#[]⟩ : ByteArray) (wrap64 (x5 + 1)) x104000 x104001) else (if x104000.length < 8796093022208 then (threshingref02_line.l0 k x0 (⟨#[]⟩ : ByteArray) (wrap64 (x5 + 1)) (x104000 ++ [x4]) x104001) else (none)))
end
def threshingref02_line.f (k : Nat) (l0 : List Int) : Option (List ByteArray × Bool) := if (l0.length : Int) > 0 then (if 0 < (l0.length : Int) then (threshingref02_line.j0 k l0 ((rd l0 0) == 99)) else (none)) else (threshingref02_line.j0 k l0 false)
theorem threshingref02_line.mono_l : ∀ k, (∀ y0 y1, LeO (threshingref02_line.j0 k y0 y1) (threshingref02_line.j0 (k + 1) y0 y1)) ∧ (∀ y0 y1 y2 y3 y4, LeO (threshingref02_line.l0 k y0 y1 y2 y3 y4) (threshingref02_line.l0 (k + 1) y0 y1 y2 y3 y4)) ∧ (∀ y0 y1 y2 y3 y4 y5, LeO (threshingref02_line.j2 k y0 y1 y2 y3 y4 y5) (threshingref02_line.j2 (k + 1) y0 y1 y2 y3 y4 y5))
  | 0 => ⟨fun _ _ r h => by simp [threshingref02_line.j0] at h, fun _ _ _ _ _ r h => by simp [threshingref02_line.l0] at h, fun _ _ _ _ _ _ r h => by simp [threshingref02_line.j2] at h⟩
  | k + 1 => by
    obtain ⟨ih0, ih1, ih2⟩ := threshingref02_line.mono_l k
    refine ⟨?_, ?_, ?_⟩
    · intro y0 y1
      unfold threshingref02_line.j0
      repeat' first
      | (with_reducible exact ih0 _ _)
      | (with_reducible exact ih1 _ _ _ _ _)
      | (with_reducible exact ih2 _ _ _ _ _ _)
      | (with_reducible exact LeO.refl _)
      | (with_reducible exact LeO.none _)
      | (with_reducible refine LeO.ite ?_ ?_)
      | (with_reducible refine LeO.bind ?_ (fun _ => ?_))
      | exact ih0 _ _
      | exact ih1 _ _ _ _ _
      | exact ih2 _ _ _ _ _ _
      | exact LeO.none _
      | refine LeO.ite ?_ ?_
      | refine LeO.bind ?_ (fun _ => ?_)
    · intro y0 y1 y2 y3 y4
      unfold threshingref02_line.l0
      repeat' first
      | (with_reducible exact ih0 _ _)
      | (with_reducible exact ih1 _ _ _ _ _)
      | (with_reducible exact ih2 _ _ _ _ _ _)
      | (with_reducible exact LeO.refl _)
      | (with_reducible exact LeO.none _)
      | (with_reducible refine LeO.ite ?_ ?_)
      | (with_reducible refine LeO.bind ?_ (fun _ => ?_))
      | exact ih0 _ _
      | exact ih1 _ _ _ _ _
      | exact ih2 _ _ _ _ _ _
      | exact LeO.none _
      | refine LeO.ite ?_ ?_
      | refine LeO.bind ?_ (fun _ => ?_)
    · intro y0 y1 y2 y3 y4 y5
      unfold threshingref02_line.j2
      repeat' first
      | (with_reducible exact ih0 _ _)
      | (with_reducible exact ih1 _ _ _ _ _)
      | (with_reducible exact ih2 _ _ _ _ _ _)
      | (with_reducible exact LeO.refl _)
      | (with_reducible exact LeO.none _)
      | (with_reducible refine LeO.ite ?_ ?_)
      | (with_reducible refine LeO.bind ?_ (fun _ => ?_))
      | exact ih0 _ _
      | exact ih1 _ _ _ _ _
      | exact ih2 _ _ _ _ _ _
      | exact LeO.none _
      | refine LeO.ite ?_ ?_
      | refine LeO.bind ?_ (fun _ => ?_)
theorem threshingref02_line.mono : ∀ a0 k, LeO (threshingref02_line.f k a0) (threshingref02_line.f (k + 1) a0) := by
  intro a0 k
  obtain ⟨ih0, ih1, ih2⟩ := threshingref02_line.mono_l k
  unfold threshingref02_line.f
  repeat' first
      | (with_reducible exact ih0 _ _)
      | (with_reducible exact ih1 _ _ _ _ _)
      | (with_reducible exact ih2 _ _ _ _ _ _)
      | (with_reducible exact LeO.refl _)
      | (with_reducible exact LeO.none _)
      | (with_reducible refine LeO.ite ?_ ?_)
      | (with_reducible refine LeO.bind ?_ (fun _ => ?_))
      | exact ih0 _ _
      | exact ih1 _ _ _ _ _
      | exact ih2 _ _ _ _ _ _
      | exact LeO.none _
      | refine LeO.ite ?_ ?_
      | refine LeO.bind ?_ (fun _ => ?_)
set_option maxHeartbeats 8000000 in
set_option maxRecDepth 100000 in
theorem threshingref02_line.calls (k : Nat) (A0 : Option Addr) (c0 : Nat) (l0 : List Int) (r1 : List ByteArray) (r2 : Bool) (w : World) (hr0 : Kd.C (Kd.int .u8) w A0 l0.length l0) (hc0 : l0.length ≤ c0) (h : threshingref02_line.f k l0 = some (r1, r2)) :
    Calls Tryz.prog 38 #[.slice A0 l0.length c0] w fun e w' => ∃ v0_ : Value, e = .returned (.agg #[v0_, .bool r2]) ∧ Kd.R Kd.string 9 w' w.heap.size (fun _ => True) v0_ r1 ∧ Below w.heap.size w w' := by
  have hu64 := Tryz.underlying53
  have HR0 := Aside0.mk hr0
  have HC0 := Aside0.mk hc0
  clear hr0 hc0
  have HB := Aside0.mk (Below.refl w.heap.size w)
  have H : (if (l0.length : Int) > 0 then (if 0 < (l0.length : Int) then (threshingref02_line.j0 k l0 ((rd l0 0) == 99)) else (none)) else (threshingref02_line.j0 k l0 false)) = some (r1, r2) := h
  clear h
  have HC2 := Aside0.mk H
  clear H
  go_enter Tryz.func38, Tryz.ntmps38
  go_upto_region 1 with (first | ((with_reducible refine gate_dst (N := 2) rfl ?_); refine box_event ?hg (N := 2) ?hd (cs := #[.slice none 0 0, .bool false]) (t := 53) ?hr ?_; (case hd => rfl); (case hg => rfl); (case hr => first | (go_simp; done) | (go_simp; rfl)); intro gb101 hg w3 hbox hb; have n0_ := Aside0.mk (below_step (by repeat (first | (with_reducible first | exact HB.out | apply below_alloc | apply pw_below_drewN | apply below_drew1) | exact HB.out)) hb); have n1_ := Aside0.mk (hbox); have n2_ := Aside0.mk ((by rw [hg]; exact (below_size (by repeat (first | (with_reducible first | exact HB.out | apply below_alloc | apply pw_below_drewN | apply below_drew1) | exact HB.out))) : w.heap.size ≤ gb101)); have n3_ := Aside0.mk ((by rw [hg]; exact (below_size (by repeat (first | (with_reducible first | exact HB.out | apply below_alloc | apply pw_below_drewN | apply below_drew1) | exact HB.out))) : w.heap.size ≤ gb101)); clear HB; have HB := n0_; have BK101 := n1_; have GW101 := n2_; have GE101 := n3_; clear n0_ n1_ n2_ n3_; clear hb hbox hg))
  (try simp only [Act.put, List.setIfInBounds_toArray, List.set_cons_zero, List.set_cons_succ])
  go_cut [14] (fun v14 wc => ∃ (kq : Nat) (x14_1 : Bool), v14 = .bool x14_1 ∧ Aside0 (threshingref02_line.j0 kq l0 x14_1 = some (r1, r2)) ∧ Aside0 (kq ≤ k) ∧ Aside0 (wc.heap[gb101]? = some (.cells #[(.slice none 0 0), .bool false] 53 (0, 0))) ∧ Aside0 (Below w.heap.size w wc))
  case first =>
    have H := HC2.out
    clear HC2
    by_cases c4 : (l0.length : Int) > 0
    · rw [if_pos c4] at H
      have c4b0 : decide (0 < (l0.length : Int)) = true := decide_eq_true c4
      have c4b1 : decide (0 < l0.length) = true := decide_eq_true (by omega)
      clear c4
      (first | rw [c4b0] | (simp only [i64_w, i32_w]; rw [c4b0]) | skip)
      by_cases c5 : 0 < (l0.length : Int)
      · rw [if_pos c5] at H
        have c5b0 : decide (0 < (l0.length : Int)) = true := decide_eq_true c5
        have c5b1 : decide (0 < l0.length) = true := decide_eq_true (by omega)
        clear c5
        have H' := Aside0.mk H
        clear H
        have p102 : 0 ≤ (0 : Int) := (by omega)
        have q102 : 0 < (l0.length : Int) := of_decide_eq_true (by first | (with_reducible assumption) | assumption)
        obtain ⟨ad102, e102, hx102_0⟩ := Kd.at_int HR0.out 0 p102 q102
        cases e102
        have qi102 : (0 < l0.length) = True := eq_true (by omega)
        (try rw [show ((0 : Int)).toNat = 0 from rfl] at hx102_0)
        (try rw [Addr.add_zero'] at hx102_0)
        replace hx102_0 := (HB.out.cell (World.block_lt_of_cell? w _ hx102_0)).trans hx102_0
        replace p102 := eq_true p102
        replace q102 := eq_true q102
        go_wp2
        go_meet
        case rel => exact ⟨_, (((rd l0 0) == 99)), (by first | rfl | (simp; done) | (simp [*]; done)), H', ⟨by first | omega | exact Nat.le_refl _⟩, ⟨by (with_reducible repeat (first | refine blk_drewN ?_ _ | refine blk_drew ?_ | refine blk_alloc ?_ _)); exact BK101.out⟩, ⟨by repeat (first | (with_reducible first | exact HB.out | apply below_alloc | apply pw_below_drewN | apply below_drew1 | refine below_set ?_ GE101.out) | exact HB.out)⟩⟩
      · rw [if_neg c5] at H
        exact absurd H (by simp)
    · rw [if_neg c4] at H
      have c4b0 : decide (0 < (l0.length : Int)) = false := decide_eq_false c4
      have c4b1 : decide (0 < l0.length) = false := decide_eq_false (by omega)
      clear c4
      (first | rw [c4b0] | (simp only [i64_w, i32_w]; rw [c4b0]) | skip)
      have H' := Aside0.mk H
      clear H
      go_wp2
      go_meet
      case rel => exact ⟨_, (false), (by first | rfl | (simp; done) | (simp [*]; done)), H', ⟨by first | omega | exact Nat.le_refl _⟩, ⟨by (with_reducible repeat (first | refine blk_drewN ?_ _ | refine blk_drew ?_ | refine blk_alloc ?_ _)); exact BK101.out⟩, ⟨by repeat (first | (with_reducible first | exact HB.out | apply below_alloc | apply pw_below_drewN | apply below_drew1 | refine below_set ?_ GE101.out) | exact HB.out)⟩⟩
  case rest =>
    clear HC2
    try clear p1
    try clear q1
    try clear hx1
    try clear qi1
    try clear p2
    try clear c4
    try clear c4b0
    try clear c4b1
    try clear c5
    try clear c5b0
    try clear c5b1
    try clear hx102_0
    try clear p102
    try clear q102
    obtain ⟨kq, x14_1, rfl, HA, HJ1, BK101, HB⟩ := hcut
    cases kq with
    | zero => exact absurd HA.out (by simp [threshingref02_line.j0])
    | succ kj1 =>
      have H := HA.out
      clear HA
      simp only [threshingref02_line.j0] at H
      by_cases c6 : x14_1 = true
      · subst c6
        have H1 : (some (([] : List ByteArray), true)) = some (r1, r2) := by rw [if_pos rfl] at H; exact H
        clear H
        have H := H1
        clear H1
        simp only [Option.some.injEq, Prod.mk.injEq] at H
        obtain ⟨rfl, rfl⟩ := H
        have hcz7_0 : wc.cell? ⟨gb101, 0, none⟩ = some (.slice none 0 0) := (blk_cell BK101.out 0).trans rfl
        have hcz7_1 : wc.cell? ⟨gb101, 1, none⟩ = some (.bool false) := (blk_cell BK101.out 1).trans rfl
        have hfz7_0 := blk_frozen BK101.out 0
        have hfz7_1 := blk_frozen BK101.out 1
        go_wp2
        refine bodyPost_ret (results_cell_row rfl _ _ gb101 53 #[.slice none 0 0, .bool true] (0, 0) _ rfl (by (with_reducible repeat (first | refine blk_drewN ?_ _ | refine blk_drew ?_ | refine blk_alloc ?_ _)); refine blk_put (cs := #[.slice none 0 0, .bool false]) ?_ 1 _ rfl; (with_reducible repeat (first | refine blk_drewN ?_ _ | refine blk_drew ?_ | refine blk_alloc ?_ _)); refine blk_put (cs := #[.slice none 0 0, .bool false]) ?_ 0 _ rfl; (with_reducible repeat (first | refine blk_drewN ?_ _ | refine blk_drew ?_ | refine blk_alloc ?_ _)); exact BK101.out) Tryz.underlying53 rfl (by kernel_rfl)) rfl ?_
        exact ⟨_, by first | rfl | (simp [errW_none, errW_some] <;> rfl) | (simp [*, errW_none, errW_some] <;> rfl), by first | exact Kd.R_nil _ _ _ _ _ | exact Kd.N_nil _ _ _ _ _ | exact Kd.V_nil _ _ _ _ _ | exact Kd.Q_nil _ _ _ _ _ | exact Kd.S_nil _ _ _ _ _, by repeat (first | (with_reducible first | exact HB.out | apply below_alloc | apply pw_below_drewN | apply below_drew1 | refine below_set ?_ GE101.out) | exact HB.out)⟩
      · replace c6 := Bool.eq_false_iff.mpr c6
        subst c6
        have H1 : (threshingref02_line.l0 kj1 l0 (⟨#[]⟩ : ByteArray) 0 ([] : List ByteArray) false) = some (r1, r2) := by rw [if_neg (show ¬ (false = true) by decide)] at H; exact H
        clear H
        have H := H1
        clear H1
        have H' := Aside0.mk H
        clear H
        go_wp2_with (first | ((with_reducible refine gate_dst (N := 3) rfl ?_); refine box_event ?hg (N := 3) ?hd (cs := #[.slice none 0 0, .bool false]) (t := 53) ?hr ?_; (case hd => rfl); (case hg => rfl); (case hr => first | (go_simp; done) | (go_simp; rfl)); intro gb103 hg w8 hbox hb; have n0_ := Aside0.mk (blk_below (g := gb101) (o := .cells #[.slice none 0 0, .bool false] 53 (0, 0)) (by (with_reducible repeat (first | refine blk_drewN ?_ _ | refine blk_drew ?_ | refine blk_alloc ?_ _)); exact BK101.out) hb); have n1_ := Aside0.mk (below_step (by repeat (first | (with_reducible first | exact HB.out | apply below_alloc | apply pw_below_drewN | apply below_drew1 | refine below_set ?_ GE101.out) | exact HB.out)) hb); have n2_ := Aside0.mk (hbox); have n3_ := Aside0.mk ((by rw [hg]; exact (below_size (by repeat (first | (with_reducible first | exact HB.out | apply below_alloc | apply pw_below_drewN | apply below_drew1 | refine below_set ?_ GE101.out) | exact HB.out))) : w.heap.size ≤ gb103)); have n4_ := Aside0.mk ((by rw [hg]; exact (below_size (by repeat (first | (with_reducible first | exact HB.out | apply below_alloc | apply pw_below_drewN | apply below_drew1 | refine below_set ?_ GE101.out) | exact HB.out))) : w.heap.size ≤ gb103)); have n5_ := Aside0.mk ((by rw [hg]; exact Nat.ne_of_lt (blk_lt (g := gb101) (o := .cells #[.slice none 0 0, .bool false] 53 (0, 0)) (by (with_reducible repeat (first | refine blk_drewN ?_ _ | refine blk_drew ?_ | refine blk_alloc ?_ _)); exact BK101.out)) : gb101 ≠ gb103)); have n6_ := Aside0.mk ((by rw [hg]; exact Nat.ne_of_gt (blk_lt (g := gb101) (o := .cells #[.slice none 0 0, .bool false] 53 (0, 0)) (by (with_reducible repeat (first | refine blk_drewN ?_ _ | refine blk_drew ?_ | refine blk_alloc ?_ _)); exact BK101.out)) : gb103 ≠ gb101)); clear BK101; clear HB; have BK101 := n0_; have HB := n1_; have BK103 := n2_; have GW103 := n3_; have GE103 := n4_; have NB101_103 := n5_; have NB103_101 := n6_; clear n0_ n1_ n2_ n3_ n4_ n5_ n6_; clear hb hbox hg))
        go_loopg [4, 5] kj1 (fun kq v4 v5 w' => ∃ (x4_2 : ByteArray) (x5_2 : Int) (x104000_2 : List ByteArray) (u104000 : Value), v4 = .string x4_2 ∧ v5 = .int .i64 x5_2 ∧ Aside0 (threshingref02_line.l0 kq l0 x4_2 x5_2 x104000_2 false = some (r1, r2)) ∧ Aside0 (kq ≤ kj1) ∧ Aside0 (Kd.R Kd.string 9 w' w.heap.size (fun _ => True) u104000 x104000_2) ∧ Aside0 (w'.heap[gb101]? = some (.cells #[(.slice none 0 0), .bool false] 53 (0, 0))) ∧ Aside0 (w'.heap[gb103]? = some (.cells #[u104000, .bool false] 53 (0, 0))) ∧ Aside0 (Below w.heap.size w w'))
        case atStart => exact ⟨((⟨#[]⟩ : ByteArray)), (0), (([] : List ByteArray)), (.slice none 0 0), (by first | rfl | (simp; done) | (simp [*]; done)), (by first | rfl | (simp; done) | (simp [*]; done)), H', ⟨Nat.le_refl _⟩, ⟨by first | exact Kd.R_nil _ _ _ _ _ | exact Kd.N_nil _ _ _ _ _ | exact Kd.V_nil _ _ _ _ _ | exact Kd.Q_nil _ _ _ _ _ | exact Kd.S_nil _ _ _ _ _⟩, ⟨by (with_reducible repeat (first | refine blk_drewN ?_ _ | refine blk_drew ?_ | refine blk_alloc ?_ _)); exact BK101.out⟩, ⟨by (with_reducible repeat (first | refine blk_drewN ?_ _ | refine blk_drew ?_ | refine blk_alloc ?_ _)); exact BK103.out⟩, ⟨by repeat (first | (with_reducible first | exact HB.out | apply below_alloc | apply pw_below_drewN | apply below_drew1 | refine below_set ?_ GE101.out | refine below_set ?_ GE103.out) | exact HB.out)⟩⟩
        case round =>
          clear H'
          try clear p1
          try clear q1
          try clear hx1
          try clear qi1
          try clear p2
          try clear c4
          try clear c4b0
          try clear c4b1
          try clear c5
          try clear c5b0
          try clear c5b1
          try clear c6
          try clear hcz7_0
          try clear hcz7_1
          try clear hfz7_0
          try clear hfz7_1
          try clear hx102_0
          try clear p1
          try clear p102
          try clear p2
          try clear q1
          try clear q102
          obtain ⟨x4_2, x5_2, x104000_2, u104000, rfl, rfl, HA, HK2, HO_104000, BK101, BK103, HB⟩ := hrel
          cases gk with
          | zero => exact absurd HA.out (by simp [threshingref02_line.l0])
          | succ k2 =>
            have H := HA.out
            clear HA
            simp only [threshingref02_line.l0] at H
            by_cases c9 : x5_2 ≤ (l0.length : Int)
            · rw [if_pos c9] at H
              have c9b0 : decide (x5_2 ≤ (l0.length : Int)) = true := decide_eq_true c9
              clear c9
              have HC10 := Aside0.mk H
              clear H
              go_upto_region 8 with (fail)
              go_cut [46] (fun v46 wc => ∃ (kq : Nat) (x46_9 : Bool), v46 = .bool x46_9 ∧ Aside0 (threshingref02_line.j2 kq l0 x4_2 x5_2 x46_9 x104000_2 false = some (r1, r2)) ∧ Aside0 (kq ≤ k2) ∧ Aside0 (Kd.R Kd.string 9 wc w.heap.size (fun _ => True) u104000 x104000_2) ∧ Aside0 (wc.heap[gb101]? = some (.cells #[(.slice none 0 0), .bool false] 53 (0, 0))) ∧ Aside0 (wc.heap[gb103]? = some (.cells #[u104000, .bool false] 53 (0, 0))) ∧ Aside0 (Below w.heap.size w wc))
              case first =>
                have H := HC10.out
                clear HC10
                by_cases c11 : x5_2 < (l0.length : Int)
                · rw [if_pos c11] at H
                  have c11b0 : decide (x5_2 < (l0.length : Int)) = true := decide_eq_true c11
                  clear c11
                  (first | rw [c11b0] | (simp only [i64_w, i32_w]; rw [c11b0]) | skip)
                  by_cases c12 : 0 ≤ x5_2
                  · rw [if_pos c12] at H
                    have c12b0 : decide (0 ≤ x5_2) = true := decide_eq_true c12
                    clear c12
                    by_cases c13 : (rd l0 x5_2) = 32
                    · rw [if_pos c13] at H
                      have c13b0 : ((rd l0 x5_2) == 32) = true := beq_iff_eq.mpr c13
                      have c13b1 : ((rd l0 x5_2) != 32) = false := bne_eq_false_iff_eq.mpr c13
                      clear c13
                      have H' := Aside0.mk H
                      clear H
                      have p104 : 0 ≤ (x5_2 : Int) := of_decide_eq_true (by first | (with_reducible assumption) | assumption)
                      have q104 : x5_2 < (l0.length : Int) := of_decide_eq_true (by first | (with_reducible assumption) | assumption)
                      obtain ⟨ad104, e104, hx104_0⟩ := Kd.at_int HR0.out x5_2 p104 q104
                      cases e104
                      replace hx104_0 := (HB.out.cell (World.block_lt_of_cell? w _ hx104_0)).trans hx104_0
                      replace p104 := eq_true p104
                      replace q104 := eq_true q104
                      go_wp2
                      go_meet
                      case rel => exact ⟨_, (false), (by first | rfl | (simp; done) | (simp [*]; done)), H', ⟨by have := HJ1.out; have := HK2.out; first | omega | exact Nat.le_refl _⟩, ⟨by (with_reducible repeat (first | apply Kd.R_alloc | apply Kd.R_drewN | apply Kd.R_drew)); exact HO_104000.out⟩, ⟨by (with_reducible repeat (first | refine blk_drewN ?_ _ | refine blk_drew ?_ | refine blk_alloc ?_ _)); exact BK101.out⟩, ⟨by (with_reducible repeat (first | refine blk_drewN ?_ _ | refine blk_drew ?_ | refine blk_alloc ?_ _)); exact BK103.out⟩, ⟨by repeat (first | (with_reducible first | exact HB.out | apply below_alloc | apply pw_below_drewN | apply below_drew1 | refine below_set ?_ GE101.out | refine below_set ?_ GE103.out) | exact HB.out)⟩⟩
                    · rw [if_neg c13] at H
                      have c13b0 : ((rd l0 x5_2) == 32) = false := beq_eq_false_iff_ne.mpr c13
                      have c13b1 : ((rd l0 x5_2) != 32) = true := bne_iff_ne.mpr c13
                      by_cases c14 : (rd l0 x5_2) = 9
                      · rw [if_pos c14] at H
                        have c14b0 : ((rd l0 x5_2) == 9) = true := beq_iff_eq.mpr c14
                        have c14b1 : ((rd l0 x5_2) != 9) = false := bne_eq_false_iff_eq.mpr c14
                        clear c14
                        have H' := Aside0.mk H
                        clear H
                        have p104 : 0 ≤ (x5_2 : Int) := of_decide_eq_true (by first | (with_reducible assumption) | assumption)
                        have q104 : x5_2 < (l0.length : Int) := of_decide_eq_true (by first | (with_reducible assumption) | assumption)
                        obtain ⟨ad104, e104, hx104_0⟩ := Kd.at_int HR0.out x5_2 p104 q104
                        cases e104
                        replace hx104_0 := (HB.out.cell (World.block_lt_of_cell? w _ hx104_0)).trans hx104_0
                        replace p104 := eq_true p104
                        replace q104 := eq_true q104
                        have p105 : 0 ≤ (x5_2 : Int) := of_decide_eq_true (by first | (with_reducible assumption) | assumption)
                        have q105 : x5_2 < (l0.length : Int) := of_decide_eq_true (by first | (with_reducible assumption) | assumption)
                        obtain ⟨ad105, e105, hx105_0⟩ := Kd.at_int HR0.out x5_2 p105 q105
                        obtain rfl : ad104 = ad105 := (by injection e105)
                        replace hx105_0 := (HB.out.cell (World.block_lt_of_cell? w _ hx105_0)).trans hx105_0
                        replace p105 := eq_true p105
                        replace q105 := eq_true q105
                        go_wp2
                        go_meet
                        case rel => exact ⟨_, (false), (by first | rfl | (simp; done) | (simp [*]; done)), H', ⟨by have := HJ1.out; have := HK2.out; first | omega | exact Nat.le_refl _⟩, ⟨by (with_reducible repeat (first | apply Kd.R_alloc | apply Kd.R_drewN | apply Kd.R_drew)); exact HO_104000.out⟩, ⟨by (with_reducible repeat (first | refine blk_drewN ?_ _ | refine blk_drew ?_ | refine blk_alloc ?_ _)); exact BK101.out⟩, ⟨by (with_reducible repeat (first | refine blk_drewN ?_ _ | refine blk_drew ?_ | refine blk_alloc ?_ _)); exact BK103.out⟩, ⟨by repeat (first | (with_reducible first | exact HB.out | apply below_alloc | apply pw_below_drewN | apply below_drew1 | refine below_set ?_ GE101.out | refine below_set ?_ GE103.out) | exact HB.out)⟩⟩
                      · rw [if_neg c14] at H
                        have c14b0 : ((rd l0 x5_2) == 9) = false := beq_eq_false_iff_ne.mpr c14
                        have c14b1 : ((rd l0 x5_2) != 9) = true := bne_iff_ne.mpr c14
                        have H' := Aside0.mk H
                        clear H
                        have p104 : 0 ≤ (x5_2 : Int) := of_decide_eq_true (by first | (with_reducible assumption) | assumption)
                        have q104 : x5_2 < (l0.length : Int) := of_decide_eq_true (by first | (with_reducible assumption) | assumption)
                        obtain ⟨ad104, e104, hx104_0⟩ := Kd.at_int HR0.out x5_2 p104 q104
                        cases e104
                        replace hx104_0 := (HB.out.cell (World.block_lt_of_cell? w _ hx104_0)).trans hx104_0
                        replace p104 := eq_true p104
                        replace q104 := eq_true q104
                        have p105 : 0 ≤ (x5_2 : Int) := of_decide_eq_true (by first | (with_reducible assumption) | assumption)
                        have q105 : x5_2 < (l0.length : Int) := of_decide_eq_true (by first | (with_reducible assumption) | assumption)
                        obtain ⟨ad105, e105, hx105_0⟩ := Kd.at_int HR0.out x5_2 p105 q105
                        obtain rfl : ad104 = ad105 := (by injection e105)
                        replace hx105_0 := (HB.out.cell (World.block_lt_of_cell? w _ hx105_0)).trans hx105_0
                        replace p105 := eq_true p105
                        replace q105 := eq_true q105
                        have p106 : 0 ≤ (x5_2 : Int) := of_decide_eq_true (by first | (with_reducible assumption) | assumption)
                        have q106 : x5_2 < (l0.length : Int) := of_decide_eq_true (by first | (with_reducible assumption) | assumption)
                        obtain ⟨ad106, e106, hx106_0⟩ := Kd.at_int HR0.out x5_2 p106 q106
                        obtain rfl : ad104 = ad106 := (by injection e106)
                        replace hx106_0 := (HB.out.cell (World.block_lt_of_cell? w _ hx106_0)).trans hx106_0
                        replace p106 := eq_true p106
                        replace q106 := eq_true q106
                        go_wp2
                        go_meet
                        case rel => exact ⟨_, (((rd l0 x5_2) != 13)), (by first | rfl | (simp; done) | (simp [*]; done)), H', ⟨by have := HJ1.out; have := HK2.out; first | omega | exact Nat.le_refl _⟩, ⟨by (with_reducible repeat (first | apply Kd.R_alloc | apply Kd.R_drewN | apply Kd.R_drew)); exact HO_104000.out⟩, ⟨by (with_reducible repeat (first | refine blk_drewN ?_ _ | refine blk_drew ?_ | refine blk_alloc ?_ _)); exact BK101.out⟩, ⟨by (with_reducible repeat (first | refine blk_drewN ?_ _ | refine blk_drew ?_ | refine blk_alloc ?_ _)); exact BK103.out⟩, ⟨by repeat (first | (with_reducible first | exact HB.out | apply below_alloc | apply pw_below_drewN | apply below_drew1 | refine below_set ?_ GE101.out | refine below_set ?_ GE103.out) | exact HB.out)⟩⟩
                  · rw [if_neg c12] at H
                    exact absurd H (by simp)
                · rw [if_neg c11] at H
                  have c11b0 : decide (x5_2 < (l0.length : Int)) = false := decide_eq_false c11
                  clear c11
                  (first | rw [c11b0] | (simp only [i64_w, i32_w]; rw [c11b0]) | skip)
                  have H' := Aside0.mk H
                  clear H
                  go_wp2
                  go_meet
                  case rel => exact ⟨_, (false), (by first | rfl | (simp; done) | (simp [*]; done)), H', ⟨by have := HJ1.out; have := HK2.out; first | omega | exact Nat.le_refl _⟩, ⟨by (with_reducible repeat (first | apply Kd.R_alloc | apply Kd.R_drewN | apply Kd.R_drew)); exact HO_104000.out⟩, ⟨by (with_reducible repeat (first | refine blk_drewN ?_ _ | refine blk_drew ?_ | refine blk_alloc ?_ _)); exact BK101.out⟩, ⟨by (with_reducible repeat (first | refine blk_drewN ?_ _ | refine blk_drew ?_ | refine blk_alloc ?_ _)); exact BK103.out⟩, ⟨by repeat (first | (with_reducible first | exact HB.out | apply below_alloc | apply pw_below_drewN | apply below_drew1 | refine below_set ?_ GE101.out | refine below_set ?_ GE103.out) | exact HB.out)⟩⟩
              case rest =>
                clear HC10
                try clear c1
                try clear p1
                try clear q1
                try clear hx1
                try clear qi1
                try clear p2
                try clear c4
                try clear c4b0
                try clear c4b1
                try clear c5
                try clear c5b0
                try clear c5b1
                try clear c6
                try clear c9
                try clear c9b0
                try clear p10
                try clear q10
                try clear hx10
                try clear qi10
                try clear c11
                try clear c11b0
                try clear c12
                try clear c12b0
                try clear c13
                try clear c13b0
                try clear c13b1
                try clear c14
                try clear c14b0
                try clear c14b1
                try clear hcz7_0
                try clear hcz7_1
                try clear hfz7_0
                try clear hfz7_1
                try clear hx102_0
                try clear hx104_0
                try clear hx105_0
                try clear hx106_0
                try clear p1
                try clear p102
                try clear p104
                try clear p105
                try clear p106
                try clear p2
                try clear q1
                try clear q102
                try clear q104
                try clear q105
                try clear q106
                obtain ⟨kq, x46_9, rfl, HA, HJ9, HO_104000, BK101, BK103, HB⟩ := hcut
                cases kq with
                | zero => exact absurd HA.out (by simp [threshingref02_line.j2])
                | succ kj9 =>
                  have H := HA.out
                  clear HA
                  simp only [threshingref02_line.j2] at H
                  by_cases c15 : x46_9 = true
                  · subst c15
                    have H1 : (if 0 ≤ x5_2 then (if x5_2 ≤ (wrap64 (x5_2 + 1)) then (if (wrap64 (x5_2 + 1)) ≤ (l0.length : Int) then (if x4_2.size + (strOfNums ((l0.take ((wrap64 (x5_2 + 1)) : Int).toNat).drop (x5_2 : Int).toNat)).size ≤ 9223372036854775807 then (threshingref02_line.l0 kj9 l0 (x4_2 ++ (strOfNums ((l0.take ((wrap64 (x5_2 + 1)) : Int).toNat).drop (x5_2 : Int).toNat))) (wrap64 (x5_2 + 1)) x104000_2 false) else (none)) else (none)) else (none)) else (none)) = some (r1, r2) := by rw [if_pos rfl] at H; exact H
                    clear H
                    have H := H1
                    clear H1
                    by_cases c16 : 0 ≤ x5_2
                    · rw [if_pos c16] at H
                      have c16b0 := eq_true c16
                      have c16b1 : decide (0 ≤ x5_2) = true := decide_eq_true c16
                      clear c16
                      by_cases c17 : x5_2 ≤ (wrap64 (x5_2 + 1))
                      · rw [if_pos c17] at H
                        have c17b0 := eq_true c17
                        have c17b1 : decide (x5_2 ≤ (wrap64 (x5_2 + 1))) = true := decide_eq_true c17
                        by_cases c18 : (wrap64 (x5_2 + 1)) ≤ (l0.length : Int)
                        · rw [if_pos c18] at H
                          have c18b0 := eq_true c18
                          have c18b1 : decide ((wrap64 (x5_2 + 1)) ≤ (l0.length : Int)) = true := decide_eq_true c18
                          by_cases c19 : x4_2.size + (strOfNums ((l0.take ((wrap64 (x5_2 + 1)) : Int).toNat).drop (x5_2 : Int).toNat)).size ≤ 9223372036854775807
                          · rw [if_pos c19] at H
                            have c19b0 := eq_true c19
                            have c19b1 : decide (x4_2.size + (strOfNums ((l0.take ((wrap64 (x5_2 + 1)) : Int).toNat).drop (x5_2 : Int).toNat)).size ≤ 9223372036854775807) = true := decide_eq_true c19
                            try have c19b2 : (9223372036854775807 < x4_2.size + (strOfNums ((l0.take ((wrap64 (x5_2 + 1)) : Int).toNat).drop (x5_2 : Int).toNat)).size) = False := eq_false (Nat.not_lt.2 c19)
                            have H' := Aside0.mk H
                            clear H
                            obtain ⟨i020, hi020, _, hsz20, _⟩ := info_parts info5
                            obtain ⟨A20, hcut20, hA20, hC20⟩ := print_mid_of (P := Tryz.prog) (Value.int .u8) 0 46 5 .i64 .i64 Tryz.underlying46 hi020 hsz20 A0 c0 l0 x5_2 (wrap64 (x5_2 + 1)) (of_decide_eq_true (by first | (with_reducible assumption) | assumption)) (by first | omega | exact of_decide_eq_true (by first | (with_reducible assumption) | assumption)) (of_decide_eq_true (by first | (with_reducible assumption) | assumption)) HC0.out
                            have HR107 := Aside0.mk (Kd.C_of_reads (h1 := fun _ => rfl) (hA20 _ (Kd.reads_of_C HR0.out)))
                            have HC107 := Aside0.mk hC20
                            clear hA20 hC20 hi020 hsz20
                            have hcv21 := Kd.C_string (P := Tryz.prog) (A := A20) (c := (c0 - x5_2.toNat)) Tryz.underlying46 Tryz.underlying5 Tryz.underlying9 (Kd.C_below HR107.out HB.out)
                            have hlen21 : (List.drop x5_2.toNat (List.take (wrap64 (x5_2 + 1)).toNat l0)).length = (wrap64 (x5_2 + 1)).toNat - x5_2.toNat := by rw [List.length_drop, List.length_take]; have := of_eq_true c18b0; omega
                            rw [hlen21] at hcv21
                            go_wp2
                            go_roundg kj9
                            case measure => have := HJ1.out; have := HK2.out; have := HJ9.out; omega
                            case rel => exact ⟨(x4_2 ++ (strOfNums ((l0.take ((wrap64 (x5_2 + 1)) : Int).toNat).drop (x5_2 : Int).toNat))), (wrap64 (x5_2 + 1)), (x104000_2), (u104000), (by first | rfl | (simp; done) | (simp [*]; done)), (by first | rfl | (simp; done) | (simp [*]; done)), H', ⟨by have := HJ1.out; have := HK2.out; have := HJ9.out; omega⟩, ⟨by (with_reducible repeat (first | apply Kd.R_alloc | apply Kd.R_drewN | apply Kd.R_drew)); exact HO_104000.out⟩, ⟨by (with_reducible repeat (first | refine blk_drewN ?_ _ | refine blk_drew ?_ | refine blk_alloc ?_ _)); exact BK101.out⟩, ⟨by (with_reducible repeat (first | refine blk_drewN ?_ _ | refine blk_drew ?_ | refine blk_alloc ?_ _)); exact BK103.out⟩, ⟨by repeat (first | (with_reducible first | exact HB.out | apply below_alloc | apply pw_below_drewN | apply below_drew1 | refine below_set ?_ GE101.out | refine below_set ?_ GE103.out) | exact HB.out)⟩⟩
                          · rw [if_neg c19] at H
                            exact absurd H (by simp)
                        · rw [if_neg c18] at H
                          exact absurd H (by simp)
                      · rw [if_neg c17] at H
                        exact absurd H (by simp)
                    · rw [if_neg c16] at H
                      exact absurd H (by simp)
                  · replace c15 := Bool.eq_false_iff.mpr c15
                    subst c15
                    have H1 : (if x4_2.toList = ([] : List UInt8) then (threshingref02_line.l0 kj9 l0 (⟨#[]⟩ : ByteArray) (wrap64 (x5_2 + 1)) x104000_2 false) else (if x104000_2.length < 8796093022208 then (threshingref02_line.l0 kj9 l0 (⟨#[]⟩ : ByteArray) (wrap64 (x5_2 + 1)) (x104000_2 ++ [x4_2]) false) else (none))) = some (r1, r2) := by rw [if_neg (show ¬ (false = true) by decide)] at H; exact H
                    clear H
                    have H := H1
                    clear H1
                    by_cases c22 : x4_2.toList = ([] : List UInt8)
                    · rw [if_pos c22] at H
                      have c22b0 : (x4_2.toList == ([] : List UInt8)) = true := beq_iff_eq.mpr c22
                      have c22b1 : (x4_2.toList != ([] : List UInt8)) = false := bne_eq_false_iff_eq.mpr c22
                      clear c22
                      have H' := Aside0.mk H
                      clear H
                      go_wp2
                      go_roundg kj9
                      case measure => have := HJ1.out; have := HK2.out; have := HJ9.out; omega
                      case rel => exact ⟨((⟨#[]⟩ : ByteArray)), (wrap64 (x5_2 + 1)), (x104000_2), (u104000), (by first | rfl | (simp; done) | (simp [*]; done)), (by first | rfl | (simp; done) | (simp [*]; done)), H', ⟨by have := HJ1.out; have := HK2.out; have := HJ9.out; omega⟩, ⟨by (with_reducible repeat (first | apply Kd.R_alloc | apply Kd.R_drewN | apply Kd.R_drew)); exact HO_104000.out⟩, ⟨by (with_reducible repeat (first | refine blk_drewN ?_ _ | refine blk_drew ?_ | refine blk_alloc ?_ _)); exact BK101.out⟩, ⟨by (with_reducible repeat (first | refine blk_drewN ?_ _ | refine blk_drew ?_ | refine blk_alloc ?_ _)); exact BK103.out⟩, ⟨by repeat (first | (with_reducible first | exact HB.out | apply below_alloc | apply pw_below_drewN | apply below_drew1 | refine below_set ?_ GE101.out | refine below_set ?_ GE103.out) | exact HB.out)⟩⟩
                    · rw [if_neg c22] at H
                      have c22b0 : (x4_2.toList == ([] : List UInt8)) = false := beq_eq_false_iff_ne.mpr c22
                      have c22b1 : (x4_2.toList != ([] : List UInt8)) = true := bne_iff_ne.mpr c22
                      by_cases c23 : x104000_2.length < 8796093022208
                      · rw [if_pos c23] at H
                        have LMc23 := Aside0.mk c23
                        clear c23
                        obtain ⟨y108, hy108⟩ : ∃ y_ : List ByteArray, y_ = (x104000_2 ++ [x4_2]) := ⟨_, rfl⟩
                        replace H : (threshingref02_line.l0 kj9 l0 (⟨#[]⟩ : ByteArray) (wrap64 (x5_2 + 1)) y108 false) = some (r1, r2) := by first | (rw [hy108]; with_reducible exact H) | (have H2_ := (Option.bind_some _ _).symm.trans H; rw [hy108]; with_reducible exact H2_) | (have H2_ := (Option.bind_some _ _).symm.trans H; with_reducible exact H2_) | with_reducible exact H | (rw [hy108]; exact H) | exact H
                        have Ny108 := Aside0.mk hy108
                        clear hy108
                        have H' := Aside0.mk H
                        clear H
                        have hnb24 := NB103_101.out
                        have hnc24 := NB101_103.out
                        have hcz25_0 : wc.cell? ⟨gb103, 0, none⟩ = some (u104000) := (blk_cell BK103.out 0).trans rfl
                        have hcz25_1 : wc.cell? ⟨gb103, 1, none⟩ = some (.bool false) := (blk_cell BK103.out 1).trans rfl
                        have hfz25_0 := blk_frozen BK103.out 0
                        have hfz25_1 := blk_frozen BK103.out 1
                        go_wp2_with (first | ((with_reducible refine gate_builtin (b := .append) (xs := #[.tmp 58, .tmp 60]) rfl ?_); at_builtin; refine Kd.R_append Kd.string (w0 := w) w.heap.size rfl (.tmp 58) (.tmp 60) 30 9 (.string ⟨#[]⟩) 16 rfl Tryz.underlying30 info9 rfl (by decide) (by omega) u104000 x104000_2 x4_2 [.string x4_2] (fun _ => True) (fun _ => False) rfl rfl ?aP (fun _ hk => hk.elim) ?aF ?aO ?aB ?aS ?aL ?_; (case aP => exact rfl); (case aB => exact (by repeat (first | (with_reducible first | exact HB.out | apply below_alloc | apply pw_below_drewN | apply below_drew1 | refine below_set ?_ GE101.out | refine below_set ?_ GE103.out) | exact HB.out))); (case aF => exact (fun _ _ => trivial)); (case aO => exact (by (with_reducible repeat (first | apply Kd.R_alloc | apply Kd.R_drewN | apply Kd.R_drew)); exact HO_104000.out)); (case aS => exact (below_size (by repeat (first | (with_reducible first | exact HB.out | apply below_alloc | apply pw_below_drewN | apply below_drew1 | refine below_set ?_ GE101.out | refine below_set ?_ GE103.out) | exact HB.out)))); (case aL => have := LMc23.out; omega); intro v109 w26 ho hb hg hat; rw [← Ny108.out] at ho; have n0_ := Aside0.mk (blk_grown (g := gb101) (o := .cells #[.slice none 0 0, .bool false] 53 (0, 0)) (by (with_reducible repeat (first | refine blk_drewN ?_ _ | refine blk_drew ?_ | refine blk_alloc ?_ _)); exact BK101.out) hg (Kd.R_ne HO_104000.out BK101.out (by decide))); have n1_ := Aside0.mk (blk_grown (g := gb103) (o := .cells #[u104000, .bool false] 53 (0, 0)) (by (with_reducible repeat (first | refine blk_drewN ?_ _ | refine blk_drew ?_ | refine blk_alloc ?_ _)); exact BK103.out) hg (Kd.R_ne HO_104000.out BK103.out (by decide))); have n2_ := Aside0.mk (hb); have n3_ := Aside0.mk (ho); clear BK101; clear BK103; clear HB; clear HO_104000; have BK101 := n0_; have BK103 := n1_; have HB := n2_; have HO110 := n3_; clear n0_ n1_ n2_ n3_; clear ho hb hg hat; obtain ⟨Ao27, co27, eo27⟩ := Kd.R_slice HO110.out; subst eo27; have hcz28_0 : w26.cell? ⟨gb103, 0, none⟩ = some (u104000) := (blk_cell BK103.out 0).trans rfl; have hcz28_1 : w26.cell? ⟨gb103, 1, none⟩ = some (.bool false) := (blk_cell BK103.out 1).trans rfl; have hfz28_0 := blk_frozen BK103.out 0; have hfz28_1 := blk_frozen BK103.out 1))
                        go_roundg kj9
                        case measure => have := HJ1.out; have := HK2.out; have := HJ9.out; omega
                        case rel => exact ⟨((⟨#[]⟩ : ByteArray)), (wrap64 (x5_2 + 1)), (y108), (.slice Ao27 y108.length co27), (by first | rfl | (simp; done) | (simp [*]; done)), (by first | rfl | (simp; done) | (simp [*]; done)), H', ⟨by have := HJ1.out; have := HK2.out; have := HJ9.out; omega⟩, ⟨by (with_reducible repeat (first | apply Kd.R_alloc | apply Kd.R_drewN | apply Kd.R_drew)); exact Kd.R_mono (Kd.R_far (p := ⟨gb103, 0, none⟩) (Kd.R_types HO110.out BK103.out (by decide)) (fun _ hk => hk.2) (.slice Ao27 y108.length co27)) (fun _ hk => trivial)⟩, ⟨by (with_reducible repeat (first | refine blk_drewN ?_ _ | refine blk_drew ?_ | refine blk_alloc ?_ _)); refine blk_far ?_ NB101_103.out _; (with_reducible repeat (first | refine blk_drewN ?_ _ | refine blk_drew ?_ | refine blk_alloc ?_ _)); exact BK101.out⟩, ⟨by (with_reducible repeat (first | refine blk_drewN ?_ _ | refine blk_drew ?_ | refine blk_alloc ?_ _)); refine blk_put (cs := #[u104000, .bool false]) ?_ 0 _ rfl; (with_reducible repeat (first | refine blk_drewN ?_ _ | refine blk_drew ?_ | refine blk_alloc ?_ _)); exact BK103.out⟩, ⟨by repeat (first | (with_reducible first | exact HB.out | apply below_alloc | apply pw_below_drewN | apply below_drew1 | refine below_set ?_ GE101.out | refine below_set ?_ GE103.out) | exact HB.out)⟩⟩
                      · rw [if_neg c23] at H
                        exact absurd H (by simp)
            · rw [if_neg c9] at H
              have c9b0 : decide (x5_2 ≤ (l0.length : Int)) = false := decide_eq_false c9
              clear c9
              simp only [Option.some.injEq, Prod.mk.injEq] at H
              obtain ⟨rfl, rfl⟩ := H
              have hnb29 := NB103_101.out
              have hnc29 := NB101_103.out
              have hcz30_0 : wr.cell? ⟨gb103, 0, none⟩ = some (u104000) := (blk_cell BK103.out 0).trans rfl
              have hcz30_1 : wr.cell? ⟨gb103, 1, none⟩ = some (.bool false) := (blk_cell BK103.out 1).trans rfl
              have hfz30_0 := blk_frozen BK103.out 0
              have hfz30_1 := blk_frozen BK103.out 1
              obtain ⟨Ao31, co31, eo31⟩ := Kd.R_slice HO_104000.out
              subst eo31
              have hcz32_0 : wr.cell? ⟨gb101, 0, none⟩ = some (.slice none 0 0) := (blk_cell BK101.out 0).trans rfl
              have hcz32_1 : wr.cell? ⟨gb101, 1, none⟩ = some (.bool false) := (blk_cell BK101.out 1).trans rfl
              have hfz32_0 := blk_frozen BK101.out 0
              have hfz32_1 := blk_frozen BK101.out 1
              go_wp2
              refine bodyPost_ret (results_cell_row rfl _ _ gb101 53 #[.slice Ao31 x104000_2.length co31, .bool false] (0, 0) _ rfl (by (with_reducible repeat (first | refine blk_drewN ?_ _ | refine blk_drew ?_ | refine blk_alloc ?_ _)); refine blk_put (cs := #[.slice Ao31 x104000_2.length co31, .bool false]) ?_ 1 _ rfl; (with_reducible repeat (first | refine blk_drewN ?_ _ | refine blk_drew ?_ | refine blk_alloc ?_ _)); refine blk_put (cs := #[.slice none 0 0, .bool false]) ?_ 0 _ rfl; (with_reducible repeat (first | refine blk_drewN ?_ _ | refine blk_drew ?_ | refine blk_alloc ?_ _)); exact BK101.out) Tryz.underlying53 rfl (by kernel_rfl)) rfl ?_
              exact ⟨_, by first | rfl | (simp [errW_none, errW_some] <;> rfl) | (simp [*, errW_none, errW_some] <;> rfl), by (with_reducible repeat (first | apply Kd.R_alloc | apply Kd.R_drewN | apply Kd.R_drew)); exact Kd.R_mono (Kd.R_far (p := ⟨gb101, 1, none⟩) (Kd.R_far (p := ⟨gb101, 0, none⟩) (Kd.R_types HO_104000.out BK101.out (by decide)) (fun _ hk => hk.2) (.slice Ao31 x104000_2.length co31)) (fun _ hk => hk.2) (.bool false)) (fun _ hk => trivial), by repeat (first | (with_reducible first | exact HB.out | apply below_alloc | apply pw_below_drewN | apply below_drew1 | refine below_set ?_ GE101.out | refine below_set ?_ GE103.out) | exact HB.out)⟩
end Go.Proofs.YtigloobbpcnnhaaGreatDoor.PB
end
section
namespace Go.Proofs.YtigloobbpcnnhaaGreatDoor.PB
open Go.RowKit Go.Proofs.YtigloobbpcnnhaaGreatDoorW.PrintWords Go.Proofs.YtigloobbpcnnhaaGreatDoorW.PrintLast Go.Proofs.YtigloobbpcnnhaaGreatDoorW.PrintMore
attribute [local go_sem] max2_int min2_int max_two min_two max_three min_three max_four min_four   -- for this text's walks alone
set_option linter.unusedVariables false
set_option linter.unusedSimpArgs false
def threshingref02_Lines.l0 : Nat → List Int → List (S64) → Int → Int → Option ((List (S64)))
  | 0, _, _, _, _ => none
  | k + 1, x0, x3, x4, x5 => if x5 ≤ (x0.length : Int) then (if x5 = (x0.length : Int) then (if x4 = x5 then (threshingref02_Lines.l0 k x0 x3 x4 (wrap64 (x5 + 1))) else (if x5 < (x0.length : Int) then (if 0 ≤ x5 then (if (rd x0 x5) = 10 then (if 0 ≤ x4 then (if x4 ≤ x5 then ((threshingref02_line.f k ((x0.take (x5 : Int).toNat).drop (x4 : Int).toNat)).bind fun bt113 => (if x3.length < 4398046511104 then (threshingref02_Lines.l0 k x0 (x3 ++ [(⟨bt113.1, bt113.2⟩ : S64)]) (wrap64 (x5 + 1)) (wrap64 (x5 + 1))) else (none))) else (none)) else (none)) else (threshingref02_Lines.l0 k x0 x3 x4 (wrap64 (x5 + 1)))) else (none)) else (if 0 ≤ x4 then (if x4 ≤ x5 then ((threshingref02_line.f k ((x0.take (x5 : Int).toNat).drop (x4 : Int).toNat)).bind fun bt121 => (if x3.length < 4398046511104 then (threshingref02_Lines.l0 k x0 (x3 ++ [(⟨bt121.1, bt121.2⟩ : S64)]) (wrap64 (x5 + 1)) (wrap64 (x5 + 1))) else (none))) else (none)) else (none)))) else (if x5 < (x0.length : Int) then (if 0 ≤ x5 then (if (rd x0 x5) = 10 then (if 0 ≤ x4 then (if x4 ≤ x5 then ((threshingref02_line.f k ((x0.take (x5 : Int).toNat).drop (x4 : Int).toNat)).bind fun bt130 => (if x3.length < 4398046511104 then (threshingref02_Lines.l0 k x0 (x3 ++ [(⟨bt130.1, bt130.2⟩ : S64)]) (wrap64 (x5 + 1)) (wrap64 (x5 + 1))) else (none))) else (none)) else (none)) else (threshingref02_Lines.l0 k x0 x3 x4 (wrap64 (x5 + 1)))) else (none)) else (if 0 ≤ x4 then (if x4 ≤ x5 then ((threshingref02_line.f k ((x0.take (x5 : Int).toNat).drop (x4 : Int).toNat)).bind fun bt138 => (if x3.length < 4398046511104 then (threshingref02_Lines.l0 k x0 (x3 ++ [(⟨bt138.1, bt138.2⟩ : S64)]) (wrap64 (x5 + 1)) (wrap64 (x5 + 1))) else (none))) else (none)) else (none)))) else (some x3)
def threshingref02_Lines.f (k : Nat) (l0 : List Int) : Option ((List (S64))) := threshingref02_Lines.l0 k l0 ([] : List (S64)) 0 0
theorem threshingref02_Lines.mono_l : ∀ k, (∀ y0 y1 y2 y3, LeO (threshingref02_Lines.l0 k y0 y1 y2 y3) (threshingref02_Lines.l0 (k + 1) y0 y1 y2 y3))
  | 0 => fun _ _ _ _ r h => by simp [threshingref02_Lines.l0] at h
  | k + 1 => by
    have ih0 := threshingref02_Lines.mono_l k
    · intro y0 y1 y2 y3
      unfold threshingref02_Lines.l0
      repeat' first
      | (with_reducible exact ih0 _ _ _ _)
      | (with_reducible exact threshingref02_line.mono _ _)
      | (with_reducible exact LeO.refl _)
      | (with_reducible exact LeO.none _)
      | (with_reducible refine LeO.ite ?_ ?_)
      | (with_reducible refine LeO.bind ?_ (fun _ => ?_))
      | exact ih0 _ _ _ _
      | exact threshingref02_line.mono _ _
      | exact LeO.none _
      | refine LeO.ite ?_ ?_
      | refine LeO.bind ?_ (fun _ => ?_)
theorem threshingref02_Lines.mono : ∀ a0 k, LeO (threshingref02_Lines.f k a0) (threshingref02_Lines.f (k + 1) a0) := by
  intro a0 k
  have ih0 := threshingref02_Lines.mono_l k
  unfold threshingref02_Lines.f
  repeat' first
      | (with_reducible exact ih0 _ _ _ _)
      | (with_reducible exact threshingref02_line.mono _ _)
      | (with_reducible exact LeO.refl _)
      | (with_reducible exact LeO.none _)
      | (with_reducible refine LeO.ite ?_ ?_)
      | (with_reducible refine LeO.bind ?_ (fun _ => ?_))
      | exact ih0 _ _ _ _
      | exact threshingref02_line.mono _ _
      | exact LeO.none _
      | refine LeO.ite ?_ ?_
      | refine LeO.bind ?_ (fun _ => ?_)
set_option maxHeartbeats 8000000 in
set_option maxRecDepth 100000 in
theorem threshingref02_Lines.calls (k : Nat) (A0 : Option Addr) (c0 : Nat) (l0 : List Int) (r : List (S64)) (w : World) (hr0 : Kd.C (Kd.int .u8) w A0 l0.length l0) (hc0 : l0.length ≤ c0) (h : threshingref02_Lines.f k l0 = some r) :
    Calls Tryz.prog 17 #[.slice A0 l0.length c0] w fun e w' => ∃ v0_ : Value, e = .returned (v0_) ∧ Kd.S k64 53 w' w.heap.size (fun _ => True) v0_ r ∧ Below w.heap.size w w' := by
  have HR0 := Aside0.mk hr0
  have HC0 := Aside0.mk hc0
  clear hr0 hc0
  have HB := Aside0.mk (Below.refl w.heap.size w)
  have H : (threshingref02_Lines.l0 k l0 ([] : List (S64)) 0 0) = some r := h
  clear h
  have H' := Aside0.mk H
  clear H
  go_enter Tryz.func17, Tryz.ntmps17
  go_wp2
  go_loopg [3, 4, 5] k (fun kq v3 v4 v5 w' => ∃ (x3_1 : List (S64)) (x4_1 : Int) (x5_1 : Int), v4 = .int .i64 x4_1 ∧ v5 = .int .i64 x5_1 ∧ Aside0 (threshingref02_Lines.l0 kq l0 x3_1 x4_1 x5_1 = some r) ∧ Aside0 (kq ≤ k) ∧ Aside0 (Kd.S k64 53 w' w.heap.size (fun _ => True) v3 x3_1) ∧ Aside0 (Below w.heap.size w w'))
  case atStart => exact ⟨(([] : List (S64))), (0), (0), (by first | rfl | (simp; done) | (simp [*]; done)), (by first | rfl | (simp; done) | (simp [*]; done)), H', ⟨Nat.le_refl _⟩, ⟨by first | exact Kd.S_nil _ _ _ _ _ | exact Kd.N_nil _ _ _ _ _ | exact Kd.V_nil _ _ _ _ _ | exact Kd.Q_nil _ _ _ _ _ | exact Kd.R_nil _ _ _ _ _⟩, ⟨by repeat (first | (with_reducible first | exact HB.out | apply below_alloc | apply pw_below_drewN | apply below_drew1) | exact HB.out)⟩⟩
  case round =>
    clear H'
    obtain ⟨x3_1, x4_1, x5_1, rfl, rfl, HA, HK1, HO_3, HB⟩ := hrel
    cases gk with
    | zero => exact absurd HA.out (by simp [threshingref02_Lines.l0])
    | succ k1 =>
      have H := HA.out
      clear HA
      simp only [threshingref02_Lines.l0] at H
      by_cases c2 : x5_1 ≤ (l0.length : Int)
      · rw [if_pos c2] at H
        have c2b0 : decide (x5_1 ≤ (l0.length : Int)) = true := decide_eq_true c2
        clear c2
        by_cases c3 : x5_1 = (l0.length : Int)
        · rw [if_pos c3] at H
          have c3b0 : (x5_1 == (l0.length : Int)) = true := beq_iff_eq.mpr c3
          have c3b1 : (x5_1 != (l0.length : Int)) = false := bne_eq_false_iff_eq.mpr c3
          clear c3
          by_cases c4 : x4_1 = x5_1
          · rw [if_pos c4] at H
            have c4b0 : (x4_1 == x5_1) = true := beq_iff_eq.mpr c4
            have c4b1 : (x4_1 != x5_1) = false := bne_eq_false_iff_eq.mpr c4
            clear c4
            have H' := Aside0.mk H
            clear H
            go_wp2
            go_roundg k1
            case measure => have := HK1.out; omega
            case rel => exact ⟨(x3_1), (x4_1), (wrap64 (x5_1 + 1)), (by first | rfl | (simp; done) | (simp [*]; done)), (by first | rfl | (simp; done) | (simp [*]; done)), H', ⟨by have := HK1.out; omega⟩, ⟨by (with_reducible repeat (first | apply Kd.S_alloc | apply Kd.S_drewN | apply Kd.S_drew)); exact HO_3.out⟩, ⟨by repeat (first | (with_reducible first | exact HB.out | apply below_alloc | apply pw_below_drewN | apply below_drew1) | exact HB.out)⟩⟩
          · rw [if_neg c4] at H
            have c4b0 : (x4_1 == x5_1) = false := beq_eq_false_iff_ne.mpr c4
            have c4b1 : (x4_1 != x5_1) = true := bne_iff_ne.mpr c4
            by_cases c5 : x5_1 < (l0.length : Int)
            · rw [if_pos c5] at H
              have c5b0 : decide (x5_1 < (l0.length : Int)) = true := decide_eq_true c5
              clear c5
              by_cases c6 : 0 ≤ x5_1
              · rw [if_pos c6] at H
                have c6b0 : decide (0 ≤ x5_1) = true := decide_eq_true c6
                clear c6
                by_cases c7 : (rd l0 x5_1) = 10
                · rw [if_pos c7] at H
                  have c7b0 : ((rd l0 x5_1) == 10) = true := beq_iff_eq.mpr c7
                  have c7b1 : ((rd l0 x5_1) != 10) = false := bne_eq_false_iff_eq.mpr c7
                  clear c7
                  by_cases c8 : 0 ≤ x4_1
                  · rw [if_pos c8] at H
                    have c8b0 := eq_true c8
                    have c8b1 : decide (0 ≤ x4_1) = true := decide_eq_true c8
                    clear c8
                    by_cases c9 : x4_1 ≤ x5_1
                    · rw [if_pos c9] at H
                      have c9b0 := eq_true c9
                      have c9b1 : decide (x4_1 ≤ x5_1) = true := decide_eq_true c9
                      clear c9
                      have c10b0 := eq_true (of_decide_eq_true (by first | (with_reducible assumption) | assumption) : x5_1 ≤ (l0.length : Int))
                      replace H := Option.bind_eq_some_iff.mp H
                      obtain ⟨⟨t113, t116⟩, A110, H⟩ := H
                      replace H : (if x3_1.length < 4398046511104 then (threshingref02_Lines.l0 k1 l0 (x3_1 ++ [(⟨t113, t116⟩ : S64)]) (wrap64 (x5_1 + 1)) (wrap64 (x5_1 + 1))) else (none)) = some r := H
                      have A11 := Aside0.mk A110
                      clear A110
                      by_cases c12 : x3_1.length < 4398046511104
                      · rw [if_pos c12] at H
                        have LMc12 := Aside0.mk c12
                        clear c12
                        obtain ⟨y117, hy117⟩ : ∃ y_ : List (S64), y_ = (x3_1 ++ [(⟨t113, t116⟩ : S64)]) := ⟨_, rfl⟩
                        replace H : (threshingref02_Lines.l0 k1 l0 y117 (wrap64 (x5_1 + 1)) (wrap64 (x5_1 + 1))) = some r := by first | (rw [hy117]; with_reducible exact H) | (have H2_ := (Option.bind_some _ _).symm.trans H; rw [hy117]; with_reducible exact H2_) | (have H2_ := (Option.bind_some _ _).symm.trans H; with_reducible exact H2_) | with_reducible exact H | (rw [hy117]; exact H) | exact H
                        have Ny117 := Aside0.mk hy117
                        clear hy117
                        have H' := Aside0.mk H
                        clear H
                        have p111 : 0 ≤ (x5_1 : Int) := of_decide_eq_true (by first | (with_reducible assumption) | assumption)
                        have q111 : x5_1 < (l0.length : Int) := of_decide_eq_true (by first | (with_reducible assumption) | assumption)
                        obtain ⟨ad111, e111, hx111_0⟩ := Kd.at_int HR0.out x5_1 p111 q111
                        cases e111
                        replace hx111_0 := (HB.out.cell (World.block_lt_of_cell? w _ hx111_0)).trans hx111_0
                        replace p111 := eq_true p111
                        replace q111 := eq_true q111
                        obtain ⟨i013, hi013, _, hsz13, _⟩ := info_parts info5
                        obtain ⟨A13, hcut13, hA13, hC13⟩ := print_mid_of (P := Tryz.prog) (Value.int .u8) 0 46 5 .i64 .i64 Tryz.underlying46 hi013 hsz13 (some ad111) c0 l0 x4_1 x5_1 (of_decide_eq_true (by first | (with_reducible assumption) | assumption)) (by first | omega | exact of_decide_eq_true (by first | (with_reducible assumption) | assumption)) (of_decide_eq_true (by first | (with_reducible assumption) | assumption)) HC0.out
                        have HR112 := Aside0.mk (Kd.C_of_reads (h1 := fun _ => rfl) (hA13 _ (Kd.reads_of_C HR0.out)))
                        have HC112 := Aside0.mk hC13
                        clear hA13 hC13 hi013 hsz13
                        go_wp2_with (first | ((with_reducible refine gate_callee (f := 38) rfl ?_); refine goesL_ (some 39) rfl rfl Tryz.func38 (by kernel_rfl) rfl #[.slice A13 ((l0.take (x5_1 : Int).toNat).drop (x4_1 : Int).toNat).length (c0 - x4_1.toNat)] rfl (by (try simp only [List.map_toArray, List.map_cons, List.map_nil]); first | done | (rw [show ((l0.take (x5_1 : Int).toNat).drop (x4_1 : Int).toNat).length = (x5_1.toNat - x4_1.toNat) from (by rw [List.length_drop, List.length_take]; have h_ : (x5_1 : Int) ≤ (l0.length : Int) := of_decide_eq_true (by first | (with_reducible assumption) | assumption); omega)] <;> rfl) | rfl | (simp only [List.length_drop, List.length_take]; rfl)) ?_; (with_reducible refine (threshingref02_line.calls k1 _ _ ((l0.take (x5_1 : Int).toNat).drop (x4_1 : Int).toNat) t113 t116 _ ?side1 ?side2 A11.out).mono ?_); (case side1 => repeat (first | exact (Kd.C_below HR112.out HB.out) | (with_reducible refine Kd.C_alloc ?_ _) | (with_reducible refine Kd.C_drewN ?_ _) | (with_reducible refine Kd.C_drew ?_))); (case side2 => exact HC112.out); rintro e w14 ⟨v114, rfl, ho0, hb⟩; refine ⟨_, rfl, ?_⟩; have n0_ := Aside0.mk (Kd.S_elder' (by (with_reducible repeat (first | apply Kd.S_alloc | apply Kd.S_drewN | apply Kd.S_drew)); exact HO_3.out) (Kd.R_base ho0) hb); have n1_ := Aside0.mk (Kd.R_lower ho0 (below_size (by repeat (first | (with_reducible first | exact HB.out | apply below_alloc | apply pw_below_drewN | apply below_drew1) | exact HB.out)))); have n2_ := Aside0.mk (below_step (by repeat (first | (with_reducible first | exact HB.out | apply below_alloc | apply pw_below_drewN | apply below_drew1) | exact HB.out)) hb); clear HO_3; clear HB; have HO_3 := n0_; have HO115 := n1_; have HB := n2_; clear n0_ n1_ n2_; (try clear hb); (try clear hb2); (try clear hk); (try clear hi); (try clear ho0); obtain ⟨Ao16, co16, eo16⟩ := Kd.R_slice HO115.out; subst eo16) | ((with_reducible refine gate_builtin (b := .append) (xs := #[.tmp 34, .tmp 40]) rfl ?_); (try (refine gate_guard (by rfl) ?_; dsimp only)); at_builtin; refine Kd.S_append k64 (w0 := w) w.heap.size rfl (.tmp 34) (.tmp 40) 50 53 (.agg #[(.slice none 0 0), (.bool false)]) 32 rfl Tryz.underlying50 info64 rfl (by decide) (by omega) u3 x3_1 (⟨t113, t116⟩ : S64) [.slice Ao16 t113.length co16, .bool t116] (fun _ => True) (fun k_ => some k_ = (.slice Ao16 t113.length co16 : Value).ownBlock) rfl rfl ?aP (fun k_ hk_ => ((Kd.R_mono (ok' := fun k_ => ((fun _ => True)) k_ ∧ some k_ ≠ (u3 : Value).ownBlock) (Kd.R_apart' (HO115.out) (Kd.S_typed HO_3.out) (by decide)) (fun k_ hk => ⟨trivial, hk.2⟩))).1 k_ hk_.symm) ?aF ?aO ?aB ?aS ?aL ?_; (case aP => exact k64_mkM _ _ _ (⟨t113, t116⟩ : S64) (Kd.R_mono (Kd.R_tight rfl (Kd.R_mono (ok' := fun k_ => ((fun _ => True)) k_ ∧ some k_ ≠ (u3 : Value).ownBlock) (Kd.R_apart' (HO115.out) (Kd.S_typed HO_3.out) (by decide)) (fun k_ hk => ⟨trivial, hk.2⟩))) (fun _ h_ => h_))); (case aB => exact (by repeat (first | (with_reducible first | exact HB.out | apply below_alloc | apply pw_below_drewN | apply below_drew1) | exact HB.out))); (case aF => exact (fun _ _ => trivial)); (case aO => exact (by (with_reducible repeat (first | apply Kd.S_alloc | apply Kd.S_drewN | apply Kd.S_drew)); exact Kd.S_mono HO_3.out (fun k_ hk => ⟨trivial, fun e_ => hk.2 e_⟩))); (case aS => exact (below_size (by repeat (first | (with_reducible first | exact HB.out | apply below_alloc | apply pw_below_drewN | apply below_drew1) | exact HB.out)))); (case aL => have := LMc12.out; omega); intro v118 w15 ho hb hg hat; rw [← Ny117.out] at ho; have n0_ := Aside0.mk (hb); have n1_ := Aside0.mk (ho); clear HB; clear HO_3; clear HO115; have HB := n0_; have HO119 := n1_; clear n0_ n1_; clear ho hb hg hat))
                        go_roundg k1
                        case measure => have := HK1.out; omega
                        case rel => exact ⟨(y117), (wrap64 (x5_1 + 1)), (wrap64 (x5_1 + 1)), (by first | rfl | (simp; done) | (simp [*]; done)), (by first | rfl | (simp; done) | (simp [*]; done)), H', ⟨by have := HK1.out; omega⟩, ⟨by (with_reducible repeat (first | apply Kd.S_alloc | apply Kd.S_drewN | apply Kd.S_drew)); exact HO119.out⟩, ⟨by repeat (first | (with_reducible first | exact HB.out | apply below_alloc | apply pw_below_drewN | apply below_drew1) | exact HB.out)⟩⟩
                      · rw [if_neg c12] at H
                        exact absurd H (by simp)
                    · rw [if_neg c9] at H
                      exact absurd H (by simp)
                  · rw [if_neg c8] at H
                    exact absurd H (by simp)
                · rw [if_neg c7] at H
                  have c7b0 : ((rd l0 x5_1) == 10) = false := beq_eq_false_iff_ne.mpr c7
                  have c7b1 : ((rd l0 x5_1) != 10) = true := bne_iff_ne.mpr c7
                  have H' := Aside0.mk H
                  clear H
                  have p111 : 0 ≤ (x5_1 : Int) := of_decide_eq_true (by first | (with_reducible assumption) | assumption)
                  have q111 : x5_1 < (l0.length : Int) := of_decide_eq_true (by first | (with_reducible assumption) | assumption)
                  obtain ⟨ad111, e111, hx111_0⟩ := Kd.at_int HR0.out x5_1 p111 q111
                  cases e111
                  replace hx111_0 := (HB.out.cell (World.block_lt_of_cell? w _ hx111_0)).trans hx111_0
                  replace p111 := eq_true p111
                  replace q111 := eq_true q111
                  go_wp2
                  go_roundg k1
                  case measure => have := HK1.out; omega
                  case rel => exact ⟨(x3_1), (x4_1), (wrap64 (x5_1 + 1)), (by first | rfl | (simp; done) | (simp [*]; done)), (by first | rfl | (simp; done) | (simp [*]; done)), H', ⟨by have := HK1.out; omega⟩, ⟨by (with_reducible repeat (first | apply Kd.S_alloc | apply Kd.S_drewN | apply Kd.S_drew)); exact HO_3.out⟩, ⟨by repeat (first | (with_reducible first | exact HB.out | apply below_alloc | apply pw_below_drewN | apply below_drew1) | exact HB.out)⟩⟩
              · rw [if_neg c6] at H
                exact absurd H (by simp)
            · rw [if_neg c5] at H
              have c5b0 : decide (x5_1 < (l0.length : Int)) = false := decide_eq_false c5
              clear c5
              by_cases c17 : 0 ≤ x4_1
              · rw [if_pos c17] at H
                have c17b0 := eq_true c17
                have c17b1 : decide (0 ≤ x4_1) = true := decide_eq_true c17
                clear c17
                by_cases c18 : x4_1 ≤ x5_1
                · rw [if_pos c18] at H
                  have c18b0 := eq_true c18
                  have c18b1 : decide (x4_1 ≤ x5_1) = true := decide_eq_true c18
                  clear c18
                  have c19b0 := eq_true (of_decide_eq_true (by first | (with_reducible assumption) | assumption) : x5_1 ≤ (l0.length : Int))
                  replace H := Option.bind_eq_some_iff.mp H
                  obtain ⟨⟨t121, t124⟩, A200, H⟩ := H
                  replace H : (if x3_1.length < 4398046511104 then (threshingref02_Lines.l0 k1 l0 (x3_1 ++ [(⟨t121, t124⟩ : S64)]) (wrap64 (x5_1 + 1)) (wrap64 (x5_1 + 1))) else (none)) = some r := H
                  have A20 := Aside0.mk A200
                  clear A200
                  by_cases c21 : x3_1.length < 4398046511104
                  · rw [if_pos c21] at H
                    have LMc21 := Aside0.mk c21
                    clear c21
                    obtain ⟨y125, hy125⟩ : ∃ y_ : List (S64), y_ = (x3_1 ++ [(⟨t121, t124⟩ : S64)]) := ⟨_, rfl⟩
                    replace H : (threshingref02_Lines.l0 k1 l0 y125 (wrap64 (x5_1 + 1)) (wrap64 (x5_1 + 1))) = some r := by first | (rw [hy125]; with_reducible exact H) | (have H2_ := (Option.bind_some _ _).symm.trans H; rw [hy125]; with_reducible exact H2_) | (have H2_ := (Option.bind_some _ _).symm.trans H; with_reducible exact H2_) | with_reducible exact H | (rw [hy125]; exact H) | exact H
                    have Ny125 := Aside0.mk hy125
                    clear hy125
                    have H' := Aside0.mk H
                    clear H
                    obtain ⟨i022, hi022, _, hsz22, _⟩ := info_parts info5
                    obtain ⟨A22, hcut22, hA22, hC22⟩ := print_mid_of (P := Tryz.prog) (Value.int .u8) 0 46 5 .i64 .i64 Tryz.underlying46 hi022 hsz22 A0 c0 l0 x4_1 x5_1 (of_decide_eq_true (by first | (with_reducible assumption) | assumption)) (by first | omega | exact of_decide_eq_true (by first | (with_reducible assumption) | assumption)) (of_decide_eq_true (by first | (with_reducible assumption) | assumption)) HC0.out
                    have HR120 := Aside0.mk (Kd.C_of_reads (h1 := fun _ => rfl) (hA22 _ (Kd.reads_of_C HR0.out)))
                    have HC120 := Aside0.mk hC22
                    clear hA22 hC22 hi022 hsz22
                    go_wp2_with (first | ((with_reducible refine gate_callee (f := 38) rfl ?_); refine goesL_ (some 39) rfl rfl Tryz.func38 (by kernel_rfl) rfl #[.slice A22 ((l0.take (x5_1 : Int).toNat).drop (x4_1 : Int).toNat).length (c0 - x4_1.toNat)] rfl (by (try simp only [List.map_toArray, List.map_cons, List.map_nil]); first | done | (rw [show ((l0.take (x5_1 : Int).toNat).drop (x4_1 : Int).toNat).length = (x5_1.toNat - x4_1.toNat) from (by rw [List.length_drop, List.length_take]; have h_ : (x5_1 : Int) ≤ (l0.length : Int) := of_decide_eq_true (by first | (with_reducible assumption) | assumption); omega)] <;> rfl) | rfl | (simp only [List.length_drop, List.length_take]; rfl)) ?_; (with_reducible refine (threshingref02_line.calls k1 _ _ ((l0.take (x5_1 : Int).toNat).drop (x4_1 : Int).toNat) t121 t124 _ ?side1 ?side2 A20.out).mono ?_); (case side1 => repeat (first | exact (Kd.C_below HR120.out HB.out) | (with_reducible refine Kd.C_alloc ?_ _) | (with_reducible refine Kd.C_drewN ?_ _) | (with_reducible refine Kd.C_drew ?_))); (case side2 => exact HC120.out); rintro e w23 ⟨v122, rfl, ho0, hb⟩; refine ⟨_, rfl, ?_⟩; have n0_ := Aside0.mk (Kd.S_elder' (by (with_reducible repeat (first | apply Kd.S_alloc | apply Kd.S_drewN | apply Kd.S_drew)); exact HO_3.out) (Kd.R_base ho0) hb); have n1_ := Aside0.mk (Kd.R_lower ho0 (below_size (by repeat (first | (with_reducible first | exact HB.out | apply below_alloc | apply pw_below_drewN | apply below_drew1) | exact HB.out)))); have n2_ := Aside0.mk (below_step (by repeat (first | (with_reducible first | exact HB.out | apply below_alloc | apply pw_below_drewN | apply below_drew1) | exact HB.out)) hb); clear HO_3; clear HB; have HO_3 := n0_; have HO123 := n1_; have HB := n2_; clear n0_ n1_ n2_; (try clear hb); (try clear hb2); (try clear hk); (try clear hi); (try clear ho0); obtain ⟨Ao25, co25, eo25⟩ := Kd.R_slice HO123.out; subst eo25) | ((with_reducible refine gate_builtin (b := .append) (xs := #[.tmp 34, .tmp 40]) rfl ?_); (try (refine gate_guard (by rfl) ?_; dsimp only)); at_builtin; refine Kd.S_append k64 (w0 := w) w.heap.size rfl (.tmp 34) (.tmp 40) 50 53 (.agg #[(.slice none 0 0), (.bool false)]) 32 rfl Tryz.underlying50 info64 rfl (by decide) (by omega) u3 x3_1 (⟨t121, t124⟩ : S64) [.slice Ao25 t121.length co25, .bool t124] (fun _ => True) (fun k_ => some k_ = (.slice Ao25 t121.length co25 : Value).ownBlock) rfl rfl ?aP (fun k_ hk_ => ((Kd.R_mono (ok' := fun k_ => ((fun _ => True)) k_ ∧ some k_ ≠ (u3 : Value).ownBlock) (Kd.R_apart' (HO123.out) (Kd.S_typed HO_3.out) (by decide)) (fun k_ hk => ⟨trivial, hk.2⟩))).1 k_ hk_.symm) ?aF ?aO ?aB ?aS ?aL ?_; (case aP => exact k64_mkM _ _ _ (⟨t121, t124⟩ : S64) (Kd.R_mono (Kd.R_tight rfl (Kd.R_mono (ok' := fun k_ => ((fun _ => True)) k_ ∧ some k_ ≠ (u3 : Value).ownBlock) (Kd.R_apart' (HO123.out) (Kd.S_typed HO_3.out) (by decide)) (fun k_ hk => ⟨trivial, hk.2⟩))) (fun _ h_ => h_))); (case aB => exact (by repeat (first | (with_reducible first | exact HB.out | apply below_alloc | apply pw_below_drewN | apply below_drew1) | exact HB.out))); (case aF => exact (fun _ _ => trivial)); (case aO => exact (by (with_reducible repeat (first | apply Kd.S_alloc | apply Kd.S_drewN | apply Kd.S_drew)); exact Kd.S_mono HO_3.out (fun k_ hk => ⟨trivial, fun e_ => hk.2 e_⟩))); (case aS => exact (below_size (by repeat (first | (with_reducible first | exact HB.out | apply below_alloc | apply pw_below_drewN | apply below_drew1) | exact HB.out)))); (case aL => have := LMc21.out; omega); intro v126 w24 ho hb hg hat; rw [← Ny125.out] at ho; have n0_ := Aside0.mk (hb); have n1_ := Aside0.mk (ho); clear HB; clear HO_3; clear HO123; have HB := n0_; have HO127 := n1_; clear n0_ n1_; clear ho hb hg hat))
                    go_roundg k1
                    case measure => have := HK1.out; omega
                    case rel => exact ⟨(y125), (wrap64 (x5_1 + 1)), (wrap64 (x5_1 + 1)), (by first | rfl | (simp; done) | (simp [*]; done)), (by first | rfl | (simp; done) | (simp [*]; done)), H', ⟨by have := HK1.out; omega⟩, ⟨by (with_reducible repeat (first | apply Kd.S_alloc | apply Kd.S_drewN | apply Kd.S_drew)); exact HO127.out⟩, ⟨by repeat (first | (with_reducible first | exact HB.out | apply below_alloc | apply pw_below_drewN | apply below_drew1) | exact HB.out)⟩⟩
                  · rw [if_neg c21] at H
                    exact absurd H (by simp)
                · rw [if_neg c18] at H
                  exact absurd H (by simp)
              · rw [if_neg c17] at H
                exact absurd H (by simp)
        · rw [if_neg c3] at H
          have c3b0 : (x5_1 == (l0.length : Int)) = false := beq_eq_false_iff_ne.mpr c3
          have c3b1 : (x5_1 != (l0.length : Int)) = true := bne_iff_ne.mpr c3
          by_cases c26 : x5_1 < (l0.length : Int)
          · rw [if_pos c26] at H
            have c26b0 : decide (x5_1 < (l0.length : Int)) = true := decide_eq_true c26
            clear c26
            by_cases c27 : 0 ≤ x5_1
            · rw [if_pos c27] at H
              have c27b0 : decide (0 ≤ x5_1) = true := decide_eq_true c27
              clear c27
              by_cases c28 : (rd l0 x5_1) = 10
              · rw [if_pos c28] at H
                have c28b0 : ((rd l0 x5_1) == 10) = true := beq_iff_eq.mpr c28
                have c28b1 : ((rd l0 x5_1) != 10) = false := bne_eq_false_iff_eq.mpr c28
                clear c28
                by_cases c29 : 0 ≤ x4_1
                · rw [if_pos c29] at H
                  have c29b0 := eq_true c29
                  have c29b1 : decide (0 ≤ x4_1) = true := decide_eq_true c29
                  clear c29
                  by_cases c30 : x4_1 ≤ x5_1
                  · rw [if_pos c30] at H
                    have c30b0 := eq_true c30
                    have c30b1 : decide (x4_1 ≤ x5_1) = true := decide_eq_true c30
                    clear c30
                    have c31b0 := eq_true (of_decide_eq_true (by first | (with_reducible assumption) | assumption) : x5_1 ≤ (l0.length : Int))
                    replace H := Option.bind_eq_some_iff.mp H
                    obtain ⟨⟨t130, t133⟩, A320, H⟩ := H
                    replace H : (if x3_1.length < 4398046511104 then (threshingref02_Lines.l0 k1 l0 (x3_1 ++ [(⟨t130, t133⟩ : S64)]) (wrap64 (x5_1 + 1)) (wrap64 (x5_1 + 1))) else (none)) = some r := H
                    have A32 := Aside0.mk A320
                    clear A320
                    by_cases c33 : x3_1.length < 4398046511104
                    · rw [if_pos c33] at H
                      have LMc33 := Aside0.mk c33
                      clear c33
                      obtain ⟨y134, hy134⟩ : ∃ y_ : List (S64), y_ = (x3_1 ++ [(⟨t130, t133⟩ : S64)]) := ⟨_, rfl⟩
                      replace H : (threshingref02_Lines.l0 k1 l0 y134 (wrap64 (x5_1 + 1)) (wrap64 (x5_1 + 1))) = some r := by first | (rw [hy134]; with_reducible exact H) | (have H2_ := (Option.bind_some _ _).symm.trans H; rw [hy134]; with_reducible exact H2_) | (have H2_ := (Option.bind_some _ _).symm.trans H; with_reducible exact H2_) | with_reducible exact H | (rw [hy134]; exact H) | exact H
                      have Ny134 := Aside0.mk hy134
                      clear hy134
                      have H' := Aside0.mk H
                      clear H
                      have p128 : 0 ≤ (x5_1 : Int) := of_decide_eq_true (by first | (with_reducible assumption) | assumption)
                      have q128 : x5_1 < (l0.length : Int) := of_decide_eq_true (by first | (with_reducible assumption) | assumption)
                      obtain ⟨ad128, e128, hx128_0⟩ := Kd.at_int HR0.out x5_1 p128 q128
                      cases e128
                      replace hx128_0 := (HB.out.cell (World.block_lt_of_cell? w _ hx128_0)).trans hx128_0
                      replace p128 := eq_true p128
                      replace q128 := eq_true q128
                      obtain ⟨i034, hi034, _, hsz34, _⟩ := info_parts info5
                      obtain ⟨A34, hcut34, hA34, hC34⟩ := print_mid_of (P := Tryz.prog) (Value.int .u8) 0 46 5 .i64 .i64 Tryz.underlying46 hi034 hsz34 (some ad128) c0 l0 x4_1 x5_1 (of_decide_eq_true (by first | (with_reducible assumption) | assumption)) (by first | omega | exact of_decide_eq_true (by first | (with_reducible assumption) | assumption)) (of_decide_eq_true (by first | (with_reducible assumption) | assumption)) HC0.out
                      have HR129 := Aside0.mk (Kd.C_of_reads (h1 := fun _ => rfl) (hA34 _ (Kd.reads_of_C HR0.out)))
                      have HC129 := Aside0.mk hC34
                      clear hA34 hC34 hi034 hsz34
                      go_wp2_with (first | ((with_reducible refine gate_callee (f := 38) rfl ?_); refine goesL_ (some 39) rfl rfl Tryz.func38 (by kernel_rfl) rfl #[.slice A34 ((l0.take (x5_1 : Int).toNat).drop (x4_1 : Int).toNat).length (c0 - x4_1.toNat)] rfl (by (try simp only [List.map_toArray, List.map_cons, List.map_nil]); first | done | (rw [show ((l0.take (x5_1 : Int).toNat).drop (x4_1 : Int).toNat).length = (x5_1.toNat - x4_1.toNat) from (by rw [List.length_drop, List.length_take]; have h_ : (x5_1 : Int) ≤ (l0.length : Int) := of_decide_eq_true (by first | (with_reducible assumption) | assumption); omega)] <;> rfl) | rfl | (simp only [List.length_drop, List.length_take]; rfl)) ?_; (with_reducible refine (threshingref02_line.calls k1 _ _ ((l0.take (x5_1 : Int).toNat).drop (x4_1 : Int).toNat) t130 t133 _ ?side1 ?side2 A32.out).mono ?_); (case side1 => repeat (first | exact (Kd.C_below HR129.out HB.out) | (with_reducible refine Kd.C_alloc ?_ _) | (with_reducible refine Kd.C_drewN ?_ _) | (with_reducible refine Kd.C_drew ?_))); (case side2 => exact HC129.out); rintro e w35 ⟨v131, rfl, ho0, hb⟩; refine ⟨_, rfl, ?_⟩; have n0_ := Aside0.mk (Kd.S_elder' (by (with_reducible repeat (first | apply Kd.S_alloc | apply Kd.S_drewN | apply Kd.S_drew)); exact HO_3.out) (Kd.R_base ho0) hb); have n1_ := Aside0.mk (Kd.R_lower ho0 (below_size (by repeat (first | (with_reducible first | exact HB.out | apply below_alloc | apply pw_below_drewN | apply below_drew1) | exact HB.out)))); have n2_ := Aside0.mk (below_step (by repeat (first | (with_reducible first | exact HB.out | apply below_alloc | apply pw_below_drewN | apply below_drew1) | exact HB.out)) hb); clear HO_3; clear HB; have HO_3 := n0_; have HO132 := n1_; have HB := n2_; clear n0_ n1_ n2_; (try clear hb); (try clear hb2); (try clear hk); (try clear hi); (try clear ho0); obtain ⟨Ao37, co37, eo37⟩ := Kd.R_slice HO132.out; subst eo37) | ((with_reducible refine gate_builtin (b := .append) (xs := #[.tmp 34, .tmp 40]) rfl ?_); (try (refine gate_guard (by rfl) ?_; dsimp only)); at_builtin; refine Kd.S_append k64 (w0 := w) w.heap.size rfl (.tmp 34) (.tmp 40) 50 53 (.agg #[(.slice none 0 0), (.bool false)]) 32 rfl Tryz.underlying50 info64 rfl (by decide) (by omega) u3 x3_1 (⟨t130, t133⟩ : S64) [.slice Ao37 t130.length co37, .bool t133] (fun _ => True) (fun k_ => some k_ = (.slice Ao37 t130.length co37 : Value).ownBlock) rfl rfl ?aP (fun k_ hk_ => ((Kd.R_mono (ok' := fun k_ => ((fun _ => True)) k_ ∧ some k_ ≠ (u3 : Value).ownBlock) (Kd.R_apart' (HO132.out) (Kd.S_typed HO_3.out) (by decide)) (fun k_ hk => ⟨trivial, hk.2⟩))).1 k_ hk_.symm) ?aF ?aO ?aB ?aS ?aL ?_; (case aP => exact k64_mkM _ _ _ (⟨t130, t133⟩ : S64) (Kd.R_mono (Kd.R_tight rfl (Kd.R_mono (ok' := fun k_ => ((fun _ => True)) k_ ∧ some k_ ≠ (u3 : Value).ownBlock) (Kd.R_apart' (HO132.out) (Kd.S_typed HO_3.out) (by decide)) (fun k_ hk => ⟨trivial, hk.2⟩))) (fun _ h_ => h_))); (case aB => exact (by repeat (first | (with_reducible first | exact HB.out | apply below_alloc | apply pw_below_drewN | apply below_drew1) | exact HB.out))); (case aF => exact (fun _ _ => trivial)); (case aO => exact (by (with_reducible repeat (first | apply Kd.S_alloc | apply Kd.S_drewN | apply Kd.S_drew)); exact Kd.S_mono HO_3.out (fun k_ hk => ⟨trivial, fun e_ => hk.2 e_⟩))); (case aS => exact (below_size (by repeat (first | (with_reducible first | exact HB.out | apply below_alloc | apply pw_below_drewN | apply below_drew1) | exact HB.out)))); (case aL => have := LMc33.out; omega); intro v135 w36 ho hb hg hat; rw [← Ny134.out] at ho; have n0_ := Aside0.mk (hb); have n1_ := Aside0.mk (ho); clear HB; clear HO_3; clear HO132; have HB := n0_; have HO136 := n1_; clear n0_ n1_; clear ho hb hg hat))
                      go_roundg k1
                      case measure => have := HK1.out; omega
                      case rel => exact ⟨(y134), (wrap64 (x5_1 + 1)), (wrap64 (x5_1 + 1)), (by first | rfl | (simp; done) | (simp [*]; done)), (by first | rfl | (simp; done) | (simp [*]; done)), H', ⟨by have := HK1.out; omega⟩, ⟨by (with_reducible repeat (first | apply Kd.S_alloc | apply Kd.S_drewN | apply Kd.S_drew)); exact HO136.out⟩, ⟨by repeat (first | (with_reducible first | exact HB.out | apply below_alloc | apply pw_below_drewN | apply below_drew1) | exact HB.out)⟩⟩
                    · rw [if_neg c33] at H
                      exact absurd H (by simp)
                  · rw [if_neg c30] at H
                    exact absurd H (by simp)
                · rw [if_neg c29] at H
                  exact absurd H (by simp)
              · rw [if_neg c28] at H
                have c28b0 : ((rd l0 x5_1) == 10) = false := beq_eq_false_iff_ne.mpr c28
                have c28b1 : ((rd l0 x5_1) != 10) = true := bne_iff_ne.mpr c28
                have H' := Aside0.mk H
                clear H
                have p128 : 0 ≤ (x5_1 : Int) := of_decide_eq_true (by first | (with_reducible assumption) | assumption)
                have q128 : x5_1 < (l0.length : Int) := of_decide_eq_true (by first | (with_reducible assumption) | assumption)
                obtain ⟨ad128, e128, hx128_0⟩ := Kd.at_int HR0.out x5_1 p128 q128
                cases e128
                replace hx128_0 := (HB.out.cell (World.block_lt_of_cell? w _ hx128_0)).trans hx128_0
                replace p128 := eq_true p128
                replace q128 := eq_true q128
                go_wp2
                go_roundg k1
                case measure => have := HK1.out; omega
                case rel => exact ⟨(x3_1), (x4_1), (wrap64 (x5_1 + 1)), (by first | rfl | (simp; done) | (simp [*]; done)), (by first | rfl | (simp; done) | (simp [*]; done)), H', ⟨by have := HK1.out; omega⟩, ⟨by (with_reducible repeat (first | apply Kd.S_alloc | apply Kd.S_drewN | apply Kd.S_drew)); exact HO_3.out⟩, ⟨by repeat (first | (with_reducible first | exact HB.out | apply below_alloc | apply pw_below_drewN | apply below_drew1) | exact HB.out)⟩⟩
            · rw [if_neg c27] at H
              exact absurd H (by simp)
          · rw [if_neg c26] at H
            have c26b0 : decide (x5_1 < (l0.length : Int)) = false := decide_eq_false c26
            clear c26
            by_cases c38 : 0 ≤ x4_1
            · rw [if_pos c38] at H
              have c38b0 := eq_true c38
              have c38b1 : decide (0 ≤ x4_1) = true := decide_eq_true c38
              clear c38
              by_cases c39 : x4_1 ≤ x5_1
              · rw [if_pos c39] at H
                have c39b0 := eq_true c39
                have c39b1 : decide (x4_1 ≤ x5_1) = true := decide_eq_true c39
                clear c39
                have c40b0 := eq_true (of_decide_eq_true (by first | (with_reducible assumption) | assumption) : x5_1 ≤ (l0.length : Int))
                replace H := Option.bind_eq_some_iff.mp H
                obtain ⟨⟨t138, t141⟩, A410, H⟩ := H
                replace H : (if x3_1.length < 4398046511104 then (threshingref02_Lines.l0 k1 l0 (x3_1 ++ [(⟨t138, t141⟩ : S64)]) (wrap64 (x5_1 + 1)) (wrap64 (x5_1 + 1))) else (none)) = some r := H
                have A41 := Aside0.mk A410
                clear A410
                by_cases c42 : x3_1.length < 4398046511104
                · rw [if_pos c42] at H
                  have LMc42 := Aside0.mk c42
                  clear c42
                  obtain ⟨y142, hy142⟩ : ∃ y_ : List (S64), y_ = (x3_1 ++ [(⟨t138, t141⟩ : S64)]) := ⟨_, rfl⟩
                  replace H : (threshingref02_Lines.l0 k1 l0 y142 (wrap64 (x5_1 + 1)) (wrap64 (x5_1 + 1))) = some r := by first | (rw [hy142]; with_reducible exact H) | (have H2_ := (Option.bind_some _ _).symm.trans H; rw [hy142]; with_reducible exact H2_) | (have H2_ := (Option.bind_some _ _).symm.trans H; with_reducible exact H2_) | with_reducible exact H | (rw [hy142]; exact H) | exact H
                  have Ny142 := Aside0.mk hy142
                  clear hy142
                  have H' := Aside0.mk H
                  clear H
                  obtain ⟨i043, hi043, _, hsz43, _⟩ := info_parts info5
                  obtain ⟨A43, hcut43, hA43, hC43⟩ := print_mid_of (P := Tryz.prog) (Value.int .u8) 0 46 5 .i64 .i64 Tryz.underlying46 hi043 hsz43 A0 c0 l0 x4_1 x5_1 (of_decide_eq_true (by first | (with_reducible assumption) | assumption)) (by first | omega | exact of_decide_eq_true (by first | (with_reducible assumption) | assumption)) (of_decide_eq_true (by first | (with_reducible assumption) | assumption)) HC0.out
                  have HR137 := Aside0.mk (Kd.C_of_reads (h1 := fun _ => rfl) (hA43 _ (Kd.reads_of_C HR0.out)))
                  have HC137 := Aside0.mk hC43
                  clear hA43 hC43 hi043 hsz43
                  go_wp2_with (first | ((with_reducible refine gate_callee (f := 38) rfl ?_); refine goesL_ (some 39) rfl rfl Tryz.func38 (by kernel_rfl) rfl #[.slice A43 ((l0.take (x5_1 : Int).toNat).drop (x4_1 : Int).toNat).length (c0 - x4_1.toNat)] rfl (by (try simp only [List.map_toArray, List.map_cons, List.map_nil]); first | done | (rw [show ((l0.take (x5_1 : Int).toNat).drop (x4_1 : Int).toNat).length = (x5_1.toNat - x4_1.toNat) from (by rw [List.length_drop, List.length_take]; have h_ : (x5_1 : Int) ≤ (l0.length : Int) := of_decide_eq_true (by first | (with_reducible assumption) | assumption); omega)] <;> rfl) | rfl | (simp only [List.length_drop, List.length_take]; rfl)) ?_; (with_reducible refine (threshingref02_line.calls k1 _ _ ((l0.take (x5_1 : Int).toNat).drop (x4_1 : Int).toNat) t138 t141 _ ?side1 ?side2 A41.out).mono ?_); (case side1 => repeat (first | exact (Kd.C_below HR137.out HB.out) | (with_reducible refine Kd.C_alloc ?_ _) | (with_reducible refine Kd.C_drewN ?_ _) | (with_reducible refine Kd.C_drew ?_))); (case side2 => exact HC137.out); rintro e w44 ⟨v139, rfl, ho0, hb⟩; refine ⟨_, rfl, ?_⟩; have n0_ := Aside0.mk (Kd.S_elder' (by (with_reducible repeat (first | apply Kd.S_alloc | apply Kd.S_drewN | apply Kd.S_drew)); exact HO_3.out) (Kd.R_base ho0) hb); have n1_ := Aside0.mk (Kd.R_lower ho0 (below_size (by repeat (first | (with_reducible first | exact HB.out | apply below_alloc | apply pw_below_drewN | apply below_drew1) | exact HB.out)))); have n2_ := Aside0.mk (below_step (by repeat (first | (with_reducible first | exact HB.out | apply below_alloc | apply pw_below_drewN | apply below_drew1) | exact HB.out)) hb); clear HO_3; clear HB; have HO_3 := n0_; have HO140 := n1_; have HB := n2_; clear n0_ n1_ n2_; (try clear hb); (try clear hb2); (try clear hk); (try clear hi); (try clear ho0); obtain ⟨Ao46, co46, eo46⟩ := Kd.R_slice HO140.out; subst eo46) | ((with_reducible refine gate_builtin (b := .append) (xs := #[.tmp 34, .tmp 40]) rfl ?_); (try (refine gate_guard (by rfl) ?_; dsimp only)); at_builtin; refine Kd.S_append k64 (w0 := w) w.heap.size rfl (.tmp 34) (.tmp 40) 50 53 (.agg #[(.slice none 0 0), (.bool false)]) 32 rfl Tryz.underlying50 info64 rfl (by decide) (by omega) u3 x3_1 (⟨t138, t141⟩ : S64) [.slice Ao46 t138.length co46, .bool t141] (fun _ => True) (fun k_ => some k_ = (.slice Ao46 t138.length co46 : Value).ownBlock) rfl rfl ?aP (fun k_ hk_ => ((Kd.R_mono (ok' := fun k_ => ((fun _ => True)) k_ ∧ some k_ ≠ (u3 : Value).ownBlock) (Kd.R_apart' (HO140.out) (Kd.S_typed HO_3.out) (by decide)) (fun k_ hk => ⟨trivial, hk.2⟩))).1 k_ hk_.symm) ?aF ?aO ?aB ?aS ?aL ?_; (case aP => exact k64_mkM _ _ _ (⟨t138, t141⟩ : S64) (Kd.R_mono (Kd.R_tight rfl (Kd.R_mono (ok' := fun k_ => ((fun _ => True)) k_ ∧ some k_ ≠ (u3 : Value).ownBlock) (Kd.R_apart' (HO140.out) (Kd.S_typed HO_3.out) (by decide)) (fun k_ hk => ⟨trivial, hk.2⟩))) (fun _ h_ => h_))); (case aB => exact (by repeat (first | (with_reducible first | exact HB.out | apply below_alloc | apply pw_below_drewN | apply below_drew1) | exact HB.out))); (case aF => exact (fun _ _ => trivial)); (case aO => exact (by (with_reducible repeat (first | apply Kd.S_alloc | apply Kd.S_drewN | apply Kd.S_drew)); exact Kd.S_mono HO_3.out (fun k_ hk => ⟨trivial, fun e_ => hk.2 e_⟩))); (case aS => exact (below_size (by repeat (first | (with_reducible first | exact HB.out | apply below_alloc | apply pw_below_drewN | apply below_drew1) | exact HB.out)))); (case aL => have := LMc42.out; omega); intro v143 w45 ho hb hg hat; rw [← Ny142.out] at ho; have n0_ := Aside0.mk (hb); have n1_ := Aside0.mk (ho); clear HB; clear HO_3; clear HO140; have HB := n0_; have HO144 := n1_; clear n0_ n1_; clear ho hb hg hat))
                  go_roundg k1
                  case measure => have := HK1.out; omega
                  case rel => exact ⟨(y142), (wrap64 (x5_1 + 1)), (wrap64 (x5_1 + 1)), (by first | rfl | (simp; done) | (simp [*]; done)), (by first | rfl | (simp; done) | (simp [*]; done)), H', ⟨by have := HK1.out; omega⟩, ⟨by (with_reducible repeat (first | apply Kd.S_alloc | apply Kd.S_drewN | apply Kd.S_drew)); exact HO144.out⟩, ⟨by repeat (first | (with_reducible first | exact HB.out | apply below_alloc | apply pw_below_drewN | apply below_drew1) | exact HB.out)⟩⟩
                · rw [if_neg c42] at H
                  exact absurd H (by simp)
              · rw [if_neg c39] at H
                exact absurd H (by simp)
            · rw [if_neg c38] at H
              exact absurd H (by simp)
      · rw [if_neg c2] at H
        have c2b0 : decide (x5_1 ≤ (l0.length : Int)) = false := decide_eq_false c2
        clear c2
        obtain rfl := Option.some.inj H
        go_wp2
        go_ret
        exact ⟨_, by first | rfl | (simp [errW_none, errW_some] <;> rfl) | (simp [*, errW_none, errW_some] <;> rfl), by (with_reducible repeat (first | apply Kd.S_alloc | apply Kd.S_drewN | apply Kd.S_drew)); exact HO_3.out, by repeat (first | (with_reducible first | exact HB.out | apply below_alloc | apply pw_below_drewN | apply below_drew1) | exact HB.out)⟩
end Go.Proofs.YtigloobbpcnnhaaGreatDoor.PB
end
section
namespace Go.Proofs.YtigloobbpcnnhaaGreatDoor.PB
open Go.RowKit Go.Proofs.YtigloobbpcnnhaaGreatDoorW.PrintWords Go.Proofs.YtigloobbpcnnhaaGreatDoorW.PrintLast Go.Proofs.YtigloobbpcnnhaaGreatDoorW.PrintMore
attribute [local go_sem] max2_int min2_int max_two min_two max_three min_three max_four min_four   -- for this text's walks alone
set_option linter.unusedVariables false
set_option linter.unusedSimpArgs false
def threshingref02_head.l0 : Nat → List (S64) → Int → Option (Int)
  | 0, _, _ => none
  | k + 1, x0, x3 => if x3 < (x0.length : Int) then (if 0 ≤ x3 then (if ((rd_T64 x0 x3).f1 = true) then (threshingref02_head.l0 k x0 (wrap64 (x3 + 1))) else (if (((rd_T64 x0 x3).f0).length : Int) > 0 then (some x3) else (threshingref02_head.l0 k x0 (wrap64 (x3 + 1))))) else (none)) else (some (-1))
def threshingref02_head.f (k : Nat) (l0 : List (S64)) : Option (Int) := threshingref02_head.l0 k l0 0
theorem threshingref02_head.mono_l : ∀ k, (∀ y0 y1, LeO (threshingref02_head.l0 k y0 y1) (threshingref02_head.l0 (k + 1) y0 y1))
  | 0 => fun _ _ r h => by simp [threshingref02_head.l0] at h
  | k + 1 => by
    have ih0 := threshingref02_head.mono_l k
    · intro y0 y1
      unfold threshingref02_head.l0
      repeat' first
      | (with_reducible exact ih0 _ _)
      | (with_reducible exact LeO.refl _)
      | (with_reducible exact LeO.none _)
      | (with_reducible refine LeO.ite ?_ ?_)
      | (with_reducible refine LeO.bind ?_ (fun _ => ?_))
      | exact ih0 _ _
      | exact LeO.none _
      | refine LeO.ite ?_ ?_
      | refine LeO.bind ?_ (fun _ => ?_)
theorem threshingref02_head.mono : ∀ a0 k, LeO (threshingref02_head.f k a0) (threshingref02_head.f (k + 1) a0) := by
  intro a0 k
  have ih0 := threshingref02_head.mono_l k
  unfold threshingref02_head.f
  repeat' first
      | (with_reducible exact ih0 _ _)
      | (with_reducible exact LeO.refl _)
      | (with_reducible exact LeO.none _)
      | (with_reducible refine LeO.ite ?_ ?_)
      | (with_reducible refine LeO.bind ?_ (fun _ => ?_))
      | exact ih0 _ _
      | exact LeO.none _
      | refine LeO.ite ?_ ?_
      | refine LeO.bind ?_ (fun _ => ?_)
set_option maxHeartbeats 8000000 in
set_option maxRecDepth 100000 in
theorem threshingref02_head.calls (k : Nat) (A0 : Option Addr) (c0 : Nat) (l0 : List (S64)) (r : Int) (w : World) (hr0 : Kd.C k64 w A0 l0.length l0) (hc0 : l0.length ≤ c0) (h : threshingref02_head.f k l0 = some r) :
    Calls Tryz.prog 44 #[.slice A0 l0.length c0] w fun e w' => e = .returned (.int .i64 r) ∧ Drawn0 w w' := by
  have HR0 := Aside0.mk hr0
  have HC0 := Aside0.mk hc0
  clear hr0 hc0
  have H : (threshingref02_head.l0 k l0 0) = some r := h
  clear h
  have H' := Aside0.mk H
  clear H
  go_enter Tryz.func44, Tryz.ntmps44
  go_wp2
  go_loopg [3] k (fun kq v3 w' => ∃ (x3_1 : Int), v3 = .int .i64 x3_1 ∧ Aside0 (threshingref02_head.l0 kq l0 x3_1 = some r) ∧ Aside0 (kq ≤ k) ∧ Drawn0 w w')
  case atStart => exact ⟨(0), (by first | rfl | (simp; done) | (simp [*]; done)), H', ⟨Nat.le_refl _⟩, by repeat (first | exact Drawn0.refl _ | apply Drawn0.step)⟩
  case round =>
    clear H'
    obtain ⟨x3_1, rfl, HA, HK1, ⟨m1, rfl⟩⟩ := hrel
    cases gk with
    | zero => exact absurd HA.out (by simp [threshingref02_head.l0])
    | succ k1 =>
      have H := HA.out
      clear HA
      simp only [threshingref02_head.l0] at H
      by_cases c2 : x3_1 < (l0.length : Int)
      · rw [if_pos c2] at H
        have c2b0 : decide (x3_1 < (l0.length : Int)) = true := decide_eq_true c2
        clear c2
        by_cases c3 : 0 ≤ x3_1
        · rw [if_pos c3] at H
          have c3b0 : decide (0 ≤ x3_1) = true := decide_eq_true c3
          clear c3
          obtain ⟨bq4, hbq4⟩ : ∃ b_ : Bool, b_ = ((rd_T64 l0 x3_1).f1) := ⟨_, rfl⟩
          replace H : (if (bq4 = true) then (threshingref02_head.l0 k1 l0 (wrap64 (x3_1 + 1))) else (if (((rd_T64 l0 x3_1).f0).length : Int) > 0 then (some x3_1) else (threshingref02_head.l0 k1 l0 (wrap64 (x3_1 + 1))))) = some r := by rw [← hbq4] at H; exact H
          have Nbq4 := Aside0.mk hbq4
          clear hbq4
          by_cases c5 : (bq4 = true)
          · subst c5
            have H1 : (threshingref02_head.l0 k1 l0 (wrap64 (x3_1 + 1))) = some r := by rw [if_pos rfl] at H; exact H
            clear H
            have H := H1
            clear H1
            have H' := Aside0.mk H
            clear H
            have p145 : 0 ≤ (x3_1 : Int) := of_decide_eq_true (by first | (with_reducible assumption) | assumption)
            have q145 : x3_1 < (l0.length : Int) := of_decide_eq_true (by first | (with_reducible assumption) | assumption)
            obtain ⟨ad145, A145_0, c145_0, e145, hx145_0, hx145_1, hl145_0, hi145_0⟩ := at_T64 HR0.out x3_1 p145 q145
            (try rw [← Nbq4.out] at hx145_1)
            cases e145
            have HR145_0 := Aside0.mk hi145_0
            have HC145_0 := Aside0.mk hl145_0
            clear hi145_0 hl145_0
            replace p145 := eq_true p145
            replace q145 := eq_true q145
            go_wp2
            go_roundg k1
            case measure => have := HK1.out; omega
            case rel => exact ⟨(wrap64 (x3_1 + 1)), (by first | rfl | (simp; done) | (simp [*]; done)), H', ⟨by have := HK1.out; omega⟩, by repeat (first | exact Drawn0.refl _ | apply Drawn0.step)⟩
          · replace c5 := Bool.eq_false_iff.mpr c5
            subst c5
            have H1 : (if (((rd_T64 l0 x3_1).f0).length : Int) > 0 then (some x3_1) else (threshingref02_head.l0 k1 l0 (wrap64 (x3_1 + 1)))) = some r := by rw [if_neg (show ¬ (false = true) by decide)] at H; exact H
            clear H
            have H := H1
            clear H1
            by_cases c6 : (((rd_T64 l0 x3_1).f0).length : Int) > 0
            · rw [if_pos c6] at H
              have c6b0 : decide (0 < (((rd_T64 l0 x3_1).f0).length : Int)) = true := decide_eq_true c6
              have c6b1 : decide (0 < ((rd_T64 l0 x3_1).f0).length) = true := decide_eq_true (by omega)
              clear c6
              obtain rfl := Option.some.inj H
              have p145 : 0 ≤ (x3_1 : Int) := of_decide_eq_true (by first | (with_reducible assumption) | assumption)
              have q145 : x3_1 < (l0.length : Int) := of_decide_eq_true (by first | (with_reducible assumption) | assumption)
              obtain ⟨ad145, A145_0, c145_0, e145, hx145_0, hx145_1, hl145_0, hi145_0⟩ := at_T64 HR0.out x3_1 p145 q145
              (try rw [← Nbq4.out] at hx145_1)
              cases e145
              have HR145_0 := Aside0.mk hi145_0
              have HC145_0 := Aside0.mk hl145_0
              clear hi145_0 hl145_0
              replace p145 := eq_true p145
              replace q145 := eq_true q145
              have p146 : 0 ≤ (x3_1 : Int) := of_decide_eq_true (by first | (with_reducible assumption) | assumption)
              have q146 : x3_1 < (l0.length : Int) := of_decide_eq_true (by first | (with_reducible assumption) | assumption)
              obtain ⟨ad146, A146_0, c146_0, e146, hx146_0, hx146_1, hl146_0, hi146_0⟩ := at_T64 HR0.out x3_1 p146 q146
              (try rw [← Nbq4.out] at hx146_1)
              obtain rfl : ad145 = ad146 := (by injection e146)
              have HR146_0 := Aside0.mk hi146_0
              have HC146_0 := Aside0.mk hl146_0
              clear hi146_0 hl146_0
              replace p146 := eq_true p146
              replace q146 := eq_true q146
              have ea_ := Option.some.inj (hx145_0.symm.trans hx146_0)
              injection ea_ with ea_ en_ ec_
              subst ea_
              subst ec_
              clear en_
              go_wp2
              go_ret
              exact ⟨by first | rfl | (simp; done) | (simp [*]; done), by repeat (first | exact Drawn0.refl _ | apply Drawn0.step)⟩
            · rw [if_neg c6] at H
              have c6b0 : decide (0 < (((rd_T64 l0 x3_1).f0).length : Int)) = false := decide_eq_false c6
              have c6b1 : decide (0 < ((rd_T64 l0 x3_1).f0).length) = false := decide_eq_false (by omega)
              clear c6
              have H' := Aside0.mk H
              clear H
              have p145 : 0 ≤ (x3_1 : Int) := of_decide_eq_true (by first | (with_reducible assumption) | assumption)
              have q145 : x3_1 < (l0.length : Int) := of_decide_eq_true (by first | (with_reducible assumption) | assumption)
              obtain ⟨ad145, A145_0, c145_0, e145, hx145_0, hx145_1, hl145_0, hi145_0⟩ := at_T64 HR0.out x3_1 p145 q145
              (try rw [← Nbq4.out] at hx145_1)
              cases e145
              have HR145_0 := Aside0.mk hi145_0
              have HC145_0 := Aside0.mk hl145_0
              clear hi145_0 hl145_0
              replace p145 := eq_true p145
              replace q145 := eq_true q145
              have p146 : 0 ≤ (x3_1 : Int) := of_decide_eq_true (by first | (with_reducible assumption) | assumption)
              have q146 : x3_1 < (l0.length : Int) := of_decide_eq_true (by first | (with_reducible assumption) | assumption)
              obtain ⟨ad146, A146_0, c146_0, e146, hx146_0, hx146_1, hl146_0, hi146_0⟩ := at_T64 HR0.out x3_1 p146 q146
              (try rw [← Nbq4.out] at hx146_1)
              obtain rfl : ad145 = ad146 := (by injection e146)
              have HR146_0 := Aside0.mk hi146_0
              have HC146_0 := Aside0.mk hl146_0
              clear hi146_0 hl146_0
              replace p146 := eq_true p146
              replace q146 := eq_true q146
              have ea_ := Option.some.inj (hx145_0.symm.trans hx146_0)
              injection ea_ with ea_ en_ ec_
              subst ea_
              subst ec_
              clear en_
              go_wp2
              go_roundg k1
              case measure => have := HK1.out; omega
              case rel => exact ⟨(wrap64 (x3_1 + 1)), (by first | rfl | (simp; done) | (simp [*]; done)), H', ⟨by have := HK1.out; omega⟩, by repeat (first | exact Drawn0.refl _ | apply Drawn0.step)⟩
        · rw [if_neg c3] at H
          exact absurd H (by simp)
      · rw [if_neg c2] at H
        have c2b0 : decide (x3_1 < (l0.length : Int)) = false := decide_eq_false c2
        clear c2
        obtain rfl := Option.some.inj H
        go_wp2
        go_ret
        exact ⟨by first | rfl | (simp; done) | (simp [*]; done), by repeat (first | exact Drawn0.refl _ | apply Drawn0.step)⟩
end Go.Proofs.YtigloobbpcnnhaaGreatDoor.PB
end
section
namespace Go.Proofs.YtigloobbpcnnhaaGreatDoor.PB
open Go.RowKit Go.Proofs.YtigloobbpcnnhaaGreatDoorW.PrintWords Go.Proofs.YtigloobbpcnnhaaGreatDoorW.PrintLast Go.Proofs.YtigloobbpcnnhaaGreatDoorW.PrintMore
attribute [local go_sem] max2_int min2_int max_two min_two max_three min_three max_four min_four   -- for this text's walks alone
set_option linter.unusedVariables false
set_option linter.unusedSimpArgs false
mutual
def threshingref02_Number.j0 : Nat → ByteArray → Int → ByteArray → Bool → Option (Int × Bool × Bool)
  | 0, _, _, _, _ => none
  | k + 1, x0, x2, x9, x27 => if x27 = true then (if 1 ≤ (x0.size : Int) then (threshingref02_Number.j1 k x0 x2 (x0.extract 1 x0.size)) else (none)) else (threshingref02_Number.j1 k x0 x2 x9)
def threshingref02_Number.j1 : Nat → ByteArray → Int → ByteArray → Option (Int × Bool × Bool)
  | 0, _, _, _ => none
  | k + 1, x0, x2, x9 => threshingref02_Number.l0 k x0 x2 x9 0 0
def threshingref02_Number.l0 : Nat → ByteArray → Int → ByteArray → Int → Int → Option (Int × Bool × Bool)
  | 0, _, _, _, _, _ => none
  | k + 1, x0, x2, x9, x10, x11 => if x11 < (x9.size : Int) then (if 0 ≤ x11 then (if (bt x9 x11) < 48 then (threshingref02_Number.j3 k x0 x2 x9 x10 x11 true) else (if (bt x9 x11) > 57 then (threshingref02_Number.j3 k x0 x2 x9 x10 x11 true) else (if x11 = 0 then (if 0 < (x9.size : Int) then (if (bt x9 0) = 48 then (threshingref02_Number.j3 k x0 x2 x9 x10 x11 (decide ((x9.size : Int) > 1))) else (threshingref02_Number.j3 k x0 x2 x9 x10 x11 false)) else (none)) else (threshingref02_Number.j3 k x0 x2 x9 x10 x11 false)))) else (none)) else (if x9.toList = ([] : List UInt8) then (some (0, false, false)) else (if x10 > x2 then (some (0, true, false)) else (if (x9.size : Int) < (x0.size : Int) then (some (wrap64 (-x10), true, true)) else (some (x10, true, true)))))
def threshingref02_Number.j3 : Nat → ByteArray → Int → ByteArray → Int → Int → Bool → Option (Int × Bool × Bool)
  | 0, _, _, _, _, _, _ => none
  | k + 1, x0, x2, x9, x10, x11, x59 => if x59 = true then (some (0, false, false)) else (if x10 ≤ x2 then (if 0 ≤ x11 then (if x11 < (x9.size : Int) then (threshingref02_Number.l0 k x0 x2 x9 (wrap64 ((wrap64 (x10 * 10)) + (((bt x9 x11) - 48) % 256))) (wrap64 (x11 + 1))) else (none)) else (none)) else (threshingref02_Number.l0 k x0 x2 x9 x10 (wrap64 (x11 + 1))))
end
def threshingref02_Number.f (k : Nat) (a0 : ByteArray) (a1 : Bool) (a2 : Int) : Option (Int × Bool × Bool) := if a1 = true then (if (a0.size : Int) > 1 then (if 0 < (a0.size : Int) then (if (bt a0 0) = 45 then (threshingref02_Number.j0 k a0 a2 a0 (a0.toList != ([45, 48] : List UInt8))) else (threshingref02_Number.j0 k a0 a2 a0 false)) else (none)) else (threshingref02_Number.j0 k a0 a2 a0 false)) else (threshingref02_Number.j0 k a0 a2 a0 false)
theorem threshingref02_Number.mono_l : ∀ k, (∀ y0 y1 y2 y3, LeO (threshingref02_Number.j0 k y0 y1 y2 y3) (threshingref02_Number.j0 (k + 1) y0 y1 y2 y3)) ∧ (∀ y0 y1 y2, LeO (threshingref02_Number.j1 k y0 y1 y2) (threshingref02_Number.j1 (k + 1) y0 y1 y2)) ∧ (∀ y0 y1 y2 y3 y4, LeO (threshingref02_Number.l0 k y0 y1 y2 y3 y4) (threshingref02_Number.l0 (k + 1) y0 y1 y2 y3 y4)) ∧ (∀ y0 y1 y2 y3 y4 y5, LeO (threshingref02_Number.j3 k y0 y1 y2 y3 y4 y5) (threshingref02_Number.j3 (k + 1) y0 y1 y2 y3 y4 y5))
  | 0 => ⟨fun _ _ _ _ r h => by simp [threshingref02_Number.j0] at h, fun _ _ _ r h => by simp [threshingref02_Number.j1] at h, fun _ _ _ _ _ r h => by simp [threshingref02_Number.l0] at h, fun _ _ _ _ _ _ r h => by simp [threshingref02_Number.j3] at h⟩
  | k + 1 => by
    obtain ⟨ih0, ih1, ih2, ih3⟩ := threshingref02_Number.mono_l k
    refine ⟨?_, ?_, ?_, ?_⟩
    · intro y0 y1 y2 y3
      unfold threshingref02_Number.j0
      repeat' first
      | (with_reducible exact ih0 _ _ _ _)
      | (with_reducible exact ih1 _ _ _)
      | (with_reducible exact ih2 _ _ _ _ _)
      | (with_reducible exact ih3 _ _ _ _ _ _)
      | (with_reducible exact LeO.refl _)
      | (with_reducible exact LeO.none _)
      | (with_reducible refine LeO.ite ?_ ?_)
      | (with_reducible refine LeO.bind ?_ (fun _ => ?_))
      | exact ih0 _ _ _ _
      | exact ih1 _ _ _
      | exact ih2 _ _ _ _ _
      | exact ih3 _ _ _ _ _ _
      | exact LeO.none _
      | refine LeO.ite ?_ ?_
      | refine LeO.bind ?_ (fun _ => ?_)
    · intro y0 y1 y2
      unfold threshingref02_Number.j1
      repeat' first
      | (with_reducible exact ih0 _ _ _ _)
      | (with_reducible exact ih1 _ _ _)
      | (with_reducible exact ih2 _ _ _ _ _)
      | (with_reducible exact ih3 _ _ _ _ _ _)
      | (with_reducible exact LeO.refl _)
      | (with_reducible exact LeO.none _)
      | (with_reducible refine LeO.ite ?_ ?_)
      | (with_reducible refine LeO.bind ?_ (fun _ => ?_))
      | exact ih0 _ _ _ _
      | exact ih1 _ _ _
      | exact ih2 _ _ _ _ _
      | exact ih3 _ _ _ _ _ _
      | exact LeO.none _
      | refine LeO.ite ?_ ?_
      | refine LeO.bind ?_ (fun _ => ?_)
    · intro y0 y1 y2 y3 y4
      unfold threshingref02_Number.l0
      repeat' first
      | (with_reducible exact ih0 _ _ _ _)
      | (with_reducible exact ih1 _ _ _)
      | (with_reducible exact ih2 _ _ _ _ _)
      | (with_reducible exact ih3 _ _ _ _ _ _)
      | (with_reducible exact LeO.refl _)
      | (with_reducible exact LeO.none _)
      | (with_reducible refine LeO.ite ?_ ?_)
      | (with_reducible refine LeO.bind ?_ (fun _ => ?_))
      | exact ih0 _ _ _ _
      | exact ih1 _ _ _
      | exact ih2 _ _ _ _ _
      | exact ih3 _ _ _ _ _ _
      | exact LeO.none _
      | refine LeO.ite ?_ ?_
      | refine LeO.bind ?_ (fun _ => ?_)
    · intro y0 y1 y2 y3 y4 y5
      unfold threshingref02_Number.j3
      repeat' first
      | (with_reducible exact ih0 _ _ _ _)
      | (with_reducible exact ih1 _ _ _)
      | (with_reducible exact ih2 _ _ _ _ _)
      | (with_reducible exact ih3 _ _ _ _ _ _)
      | (with_reducible exact LeO.refl _)
      | (with_reducible exact LeO.none _)
      | (with_reducible refine LeO.ite ?_ ?_)
      | (with_reducible refine LeO.bind ?_ (fun _ => ?_))
      | exact ih0 _ _ _ _
      | exact ih1 _ _ _
      | exact ih2 _ _ _ _ _
      | exact ih3 _ _ _ _ _ _
      | exact LeO.none _
      | refine LeO.ite ?_ ?_
      | refine LeO.bind ?_ (fun _ => ?_)
theorem threshingref02_Number.mono : ∀ a0 a1 a2 k, LeO (threshingref02_Number.f k a0 a1 a2) (threshingref02_Number.f (k + 1) a0 a1 a2) := by
  intro a0 a1 a2 k
  obtain ⟨ih0, ih1, ih2, ih3⟩ := threshingref02_Number.mono_l k
  unfold threshingref02_Number.f
  repeat' first
      | (with_reducible exact ih0 _ _ _ _)
      | (with_reducible exact ih1 _ _ _)
      | (with_reducible exact ih2 _ _ _ _ _)
      | (with_reducible exact ih3 _ _ _ _ _ _)
      | (with_reducible exact LeO.refl _)
      | (with_reducible exact LeO.none _)
      | (with_reducible refine LeO.ite ?_ ?_)
      | (with_reducible refine LeO.bind ?_ (fun _ => ?_))
      | exact ih0 _ _ _ _
      | exact ih1 _ _ _
      | exact ih2 _ _ _ _ _
      | exact ih3 _ _ _ _ _ _
      | exact LeO.none _
      | refine LeO.ite ?_ ?_
      | refine LeO.bind ?_ (fun _ => ?_)
set_option maxHeartbeats 8000000 in
set_option maxRecDepth 100000 in
theorem threshingref02_Number.calls (k : Nat) (a0 : ByteArray) (a1 : Bool) (a2 : Int) (r1 : Int) (r2 : Bool) (r3 : Bool) (w : World) (h : threshingref02_Number.f k a0 a1 a2 = some (r1, r2, r3)) :
    Calls Tryz.prog 18 #[.string a0, .bool a1, .int .i64 a2] w fun e w' => e = .returned (.tuple #[.int .i64 r1, .bool r2, .bool r3]) ∧ Drawn0 w w' := by
  have H : (if a1 = true then (if (a0.size : Int) > 1 then (if 0 < (a0.size : Int) then (if (bt a0 0) = 45 then (threshingref02_Number.j0 k a0 a2 a0 (a0.toList != ([45, 48] : List UInt8))) else (threshingref02_Number.j0 k a0 a2 a0 false)) else (none)) else (threshingref02_Number.j0 k a0 a2 a0 false)) else (threshingref02_Number.j0 k a0 a2 a0 false)) = some (r1, r2, r3) := h
  clear h
  have HC4 := Aside0.mk H
  clear H
  go_enter Tryz.func18, Tryz.ntmps18
  go_upto_region 2 with (fail)
  go_cut [27] (fun v27 wc => ∃ (kq : Nat) (x27_3 : Bool), v27 = .bool x27_3 ∧ Aside0 (threshingref02_Number.j0 kq a0 a2 a0 x27_3 = some (r1, r2, r3)) ∧ Aside0 (kq ≤ k) ∧ Drawn0 w wc)
  case first =>
    have H := HC4.out
    clear HC4
    by_cases c5 : a1 = true
    · subst c5
      have H1 : (if (a0.size : Int) > 1 then (if 0 < (a0.size : Int) then (if (bt a0 0) = 45 then (threshingref02_Number.j0 k a0 a2 a0 (a0.toList != ([45, 48] : List UInt8))) else (threshingref02_Number.j0 k a0 a2 a0 false)) else (none)) else (threshingref02_Number.j0 k a0 a2 a0 false)) = some (r1, r2, r3) := by rw [if_pos rfl] at H; exact H
      clear H
      have H := H1
      clear H1
      by_cases c6 : (a0.size : Int) > 1
      · rw [if_pos c6] at H
        have c6b0 : decide (1 < (a0.size : Int)) = true := decide_eq_true c6
        have c6b1 : decide (1 < a0.size) = true := decide_eq_true (by omega)
        clear c6
        (first | rw [c6b0] | (simp only [i64_w, i32_w]; rw [c6b0]) | skip)
        by_cases c7 : 0 < (a0.size : Int)
        · rw [if_pos c7] at H
          have c7b0 : decide (0 < (a0.size : Int)) = true := decide_eq_true c7
          have c7b1 : decide (0 < a0.size) = true := decide_eq_true (by omega)
          clear c7
          by_cases c9 : (bt a0 0) = 45
          · rw [if_pos c9] at H
            have c9b0 : ((bt a0 0) == 45) = true := beq_iff_eq.mpr c9
            have c9b1 : ((bt a0 0) != 45) = false := bne_eq_false_iff_eq.mpr c9
            clear c9
            have H' := Aside0.mk H
            clear H
            have p8 : 0 ≤ (0 : Int) := (by omega)
            have q8 : 0 < a0.size := (by have : (0 : Int) < (a0.size : Int) := of_decide_eq_true (by first | (with_reducible assumption) | assumption); omega)
            have hx8 : ∀ h : 0 < a0.size, ((a0[0]'h).toNat : Int) = bt a0 0 := bt_at a0 0
            clear p8
            have qi8 : (0 < (a0.size : Int)) = True := eq_true (of_decide_eq_true (by first | (with_reducible assumption) | assumption))
            replace q8 := eq_true q8
            go_wp2
            go_meet
            case rel => exact ⟨_, ((a0.toList != ([45, 48] : List UInt8))), (by first | rfl | (simp; done) | (simp [*]; done)), H', ⟨by first | omega | exact Nat.le_refl _⟩, by repeat (first | exact Drawn0.refl _ | apply Drawn0.step)⟩
          · rw [if_neg c9] at H
            have c9b0 : ((bt a0 0) == 45) = false := beq_eq_false_iff_ne.mpr c9
            have c9b1 : ((bt a0 0) != 45) = true := bne_iff_ne.mpr c9
            have H' := Aside0.mk H
            clear H
            have p8 : 0 ≤ (0 : Int) := (by omega)
            have q8 : 0 < a0.size := (by have : (0 : Int) < (a0.size : Int) := of_decide_eq_true (by first | (with_reducible assumption) | assumption); omega)
            have hx8 : ∀ h : 0 < a0.size, ((a0[0]'h).toNat : Int) = bt a0 0 := bt_at a0 0
            clear p8
            have qi8 : (0 < (a0.size : Int)) = True := eq_true (of_decide_eq_true (by first | (with_reducible assumption) | assumption))
            replace q8 := eq_true q8
            go_wp2
            go_meet
            case rel => exact ⟨_, (false), (by first | rfl | (simp; done) | (simp [*]; done)), H', ⟨by first | omega | exact Nat.le_refl _⟩, by repeat (first | exact Drawn0.refl _ | apply Drawn0.step)⟩
        · rw [if_neg c7] at H
          exact absurd H (by simp)
      · rw [if_neg c6] at H
        have c6b0 : decide (1 < (a0.size : Int)) = false := decide_eq_false c6
        have c6b1 : decide (1 < a0.size) = false := decide_eq_false (by omega)
        clear c6
        (first | rw [c6b0] | (simp only [i64_w, i32_w]; rw [c6b0]) | skip)
        have H' := Aside0.mk H
        clear H
        go_wp2
        go_meet
        case rel => exact ⟨_, (false), (by first | rfl | (simp; done) | (simp [*]; done)), H', ⟨by first | omega | exact Nat.le_refl _⟩, by repeat (first | exact Drawn0.refl _ | apply Drawn0.step)⟩
    · replace c5 := Bool.eq_false_iff.mpr c5
      subst c5
      have H1 : (threshingref02_Number.j0 k a0 a2 a0 false) = some (r1, r2, r3) := by rw [if_neg (show ¬ (false = true) by decide)] at H; exact H
      clear H
      have H := H1
      clear H1
      have H' := Aside0.mk H
      clear H
      go_wp2
      go_meet
      case rel => exact ⟨_, (false), (by first | rfl | (simp; done) | (simp [*]; done)), H', ⟨by first | omega | exact Nat.le_refl _⟩, by repeat (first | exact Drawn0.refl _ | apply Drawn0.step)⟩
  case rest =>
    clear HC4
    try clear c2
    try clear p2
    try clear c5
    try clear c6
    try clear c6b0
    try clear c6b1
    try clear c7
    try clear c7b0
    try clear c7b1
    try clear p8
    try clear q8
    try clear hx8
    try clear qi8
    try clear c9
    try clear c9b0
    try clear c9b1
    try clear p8
    try clear q8
    obtain ⟨kq, x27_3, rfl, HA, HJ3, ⟨mc3, rfl⟩⟩ := hcut
    cases kq with
    | zero => exact absurd HA.out (by simp [threshingref02_Number.j0])
    | succ kj3 =>
      have H := HA.out
      clear HA
      simp only [threshingref02_Number.j0] at H
      have HC10 := Aside0.mk H
      clear H
      go_upto_if 27 with (fail)
      go_cut [9] (fun v9 wc => ∃ (kq : Nat) (x9_9 : ByteArray), v9 = .string x9_9 ∧ Aside0 (threshingref02_Number.j1 kq a0 a2 x9_9 = some (r1, r2, r3)) ∧ Aside0 (kq ≤ kj3) ∧ Drawn0 w wc)
      case first =>
        have H := HC10.out
        clear HC10
        by_cases c11 : x27_3 = true
        · subst c11
          have H1 : (if 1 ≤ (a0.size : Int) then (threshingref02_Number.j1 kj3 a0 a2 (a0.extract 1 a0.size)) else (none)) = some (r1, r2, r3) := by rw [if_pos rfl] at H; exact H
          clear H
          have H := H1
          clear H1
          by_cases c12 : 1 ≤ (a0.size : Int)
          · rw [if_pos c12] at H
            have c12b0 := eq_true c12
            have c12b1 : decide (1 ≤ (a0.size : Int)) = true := decide_eq_true c12
            clear c12
            have H' := Aside0.mk H
            clear H
            go_wp2
            go_meet
            case rel => exact ⟨_, (a0.extract 1 a0.size), (by first | rfl | (simp; done) | (simp [*]; done)), H', ⟨by have := HJ3.out; first | omega | exact Nat.le_refl _⟩, by repeat (first | exact Drawn0.refl _ | apply Drawn0.step)⟩
          · rw [if_neg c12] at H
            exact absurd H (by simp)
        · replace c11 := Bool.eq_false_iff.mpr c11
          subst c11
          have H1 : (threshingref02_Number.j1 kj3 a0 a2 a0) = some (r1, r2, r3) := by rw [if_neg (show ¬ (false = true) by decide)] at H; exact H
          clear H
          have H := H1
          clear H1
          have H' := Aside0.mk H
          clear H
          go_wp2
          go_meet
          case rel => exact ⟨_, (a0), (by first | rfl | (simp; done) | (simp [*]; done)), H', ⟨by have := HJ3.out; first | omega | exact Nat.le_refl _⟩, by repeat (first | exact Drawn0.refl _ | apply Drawn0.step)⟩
      case rest =>
        clear HC10
        try clear c1
        try clear c2
        try clear p2
        try clear c3
        try clear c5
        try clear c6
        try clear c6b0
        try clear c6b1
        try clear c7
        try clear c7b0
        try clear c7b1
        try clear p8
        try clear q8
        try clear hx8
        try clear qi8
        try clear c9
        try clear c9b0
        try clear c9b1
        try clear c11
        try clear c12
        try clear c12b0
        try clear c12b1
        try clear p2
        try clear p8
        try clear q8
        obtain ⟨kq, x9_9, rfl, HA, HJ9, ⟨mc9, rfl⟩⟩ := hcut
        cases kq with
        | zero => exact absurd HA.out (by simp [threshingref02_Number.j1])
        | succ kj9 =>
          have H := HA.out
          clear HA
          simp only [threshingref02_Number.j1] at H
          have H' := Aside0.mk H
          clear H
          go_wp2
          go_loopg [10, 11] kj9 (fun kq v10 v11 w' => ∃ (x10_3 : Int) (x11_3 : Int), v10 = .int .i64 x10_3 ∧ v11 = .int .i64 x11_3 ∧ Aside0 (threshingref02_Number.l0 kq a0 a2 x9_9 x10_3 x11_3 = some (r1, r2, r3)) ∧ Aside0 (kq ≤ kj9) ∧ Drawn0 w w')
          case atStart => exact ⟨(0), (0), (by first | rfl | (simp; done) | (simp [*]; done)), (by first | rfl | (simp; done) | (simp [*]; done)), H', ⟨Nat.le_refl _⟩, by repeat (first | exact Drawn0.refl _ | apply Drawn0.step)⟩
          case round =>
            clear H'
            try clear c1
            try clear c2
            try clear p2
            try clear c3
            try clear c5
            try clear c6
            try clear c6b0
            try clear c6b1
            try clear c7
            try clear c7b0
            try clear c7b1
            try clear p8
            try clear q8
            try clear hx8
            try clear qi8
            try clear c9
            try clear c9b0
            try clear c9b1
            try clear c11
            try clear c12
            try clear c12b0
            try clear c12b1
            try clear p2
            try clear p8
            try clear q8
            obtain ⟨x10_3, x11_3, rfl, rfl, HA, HK3, ⟨m3, rfl⟩⟩ := hrel
            cases gk with
            | zero => exact absurd HA.out (by simp [threshingref02_Number.l0])
            | succ k3 =>
              have H := HA.out
              clear HA
              simp only [threshingref02_Number.l0] at H
              by_cases c13 : x11_3 < (x9_9.size : Int)
              · rw [if_pos c13] at H
                have c13b0 : decide (x11_3 < (x9_9.size : Int)) = true := decide_eq_true c13
                clear c13
                have HC14 := Aside0.mk H
                clear H
                go_upto_region 8 with (fail)
                go_cut [59] (fun v59 wc => ∃ (kq : Nat) (x59_13 : Bool), v59 = .bool x59_13 ∧ Aside0 (threshingref02_Number.j3 kq a0 a2 x9_9 x10_3 x11_3 x59_13 = some (r1, r2, r3)) ∧ Aside0 (kq ≤ k3) ∧ Drawn0 w wc)
                case first =>
                  have H := HC14.out
                  clear HC14
                  by_cases c15 : 0 ≤ x11_3
                  · rw [if_pos c15] at H
                    have c15b0 : decide (0 ≤ x11_3) = true := decide_eq_true c15
                    clear c15
                    (first | rw [c15b0] | (simp only [i64_w, i32_w]; rw [c15b0]) | skip)
                    by_cases c17 : (bt x9_9 x11_3) < 48
                    · rw [if_pos c17] at H
                      have c17b0 : decide ((bt x9_9 x11_3) < 48) = true := decide_eq_true c17
                      clear c17
                      have H' := Aside0.mk H
                      clear H
                      have p16 : 0 ≤ (x11_3 : Int) := of_decide_eq_true (by first | (with_reducible assumption) | assumption)
                      have q16 : x11_3 < (x9_9.size : Int) := of_decide_eq_true (by first | (with_reducible assumption) | assumption)
                      have hx16 := bt_at x9_9 x11_3
                      replace p16 := eq_true p16
                      replace q16 := eq_true q16
                      go_wp2
                      go_meet
                      case rel => exact ⟨_, (true), (by first | rfl | (simp; done) | (simp [*]; done)), H', ⟨by have := HJ3.out; have := HJ9.out; have := HK3.out; first | omega | exact Nat.le_refl _⟩, by repeat (first | exact Drawn0.refl _ | apply Drawn0.step)⟩
                    · rw [if_neg c17] at H
                      have c17b0 : decide ((bt x9_9 x11_3) < 48) = false := decide_eq_false c17
                      clear c17
                      by_cases c19 : (bt x9_9 x11_3) > 57
                      · rw [if_pos c19] at H
                        have c19b0 : decide (57 < (bt x9_9 x11_3)) = true := decide_eq_true c19
                        clear c19
                        have H' := Aside0.mk H
                        clear H
                        have p16 : 0 ≤ (x11_3 : Int) := of_decide_eq_true (by first | (with_reducible assumption) | assumption)
                        have q16 : x11_3 < (x9_9.size : Int) := of_decide_eq_true (by first | (with_reducible assumption) | assumption)
                        have hx16 := bt_at x9_9 x11_3
                        replace p16 := eq_true p16
                        replace q16 := eq_true q16
                        have p18 : 0 ≤ (x11_3 : Int) := of_decide_eq_true (by first | (with_reducible assumption) | assumption)
                        have q18 : x11_3 < (x9_9.size : Int) := of_decide_eq_true (by first | (with_reducible assumption) | assumption)
                        have hx18 := bt_at x9_9 x11_3
                        replace p18 := eq_true p18
                        replace q18 := eq_true q18
                        go_wp2
                        go_meet
                        case rel => exact ⟨_, (true), (by first | rfl | (simp; done) | (simp [*]; done)), H', ⟨by have := HJ3.out; have := HJ9.out; have := HK3.out; first | omega | exact Nat.le_refl _⟩, by repeat (first | exact Drawn0.refl _ | apply Drawn0.step)⟩
                      · rw [if_neg c19] at H
                        have c19b0 : decide (57 < (bt x9_9 x11_3)) = false := decide_eq_false c19
                        clear c19
                        by_cases c20 : x11_3 = 0
                        · rw [if_pos c20] at H
                          have c20b0 : (x11_3 == 0) = true := beq_iff_eq.mpr c20
                          have c20b1 : (x11_3 != 0) = false := bne_eq_false_iff_eq.mpr c20
                          clear c20
                          by_cases c21 : 0 < (x9_9.size : Int)
                          · rw [if_pos c21] at H
                            have c21b0 : decide (0 < (x9_9.size : Int)) = true := decide_eq_true c21
                            have c21b1 : decide (0 < x9_9.size) = true := decide_eq_true (by omega)
                            clear c21
                            by_cases c23 : (bt x9_9 0) = 48
                            · rw [if_pos c23] at H
                              have c23b0 : ((bt x9_9 0) == 48) = true := beq_iff_eq.mpr c23
                              have c23b1 : ((bt x9_9 0) != 48) = false := bne_eq_false_iff_eq.mpr c23
                              clear c23
                              have H' := Aside0.mk H
                              clear H
                              have p16 : 0 ≤ (x11_3 : Int) := of_decide_eq_true (by first | (with_reducible assumption) | assumption)
                              have q16 : x11_3 < (x9_9.size : Int) := of_decide_eq_true (by first | (with_reducible assumption) | assumption)
                              have hx16 := bt_at x9_9 x11_3
                              replace p16 := eq_true p16
                              replace q16 := eq_true q16
                              have p18 : 0 ≤ (x11_3 : Int) := of_decide_eq_true (by first | (with_reducible assumption) | assumption)
                              have q18 : x11_3 < (x9_9.size : Int) := of_decide_eq_true (by first | (with_reducible assumption) | assumption)
                              have hx18 := bt_at x9_9 x11_3
                              replace p18 := eq_true p18
                              replace q18 := eq_true q18
                              have p22 : 0 ≤ (0 : Int) := (by omega)
                              have q22 : 0 < x9_9.size := (by have : (0 : Int) < (x9_9.size : Int) := of_decide_eq_true (by first | (with_reducible assumption) | assumption); omega)
                              have hx22 : ∀ h : 0 < x9_9.size, ((x9_9[0]'h).toNat : Int) = bt x9_9 0 := bt_at x9_9 0
                              clear p22
                              have qi22 : (0 < (x9_9.size : Int)) = True := eq_true (of_decide_eq_true (by first | (with_reducible assumption) | assumption))
                              replace q22 := eq_true q22
                              go_wp2
                              go_meet
                              case rel => exact ⟨_, (decide ((x9_9.size : Int) > 1)), (by first | rfl | (simp; done) | (simp [*]; done)), H', ⟨by have := HJ3.out; have := HJ9.out; have := HK3.out; first | omega | exact Nat.le_refl _⟩, by repeat (first | exact Drawn0.refl _ | apply Drawn0.step)⟩
                            · rw [if_neg c23] at H
                              have c23b0 : ((bt x9_9 0) == 48) = false := beq_eq_false_iff_ne.mpr c23
                              have c23b1 : ((bt x9_9 0) != 48) = true := bne_iff_ne.mpr c23
                              have H' := Aside0.mk H
                              clear H
                              have p16 : 0 ≤ (x11_3 : Int) := of_decide_eq_true (by first | (with_reducible assumption) | assumption)
                              have q16 : x11_3 < (x9_9.size : Int) := of_decide_eq_true (by first | (with_reducible assumption) | assumption)
                              have hx16 := bt_at x9_9 x11_3
                              replace p16 := eq_true p16
                              replace q16 := eq_true q16
                              have p18 : 0 ≤ (x11_3 : Int) := of_decide_eq_true (by first | (with_reducible assumption) | assumption)
                              have q18 : x11_3 < (x9_9.size : Int) := of_decide_eq_true (by first | (with_reducible assumption) | assumption)
                              have hx18 := bt_at x9_9 x11_3
                              replace p18 := eq_true p18
                              replace q18 := eq_true q18
                              have p22 : 0 ≤ (0 : Int) := (by omega)
                              have q22 : 0 < x9_9.size := (by have : (0 : Int) < (x9_9.size : Int) := of_decide_eq_true (by first | (with_reducible assumption) | assumption); omega)
                              have hx22 : ∀ h : 0 < x9_9.size, ((x9_9[0]'h).toNat : Int) = bt x9_9 0 := bt_at x9_9 0
                              clear p22
                              have qi22 : (0 < (x9_9.size : Int)) = True := eq_true (of_decide_eq_true (by first | (with_reducible assumption) | assumption))
                              replace q22 := eq_true q22
                              go_wp2
                              go_meet
                              case rel => exact ⟨_, (false), (by first | rfl | (simp; done) | (simp [*]; done)), H', ⟨by have := HJ3.out; have := HJ9.out; have := HK3.out; first | omega | exact Nat.le_refl _⟩, by repeat (first | exact Drawn0.refl _ | apply Drawn0.step)⟩
                          · rw [if_neg c21] at H
                            exact absurd H (by simp)
                        · rw [if_neg c20] at H
                          have c20b0 : (x11_3 == 0) = false := beq_eq_false_iff_ne.mpr c20
                          have c20b1 : (x11_3 != 0) = true := bne_iff_ne.mpr c20
                          have H' := Aside0.mk H
                          clear H
                          have p16 : 0 ≤ (x11_3 : Int) := of_decide_eq_true (by first | (with_reducible assumption) | assumption)
                          have q16 : x11_3 < (x9_9.size : Int) := of_decide_eq_true (by first | (with_reducible assumption) | assumption)
                          have hx16 := bt_at x9_9 x11_3
                          replace p16 := eq_true p16
                          replace q16 := eq_true q16
                          have p18 : 0 ≤ (x11_3 : Int) := of_decide_eq_true (by first | (with_reducible assumption) | assumption)
                          have q18 : x11_3 < (x9_9.size : Int) := of_decide_eq_true (by first | (with_reducible assumption) | assumption)
                          have hx18 := bt_at x9_9 x11_3
                          replace p18 := eq_true p18
                          replace q18 := eq_true q18
                          go_wp2
                          go_meet
                          case rel => exact ⟨_, (false), (by first | rfl | (simp; done) | (simp [*]; done)), H', ⟨by have := HJ3.out; have := HJ9.out; have := HK3.out; first | omega | exact Nat.le_refl _⟩, by repeat (first | exact Drawn0.refl _ | apply Drawn0.step)⟩
                  · rw [if_neg c15] at H
                    exact absurd H (by simp)
                case rest =>
                  clear HC14
                  try clear c1
                  try clear p1
                  try clear q1
                  try clear hx1
                  try clear c2
                  try clear p2
                  try clear q2
                  try clear hx2
                  try clear qi2
                  try clear c3
                  try clear c5
                  try clear c6
                  try clear c6b0
                  try clear c6b1
                  try clear c7
                  try clear c7b0
                  try clear c7b1
                  try clear p8
                  try clear q8
                  try clear hx8
                  try clear qi8
                  try clear c9
                  try clear c9b0
                  try clear c9b1
                  try clear c11
                  try clear c12
                  try clear c12b0
                  try clear c12b1
                  try clear c13
                  try clear c13b0
                  try clear c15
                  try clear c15b0
                  try clear p16
                  try clear q16
                  try clear hx16
                  try clear c17
                  try clear c17b0
                  try clear p18
                  try clear q18
                  try clear hx18
                  try clear c19
                  try clear c19b0
                  try clear c20
                  try clear c20b0
                  try clear c20b1
                  try clear c21
                  try clear c21b0
                  try clear c21b1
                  try clear p22
                  try clear q22
                  try clear hx22
                  try clear qi22
                  try clear c23
                  try clear c23b0
                  try clear c23b1
                  try clear p16
                  try clear p18
                  try clear p2
                  try clear p22
                  try clear p8
                  try clear q16
                  try clear q18
                  try clear q22
                  try clear q8
                  obtain ⟨kq, x59_13, rfl, HA, HJ13, ⟨mc13, rfl⟩⟩ := hcut
                  cases kq with
                  | zero => exact absurd HA.out (by simp [threshingref02_Number.j3])
                  | succ kj13 =>
                    have H := HA.out
                    clear HA
                    simp only [threshingref02_Number.j3] at H
                    by_cases c24 : x59_13 = true
                    · subst c24
                      have H1 : (some (0, false, false)) = some (r1, r2, r3) := by rw [if_pos rfl] at H; exact H
                      clear H
                      have H := H1
                      clear H1
                      simp only [Option.some.injEq, Prod.mk.injEq] at H
                      obtain ⟨rfl, rfl, rfl⟩ := H
                      go_wp2
                      go_ret3
                      exact ⟨by first | rfl | (simp; done) | (simp [*]; done), by repeat (first | exact Drawn0.refl _ | apply Drawn0.step)⟩
                    · replace c24 := Bool.eq_false_iff.mpr c24
                      subst c24
                      have H1 : (if x10_3 ≤ a2 then (if 0 ≤ x11_3 then (if x11_3 < (x9_9.size : Int) then (threshingref02_Number.l0 kj13 a0 a2 x9_9 (wrap64 ((wrap64 (x10_3 * 10)) + (((bt x9_9 x11_3) - 48) % 256))) (wrap64 (x11_3 + 1))) else (none)) else (none)) else (threshingref02_Number.l0 kj13 a0 a2 x9_9 x10_3 (wrap64 (x11_3 + 1)))) = some (r1, r2, r3) := by rw [if_neg (show ¬ (false = true) by decide)] at H; exact H
                      clear H
                      have H := H1
                      clear H1
                      by_cases c25 : x10_3 ≤ a2
                      · rw [if_pos c25] at H
                        have c25b0 : decide (x10_3 ≤ a2) = true := decide_eq_true c25
                        clear c25
                        by_cases c26 : 0 ≤ x11_3
                        · rw [if_pos c26] at H
                          have c26b0 : decide (0 ≤ x11_3) = true := decide_eq_true c26
                          clear c26
                          by_cases c27 : x11_3 < (x9_9.size : Int)
                          · rw [if_pos c27] at H
                            have c27b0 : decide (x11_3 < (x9_9.size : Int)) = true := decide_eq_true c27
                            clear c27
                            have H' := Aside0.mk H
                            clear H
                            have p28 : 0 ≤ (x11_3 : Int) := of_decide_eq_true (by first | (with_reducible assumption) | assumption)
                            have q28 : x11_3 < (x9_9.size : Int) := of_decide_eq_true (by first | (with_reducible assumption) | assumption)
                            have hx28 := bt_at x9_9 x11_3
                            replace p28 := eq_true p28
                            replace q28 := eq_true q28
                            go_wp2
                            go_roundg kj13
                            case measure => have := HJ3.out; have := HJ9.out; have := HK3.out; have := HJ13.out; omega
                            case rel => exact ⟨(wrap64 ((wrap64 (x10_3 * 10)) + (((bt x9_9 x11_3) - 48) % 256))), (wrap64 (x11_3 + 1)), (by first | rfl | (simp; done) | (simp [*]; done)), (by first | rfl | (simp; done) | (simp [*]; done)), H', ⟨by have := HJ3.out; have := HJ9.out; have := HK3.out; have := HJ13.out; omega⟩, by repeat (first | exact Drawn0.refl _ | apply Drawn0.step)⟩
                          · rw [if_neg c27] at H
                            exact absurd H (by simp)
                        · rw [if_neg c26] at H
                          exact absurd H (by simp)
                      · rw [if_neg c25] at H
                        have c25b0 : decide (x10_3 ≤ a2) = false := decide_eq_false c25
                        clear c25
                        have H' := Aside0.mk H
                        clear H
                        go_wp2
                        go_roundg kj13
                        case measure => have := HJ3.out; have := HJ9.out; have := HK3.out; have := HJ13.out; omega
                        case rel => exact ⟨(x10_3), (wrap64 (x11_3 + 1)), (by first | rfl | (simp; done) | (simp [*]; done)), (by first | rfl | (simp; done) | (simp [*]; done)), H', ⟨by have := HJ3.out; have := HJ9.out; have := HK3.out; have := HJ13.out; omega⟩, by repeat (first | exact Drawn0.refl _ | apply Drawn0.step)⟩
              · rw [if_neg c13] at H
                have c13b0 : decide (x11_3 < (x9_9.size : Int)) = false := decide_eq_false c13
                clear c13
                by_cases c29 : x9_9.toList = ([] : List UInt8)
                · rw [if_pos c29] at H
                  have c29b0 : (x9_9.toList == ([] : List UInt8)) = true := beq_iff_eq.mpr c29
                  have c29b1 : (x9_9.toList != ([] : List UInt8)) = false := bne_eq_false_iff_eq.mpr c29
                  clear c29
                  simp only [Option.some.injEq, Prod.mk.injEq] at H
                  obtain ⟨rfl, rfl, rfl⟩ := H
                  go_wp2
                  go_ret3
                  exact ⟨by first | rfl | (simp; done) | (simp [*]; done), by repeat (first | exact Drawn0.refl _ | apply Drawn0.step)⟩
                · rw [if_neg c29] at H
                  have c29b0 : (x9_9.toList == ([] : List UInt8)) = false := beq_eq_false_iff_ne.mpr c29
                  have c29b1 : (x9_9.toList != ([] : List UInt8)) = true := bne_iff_ne.mpr c29
                  by_cases c30 : x10_3 > a2
                  · rw [if_pos c30] at H
                    have c30b0 : decide (a2 < x10_3) = true := decide_eq_true c30
                    clear c30
                    simp only [Option.some.injEq, Prod.mk.injEq] at H
                    obtain ⟨rfl, rfl, rfl⟩ := H
                    go_wp2
                    go_ret3
                    exact ⟨by first | rfl | (simp; done) | (simp [*]; done), by repeat (first | exact Drawn0.refl _ | apply Drawn0.step)⟩
                  · rw [if_neg c30] at H
                    have c30b0 : decide (a2 < x10_3) = false := decide_eq_false c30
                    clear c30
                    by_cases c31 : (x9_9.size : Int) < (a0.size : Int)
                    · rw [if_pos c31] at H
                      have c31b0 : decide ((x9_9.size : Int) < (a0.size : Int)) = true := decide_eq_true c31
                      have c31b1 : decide (x9_9.size < a0.size) = true := decide_eq_true (Int.ofNat_lt.mp c31)
                      clear c31
                      simp only [Option.some.injEq, Prod.mk.injEq] at H
                      obtain ⟨rfl, rfl, rfl⟩ := H
                      go_wp2
                      go_ret3
                      exact ⟨by first | rfl | (simp; done) | (simp [*]; done), by repeat (first | exact Drawn0.refl _ | apply Drawn0.step)⟩
                    · rw [if_neg c31] at H
                      have c31b0 : decide ((x9_9.size : Int) < (a0.size : Int)) = false := decide_eq_false c31
                      have c31b1 : decide (x9_9.size < a0.size) = false := decide_eq_false (fun h => c31 (Int.ofNat_lt.mpr h))
                      clear c31
                      simp only [Option.some.injEq, Prod.mk.injEq] at H
                      obtain ⟨rfl, rfl, rfl⟩ := H
                      go_wp2
                      go_ret3
                      exact ⟨by first | rfl | (simp; done) | (simp [*]; done), by repeat (first | exact Drawn0.refl _ | apply Drawn0.step)⟩
end Go.Proofs.YtigloobbpcnnhaaGreatDoor.PB
end
section
namespace Go.Proofs.YtigloobbpcnnhaaGreatDoor.PB
open Go.RowKit Go.Proofs.YtigloobbpcnnhaaGreatDoorW.PrintWords Go.Proofs.YtigloobbpcnnhaaGreatDoorW.PrintLast Go.Proofs.YtigloobbpcnnhaaGreatDoorW.PrintMore
set_option linter.unusedVariables false
set_option linter.unusedSimpArgs false
theorem baOf_nil_iff (a : List UInt8) : (baOf a).toList = ([] : List UInt8) ↔ a = [] := by
  have h := word_eq a []
  constructor
  · intro e
    rw [e] at h
    exact of_decide_eq_true h.symm
  · intro e
    rw [decide_eq_true e] at h
    exact eq_of_beq h
theorem rd_bI (l : List UInt8) (i : Nat) (h : i < l.length) : rd (bI l) (i : Int) = (l[i].toNat : Int) := by
  rw [rd_nat (bI l) i (by rw [bI_length]; exact h)]
  simp [bI]
theorem seg_one (l : List UInt8) (i : Nat) (h : i < l.length) : strOfNums (((bI l).take (i + 1)).drop i) = baOf [l[i]] := by
  rw [bI_take, bI_drop, bI_str]
  congr 1
  rw [List.take_succ_eq_append_getElem h, List.drop_append, List.length_take, Nat.min_eq_left (by omega), Nat.sub_self, List.drop_of_length_le (by rw [List.length_take]; omega)]
  rfl
def dFlush (cur : List UInt8) : List ByteArray := if cur = [] then [] else [baOf cur]
theorem line_end (l : List UInt8) (hl : l.length ≤ 1000000) (cur : ByteArray) (acc : List ByteArray) (b : Bool) : Ev (fun k => threshingref02_line.l0 k (bI l) cur ((l.length + 1 : Nat) : Int) acc b) (acc, b) := by
  refine Ev.step (f := fun _ => some (acc, b)) (fun k => ?_) (Ev.now _)
  rw [threshingref02_line.l0, if_neg (by rw [bI_length]; omega)]
theorem line_flush (l : List UInt8) (hl : l.length ≤ 1000000) (i : Nat) (hi : i ≤ l.length) (cur : List UInt8) (acc : List ByteArray) (ha : acc.length ≤ 1000000) (b : Bool) (r : List ByteArray × Bool)
    (h : Ev (fun k => threshingref02_line.l0 k (bI l) (⟨#[]⟩ : ByteArray) ((i + 1 : Nat) : Int) (acc ++ dFlush cur) b) r) : Ev (fun k => threshingref02_line.j2 k (bI l) (baOf cur) (i : Int) false acc b) r := by
  refine Ev.step (f := fun k => threshingref02_line.l0 k (bI l) (⟨#[]⟩ : ByteArray) ((i + 1 : Nat) : Int) (acc ++ dFlush cur) b) (fun k => ?_) h
  rw [threshingref02_line.j2, if_neg (by decide), wrap_id (x := (i : Int) + 1) (by omega) (by omega)]
  unfold dFlush
  by_cases hc : cur = []
  · rw [if_pos ((baOf_nil_iff cur).2 hc), if_pos hc, List.append_nil]
    rfl
  · rw [if_neg (fun e => hc ((baOf_nil_iff cur).1 e)), if_neg hc, if_pos (by omega)]
    rfl
theorem line_more (l : List UInt8) (hl : l.length ≤ 1000000) (i : Nat) (hi : i < l.length) (cur : List UInt8) (hc : cur.length ≤ 1000000) (acc : List ByteArray) (b : Bool) (r : List ByteArray × Bool)
    (h : Ev (fun k => threshingref02_line.l0 k (bI l) (baOf (cur ++ [l[i]])) ((i + 1 : Nat) : Int) acc b) r) : Ev (fun k => threshingref02_line.j2 k (bI l) (baOf cur) (i : Int) true acc b) r := by
  refine Ev.step (f := fun k => threshingref02_line.l0 k (bI l) (baOf (cur ++ [l[i]])) ((i + 1 : Nat) : Int) acc b) (fun k => ?_) h
  have e : strOfNums (((bI l).take (wrap64 ((i : Int) + 1)).toNat).drop (i : Int).toNat) = baOf [l[i]] := by
    rw [wrap_id (by omega) (by omega), show ((i : Int) + 1).toNat = i + 1 by omega, Int.toNat_natCast]
    exact seg_one l i hi
  rw [threshingref02_line.j2, if_pos rfl, if_pos (by omega), e, wrap_id (x := (i : Int) + 1) (by omega) (by omega), if_pos (by omega), if_pos (by rw [bI_length]; omega), if_pos (by rw [baOf_size, baOf_size]; simp only [List.length_cons, List.length_nil]; omega), baOf_append]
  rfl
theorem byte_is (b : UInt8) (n : Nat) (hn : n < 256) : ((b.toNat : Int) = (n : Int)) ↔ b = UInt8.ofNat n := by
  constructor
  · intro h
    apply UInt8.toNat_inj.1
    rw [UInt8.toNat_ofNat']
    omega
  · rintro rfl
    rw [UInt8.toNat_ofNat']
    omega
theorem line_loop (l : List UInt8) (hl : l.length ≤ 1000000) (b : Bool) : ∀ (d i : Nat) (cur : List UInt8) (acc : List ByteArray), i + d = l.length → cur.length ≤ i → acc.length ≤ i → Ev (fun k => threshingref02_line.l0 k (bI l) (baOf cur) (i : Int) acc b) (acc ++ (dFields (l.drop i) cur).map baOf, b) := by
  intro d
  induction d with
  | zero =>
    intro i cur acc hi hc ha
    obtain rfl : i = l.length := by omega
    have e : acc ++ (dFields (l.drop l.length) cur).map baOf = acc ++ dFlush cur := by
      rw [List.drop_length, dFields.eq_def]
      unfold dFlush
      simp only
      split <;> rfl
    rw [e]
    refine Ev.step (f := fun k => threshingref02_line.j2 k (bI l) (baOf cur) (l.length : Int) false acc b) (fun k => ?_) (line_flush l hl l.length (Nat.le_refl _) cur acc (by omega) b _ (line_end l hl _ _ b))
    rw [threshingref02_line.l0, if_pos (by rw [bI_length]; omega), if_neg (by rw [bI_length]; omega)]
  | succ d ih =>
    intro i cur acc hi hc ha
    have hlt : i < l.length := by omega
    have hd : l.drop i = l[i] :: l.drop (i + 1) := List.drop_eq_getElem_cons hlt
    obtain ⟨x, hx⟩ : ∃ x, x = l[i] := ⟨_, rfl⟩
    have h32 : ((x.toNat : Int) = 32) ↔ x = 32 := byte_is x 32 (by decide)
    have h9 : ((x.toNat : Int) = 9) ↔ x = 9 := byte_is x 9 (by decide)
    have h13 : ((x.toNat : Int) = 13) ↔ x = 13 := byte_is x 13 (by decide)
    have hfl : (dFlush cur).length ≤ 1 := by unfold dFlush; split <;> simp
    by_cases hb : isBl x = true
    · have e : acc ++ (dFields (l.drop i) cur).map baOf = (acc ++ dFlush cur) ++ (dFields (l.drop (i + 1)) []).map baOf := by
        rw [hd, ← hx, dFields.eq_def]
        simp only [hb, if_true]
        unfold dFlush
        split <;> simp
      rw [e]
      have hnext := line_flush l hl i (by omega) cur acc (by omega) b _ (ih (i + 1) [] (acc ++ dFlush cur) (by omega) (by simp) (by rw [List.length_append]; omega))
      refine Ev.step (f := fun k => threshingref02_line.j2 k (bI l) (baOf cur) (i : Int) false acc b) (fun k => ?_) hnext
      rw [threshingref02_line.l0, if_pos (by rw [bI_length]; omega), if_pos (by rw [bI_length]; omega), if_pos (by omega), rd_bI l i hlt, ← hx]
      by_cases c1 : x = 32
      · rw [if_pos (h32.2 c1)]
      · rw [if_neg (fun e => c1 (h32.1 e))]
        by_cases c2 : x = 9
        · rw [if_pos (h9.2 c2)]
        · rw [if_neg (fun e => c2 (h9.1 e))]
          have c3 : x = 13 := by
            unfold isBl at hb
            simp only [Bool.or_eq_true, beq_iff_eq] at hb
            rcases hb with (h | h) | h
            · exact absurd h c1
            · exact absurd h c2
            · exact h
          rw [show ((x.toNat : Int) != 13) = false from bne_eq_false_iff_eq.2 (h13.2 c3)]
    · have hbf : isBl x = false := by simpa using hb
      have e : acc ++ (dFields (l.drop i) cur).map baOf = acc ++ (dFields (l.drop (i + 1)) (cur ++ [x])).map baOf := by
        rw [hd, ← hx, dFields.eq_def]
        simp only [hbf, Bool.false_eq_true, if_false]
      rw [e, hx]
      have hnext := line_more l hl i hlt cur (by omega) acc b _ (ih (i + 1) (cur ++ [l[i]]) acc (by omega) (by rw [List.length_append, List.length_singleton]; omega) (by omega))
      refine Ev.step (f := fun k => threshingref02_line.j2 k (bI l) (baOf cur) (i : Int) true acc b) (fun k => ?_) hnext
      have hn : x ≠ 32 ∧ x ≠ 9 ∧ x ≠ 13 := by
        refine ⟨?_, ?_, ?_⟩ <;> (rintro rfl; exact absurd hbf (by decide))
      rw [threshingref02_line.l0, if_pos (by rw [bI_length]; omega), if_pos (by rw [bI_length]; omega), if_pos (by omega), rd_bI l i hlt, ← hx, if_neg (fun e => hn.1 (h32.1 e)), if_neg (fun e => hn.2.1 (h9.1 e)), show ((x.toNat : Int) != 13) = true from bne_iff_ne.2 (fun e => hn.2.2 (h13.1 e))]
/-- A line's words and whether it is a remark. -/
def dRem (l : List UInt8) : Bool := l.head? == some 99
theorem line_ev (l : List UInt8) (hl : l.length ≤ 1000000) : Ev (fun k => threshingref02_line.f k (bI l)) ((dWords l).map baOf, dRem l) := by
  have hj : ∀ rem : Bool, rem = dRem l → Ev (fun k => threshingref02_line.j0 k (bI l) rem) ((dWords l).map baOf, dRem l) := by
    rintro rem rfl
    by_cases hr : dRem l = true
    · refine Ev.step (f := fun _ => some (([] : List ByteArray), true)) (fun k => ?_) ?_
      · rw [threshingref02_line.j0, if_pos hr]
      · have : dWords l = [] := by unfold dWords; rw [if_pos (by unfold dRem at hr; exact eq_of_beq hr)]
        rw [this, hr]
        exact Ev.now _
    · have hrf : dRem l = false := by simpa using hr
      refine Ev.step (f := fun k => threshingref02_line.l0 k (bI l) (baOf []) ((0 : Nat) : Int) ([] : List ByteArray) false) (fun k => ?_) ?_
      · rw [threshingref02_line.j0, if_neg hr]
        rfl
      · have := line_loop l hl false l.length 0 [] [] (by omega) (by simp) (by simp)
        rw [List.drop_zero, List.nil_append] at this
        have e : dWords l = dFields l [] := by unfold dWords; rw [if_neg (by unfold dRem at hrf; intro e; rw [e] at hrf; simp at hrf)]
        rw [e, hrf]
        exact this
  cases l with
  | nil =>
    refine Ev.congr (f := fun k => threshingref02_line.j0 k (bI []) false) (fun k => ?_) (hj false rfl)
    unfold threshingref02_line.f
    rw [if_neg (by decide)]
  | cons x r =>
    refine Ev.congr (f := fun k => threshingref02_line.j0 k (bI (x :: r)) (rd (bI (x :: r)) 0 == 99)) (fun k => ?_) (hj _ ?_)
    · unfold threshingref02_line.f
      rw [if_pos (by rw [bI_length, List.length_cons]; omega), if_pos (by rw [bI_length, List.length_cons]; omega)]
    · have h := rd_bI (x :: r) 0 (by simp)
      rw [show (((0 : Nat)) : Int) = 0 from rfl] at h
      rw [h]
      show ((x.toNat : Int) == 99) = ((some x) == some 99)
      have h99 : ((x.toNat : Int) = 99) ↔ x = 99 := byte_is x 99 (by decide)
      by_cases hx : x = 99
      · rw [beq_iff_eq.2 (h99.2 hx), hx]
        rfl
      · rw [beq_eq_false_iff_ne.2 (fun e => hx (h99.1 e)), beq_eq_false_iff_ne.2 (fun e => hx (by injection e))]
def dS (l : List UInt8) : S64 := ⟨(dWords l).map baOf, dRem l⟩
theorem lines_push (l : List UInt8) (hl : l.length ≤ 1000000) (f i : Nat) (hf : f ≤ i) (hi : i ≤ l.length) (acc : List S64) (ha : acc.length ≤ 1000000) (r : List S64)
    (h : Ev (fun k => threshingref02_Lines.l0 k (bI l) (acc ++ [dS ((l.take i).drop f)]) ((i + 1 : Nat) : Int) ((i + 1 : Nat) : Int)) r) :
    Ev (fun k => ((threshingref02_line.f k (((bI l).take (i : Int).toNat).drop (f : Int).toNat)).bind fun bt => (if acc.length < 4398046511104 then (threshingref02_Lines.l0 k (bI l) (acc ++ [(⟨bt.1, bt.2⟩ : S64)]) (wrap64 ((i : Int) + 1)) (wrap64 ((i : Int) + 1))) else (none)))) r := by
  have hlen : ((l.take i).drop f).length ≤ 1000000 := by rw [List.length_drop, List.length_take]; omega
  have e : ((bI l).take (i : Int).toNat).drop (f : Int).toNat = bI ((l.take i).drop f) := by rw [Int.toNat_natCast, Int.toNat_natCast, bI_take, bI_drop]
  rw [e]
  refine Ev.bind (f := fun k bt => (if acc.length < 4398046511104 then (threshingref02_Lines.l0 k (bI l) (acc ++ [(⟨bt.1, bt.2⟩ : S64)]) (wrap64 ((i : Int) + 1)) (wrap64 ((i : Int) + 1))) else (none))) (line_ev _ hlen) ?_
  refine Ev.congr (f := fun k => threshingref02_Lines.l0 k (bI l) (acc ++ [dS ((l.take i).drop f)]) ((i + 1 : Nat) : Int) ((i + 1 : Nat) : Int)) (fun k => ?_) h
  rw [if_pos (by omega), wrap_id (x := (i : Int) + 1) (by omega) (by omega)]
  rfl
theorem lines_end (l : List UInt8) (hl : l.length ≤ 1000000) (f : Int) (acc : List S64) : Ev (fun k => threshingref02_Lines.l0 k (bI l) acc f ((l.length + 1 : Nat) : Int)) acc := by
  refine Ev.step (f := fun _ => some acc) (fun k => ?_) (Ev.now _)
  rw [threshingref02_Lines.l0, if_neg (by rw [bI_length]; omega)]
theorem lines_loop (l : List UInt8) (hl : l.length ≤ 1000000) : ∀ (d i f : Nat) (acc : List S64), i + d = l.length → f ≤ i → 10 ∉ (l.take i).drop f → acc.length ≤ i → Ev (fun k => threshingref02_Lines.l0 k (bI l) acc (f : Int) (i : Int)) (acc ++ (dLines (l.drop f)).map dS) := by
  intro d
  induction d with
  | zero =>
    intro i f acc hi hf hn ha
    obtain rfl : i = l.length := by omega
    rw [List.take_length] at hn
    by_cases hfe : f = l.length
    · subst hfe
      rw [List.drop_length, dLines_nil, List.map_nil, List.append_nil]
      refine Ev.step (f := fun k => threshingref02_Lines.l0 k (bI l) acc ((l.length : Nat) : Int) ((l.length + 1 : Nat) : Int)) (fun k => ?_) (lines_end l hl _ acc)
      rw [threshingref02_Lines.l0, if_pos (by rw [bI_length]; omega), if_pos (by rw [bI_length]), if_pos rfl, wrap_id (x := ((l.length : Nat) : Int) + 1) (by omega) (by omega)]
      rfl
    · have hne : l.drop f ≠ [] := fun e => by have := congrArg List.length e; rw [List.length_drop] at this; simp at this; omega
      rw [dLines_no _ hne hn, List.map_singleton]
      have hp := lines_push l hl f l.length hf (Nat.le_refl _) acc (by omega) (acc ++ [dS (l.drop f)]) (by rw [List.take_length]; exact lines_end l hl _ _)
      refine Ev.step (fun k => ?_) hp
      rw [threshingref02_Lines.l0, if_pos (by rw [bI_length]; omega), if_pos (by rw [bI_length]), if_neg (by omega), if_neg (by rw [bI_length]; omega), if_pos (by omega), if_pos (by omega)]
  | succ d ih =>
    intro i f acc hi hf hn ha
    have hlt : i < l.length := by omega
    have hd : l.drop f = (l.take i).drop f ++ l[i] :: l.drop (i + 1) := by
      conv => lhs; rw [← List.take_append_drop i l, List.drop_append, List.length_take, Nat.min_eq_left (by omega), show f - i = 0 by omega, List.drop_zero, List.drop_eq_getElem_cons hlt]
    have h10 : ((l[i].toNat : Int) = 10) ↔ l[i] = 10 := byte_is l[i] 10 (by decide)
    by_cases hb : l[i] = 10
    · rw [hd, hb, dLines_cut _ _ hn, List.map_cons]
      have hnx := ih (i + 1) (i + 1) (acc ++ [dS ((l.take i).drop f)]) (by omega) (Nat.le_refl _) (by rw [List.drop_of_length_le (by rw [List.length_take]; omega)]; simp) (by rw [List.length_append, List.length_singleton]; omega)
      rw [List.append_assoc] at hnx
      have hp := lines_push l hl f i hf (by omega) acc (by omega) _ hnx
      refine Ev.step (fun k => ?_) hp
      rw [threshingref02_Lines.l0, if_pos (by rw [bI_length]; omega), if_neg (by rw [bI_length]; omega), if_pos (by rw [bI_length]; omega), if_pos (by omega), rd_bI l i hlt, if_pos (h10.2 hb), if_pos (by omega), if_pos (by omega)]
    · have hnx := ih (i + 1) f acc (by omega) (by omega) (by
        rw [List.take_succ_eq_append_getElem hlt, List.drop_append, List.length_take, Nat.min_eq_left (by omega), show f - i = 0 by omega, List.drop_zero]
        intro hm
        rcases List.mem_append.1 hm with hm | hm
        · exact hn hm
        · rw [List.mem_singleton] at hm; exact hb hm.symm) (by omega)
      refine Ev.step (f := fun k => threshingref02_Lines.l0 k (bI l) acc (f : Int) ((i + 1 : Nat) : Int)) (fun k => ?_) hnx
      rw [threshingref02_Lines.l0, if_pos (by rw [bI_length]; omega), if_neg (by rw [bI_length]; omega), if_pos (by rw [bI_length]; omega), if_pos (by omega), rd_bI l i hlt, if_neg (fun e => hb (h10.1 e)), wrap_id (x := (i : Int) + 1) (by omega) (by omega)]
      rfl
theorem rlines_ev (l : List UInt8) (hl : l.length ≤ 1000000) : Ev (fun k => threshingref02_Lines.f k (bI l)) ((dLines l).map dS) := by
  have h := lines_loop l hl l.length 0 0 [] (by omega) (Nat.le_refl _) (by simp) (by simp)
  rw [List.drop_zero, List.nil_append] at h
  exact h
theorem bt_ba (s : List UInt8) (i : Nat) (h : i < s.length) : bt (baOf s) (i : Int) = (s[i].toNat : Int) := by
  unfold bt
  rw [Int.toNat_natCast, dif_pos (show i < (baOf s).size from h)]
  rfl
/-- What the digits that are left come to. -/
def nRes (w s : List UInt8) (top : Int) : Int × Bool × Bool :=
  if top < (dVal s : Int) then (0, true, false) else (if s.length < w.length then -(dVal s : Int) else (dVal s : Int), true, true)
theorem dVal_snoc (s : List UInt8) (b : UInt8) : dVal (s ++ [b]) = dVal s * 10 + (b.toNat - 48) := by
  unfold dVal dValF
  rw [List.foldl_append]
  rfl
theorem dVal_take_le (s : List UInt8) (i : Nat) : dVal (s.take i) ≤ dVal s := by
  conv => rhs; rw [← List.take_append_drop i s]
  unfold dVal dValF
  rw [List.foldl_append]
  exact dValF_ge _ _
theorem num_good (w s : List UInt8) (top : Int) (h0 : 0 ≤ top) (h1 : top ≤ 1000000000000) (hl : s.length ≤ 1000000) (hwl : w.length ≤ 1000001) (hd : s.all isDig = true) (hz : ¬ (1 < s.length ∧ s.head? = some 48)) (hne : s ≠ []) :
    ∀ (d i : Nat) (n : Int), i + d = s.length → (n = (dVal (s.take i) : Int) ∧ 0 ≤ n ∧ n ≤ 10 * top + 9 ∨ (top < n ∧ n ≤ (dVal s : Int) ∧ n ≤ 10 * top + 9)) → Ev (fun k => threshingref02_Number.l0 k (baOf w) top (baOf s) n (i : Int)) (nRes w s top) := by
  intro d
  induction d with
  | zero =>
    intro i n hi hn
    obtain rfl : i = s.length := by omega
    rw [List.take_length] at hn
    refine Ev.step (f := fun _ => some (nRes w s top)) (fun k => ?_) (Ev.now _)
    rw [threshingref02_Number.l0, if_neg (by rw [baOf_size]; omega), if_neg (fun e => hne ((baOf_nil_iff s).1 e))]
    unfold nRes
    by_cases hb : top < (dVal s : Int)
    · rw [if_pos hb, if_pos (by omega)]
    · rw [if_neg hb, if_neg (by omega)]
      have hn2 : n = (dVal s : Int) := by omega
      by_cases hw : s.length < w.length
      · rw [if_pos (by rw [baOf_size, baOf_size]; omega), if_pos hw, hn2, wrap_id (by omega) (by omega)]
      · rw [if_neg (by rw [baOf_size, baOf_size]; omega), if_neg hw, hn2]
  | succ d ih =>
    intro i n hi hn
    have hlt : i < s.length := by omega
    have hdi := (isDig_iff s[i]).1 (List.all_eq_true.1 hd _ (List.getElem_mem hlt))
    have hbt := bt_ba s i hlt
    obtain ⟨x, hx⟩ : ∃ x, x = s[i] := ⟨_, rfl⟩
    rw [← hx] at hdi hbt
    have htk : dVal (s.take (i + 1)) = dVal (s.take i) * 10 + (x.toNat - 48) := by rw [List.take_succ_eq_append_getElem hlt, dVal_snoc, hx]
    have hle := dVal_take_le s (i + 1)
    have hj : Ev (fun k => threshingref02_Number.j3 k (baOf w) top (baOf s) n (i : Int) false) (nRes w s top) := by
      by_cases hnt : n ≤ top
      · have hn3 : n = (dVal (s.take i) : Int) := by omega
        have hv : wrap64 (wrap64 (n * 10) + (bt (baOf s) (i : Int) - 48) % 256) = (dVal (s.take (i + 1)) : Int) := by
          rw [hbt, wrap_id (x := n * 10) (by omega) (by omega), wrap_id (by omega) (by omega), htk, hn3]
          omega
        refine Ev.step (f := fun k => threshingref02_Number.l0 k (baOf w) top (baOf s) (dVal (s.take (i + 1)) : Int) ((i + 1 : Nat) : Int)) (fun k => ?_) (ih (i + 1) _ (by omega) (.inl ⟨rfl, by omega, by omega⟩))
        rw [threshingref02_Number.j3, if_neg (by decide), if_pos hnt, if_pos (by omega), if_pos (by rw [baOf_size]; omega), hv, wrap_id (x := (i : Int) + 1) (by omega) (by omega)]
        rfl
      · refine Ev.step (f := fun k => threshingref02_Number.l0 k (baOf w) top (baOf s) n ((i + 1 : Nat) : Int)) (fun k => ?_) (ih (i + 1) _ (by omega) (.inr ?_))
        · rw [threshingref02_Number.j3, if_neg (by decide), if_neg hnt, wrap_id (x := (i : Int) + 1) (by omega) (by omega)]
          rfl
        · rcases hn with ⟨e, e1, e2⟩ | ⟨e1, e2, e3⟩
          · have := dVal_take_le s i
            exact ⟨by omega, by omega, e2⟩
          · exact ⟨e1, e2, e3⟩
    refine Ev.step (f := fun k => threshingref02_Number.j3 k (baOf w) top (baOf s) n (i : Int) false) (fun k => ?_) hj
    rw [threshingref02_Number.l0, if_pos (by rw [baOf_size]; omega), if_pos (by omega), hbt, if_neg (by omega), if_neg (by omega)]
    by_cases hi0 : (i : Int) = 0
    · rw [if_pos hi0, if_pos (by rw [baOf_size]; omega)]
      have hi00 : i = 0 := by omega
      subst hi00
      have hb0 := bt_ba s 0 (by omega)
      rw [show (((0 : Nat)) : Int) = 0 from rfl] at hb0
      rw [hb0]
      by_cases h48 : ((s[0].toNat : Int) = 48)
      · rw [if_pos h48, decide_eq_false]
        rw [baOf_size]
        intro hgt
        apply hz
        refine ⟨by omega, ?_⟩
        rw [List.head?_eq_getElem?, List.getElem?_eq_getElem (by omega)]
        exact congrArg some ((byte_is s[0] 48 (by decide)).1 h48)
      · rw [if_neg h48]
    · rw [if_neg hi0]
theorem num_bad (w s : List UInt8) (top : Int) (h0 : 0 ≤ top) (h1 : top ≤ 1000000000000) (hl : s.length ≤ 1000000) :
    ∀ (d i : Nat) (n : Int), i + d = s.length → 0 ≤ n → n ≤ 10 * top + 9 → (s.drop i).all isDig = false → Ev (fun k => threshingref02_Number.l0 k (baOf w) top (baOf s) n (i : Int)) (0, false, false) := by
  intro d
  induction d with
  | zero =>
    intro i n hi _ _ hb
    rw [List.drop_of_length_le (by omega)] at hb
    cases hb
  | succ d ih =>
    intro i n hi hn0 hn1 hb
    have hlt : i < s.length := by omega
    have hbt := bt_ba s i hlt
    obtain ⟨x, hx⟩ : ∃ x, x = s[i] := ⟨_, rfl⟩
    rw [← hx] at hbt
    have hxr : x.toNat < 256 := x.toNat_lt
    have hnone : Ev (fun k => threshingref02_Number.j3 k (baOf w) top (baOf s) n (i : Int) true) (0, false, false) := by
      refine Ev.step (f := fun _ => some (0, false, false)) (fun k => ?_) (Ev.now _)
      rw [threshingref02_Number.j3, if_pos rfl]
    by_cases hdg : isDig x = true
    · have hdi := (isDig_iff x).1 hdg
      rw [List.drop_eq_getElem_cons hlt, List.all_cons, ← hx, hdg, Bool.true_and] at hb
      have hj : Ev (fun k => threshingref02_Number.j3 k (baOf w) top (baOf s) n (i : Int) false) (0, false, false) := by
        by_cases hnt : n ≤ top
        · have hv : wrap64 (wrap64 (n * 10) + (bt (baOf s) (i : Int) - 48) % 256) = n * 10 + ((x.toNat : Int) - 48) := by
            rw [hbt, wrap_id (x := n * 10) (by omega) (by omega), wrap_id (by omega) (by omega)]
            omega
          refine Ev.step (f := fun k => threshingref02_Number.l0 k (baOf w) top (baOf s) (n * 10 + ((x.toNat : Int) - 48)) ((i + 1 : Nat) : Int)) (fun k => ?_) (ih (i + 1) _ (by omega) (by omega) (by omega) hb)
          rw [threshingref02_Number.j3, if_neg (by decide), if_pos hnt, if_pos (by omega), if_pos (by rw [baOf_size]; omega), hv, wrap_id (x := (i : Int) + 1) (by omega) (by omega)]
          rfl
        · refine Ev.step (f := fun k => threshingref02_Number.l0 k (baOf w) top (baOf s) n ((i + 1 : Nat) : Int)) (fun k => ?_) (ih (i + 1) _ (by omega) hn0 hn1 hb)
          rw [threshingref02_Number.j3, if_neg (by decide), if_neg hnt, wrap_id (x := (i : Int) + 1) (by omega) (by omega)]
          rfl
      by_cases hi0 : (i : Int) = 0
      · have hi00 : i = 0 := by omega
        subst hi00
        have hb0 := bt_ba s 0 (by omega)
        rw [show (((0 : Nat)) : Int) = 0 from rfl] at hb0
        obtain ⟨q, hq⟩ : ∃ q, q = (if (s[0].toNat : Int) = 48 then decide (((baOf s).size : Int) > 1) else false) := ⟨_, rfl⟩
        refine Ev.step (f := fun k => threshingref02_Number.j3 k (baOf w) top (baOf s) n ((0 : Nat) : Int) q) (fun k => ?_) ?_
        · rw [threshingref02_Number.l0, if_pos (by rw [baOf_size]; omega), if_pos (by omega), hbt, if_neg (by omega), if_neg (by omega), if_pos hi0, if_pos (by rw [baOf_size]; omega), hb0]
          by_cases h48 : ((s[0].toNat : Int) = 48)
          · rw [if_pos h48] at hq ⊢
            rw [hq]
          · rw [if_neg h48] at hq ⊢
            rw [hq]
        · cases q with
          | true => exact hnone
          | false => exact hj
      · refine Ev.step (f := fun k => threshingref02_Number.j3 k (baOf w) top (baOf s) n (i : Int) false) (fun k => ?_) hj
        rw [threshingref02_Number.l0, if_pos (by rw [baOf_size]; omega), if_pos (by omega), hbt, if_neg (by omega), if_neg (by omega), if_neg hi0]
    · have hnd : ¬ (48 ≤ x.toNat ∧ x.toNat ≤ 57) := fun h => hdg ((isDig_iff x).2 h)
      refine Ev.step (f := fun k => threshingref02_Number.j3 k (baOf w) top (baOf s) n (i : Int) true) (fun k => ?_) hnone
      rw [threshingref02_Number.l0, if_pos (by rw [baOf_size]; omega), if_pos (by omega), hbt]
      by_cases hlo : (x.toNat : Int) < 48
      · rw [if_pos hlo]
      · rw [if_neg hlo, if_pos (by omega)]
theorem num_run (w s : List UInt8) (top : Int) (h0 : 0 ≤ top) (h1 : top ≤ 1000000000000) (hl : s.length ≤ 1000000) (hwl : w.length ≤ 1000001) :
    Ev (fun k => threshingref02_Number.l0 k (baOf w) top (baOf s) 0 0) (if s = [] ∨ s.all isDig = false ∨ (1 < s.length ∧ s.head? = some 48) then (0, false, false) else nRes w s top) := by
  by_cases hs : s = []
  · rw [if_pos (.inl hs)]
    subst hs
    refine Ev.step (f := fun _ => some (0, false, false)) (fun k => ?_) (Ev.now _)
    rw [threshingref02_Number.l0, if_neg (by rw [baOf_size]; simp), if_pos ((baOf_nil_iff []).2 rfl)]
  · by_cases hb : s.all isDig = false
    · rw [if_pos (.inr (.inl hb))]
      have := num_bad w s top h0 h1 hl s.length 0 0 (by omega) (by omega) (by omega) (by rw [List.drop_zero]; exact hb)
      exact this
    · have hg : s.all isDig = true := by simpa using hb
      by_cases hz : 1 < s.length ∧ s.head? = some 48
      · rw [if_pos (.inr (.inr hz))]
        have hlt : 0 < s.length := by omega
        have hbt := bt_ba s 0 hlt
        have hx : s[0] = 48 := by
          have := hz.2
          rw [List.head?_eq_getElem?, List.getElem?_eq_getElem hlt] at this
          injection this
        rw [show (((0 : Nat)) : Int) = 0 from rfl, hx] at hbt
        have hbt2 : bt (baOf s) 0 = 48 := hbt
        refine Ev.step (f := fun k => threshingref02_Number.j3 k (baOf w) top (baOf s) 0 0 true) (fun k => ?_) ?_
        · rw [threshingref02_Number.l0, if_pos (by rw [baOf_size]; omega), if_pos (by omega), hbt2, if_neg (by omega), if_neg (by omega), if_pos rfl, if_pos (by rw [baOf_size]; omega), if_pos rfl, decide_eq_true (by rw [baOf_size]; omega)]
        · refine Ev.step (f := fun _ => some (0, false, false)) (fun k => ?_) (Ev.now _)
          rw [threshingref02_Number.j3, if_pos rfl]
      · rw [if_neg (by rintro (h | h | h); exact hs h; exact hb h; exact hz h)]
        have := num_good w s top h0 h1 hl hwl hg hz hs s.length 0 0 (by omega) (.inl ⟨by rw [List.take_zero]; rfl, by omega, by omega⟩)
        exact this
theorem extract_one (w : List UInt8) : (baOf w).extract 1 (baOf w).size = baOf (w.drop 1) := by
  have h : ((baOf w).extract 1 (baOf w).size).data = (baOf (w.drop 1)).data := by
    rw [ByteArray.data_extract]
    apply Array.ext'
    rw [Array.toList_extract]
    show (w.drop 1).take (w.length - 1) = w.drop 1
    rw [List.take_of_length_le (by rw [List.length_drop]; omega)]
  exact ByteArray.ext h
theorem num_j0 (w : List UInt8) (top : Int) (b : Bool) (hw : b = true → 1 ≤ w.length) (r : Int × Bool × Bool) (h : Ev (fun k => threshingref02_Number.l0 k (baOf w) top (baOf (if b = true then w.drop 1 else w)) 0 0) r) : Ev (fun k => threshingref02_Number.j0 k (baOf w) top (baOf w) b) r := by
  refine Ev.step (f := fun k => threshingref02_Number.j1 k (baOf w) top (baOf (if b = true then w.drop 1 else w))) (fun k => ?_) (Ev.step (f := fun k => threshingref02_Number.l0 k (baOf w) top (baOf (if b = true then w.drop 1 else w)) 0 0) (fun k => by rw [threshingref02_Number.j1]) h)
  rw [threshingref02_Number.j0]
  cases b with
  | true =>
    rw [if_pos rfl, if_pos (by rw [baOf_size]; have := hw rfl; omega), extract_one, if_pos rfl]
  | false =>
    rw [if_neg (by decide), if_neg (by decide)]
theorem num_or (w s : List UInt8) (top : Int) (minus : Bool) (hs : s = dSign w minus) (hw : w ≠ [45, 48] ∨ s.all isDig = false) : dNum w minus top = if s = [] ∨ s.all isDig = false ∨ (1 < s.length ∧ s.head? = some 48) then (0, false, false) else nRes w s top := by
  rw [dNum_eq, ← hs]
  unfold nRes
  by_cases hb : s = [] ∨ s.all isDig = false ∨ (1 < s.length ∧ s.head? = some 48)
  · rw [if_pos hb, if_pos (by rcases hb with h | h | h; exact .inl h; exact .inr (.inl h); exact .inr (.inr (.inl h)))]
  · rw [if_neg hb, if_neg]
    rintro (h | h | h | h)
    · exact hb (.inl h)
    · exact hb (.inr (.inl h))
    · exact hb (.inr (.inr h))
    · rcases hw with hw | hw
      · exact hw h
      · exact hb (.inr (.inl hw))
theorem rnumber_ev (w : List UInt8) (minus : Bool) (top : Int) (h0 : 0 ≤ top) (h1 : top ≤ 1000000000000) (hl : w.length ≤ 1000000) : Ev (fun k => threshingref02_Number.f k (baOf w) minus top) (dNum w minus top) := by
  have plain : (w ≠ [45, 48] ∨ w.all isDig = false) → dSign w minus = w → Ev (fun k => threshingref02_Number.j0 k (baOf w) top (baOf w) false) (dNum w minus top) := by
    intro hw hs
    rw [num_or w w top minus hs.symm hw]
    exact num_j0 w top false (fun h => by cases h) _ (num_run w w top h0 h1 hl (by omega))
  have h45 : w = [45, 48] → w.all isDig = false := fun e => by rw [e]; rfl
  have hor : w ≠ [45, 48] ∨ w.all isDig = false := by
    by_cases e : w = [45, 48]
    · exact .inr (h45 e)
    · exact .inl e
  unfold threshingref02_Number.f
  cases minus with
  | false =>
    refine Ev.congr (f := fun k => threshingref02_Number.j0 k (baOf w) top (baOf w) false) (fun k => by rw [if_neg (by decide)]) (plain hor rfl)
  | true =>
    by_cases hlen : 1 < w.length
    · have hbt := bt_ba w 0 (by omega)
      rw [show (((0 : Nat)) : Int) = 0 from rfl] at hbt
      by_cases hm : w[0] = 45
      · have hpre : Lib.hasPrefix w [45] = true := by rw [hasPrefix_minus]; exact decide_eq_true (by rw [List.head?_eq_getElem?, List.getElem?_eq_getElem (by omega), hm])
        refine Ev.congr (f := fun k => threshingref02_Number.j0 k (baOf w) top (baOf w) ((baOf w).toList != ([45, 48] : List UInt8))) (fun k => ?_) ?_
        · rw [if_pos rfl, if_pos (by rw [baOf_size]; omega), if_pos (by rw [baOf_size]; omega), hbt, if_pos (by rw [hm]; rfl)]
        · by_cases e : w = [45, 48]
          · rw [show ((baOf w).toList != ([45, 48] : List UInt8)) = false by rw [bne, word_eq, decide_eq_true e]; rfl]
            have hn : dNum w true top = (0, false, false) := by rw [dNum_eq, if_pos (.inr (.inr (.inr e)))]
            rw [hn]
            have := num_run w w top h0 h1 hl (by omega)
            rw [if_pos (.inr (.inl (h45 e)))] at this
            exact num_j0 w top false (fun h => by cases h) _ this
          · rw [show ((baOf w).toList != ([45, 48] : List UInt8)) = true by rw [bne, word_eq, decide_eq_false e]; rfl]
            have hs : dSign w true = w.drop 1 := by unfold dSign; rw [hpre]; rfl
            rw [num_or w (w.drop 1) top true hs.symm (.inl e)]
            exact num_j0 w top true (fun _ => by omega) _ (num_run w (w.drop 1) top h0 h1 (by rw [List.length_drop]; omega) (by omega))
      · have hs : dSign w true = w := by
          unfold dSign
          rw [hasPrefix_minus, decide_eq_false (by rw [List.head?_eq_getElem?, List.getElem?_eq_getElem (by omega)]; intro e; exact hm (by injection e))]
          rfl
        refine Ev.congr (f := fun k => threshingref02_Number.j0 k (baOf w) top (baOf w) false) (fun k => ?_) (plain hor hs)
        rw [if_pos rfl, if_pos (by rw [baOf_size]; omega), if_pos (by rw [baOf_size]; omega), hbt, if_neg (fun e => hm ((byte_is w[0] 45 (by decide)).1 e))]
    · refine Ev.congr (f := fun k => threshingref02_Number.j0 k (baOf w) top (baOf w) false) (fun k => ?_) ?_
      · rw [if_pos rfl, if_neg (by rw [baOf_size]; omega)]
      · by_cases hs : dSign w true = w
        · exact plain hor hs
        · have hw1 : w = [45] := by
            match w, hlen with
            | [], _ => exact absurd rfl hs
            | [a], _ =>
              by_cases ha : a = 45
              · rw [ha]
              · exfalso
                apply hs
                unfold dSign
                rw [hasPrefix_minus, decide_eq_false (by simp; exact ha)]
                rfl
            | a :: b :: r, h => exact absurd (by simp) h
          subst hw1
          have := num_run [45] [45] top h0 h1 (by decide) (by decide)
          rw [if_pos (.inr (.inl (by decide)))] at this
          have hn : dNum [45] true top = (0, false, false) := by rw [dNum_eq, if_pos (.inl rfl)]
          rw [hn]
          exact num_j0 [45] top false (fun h => by cases h) _ this
end Go.Proofs.YtigloobbpcnnhaaGreatDoor.PB
end
end
section
section
namespace Go.Proofs.YtigloobbpcnnhaaGreatDoor.PB
open Go.RowKit Go.Proofs.YtigloobbpcnnhaaGreatDoorW.PrintWords Go.Proofs.YtigloobbpcnnhaaGreatDoorW.PrintLast Go.Proofs.YtigloobbpcnnhaaGreatDoorW.PrintMore
set_option linter.unusedVariables false
set_option linter.unusedSimpArgs false
end Go.Proofs.YtigloobbpcnnhaaGreatDoor.PB
end
section
namespace Go.Proofs.YtigloobbpcnnhaaGreatDoor.PB
open Go.RowKit Go.Proofs.YtigloobbpcnnhaaGreatDoorW.PrintWords Go.Proofs.YtigloobbpcnnhaaGreatDoorW.PrintLast Go.Proofs.YtigloobbpcnnhaaGreatDoorW.PrintMore
set_option linter.unusedVariables false
set_option linter.unusedSimpArgs false
theorem drawn_below {w w' : World} (h : Drawn0 w w') : Below w.heap.size w w' := by obtain ⟨q, rfl⟩ := h; exact pw_below_drewN (Below.refl _ _) q
/-- The reference's formula (block g) and its open clause (v3). -/
structure FS (g b1 : Nat) (v3 : Value) (p : DP) (W : World) : Prop where
  ex : ∃ A1 c1 A3 c3, v3 = .slice A3 p.opn.length c3 ∧ W.heap[g]? = some (.cells #[.int .i64 p.vars, .slice A1 p.cls.length c1] 35 (0, 0)) ∧ kcs.R 42 W b1 (fun k => some k ≠ (Value.slice A3 p.opn.length c3).ownBlock) (.slice A1 p.cls.length c1) p.cls ∧ (Kd.int .i32).R 40 W b1 (fun _ => True) (.slice A3 p.opn.length c3) p.opn
  top : b1 ≤ W.heap.size
theorem FS.below {g b1 : Nat} {v3 : Value} {p : DP} {W W' : World} (h : FS g b1 v3 p W) (hb : Below W.heap.size W W') : FS g b1 v3 p W' := by
  obtain ⟨A1, c1, A3, c3, e, h0, h1, h2⟩ := h.ex
  exact ⟨⟨A1, c1, A3, c3, e, blk_below h0 hb, Kd.R_below h1 hb, Kd.R_below h2 hb⟩, Nat.le_trans h.top hb.size⟩
section
variable {ops : Array Oper} {rest : List Oper} {o : Oper} {a : Act} {W : World} {Q : Exit → Act → World → Prop}
end
end Go.Proofs.YtigloobbpcnnhaaGreatDoor.PB
end
end
