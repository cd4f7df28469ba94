import Derived.Test.YtigloobbpcnnhaaGreatDoorKB2
import Derived.Outline
import Derived.Sort.QuietIn
import Derived.Lib.SlBytesConst
-- texts of this claim, packed, what nothing reaches struck (wip/tools/prune.py): FThreshingref01Right FThreshingkitSameClause FThreshingkitSameFormula FThreshingkitSameModel FThreshingkitSize HDev1 HDprint HDparse HDworks
section
namespace Go.Proofs.YtigloobbpcnnhaaGreatDoor.PB
open Go.RowKit Go.Proofs.YtigloobbpcnnhaaGreatDoorW.PrintWords Go.Proofs.YtigloobbpcnnhaaGreatDoorW.PrintLast Go.Proofs.YtigloobbpcnnhaaGreatDoorW.PrintMore
attribute [local go_sem] max2_int min2_int max_two min_two max_three min_three max_four min_four   -- for this text's walks alone
set_option linter.unusedVariables false
set_option linter.unusedSimpArgs false
mutual
def threshingref01_Right.j0 : Nat → Bool → Int → List (List Int) → Option (Int)
  | 0, _, _, _ => none
  | k + 1, x14, x216000, x216001 => if x14 = true then (some 2) else (if (x216001.length : Int) > 1048576 then (some 3) else (threshingref01_Right.l0 k 0 0 x216000 x216001))
def threshingref01_Right.l0 : Nat → Int → Int → Int → List (List Int) → Option (Int)
  | 0, _, _, _, _ => none
  | k + 1, x3, x4, x216000, x216001 => if x4 < (x216001.length : Int) then (threshingref01_Right.l1 k x3 x4 0 x216000 x216001) else (some 0)
def threshingref01_Right.l1 : Nat → Int → Int → Int → Int → List (List Int) → Option (Int)
  | 0, _, _, _, _, _ => none
  | k + 1, x3, x4, x5, x216000, x216001 => if 0 ≤ x4 then (if x4 < (x216001.length : Int) then (if x5 < ((rd_L6 x216001 x4).length : Int) then (if (wrap64 (x3 + 1)) > 16777216 then (some 3) else (if 0 ≤ x5 then (if (rd (rd_L6 x216001 x4) x5) = 0 then (some 4) else ((threshingref01_Var.f (rd (rd_L6 x216001 x4) x5)).bind fun t219 => (if t219 > x216000 then (some 4) else (threshingref01_Right.l1 k (wrap64 (x3 + 1)) x4 (wrap64 (x5 + 1)) x216000 x216001)))) else (none))) else (threshingref01_Right.l0 k x3 (wrap64 (x4 + 1)) x216000 x216001)) else (none)) else (none)
end
def threshingref01_Right.f (k : Nat) (a0_0 : Int) (l0_1 : List (List Int)) : Option (Int) := if a0_0 < 0 then (threshingref01_Right.j0 k true a0_0 l0_1) else (threshingref01_Right.j0 k (decide (a0_0 > 1048576)) a0_0 l0_1)
theorem threshingref01_Right.mono_l : ∀ k, (∀ y0 y1 y2, LeO (threshingref01_Right.j0 k y0 y1 y2) (threshingref01_Right.j0 (k + 1) y0 y1 y2)) ∧ (∀ y0 y1 y2 y3, LeO (threshingref01_Right.l0 k y0 y1 y2 y3) (threshingref01_Right.l0 (k + 1) y0 y1 y2 y3)) ∧ (∀ y0 y1 y2 y3 y4, LeO (threshingref01_Right.l1 k y0 y1 y2 y3 y4) (threshingref01_Right.l1 (k + 1) y0 y1 y2 y3 y4))
  | 0 => ⟨fun _ _ _ r h => by simp [threshingref01_Right.j0] at h, fun _ _ _ _ r h => by simp [threshingref01_Right.l0] at h, fun _ _ _ _ _ r h => by simp [threshingref01_Right.l1] at h⟩
  | k + 1 => by
    obtain ⟨ih0, ih1, ih2⟩ := threshingref01_Right.mono_l k
    refine ⟨?_, ?_, ?_⟩
    · intro y0 y1 y2
      unfold threshingref01_Right.j0
      repeat' first
      | (with_reducible exact ih0 _ _ _)
      | (with_reducible exact ih1 _ _ _ _)
      | (with_reducible exact ih2 _ _ _ _ _)
      | (with_reducible exact LeO.refl _)
      | (with_reducible exact LeO.none _)
      | (with_reducible refine LeO.ite ?_ ?_)
      | (with_reducible refine LeO.bind ?_ (fun _ => ?_))
      | exact ih0 _ _ _
      | exact ih1 _ _ _ _
      | exact ih2 _ _ _ _ _
      | exact LeO.none _
      | refine LeO.ite ?_ ?_
      | refine LeO.bind ?_ (fun _ => ?_)
    · intro y0 y1 y2 y3
      unfold threshingref01_Right.l0
      repeat' first
      | (with_reducible exact ih0 _ _ _)
      | (with_reducible exact ih1 _ _ _ _)
      | (with_reducible exact ih2 _ _ _ _ _)
      | (with_reducible exact LeO.refl _)
      | (with_reducible exact LeO.none _)
      | (with_reducible refine LeO.ite ?_ ?_)
      | (with_reducible refine LeO.bind ?_ (fun _ => ?_))
      | exact ih0 _ _ _
      | exact ih1 _ _ _ _
      | exact ih2 _ _ _ _ _
      | exact LeO.none _
      | refine LeO.ite ?_ ?_
      | refine LeO.bind ?_ (fun _ => ?_)
    · intro y0 y1 y2 y3 y4
      unfold threshingref01_Right.l1
      repeat' first
      | (with_reducible exact ih0 _ _ _)
      | (with_reducible exact ih1 _ _ _ _)
      | (with_reducible exact ih2 _ _ _ _ _)
      | (with_reducible exact LeO.refl _)
      | (with_reducible exact LeO.none _)
      | (with_reducible refine LeO.ite ?_ ?_)
      | (with_reducible refine LeO.bind ?_ (fun _ => ?_))
      | exact ih0 _ _ _
      | exact ih1 _ _ _ _
      | exact ih2 _ _ _ _ _
      | exact LeO.none _
      | refine LeO.ite ?_ ?_
      | refine LeO.bind ?_ (fun _ => ?_)
theorem threshingref01_Right.mono : ∀ a0 a1 k, LeO (threshingref01_Right.f k a0 a1) (threshingref01_Right.f (k + 1) a0 a1) := by
  intro a0 a1 k
  obtain ⟨ih0, ih1, ih2⟩ := threshingref01_Right.mono_l k
  unfold threshingref01_Right.f
  repeat' first
      | (with_reducible exact ih0 _ _ _)
      | (with_reducible exact ih1 _ _ _ _)
      | (with_reducible exact ih2 _ _ _ _ _)
      | (with_reducible exact LeO.refl _)
      | (with_reducible exact LeO.none _)
      | (with_reducible refine LeO.ite ?_ ?_)
      | (with_reducible refine LeO.bind ?_ (fun _ => ?_))
      | exact ih0 _ _ _
      | exact ih1 _ _ _ _
      | exact ih2 _ _ _ _ _
      | exact LeO.none _
      | refine LeO.ite ?_ ?_
      | refine LeO.bind ?_ (fun _ => ?_)
set_option maxHeartbeats 8000000 in
set_option maxRecDepth 100000 in
theorem threshingref01_Right.calls (k : Nat) (a0_0 : Int) (A0_1 : Option Addr) (c0_1 : Nat) (l0_1 : List (List Int)) (r : Int) (w : World) (hr0_1 : Kd.C (Kd.slice 40 (Kd.int .i32)) w A0_1 l0_1.length l0_1) (hc0_1 : l0_1.length ≤ c0_1) (h : threshingref01_Right.f k a0_0 l0_1 = some r) :
    Calls Tryz.prog 49 #[.agg #[.int .i64 a0_0, .slice A0_1 l0_1.length c0_1]] w fun e w' => e = .returned (.int .i64 r) ∧ Below w.heap.size w w' := by
  have hu25 := Tryz.underlying35
  have HR0_1 := Aside0.mk hr0_1
  have HC0_1 := Aside0.mk hc0_1
  clear hr0_1 hc0_1
  have HB := Aside0.mk (Below.refl w.heap.size w)
  have H : (if a0_0 < 0 then (threshingref01_Right.j0 k true a0_0 l0_1) else (threshingref01_Right.j0 k (decide (a0_0 > 1048576)) a0_0 l0_1)) = some r := h
  clear h
  have HC2 := Aside0.mk H
  clear H
  go_enter Tryz.func49, Tryz.ntmps49
  go_upto_region 1 with (first | ((with_reducible refine gate_dst (N := 1) rfl ?_); refine box_event ?hg (N := 1) ?hd (cs := #[.int .i64 a0_0, .slice A0_1 l0_1.length c0_1]) (t := 35) ?hr ?_; (case hd => rfl); (case hg => rfl); (case hr => first | (go_simp; done) | (go_simp; rfl)); intro gb215 hg w3 hbox hb; have n0_ := Aside0.mk (below_step (by repeat (first | (with_reducible first | exact HB.out | apply below_alloc | apply pw_below_drewN | apply below_drew1) | exact HB.out)) hb); have n1_ := Aside0.mk (hbox); have n2_ := Aside0.mk ((by rw [hg]; exact (below_size (by repeat (first | (with_reducible first | exact HB.out | apply below_alloc | apply pw_below_drewN | apply below_drew1) | exact HB.out))) : w.heap.size ≤ gb215)); have n3_ := Aside0.mk ((by rw [hg]; exact (below_size (by repeat (first | (with_reducible first | exact HB.out | apply below_alloc | apply pw_below_drewN | apply below_drew1) | exact HB.out))) : w.heap.size ≤ gb215)); clear HB; have HB := n0_; have BK215 := n1_; have GW215 := n2_; have GE215 := n3_; clear n0_ n1_ n2_ n3_; clear hb hbox hg))
  repeat (go_quiet (first | ((with_reducible refine gate_dst (N := 1) rfl ?_); refine box_event ?hg (N := 1) ?hd (cs := #[.int .i64 a0_0, .slice A0_1 l0_1.length c0_1]) (t := 35) ?hr ?_; (case hd => rfl); (case hg => rfl); (case hr => first | (go_simp; done) | (go_simp; rfl)); intro gb215 hg w3 hbox hb; have n0_ := Aside0.mk (below_step (by repeat (first | (with_reducible first | exact HB.out | apply below_alloc | apply pw_below_drewN | apply below_drew1) | exact HB.out)) hb); have n1_ := Aside0.mk (hbox); have n2_ := Aside0.mk ((by rw [hg]; exact (below_size (by repeat (first | (with_reducible first | exact HB.out | apply below_alloc | apply pw_below_drewN | apply below_drew1) | exact HB.out))) : w.heap.size ≤ gb215)); have n3_ := Aside0.mk ((by rw [hg]; exact (below_size (by repeat (first | (with_reducible first | exact HB.out | apply below_alloc | apply pw_below_drewN | apply below_drew1) | exact HB.out))) : w.heap.size ≤ gb215)); clear HB; have HB := n0_; have BK215 := n1_; have GW215 := n2_; have GE215 := n3_; clear n0_ n1_ n2_ n3_; clear hb hbox hg)); go_upto_region 1 with (first | ((with_reducible refine gate_dst (N := 1) rfl ?_); refine box_event ?hg (N := 1) ?hd (cs := #[.int .i64 a0_0, .slice A0_1 l0_1.length c0_1]) (t := 35) ?hr ?_; (case hd => rfl); (case hg => rfl); (case hr => first | (go_simp; done) | (go_simp; rfl)); intro gb215 hg w3 hbox hb; have n0_ := Aside0.mk (below_step (by repeat (first | (with_reducible first | exact HB.out | apply below_alloc | apply pw_below_drewN | apply below_drew1) | exact HB.out)) hb); have n1_ := Aside0.mk (hbox); have n2_ := Aside0.mk ((by rw [hg]; exact (below_size (by repeat (first | (with_reducible first | exact HB.out | apply below_alloc | apply pw_below_drewN | apply below_drew1) | exact HB.out))) : w.heap.size ≤ gb215)); have n3_ := Aside0.mk ((by rw [hg]; exact (below_size (by repeat (first | (with_reducible first | exact HB.out | apply below_alloc | apply pw_below_drewN | apply below_drew1) | exact HB.out))) : w.heap.size ≤ gb215)); clear HB; have HB := n0_; have BK215 := n1_; have GW215 := n2_; have GE215 := n3_; clear n0_ n1_ n2_ n3_; clear hb hbox hg)))
  (try simp only [Act.put, List.setIfInBounds_toArray, List.set_cons_zero, List.set_cons_succ])
  go_cut [14] (fun v14 wc => ∃ (kq : Nat) (x14_1 : Bool), v14 = .bool x14_1 ∧ Aside0 (threshingref01_Right.j0 kq x14_1 a0_0 l0_1 = some r) ∧ Aside0 (kq ≤ k) ∧ Aside0 (wc.heap[gb215]? = some (.cells #[.int .i64 a0_0, (.slice A0_1 l0_1.length c0_1)] 35 (0, 0))) ∧ Aside0 (Below w.heap.size w wc))
  case first =>
    have H := HC2.out
    clear HC2
    by_cases c4 : a0_0 < 0
    · rw [if_pos c4] at H
      have c4b0 : decide (a0_0 < 0) = true := decide_eq_true c4
      clear c4
      (first | rw [c4b0] | (simp only [i64_w, i32_w]; rw [c4b0]) | skip)
      have H' := Aside0.mk H
      clear H
      have hcz5_0 : w3.cell? ⟨gb215, 0, none⟩ = some (.int .i64 a0_0) := (blk_cell BK215.out 0).trans rfl
      have hcz5_1 : w3.cell? ⟨gb215, 1, none⟩ = some (.slice A0_1 l0_1.length c0_1) := (blk_cell BK215.out 1).trans rfl
      have hfz5_0 := blk_frozen BK215.out 0
      have hfz5_1 := blk_frozen BK215.out 1
      go_wp2
      repeat (go_quiet (fail); try go_wp2)
      go_meet
      case rel => exact ⟨_, (true), (by first | rfl | (simp; done) | (simp [*]; done)), H', ⟨by first | omega | exact Nat.le_refl _⟩, ⟨by (with_reducible repeat (first | refine blk_drewN ?_ _ | refine blk_drew ?_ | refine blk_alloc ?_ _)); exact BK215.out⟩, ⟨by repeat (first | (with_reducible first | exact HB.out | apply below_alloc | apply pw_below_drewN | apply below_drew1 | refine below_set ?_ GE215.out) | exact HB.out)⟩⟩
    · rw [if_neg c4] at H
      have c4b0 : decide (a0_0 < 0) = false := decide_eq_false c4
      clear c4
      (first | rw [c4b0] | (simp only [i64_w, i32_w]; rw [c4b0]) | skip)
      have H' := Aside0.mk H
      clear H
      have hcz6_0 : w3.cell? ⟨gb215, 0, none⟩ = some (.int .i64 a0_0) := (blk_cell BK215.out 0).trans rfl
      have hcz6_1 : w3.cell? ⟨gb215, 1, none⟩ = some (.slice A0_1 l0_1.length c0_1) := (blk_cell BK215.out 1).trans rfl
      have hfz6_0 := blk_frozen BK215.out 0
      have hfz6_1 := blk_frozen BK215.out 1
      go_wp2
      repeat (go_quiet (fail); try go_wp2)
      go_meet
      case rel => exact ⟨_, (decide (a0_0 > 1048576)), (by first | rfl | (simp; done) | (simp [*]; done)), H', ⟨by first | omega | exact Nat.le_refl _⟩, ⟨by (with_reducible repeat (first | refine blk_drewN ?_ _ | refine blk_drew ?_ | refine blk_alloc ?_ _)); exact BK215.out⟩, ⟨by repeat (first | (with_reducible first | exact HB.out | apply below_alloc | apply pw_below_drewN | apply below_drew1 | refine below_set ?_ GE215.out) | exact HB.out)⟩⟩
  case rest =>
    clear HC2
    try clear p2
    try clear c3
    try clear c4
    try clear c4b0
    try clear hcz5_0
    try clear hcz5_1
    try clear hcz6_0
    try clear hcz6_1
    try clear hfz5_0
    try clear hfz5_1
    try clear hfz6_0
    try clear hfz6_1
    obtain ⟨kq, x14_1, rfl, HA, HJ1, BK215, HB⟩ := hcut
    cases kq with
    | zero => exact absurd HA.out (by simp [threshingref01_Right.j0])
    | succ kj1 =>
      have H := HA.out
      clear HA
      simp only [threshingref01_Right.j0] at H
      by_cases c7 : x14_1 = true
      · subst c7
        have H1 : (some 2) = some r := by rw [if_pos rfl] at H; exact H
        clear H
        have H := H1
        clear H1
        obtain rfl := Option.some.inj H
        go_wp2
        repeat (go_quiet (fail); try go_wp2)
        go_ret
        exact ⟨by first | rfl | (simp [errW_none, errW_some] <;> rfl) | (simp [*, errW_none, errW_some] <;> rfl), by repeat (first | (with_reducible first | exact HB.out | apply below_alloc | apply pw_below_drewN | apply below_drew1 | refine below_set ?_ GE215.out) | exact HB.out)⟩
      · replace c7 := Bool.eq_false_iff.mpr c7
        subst c7
        have H1 : (if (l0_1.length : Int) > 1048576 then (some 3) else (threshingref01_Right.l0 kj1 0 0 a0_0 l0_1)) = some r := by rw [if_neg (show ¬ (false = true) by decide)] at H; exact H
        clear H
        have H := H1
        clear H1
        by_cases c8 : (l0_1.length : Int) > 1048576
        · rw [if_pos c8] at H
          have c8b0 : decide (1048576 < (l0_1.length : Int)) = true := decide_eq_true c8
          have c8b1 : decide (1048576 < l0_1.length) = true := decide_eq_true (by omega)
          clear c8
          obtain rfl := Option.some.inj H
          have hcz9_0 : wc.cell? ⟨gb215, 0, none⟩ = some (.int .i64 a0_0) := (blk_cell BK215.out 0).trans rfl
          have hcz9_1 : wc.cell? ⟨gb215, 1, none⟩ = some (.slice A0_1 l0_1.length c0_1) := (blk_cell BK215.out 1).trans rfl
          have hfz9_0 := blk_frozen BK215.out 0
          have hfz9_1 := blk_frozen BK215.out 1
          go_wp2
          repeat (go_quiet (fail); try go_wp2)
          go_ret
          exact ⟨by first | rfl | (simp [errW_none, errW_some] <;> rfl) | (simp [*, errW_none, errW_some] <;> rfl), by repeat (first | (with_reducible first | exact HB.out | apply below_alloc | apply pw_below_drewN | apply below_drew1 | refine below_set ?_ GE215.out) | exact HB.out)⟩
        · rw [if_neg c8] at H
          have c8b0 : decide (1048576 < (l0_1.length : Int)) = false := decide_eq_false c8
          have c8b1 : decide (1048576 < l0_1.length) = false := decide_eq_false (by omega)
          clear c8
          have H' := Aside0.mk H
          clear H
          have hcz10_0 : wc.cell? ⟨gb215, 0, none⟩ = some (.int .i64 a0_0) := (blk_cell BK215.out 0).trans rfl
          have hcz10_1 : wc.cell? ⟨gb215, 1, none⟩ = some (.slice A0_1 l0_1.length c0_1) := (blk_cell BK215.out 1).trans rfl
          have hfz10_0 := blk_frozen BK215.out 0
          have hfz10_1 := blk_frozen BK215.out 1
          go_wp2
          repeat (go_quiet (fail); try go_wp2)
          go_loopg [3, 4] kj1 (fun kq v3 v4 w' => ∃ (x3_2 : Int) (x4_2 : Int), v3 = .int .i64 x3_2 ∧ v4 = .int .i64 x4_2 ∧ Aside0 (threshingref01_Right.l0 kq x3_2 x4_2 a0_0 l0_1 = some r) ∧ Aside0 (kq ≤ kj1) ∧ Aside0 (w'.heap[gb215]? = some (.cells #[.int .i64 a0_0, (.slice A0_1 l0_1.length c0_1)] 35 (0, 0))) ∧ Aside0 (Below w.heap.size w w'))
          case atStart => exact ⟨(0), (0), (by first | rfl | (simp; done) | (simp [*]; done)), (by first | rfl | (simp; done) | (simp [*]; done)), H', ⟨Nat.le_refl _⟩, ⟨by (with_reducible repeat (first | refine blk_drewN ?_ _ | refine blk_drew ?_ | refine blk_alloc ?_ _)); exact BK215.out⟩, ⟨by repeat (first | (with_reducible first | exact HB.out | apply below_alloc | apply pw_below_drewN | apply below_drew1 | refine below_set ?_ GE215.out) | exact HB.out)⟩⟩
          case round =>
            clear H'
            try clear p2
            try clear c3
            try clear c4
            try clear c4b0
            try clear c7
            try clear c8
            try clear c8b0
            try clear c8b1
            try clear hcz10_0
            try clear hcz10_1
            try clear hcz5_0
            try clear hcz5_1
            try clear hcz6_0
            try clear hcz6_1
            try clear hcz9_0
            try clear hcz9_1
            try clear hfz10_0
            try clear hfz10_1
            try clear hfz5_0
            try clear hfz5_1
            try clear hfz6_0
            try clear hfz6_1
            try clear hfz9_0
            try clear hfz9_1
            try clear p2
            obtain ⟨x3_2, x4_2, rfl, rfl, HA, HK2, BK215, HB⟩ := hrel
            cases gk with
            | zero => exact absurd HA.out (by simp [threshingref01_Right.l0])
            | succ k2 =>
              have H := HA.out
              clear HA
              simp only [threshingref01_Right.l0] at H
              by_cases c11 : x4_2 < (l0_1.length : Int)
              · rw [if_pos c11] at H
                have c11b0 : decide (x4_2 < (l0_1.length : Int)) = true := decide_eq_true c11
                clear c11
                have H' := Aside0.mk H
                clear H
                have hcz12_0 : wr.cell? ⟨gb215, 0, none⟩ = some (.int .i64 a0_0) := (blk_cell BK215.out 0).trans rfl
                have hcz12_1 : wr.cell? ⟨gb215, 1, none⟩ = some (.slice A0_1 l0_1.length c0_1) := (blk_cell BK215.out 1).trans rfl
                have hfz12_0 := blk_frozen BK215.out 0
                have hfz12_1 := blk_frozen BK215.out 1
                go_wp2
                repeat (go_quiet (fail); try go_wp2)
                go_loopg [3, 5] k2 (fun kq v3 v5 w' => ∃ (x3_3 : Int) (x5_3 : Int), v3 = .int .i64 x3_3 ∧ v5 = .int .i64 x5_3 ∧ Aside0 (threshingref01_Right.l1 kq x3_3 x4_2 x5_3 a0_0 l0_1 = some r) ∧ Aside0 (kq ≤ k2) ∧ Aside0 (w'.heap[gb215]? = some (.cells #[.int .i64 a0_0, (.slice A0_1 l0_1.length c0_1)] 35 (0, 0))) ∧ Aside0 (Below w.heap.size w w'))
                case atStart => exact ⟨(x3_2), (0), (by first | rfl | (simp; done) | (simp [*]; done)), (by first | rfl | (simp; done) | (simp [*]; done)), H', ⟨Nat.le_refl _⟩, ⟨by (with_reducible repeat (first | refine blk_drewN ?_ _ | refine blk_drew ?_ | refine blk_alloc ?_ _)); exact BK215.out⟩, ⟨by repeat (first | (with_reducible first | exact HB.out | apply below_alloc | apply pw_below_drewN | apply below_drew1 | refine below_set ?_ GE215.out) | exact HB.out)⟩⟩
                case round =>
                  clear H'
                  try clear c1
                  try clear p2
                  try clear c3
                  try clear c4
                  try clear c4b0
                  try clear c7
                  try clear c8
                  try clear c8b0
                  try clear c8b1
                  try clear c11
                  try clear c11b0
                  try clear hcz10_0
                  try clear hcz10_1
                  try clear hcz12_0
                  try clear hcz12_1
                  try clear hcz5_0
                  try clear hcz5_1
                  try clear hcz6_0
                  try clear hcz6_1
                  try clear hcz9_0
                  try clear hcz9_1
                  try clear hfz10_0
                  try clear hfz10_1
                  try clear hfz12_0
                  try clear hfz12_1
                  try clear hfz5_0
                  try clear hfz5_1
                  try clear hfz6_0
                  try clear hfz6_1
                  try clear hfz9_0
                  try clear hfz9_1
                  try clear p2
                  obtain ⟨x3_3, x5_3, rfl, rfl, HA, HK3, BK215, HB⟩ := hrel
                  cases gk with
                  | zero => exact absurd HA.out (by simp [threshingref01_Right.l1])
                  | succ k3 =>
                    have H := HA.out
                    clear HA
                    simp only [threshingref01_Right.l1] at H
                    by_cases c13 : 0 ≤ x4_2
                    · rw [if_pos c13] at H
                      have c13b0 : decide (0 ≤ x4_2) = true := decide_eq_true c13
                      clear c13
                      by_cases c14 : x4_2 < (l0_1.length : Int)
                      · rw [if_pos c14] at H
                        have c14b0 : decide (x4_2 < (l0_1.length : Int)) = true := decide_eq_true c14
                        clear c14
                        by_cases c15 : x5_3 < ((rd_L6 l0_1 x4_2).length : Int)
                        · rw [if_pos c15] at H
                          have c15b0 : decide (x5_3 < ((rd_L6 l0_1 x4_2).length : Int)) = true := decide_eq_true c15
                          clear c15
                          by_cases c16 : (wrap64 (x3_3 + 1)) > 16777216
                          · rw [if_pos c16] at H
                            have c16b0 : decide (16777216 < (wrap64 (x3_3 + 1))) = true := decide_eq_true c16
                            clear c16
                            obtain rfl := Option.some.inj H
                            have hcz17_0 : wr.cell? ⟨gb215, 0, none⟩ = some (.int .i64 a0_0) := (blk_cell BK215.out 0).trans rfl
                            have hcz17_1 : wr.cell? ⟨gb215, 1, none⟩ = some (.slice A0_1 l0_1.length c0_1) := (blk_cell BK215.out 1).trans rfl
                            have hfz17_0 := blk_frozen BK215.out 0
                            have hfz17_1 := blk_frozen BK215.out 1
                            have p216 : 0 ≤ (x4_2 : Int) := of_decide_eq_true (by first | (with_reducible assumption) | assumption)
                            have q216 : x4_2 < (l0_1.length : Int) := of_decide_eq_true (by first | (with_reducible assumption) | assumption)
                            obtain ⟨ad216, A216_0, c216_0, e216, hx216_0, hl216_0, hi216_0⟩ := at_L6 HR0_1.out x4_2 p216 q216
                            cases e216
                            replace hx216_0 := (HB.out.cell (World.block_lt_of_cell? w _ hx216_0)).trans hx216_0
                            have HR216_0 := Aside0.mk hi216_0
                            have HC216_0 := Aside0.mk hl216_0
                            clear hi216_0 hl216_0
                            replace p216 := eq_true p216
                            replace q216 := eq_true q216
                            go_wp2
                            repeat (go_quiet (fail); try go_wp2)
                            go_ret
                            exact ⟨by first | rfl | (simp [errW_none, errW_some] <;> rfl) | (simp [*, errW_none, errW_some] <;> rfl), by repeat (first | (with_reducible first | exact HB.out | apply below_alloc | apply pw_below_drewN | apply below_drew1 | refine below_set ?_ GE215.out) | exact HB.out)⟩
                          · rw [if_neg c16] at H
                            have c16b0 : decide (16777216 < (wrap64 (x3_3 + 1))) = false := decide_eq_false c16
                            clear c16
                            by_cases c18 : 0 ≤ x5_3
                            · rw [if_pos c18] at H
                              have c18b0 : decide (0 ≤ x5_3) = true := decide_eq_true c18
                              clear c18
                              by_cases c19 : (rd (rd_L6 l0_1 x4_2) x5_3) = 0
                              · rw [if_pos c19] at H
                                have c19b0 : ((rd (rd_L6 l0_1 x4_2) x5_3) == 0) = true := beq_iff_eq.mpr c19
                                have c19b1 : ((rd (rd_L6 l0_1 x4_2) x5_3) != 0) = false := bne_eq_false_iff_eq.mpr c19
                                clear c19
                                obtain rfl := Option.some.inj H
                                have hcz20_0 : wr.cell? ⟨gb215, 0, none⟩ = some (.int .i64 a0_0) := (blk_cell BK215.out 0).trans rfl
                                have hcz20_1 : wr.cell? ⟨gb215, 1, none⟩ = some (.slice A0_1 l0_1.length c0_1) := (blk_cell BK215.out 1).trans rfl
                                have hfz20_0 := blk_frozen BK215.out 0
                                have hfz20_1 := blk_frozen BK215.out 1
                                have p216 : 0 ≤ (x4_2 : Int) := of_decide_eq_true (by first | (with_reducible assumption) | assumption)
                                have q216 : x4_2 < (l0_1.length : Int) := of_decide_eq_true (by first | (with_reducible assumption) | assumption)
                                obtain ⟨ad216, A216_0, c216_0, e216, hx216_0, hl216_0, hi216_0⟩ := at_L6 HR0_1.out x4_2 p216 q216
                                cases e216
                                replace hx216_0 := (HB.out.cell (World.block_lt_of_cell? w _ hx216_0)).trans hx216_0
                                have HR216_0 := Aside0.mk hi216_0
                                have HC216_0 := Aside0.mk hl216_0
                                clear hi216_0 hl216_0
                                replace p216 := eq_true p216
                                replace q216 := eq_true q216
                                have p217 : 0 ≤ (x4_2 : Int) := of_decide_eq_true (by first | (with_reducible assumption) | assumption)
                                have q217 : x4_2 < (l0_1.length : Int) := of_decide_eq_true (by first | (with_reducible assumption) | assumption)
                                obtain ⟨ad217, A217_0, c217_0, e217, hx217_0, hl217_0, hi217_0⟩ := at_L6 HR0_1.out x4_2 p217 q217
                                obtain rfl : ad216 = ad217 := (by injection e217)
                                replace hx217_0 := (HB.out.cell (World.block_lt_of_cell? w _ hx217_0)).trans hx217_0
                                have HR217_0 := Aside0.mk hi217_0
                                have HC217_0 := Aside0.mk hl217_0
                                clear hi217_0 hl217_0
                                replace p217 := eq_true p217
                                replace q217 := eq_true q217
                                have ea_ := Option.some.inj (hx216_0.symm.trans hx217_0)
                                injection ea_ with ea_ en_ ec_
                                subst ea_
                                subst ec_
                                clear en_
                                have p218 : 0 ≤ (x5_3 : Int) := of_decide_eq_true (by first | (with_reducible assumption) | assumption)
                                have q218 : x5_3 < ((rd_L6 l0_1 x4_2).length : Int) := of_decide_eq_true (by first | (with_reducible assumption) | assumption)
                                obtain ⟨ad218, e218, hx218_0⟩ := Kd.at_int HR217_0.out x5_3 p218 q218
                                cases e218
                                replace hx218_0 := (HB.out.cell (World.block_lt_of_cell? w _ hx218_0)).trans hx218_0
                                replace p218 := eq_true p218
                                replace q218 := eq_true q218
                                go_wp2
                                repeat (go_quiet (fail); try go_wp2)
                                go_ret
                                exact ⟨by first | rfl | (simp [errW_none, errW_some] <;> rfl) | (simp [*, errW_none, errW_some] <;> rfl), by repeat (first | (with_reducible first | exact HB.out | apply below_alloc | apply pw_below_drewN | apply below_drew1 | refine below_set ?_ GE215.out) | exact HB.out)⟩
                              · rw [if_neg c19] at H
                                have c19b0 : ((rd (rd_L6 l0_1 x4_2) x5_3) == 0) = false := beq_eq_false_iff_ne.mpr c19
                                have c19b1 : ((rd (rd_L6 l0_1 x4_2) x5_3) != 0) = true := bne_iff_ne.mpr c19
                                replace H := Option.bind_eq_some_iff.mp H
                                obtain ⟨t219, A210, H⟩ := H
                                replace H : (if t219 > a0_0 then (some 4) else (threshingref01_Right.l1 k3 (wrap64 (x3_3 + 1)) x4_2 (wrap64 (x5_3 + 1)) a0_0 l0_1)) = some r := H
                                have A21 := Aside0.mk A210
                                clear A210
                                by_cases c22 : t219 > a0_0
                                · rw [if_pos c22] at H
                                  have c22b0 : decide (a0_0 < t219) = true := decide_eq_true c22
                                  clear c22
                                  obtain rfl := Option.some.inj H
                                  have hcz23_0 : wr.cell? ⟨gb215, 0, none⟩ = some (.int .i64 a0_0) := (blk_cell BK215.out 0).trans rfl
                                  have hcz23_1 : wr.cell? ⟨gb215, 1, none⟩ = some (.slice A0_1 l0_1.length c0_1) := (blk_cell BK215.out 1).trans rfl
                                  have hfz23_0 := blk_frozen BK215.out 0
                                  have hfz23_1 := blk_frozen BK215.out 1
                                  have p216 : 0 ≤ (x4_2 : Int) := of_decide_eq_true (by first | (with_reducible assumption) | assumption)
                                  have q216 : x4_2 < (l0_1.length : Int) := of_decide_eq_true (by first | (with_reducible assumption) | assumption)
                                  obtain ⟨ad216, A216_0, c216_0, e216, hx216_0, hl216_0, hi216_0⟩ := at_L6 HR0_1.out x4_2 p216 q216
                                  cases e216
                                  replace hx216_0 := (HB.out.cell (World.block_lt_of_cell? w _ hx216_0)).trans hx216_0
                                  have HR216_0 := Aside0.mk hi216_0
                                  have HC216_0 := Aside0.mk hl216_0
                                  clear hi216_0 hl216_0
                                  replace p216 := eq_true p216
                                  replace q216 := eq_true q216
                                  have p217 : 0 ≤ (x4_2 : Int) := of_decide_eq_true (by first | (with_reducible assumption) | assumption)
                                  have q217 : x4_2 < (l0_1.length : Int) := of_decide_eq_true (by first | (with_reducible assumption) | assumption)
                                  obtain ⟨ad217, A217_0, c217_0, e217, hx217_0, hl217_0, hi217_0⟩ := at_L6 HR0_1.out x4_2 p217 q217
                                  obtain rfl : ad216 = ad217 := (by injection e217)
                                  replace hx217_0 := (HB.out.cell (World.block_lt_of_cell? w _ hx217_0)).trans hx217_0
                                  have HR217_0 := Aside0.mk hi217_0
                                  have HC217_0 := Aside0.mk hl217_0
                                  clear hi217_0 hl217_0
                                  replace p217 := eq_true p217
                                  replace q217 := eq_true q217
                                  have ea_ := Option.some.inj (hx216_0.symm.trans hx217_0)
                                  injection ea_ with ea_ en_ ec_
                                  subst ea_
                                  subst ec_
                                  clear en_
                                  have p218 : 0 ≤ (x5_3 : Int) := of_decide_eq_true (by first | (with_reducible assumption) | assumption)
                                  have q218 : x5_3 < ((rd_L6 l0_1 x4_2).length : Int) := of_decide_eq_true (by first | (with_reducible assumption) | assumption)
                                  obtain ⟨ad218, e218, hx218_0⟩ := Kd.at_int HR217_0.out x5_3 p218 q218
                                  cases e218
                                  replace hx218_0 := (HB.out.cell (World.block_lt_of_cell? w _ hx218_0)).trans hx218_0
                                  replace p218 := eq_true p218
                                  replace q218 := eq_true q218
                                  go_wp2_with (first | (go_at_call 66; (with_reducible refine (threshingref01_Var.calls (rd (rd_L6 l0_1 x4_2) x5_3) t219 _ A21.out).mono ?_); rintro e w' ⟨rfl, ⟨nd, rfl⟩⟩; (try first | exact ⟨rfl, _, World.drewN_drewN _ _ _⟩ | exact ⟨rfl, _, Eq.trans (World.drewN_drewN _ _ _) (congrArg (World.drewN _) (Nat.add_assoc _ _ _))⟩)))
                                  repeat (go_quiet (first | (go_at_call 66; (with_reducible refine (threshingref01_Var.calls (rd (rd_L6 l0_1 x4_2) x5_3) t219 _ A21.out).mono ?_); rintro e w' ⟨rfl, ⟨nd, rfl⟩⟩; (try first | exact ⟨rfl, _, World.drewN_drewN _ _ _⟩ | exact ⟨rfl, _, Eq.trans (World.drewN_drewN _ _ _) (congrArg (World.drewN _) (Nat.add_assoc _ _ _))⟩))); try go_wp2_with (first | (go_at_call 66; (with_reducible refine (threshingref01_Var.calls (rd (rd_L6 l0_1 x4_2) x5_3) t219 _ A21.out).mono ?_); rintro e w' ⟨rfl, ⟨nd, rfl⟩⟩; (try first | exact ⟨rfl, _, World.drewN_drewN _ _ _⟩ | exact ⟨rfl, _, Eq.trans (World.drewN_drewN _ _ _) (congrArg (World.drewN _) (Nat.add_assoc _ _ _))⟩))))
                                  go_ret
                                  exact ⟨by first | rfl | (simp [errW_none, errW_some] <;> rfl) | (simp [*, errW_none, errW_some] <;> rfl), by repeat (first | (with_reducible first | exact HB.out | apply below_alloc | apply pw_below_drewN | apply below_drew1 | refine below_set ?_ GE215.out) | exact HB.out)⟩
                                · rw [if_neg c22] at H
                                  have c22b0 : decide (a0_0 < t219) = false := decide_eq_false c22
                                  clear c22
                                  have H' := Aside0.mk H
                                  clear H
                                  have hcz24_0 : wr.cell? ⟨gb215, 0, none⟩ = some (.int .i64 a0_0) := (blk_cell BK215.out 0).trans rfl
                                  have hcz24_1 : wr.cell? ⟨gb215, 1, none⟩ = some (.slice A0_1 l0_1.length c0_1) := (blk_cell BK215.out 1).trans rfl
                                  have hfz24_0 := blk_frozen BK215.out 0
                                  have hfz24_1 := blk_frozen BK215.out 1
                                  have p216 : 0 ≤ (x4_2 : Int) := of_decide_eq_true (by first | (with_reducible assumption) | assumption)
                                  have q216 : x4_2 < (l0_1.length : Int) := of_decide_eq_true (by first | (with_reducible assumption) | assumption)
                                  obtain ⟨ad216, A216_0, c216_0, e216, hx216_0, hl216_0, hi216_0⟩ := at_L6 HR0_1.out x4_2 p216 q216
                                  cases e216
                                  replace hx216_0 := (HB.out.cell (World.block_lt_of_cell? w _ hx216_0)).trans hx216_0
                                  have HR216_0 := Aside0.mk hi216_0
                                  have HC216_0 := Aside0.mk hl216_0
                                  clear hi216_0 hl216_0
                                  replace p216 := eq_true p216
                                  replace q216 := eq_true q216
                                  have p217 : 0 ≤ (x4_2 : Int) := of_decide_eq_true (by first | (with_reducible assumption) | assumption)
                                  have q217 : x4_2 < (l0_1.length : Int) := of_decide_eq_true (by first | (with_reducible assumption) | assumption)
                                  obtain ⟨ad217, A217_0, c217_0, e217, hx217_0, hl217_0, hi217_0⟩ := at_L6 HR0_1.out x4_2 p217 q217
                                  obtain rfl : ad216 = ad217 := (by injection e217)
                                  replace hx217_0 := (HB.out.cell (World.block_lt_of_cell? w _ hx217_0)).trans hx217_0
                                  have HR217_0 := Aside0.mk hi217_0
                                  have HC217_0 := Aside0.mk hl217_0
                                  clear hi217_0 hl217_0
                                  replace p217 := eq_true p217
                                  replace q217 := eq_true q217
                                  have ea_ := Option.some.inj (hx216_0.symm.trans hx217_0)
                                  injection ea_ with ea_ en_ ec_
                                  subst ea_
                                  subst ec_
                                  clear en_
                                  have p218 : 0 ≤ (x5_3 : Int) := of_decide_eq_true (by first | (with_reducible assumption) | assumption)
                                  have q218 : x5_3 < ((rd_L6 l0_1 x4_2).length : Int) := of_decide_eq_true (by first | (with_reducible assumption) | assumption)
                                  obtain ⟨ad218, e218, hx218_0⟩ := Kd.at_int HR217_0.out x5_3 p218 q218
                                  cases e218
                                  replace hx218_0 := (HB.out.cell (World.block_lt_of_cell? w _ hx218_0)).trans hx218_0
                                  replace p218 := eq_true p218
                                  replace q218 := eq_true q218
                                  go_wp2_with (first | (go_at_call 66; (with_reducible refine (threshingref01_Var.calls (rd (rd_L6 l0_1 x4_2) x5_3) t219 _ A21.out).mono ?_); rintro e w' ⟨rfl, ⟨nd, rfl⟩⟩; (try first | exact ⟨rfl, _, World.drewN_drewN _ _ _⟩ | exact ⟨rfl, _, Eq.trans (World.drewN_drewN _ _ _) (congrArg (World.drewN _) (Nat.add_assoc _ _ _))⟩)))
                                  repeat (go_quiet (first | (go_at_call 66; (with_reducible refine (threshingref01_Var.calls (rd (rd_L6 l0_1 x4_2) x5_3) t219 _ A21.out).mono ?_); rintro e w' ⟨rfl, ⟨nd, rfl⟩⟩; (try first | exact ⟨rfl, _, World.drewN_drewN _ _ _⟩ | exact ⟨rfl, _, Eq.trans (World.drewN_drewN _ _ _) (congrArg (World.drewN _) (Nat.add_assoc _ _ _))⟩))); try go_wp2_with (first | (go_at_call 66; (with_reducible refine (threshingref01_Var.calls (rd (rd_L6 l0_1 x4_2) x5_3) t219 _ A21.out).mono ?_); rintro e w' ⟨rfl, ⟨nd, rfl⟩⟩; (try first | exact ⟨rfl, _, World.drewN_drewN _ _ _⟩ | exact ⟨rfl, _, Eq.trans (World.drewN_drewN _ _ _) (congrArg (World.drewN _) (Nat.add_assoc _ _ _))⟩))))
                                  go_roundg k3
                                  case measure => have := HJ1.out; have := HK2.out; have := HK3.out; omega
                                  case rel => exact ⟨(wrap64 (x3_3 + 1)), (wrap64 (x5_3 + 1)), (by first | rfl | (simp; done) | (simp [*]; done)), (by first | rfl | (simp; done) | (simp [*]; done)), H', ⟨by have := HJ1.out; have := HK2.out; have := HK3.out; omega⟩, ⟨by (with_reducible repeat (first | refine blk_drewN ?_ _ | refine blk_drew ?_ | refine blk_alloc ?_ _)); exact BK215.out⟩, ⟨by repeat (first | (with_reducible first | exact HB.out | apply below_alloc | apply pw_below_drewN | apply below_drew1 | refine below_set ?_ GE215.out) | exact HB.out)⟩⟩
                            · rw [if_neg c18] at H
                              exact absurd H (by simp)
                        · rw [if_neg c15] at H
                          have c15b0 : decide (x5_3 < ((rd_L6 l0_1 x4_2).length : Int)) = false := decide_eq_false c15
                          clear c15
                          have H' := Aside0.mk H
                          clear H
                          have hcz25_0 : wr.cell? ⟨gb215, 0, none⟩ = some (.int .i64 a0_0) := (blk_cell BK215.out 0).trans rfl
                          have hcz25_1 : wr.cell? ⟨gb215, 1, none⟩ = some (.slice A0_1 l0_1.length c0_1) := (blk_cell BK215.out 1).trans rfl
                          have hfz25_0 := blk_frozen BK215.out 0
                          have hfz25_1 := blk_frozen BK215.out 1
                          have p216 : 0 ≤ (x4_2 : Int) := of_decide_eq_true (by first | (with_reducible assumption) | assumption)
                          have q216 : x4_2 < (l0_1.length : Int) := of_decide_eq_true (by first | (with_reducible assumption) | assumption)
                          obtain ⟨ad216, A216_0, c216_0, e216, hx216_0, hl216_0, hi216_0⟩ := at_L6 HR0_1.out x4_2 p216 q216
                          cases e216
                          replace hx216_0 := (HB.out.cell (World.block_lt_of_cell? w _ hx216_0)).trans hx216_0
                          have HR216_0 := Aside0.mk hi216_0
                          have HC216_0 := Aside0.mk hl216_0
                          clear hi216_0 hl216_0
                          replace p216 := eq_true p216
                          replace q216 := eq_true q216
                          go_wp2
                          repeat (go_quiet (fail); try go_wp2)
                          go_roundg k3
                          case measure => have := HJ1.out; have := HK2.out; have := HK3.out; omega
                          case rel => exact ⟨(x3_3), (wrap64 (x4_2 + 1)), (by first | rfl | (simp; done) | (simp [*]; done)), (by first | rfl | (simp; done) | (simp [*]; done)), H', ⟨by have := HJ1.out; have := HK2.out; have := HK3.out; omega⟩, ⟨by (with_reducible repeat (first | refine blk_drewN ?_ _ | refine blk_drew ?_ | refine blk_alloc ?_ _)); exact BK215.out⟩, ⟨by repeat (first | (with_reducible first | exact HB.out | apply below_alloc | apply pw_below_drewN | apply below_drew1 | refine below_set ?_ GE215.out) | exact HB.out)⟩⟩
                      · rw [if_neg c14] at H
                        exact absurd H (by simp)
                    · rw [if_neg c13] at H
                      exact absurd H (by simp)
              · rw [if_neg c11] at H
                have c11b0 : decide (x4_2 < (l0_1.length : Int)) = false := decide_eq_false c11
                clear c11
                obtain rfl := Option.some.inj H
                have hcz26_0 : wr.cell? ⟨gb215, 0, none⟩ = some (.int .i64 a0_0) := (blk_cell BK215.out 0).trans rfl
                have hcz26_1 : wr.cell? ⟨gb215, 1, none⟩ = some (.slice A0_1 l0_1.length c0_1) := (blk_cell BK215.out 1).trans rfl
                have hfz26_0 := blk_frozen BK215.out 0
                have hfz26_1 := blk_frozen BK215.out 1
                go_wp2
                repeat (go_quiet (fail); try go_wp2)
                go_ret
                exact ⟨by first | rfl | (simp [errW_none, errW_some] <;> rfl) | (simp [*, errW_none, errW_some] <;> rfl), by repeat (first | (with_reducible first | exact HB.out | apply below_alloc | apply pw_below_drewN | apply below_drew1 | refine below_set ?_ GE215.out) | exact HB.out)⟩
end Go.Proofs.YtigloobbpcnnhaaGreatDoor.PB
end
section
namespace Go.Proofs.YtigloobbpcnnhaaGreatDoor.PB
open Go.RowKit Go.Proofs.YtigloobbpcnnhaaGreatDoorW.PrintWords Go.Proofs.YtigloobbpcnnhaaGreatDoorW.PrintLast Go.Proofs.YtigloobbpcnnhaaGreatDoorW.PrintMore
attribute [local go_sem] max2_int min2_int max_two min_two max_three min_three max_four min_four   -- for this text's walks alone
set_option linter.unusedVariables false
set_option linter.unusedSimpArgs false
def threshingkit_SameClause.l0 : Nat → List Int → List Int → Int → Option (Bool)
  | 0, _, _, _ => none
  | k + 1, x0, x1, x5 => if x5 < (x0.length : Int) then (if 0 ≤ x5 then (if x5 < (x1.length : Int) then (if (rd x0 x5) = (rd x1 x5) then (threshingkit_SameClause.l0 k x0 x1 (wrap64 (x5 + 1))) else (some false)) else (none)) else (none)) else (some true)
def threshingkit_SameClause.f (k : Nat) (l0 : List Int) (l1 : List Int) : Option (Bool) := if (l0.length : Int) = (l1.length : Int) then (threshingkit_SameClause.l0 k l0 l1 0) else (some false)
theorem threshingkit_SameClause.mono_l : ∀ k, (∀ y0 y1 y2, LeO (threshingkit_SameClause.l0 k y0 y1 y2) (threshingkit_SameClause.l0 (k + 1) y0 y1 y2))
  | 0 => fun _ _ _ r h => by simp [threshingkit_SameClause.l0] at h
  | k + 1 => by
    have ih0 := threshingkit_SameClause.mono_l k
    · intro y0 y1 y2
      unfold threshingkit_SameClause.l0
      repeat' first
      | (with_reducible exact ih0 _ _ _)
      | (with_reducible exact LeO.refl _)
      | (with_reducible exact LeO.none _)
      | (with_reducible refine LeO.ite ?_ ?_)
      | (with_reducible refine LeO.bind ?_ (fun _ => ?_))
      | exact ih0 _ _ _
      | exact LeO.none _
      | refine LeO.ite ?_ ?_
      | refine LeO.bind ?_ (fun _ => ?_)
theorem threshingkit_SameClause.mono : ∀ a0 a1 k, LeO (threshingkit_SameClause.f k a0 a1) (threshingkit_SameClause.f (k + 1) a0 a1) := by
  intro a0 a1 k
  have ih0 := threshingkit_SameClause.mono_l k
  unfold threshingkit_SameClause.f
  repeat' first
      | (with_reducible exact ih0 _ _ _)
      | (with_reducible exact LeO.refl _)
      | (with_reducible exact LeO.none _)
      | (with_reducible refine LeO.ite ?_ ?_)
      | (with_reducible refine LeO.bind ?_ (fun _ => ?_))
      | exact ih0 _ _ _
      | exact LeO.none _
      | refine LeO.ite ?_ ?_
      | refine LeO.bind ?_ (fun _ => ?_)
set_option maxHeartbeats 8000000 in
set_option maxRecDepth 100000 in
theorem threshingkit_SameClause.calls (k : Nat) (A0 : Option Addr) (c0 : Nat) (l0 : List Int) (A1 : Option Addr) (c1 : Nat) (l1 : List Int) (r : Bool) (w : World) (hr0 : Kd.C (Kd.int .i32) w A0 l0.length l0) (hc0 : l0.length ≤ c0) (hr1 : Kd.C (Kd.int .i32) w A1 l1.length l1) (hc1 : l1.length ≤ c1) (h : threshingkit_SameClause.f k l0 l1 = some r) :
    Calls Tryz.prog 45 #[.slice A0 l0.length c0, .slice A1 l1.length c1] w fun e w' => e = .returned (.bool r) ∧ Drawn0 w w' := by
  have HR0 := Aside0.mk hr0
  have HC0 := Aside0.mk hc0
  clear hr0 hc0
  have HR1 := Aside0.mk hr1
  have HC1 := Aside0.mk hc1
  clear hr1 hc1
  have H : (if (l0.length : Int) = (l1.length : Int) then (threshingkit_SameClause.l0 k l0 l1 0) else (some false)) = some r := h
  clear h
  by_cases c3 : (l0.length : Int) = (l1.length : Int)
  · rw [if_pos c3] at H
    have c3b0 : ((l0.length : Int) == (l1.length : Int)) = true := beq_iff_eq.mpr c3
    have c3b1 : ((l0.length : Int) != (l1.length : Int)) = false := bne_eq_false_iff_eq.mpr c3
    have c3b2 : (l0.length == l1.length) = true := by first | simpa using c3 | (simp at c3 ⊢; omega)
    clear c3
    have H' := Aside0.mk H
    clear H
    go_enter Tryz.func45, Tryz.ntmps45
    go_wp2
    repeat (go_quiet (fail); try go_wp2)
    go_loopg [5] k (fun kq v5 w' => ∃ (x5_1 : Int), v5 = .int .i64 x5_1 ∧ Aside0 (threshingkit_SameClause.l0 kq l0 l1 x5_1 = some r) ∧ Aside0 (kq ≤ k) ∧ Drawn0 w w')
    case atStart => exact ⟨(0), (by first | rfl | (simp; done) | (simp [*]; done)), H', ⟨Nat.le_refl _⟩, by repeat (first | exact Drawn0.refl _ | apply Drawn0.step)⟩
    case round =>
      clear H'
      try clear c1
      try clear c2
      try clear p2
      try clear c3
      try clear c3b0
      try clear c3b1
      try clear c3b2
      obtain ⟨x5_1, rfl, HA, HK1, ⟨m1, rfl⟩⟩ := hrel
      cases gk with
      | zero => exact absurd HA.out (by simp [threshingkit_SameClause.l0])
      | succ k1 =>
        have H := HA.out
        clear HA
        simp only [threshingkit_SameClause.l0] at H
        by_cases c4 : x5_1 < (l0.length : Int)
        · rw [if_pos c4] at H
          have c4b0 : decide (x5_1 < (l0.length : Int)) = true := decide_eq_true c4
          clear c4
          by_cases c5 : 0 ≤ x5_1
          · rw [if_pos c5] at H
            have c5b0 : decide (0 ≤ x5_1) = true := decide_eq_true c5
            clear c5
            by_cases c6 : x5_1 < (l1.length : Int)
            · rw [if_pos c6] at H
              have c6b0 : decide (x5_1 < (l1.length : Int)) = true := decide_eq_true c6
              clear c6
              by_cases c7 : (rd l0 x5_1) = (rd l1 x5_1)
              · rw [if_pos c7] at H
                have c7b0 : ((rd l0 x5_1) == (rd l1 x5_1)) = true := beq_iff_eq.mpr c7
                have c7b1 : ((rd l0 x5_1) != (rd l1 x5_1)) = false := bne_eq_false_iff_eq.mpr c7
                clear c7
                have H' := Aside0.mk H
                clear H
                have p163 : 0 ≤ (x5_1 : Int) := of_decide_eq_true (by first | (with_reducible assumption) | assumption)
                have q163 : x5_1 < (l0.length : Int) := of_decide_eq_true (by first | (with_reducible assumption) | assumption)
                obtain ⟨ad163, e163, hx163_0⟩ := Kd.at_int HR0.out x5_1 p163 q163
                cases e163
                replace p163 := eq_true p163
                replace q163 := eq_true q163
                have p164 : 0 ≤ (x5_1 : Int) := of_decide_eq_true (by first | (with_reducible assumption) | assumption)
                have q164 : x5_1 < (l1.length : Int) := of_decide_eq_true (by first | (with_reducible assumption) | assumption)
                obtain ⟨ad164, e164, hx164_0⟩ := Kd.at_int HR1.out x5_1 p164 q164
                cases e164
                replace p164 := eq_true p164
                replace q164 := eq_true q164
                go_wp2
                repeat (go_quiet (fail); try go_wp2)
                go_roundg k1
                case measure => have := HK1.out; omega
                case rel => exact ⟨(wrap64 (x5_1 + 1)), (by first | rfl | (simp; done) | (simp [*]; done)), H', ⟨by have := HK1.out; omega⟩, by repeat (first | exact Drawn0.refl _ | apply Drawn0.step)⟩
              · rw [if_neg c7] at H
                have c7b0 : ((rd l0 x5_1) == (rd l1 x5_1)) = false := beq_eq_false_iff_ne.mpr c7
                have c7b1 : ((rd l0 x5_1) != (rd l1 x5_1)) = true := bne_iff_ne.mpr c7
                obtain rfl := Option.some.inj H
                have p163 : 0 ≤ (x5_1 : Int) := of_decide_eq_true (by first | (with_reducible assumption) | assumption)
                have q163 : x5_1 < (l0.length : Int) := of_decide_eq_true (by first | (with_reducible assumption) | assumption)
                obtain ⟨ad163, e163, hx163_0⟩ := Kd.at_int HR0.out x5_1 p163 q163
                cases e163
                replace p163 := eq_true p163
                replace q163 := eq_true q163
                have p164 : 0 ≤ (x5_1 : Int) := of_decide_eq_true (by first | (with_reducible assumption) | assumption)
                have q164 : x5_1 < (l1.length : Int) := of_decide_eq_true (by first | (with_reducible assumption) | assumption)
                obtain ⟨ad164, e164, hx164_0⟩ := Kd.at_int HR1.out x5_1 p164 q164
                cases e164
                replace p164 := eq_true p164
                replace q164 := eq_true q164
                go_wp2
                repeat (go_quiet (fail); try go_wp2)
                go_ret
                exact ⟨by first | rfl | (simp; done) | (simp [*]; done), by repeat (first | exact Drawn0.refl _ | apply Drawn0.step)⟩
            · rw [if_neg c6] at H
              exact absurd H (by simp)
          · rw [if_neg c5] at H
            exact absurd H (by simp)
        · rw [if_neg c4] at H
          have c4b0 : decide (x5_1 < (l0.length : Int)) = false := decide_eq_false c4
          clear c4
          obtain rfl := Option.some.inj H
          go_wp2
          repeat (go_quiet (fail); try go_wp2)
          go_ret
          exact ⟨by first | rfl | (simp; done) | (simp [*]; done), by repeat (first | exact Drawn0.refl _ | apply Drawn0.step)⟩
  · rw [if_neg c3] at H
    have c3b0 : ((l0.length : Int) == (l1.length : Int)) = false := beq_eq_false_iff_ne.mpr c3
    have c3b1 : ((l0.length : Int) != (l1.length : Int)) = true := bne_iff_ne.mpr c3
    have c3b2 : (l0.length == l1.length) = false := by first | simpa using c3 | (simp at c3 ⊢; omega)
    obtain rfl := Option.some.inj H
    go_enter Tryz.func45, Tryz.ntmps45
    go_wp2
    repeat (go_quiet (fail); try go_wp2)
    go_ret
    exact ⟨by first | rfl | (simp; done) | (simp [*]; done), by repeat (first | exact Drawn0.refl _ | apply Drawn0.step)⟩
end Go.Proofs.YtigloobbpcnnhaaGreatDoor.PB
end
section
namespace Go.Proofs.YtigloobbpcnnhaaGreatDoor.PB
open Go.RowKit Go.Proofs.YtigloobbpcnnhaaGreatDoorW.PrintWords Go.Proofs.YtigloobbpcnnhaaGreatDoorW.PrintLast Go.Proofs.YtigloobbpcnnhaaGreatDoorW.PrintMore
attribute [local go_sem] max2_int min2_int max_two min_two max_three min_three max_four min_four   -- for this text's walks alone
set_option linter.unusedVariables false
set_option linter.unusedSimpArgs false
mutual
def threshingkit_SameFormula.j0 : Nat → Bool → Int → List (List Int) → Int → List (List Int) → Option (Bool)
  | 0, _, _, _, _, _ => none
  | k + 1, x19, x166000, x166001, x167000, x167001 => if x19 = true then (some false) else (threshingkit_SameFormula.l0 k 0 x166000 x166001 x167000 x167001)
def threshingkit_SameFormula.l0 : Nat → Int → Int → List (List Int) → Int → List (List Int) → Option (Bool)
  | 0, _, _, _, _, _ => none
  | k + 1, x5, x166000, x166001, x167000, x167001 => if x5 < (x166001.length : Int) then (if 0 ≤ x5 then (if x5 < (x167001.length : Int) then ((threshingkit_SameClause.f k (rd_L6 x166001 x5) (rd_L6 x167001 x5)).bind fun t169 => (if t169 = true then (threshingkit_SameFormula.l0 k (wrap64 (x5 + 1)) x166000 x166001 x167000 x167001) else (some false))) else (none)) else (none)) else (some true)
end
def threshingkit_SameFormula.f (k : Nat) (a0_0 : Int) (l0_1 : List (List Int)) (a1_0 : Int) (l1_1 : List (List Int)) : Option (Bool) := if a0_0 = a1_0 then (threshingkit_SameFormula.j0 k ((l0_1.length : Int) != (l1_1.length : Int)) a0_0 l0_1 a1_0 l1_1) else (threshingkit_SameFormula.j0 k true a0_0 l0_1 a1_0 l1_1)
theorem threshingkit_SameFormula.mono_l : ∀ k, (∀ y0 y1 y2 y3 y4, LeO (threshingkit_SameFormula.j0 k y0 y1 y2 y3 y4) (threshingkit_SameFormula.j0 (k + 1) y0 y1 y2 y3 y4)) ∧ (∀ y0 y1 y2 y3 y4, LeO (threshingkit_SameFormula.l0 k y0 y1 y2 y3 y4) (threshingkit_SameFormula.l0 (k + 1) y0 y1 y2 y3 y4))
  | 0 => ⟨fun _ _ _ _ _ r h => by simp [threshingkit_SameFormula.j0] at h, fun _ _ _ _ _ r h => by simp [threshingkit_SameFormula.l0] at h⟩
  | k + 1 => by
    obtain ⟨ih0, ih1⟩ := threshingkit_SameFormula.mono_l k
    refine ⟨?_, ?_⟩
    · intro y0 y1 y2 y3 y4
      unfold threshingkit_SameFormula.j0
      repeat' first
      | (with_reducible exact ih0 _ _ _ _ _)
      | (with_reducible exact ih1 _ _ _ _ _)
      | (with_reducible exact threshingkit_SameClause.mono _ _ _)
      | (with_reducible exact LeO.refl _)
      | (with_reducible exact LeO.none _)
      | (with_reducible refine LeO.ite ?_ ?_)
      | (with_reducible refine LeO.bind ?_ (fun _ => ?_))
      | exact ih0 _ _ _ _ _
      | exact ih1 _ _ _ _ _
      | exact threshingkit_SameClause.mono _ _ _
      | exact LeO.none _
      | refine LeO.ite ?_ ?_
      | refine LeO.bind ?_ (fun _ => ?_)
    · intro y0 y1 y2 y3 y4
      unfold threshingkit_SameFormula.l0
      repeat' first
      | (with_reducible exact ih0 _ _ _ _ _)
      | (with_reducible exact ih1 _ _ _ _ _)
      | (with_reducible exact threshingkit_SameClause.mono _ _ _)
      | (with_reducible exact LeO.refl _)
      | (with_reducible exact LeO.none _)
      | (with_reducible refine LeO.ite ?_ ?_)
      | (with_reducible refine LeO.bind ?_ (fun _ => ?_))
      | exact ih0 _ _ _ _ _
      | exact ih1 _ _ _ _ _
      | exact threshingkit_SameClause.mono _ _ _
      | exact LeO.none _
      | refine LeO.ite ?_ ?_
      | refine LeO.bind ?_ (fun _ => ?_)
theorem threshingkit_SameFormula.mono : ∀ a0 a1 a2 a3 k, LeO (threshingkit_SameFormula.f k a0 a1 a2 a3) (threshingkit_SameFormula.f (k + 1) a0 a1 a2 a3) := by
  intro a0 a1 a2 a3 k
  obtain ⟨ih0, ih1⟩ := threshingkit_SameFormula.mono_l k
  unfold threshingkit_SameFormula.f
  repeat' first
      | (with_reducible exact ih0 _ _ _ _ _)
      | (with_reducible exact ih1 _ _ _ _ _)
      | (with_reducible exact threshingkit_SameClause.mono _ _ _)
      | (with_reducible exact LeO.refl _)
      | (with_reducible exact LeO.none _)
      | (with_reducible refine LeO.ite ?_ ?_)
      | (with_reducible refine LeO.bind ?_ (fun _ => ?_))
      | exact ih0 _ _ _ _ _
      | exact ih1 _ _ _ _ _
      | exact threshingkit_SameClause.mono _ _ _
      | exact LeO.none _
      | refine LeO.ite ?_ ?_
      | refine LeO.bind ?_ (fun _ => ?_)
set_option maxHeartbeats 8000000 in
set_option maxRecDepth 100000 in
theorem threshingkit_SameFormula.calls (k : Nat) (a0_0 : Int) (A0_1 : Option Addr) (c0_1 : Nat) (l0_1 : List (List Int)) (a1_0 : Int) (A1_1 : Option Addr) (c1_1 : Nat) (l1_1 : List (List Int)) (r : Bool) (w : World) (hr0_1 : Kd.C (Kd.slice 40 (Kd.int .i32)) w A0_1 l0_1.length l0_1) (hc0_1 : l0_1.length ≤ c0_1) (hr1_1 : Kd.C (Kd.slice 40 (Kd.int .i32)) w A1_1 l1_1.length l1_1) (hc1_1 : l1_1.length ≤ c1_1) (h : threshingkit_SameFormula.f k a0_0 l0_1 a1_0 l1_1 = some r) :
    Calls Tryz.prog 23 #[.agg #[.int .i64 a0_0, .slice A0_1 l0_1.length c0_1], .agg #[.int .i64 a1_0, .slice A1_1 l1_1.length c1_1]] w fun e w' => e = .returned (.bool r) ∧ Below w.heap.size w w' := by
  have hu25 := Tryz.underlying35
  have HR0_1 := Aside0.mk hr0_1
  have HC0_1 := Aside0.mk hc0_1
  clear hr0_1 hc0_1
  have HR1_1 := Aside0.mk hr1_1
  have HC1_1 := Aside0.mk hc1_1
  clear hr1_1 hc1_1
  have HB := Aside0.mk (Below.refl w.heap.size w)
  have H : (if a0_0 = a1_0 then (threshingkit_SameFormula.j0 k ((l0_1.length : Int) != (l1_1.length : Int)) a0_0 l0_1 a1_0 l1_1) else (threshingkit_SameFormula.j0 k true a0_0 l0_1 a1_0 l1_1)) = some r := h
  clear h
  have HC3 := Aside0.mk H
  clear H
  go_enter Tryz.func23, Tryz.ntmps23
  go_upto_region 1 with (first | ((with_reducible refine gate_dst (N := 2) rfl ?_); (try (refine gate_guard (by rfl) ?_; dsimp only)); refine box_event ?hg (N := 2) ?hd (cs := #[.int .i64 a0_0, .slice A0_1 l0_1.length c0_1]) (t := 35) ?hr ?_; (case hd => rfl); (case hg => rfl); (case hr => first | (go_simp; done) | (go_simp; rfl)); intro gb165 hg w4 hbox hb; have n0_ := Aside0.mk (below_step (by repeat (first | (with_reducible first | exact HB.out | apply below_alloc | apply pw_below_drewN | apply below_drew1) | exact HB.out)) hb); have n1_ := Aside0.mk (hbox); have n2_ := Aside0.mk ((by rw [hg]; exact (below_size (by repeat (first | (with_reducible first | exact HB.out | apply below_alloc | apply pw_below_drewN | apply below_drew1) | exact HB.out))) : w.heap.size ≤ gb165)); have n3_ := Aside0.mk ((by rw [hg]; exact (below_size (by repeat (first | (with_reducible first | exact HB.out | apply below_alloc | apply pw_below_drewN | apply below_drew1) | exact HB.out))) : w.heap.size ≤ gb165)); clear HB; have HB := n0_; have BK165 := n1_; have GW165 := n2_; have GE165 := n3_; clear n0_ n1_ n2_ n3_; clear hb hbox hg) | ((with_reducible refine gate_dst (N := 3) rfl ?_); (try (refine gate_guard (by rfl) ?_; dsimp only)); refine box_event ?hg (N := 3) ?hd (cs := #[.int .i64 a1_0, .slice A1_1 l1_1.length c1_1]) (t := 35) ?hr ?_; (case hd => rfl); (case hg => rfl); (case hr => first | (go_simp; done) | (go_simp; rfl)); intro gb166 hg w5 hbox hb; have n0_ := Aside0.mk (blk_below (g := gb165) (o := .cells #[.int .i64 a0_0, .slice A0_1 l0_1.length c0_1] 35 (0, 0)) (by (with_reducible repeat (first | refine blk_drewN ?_ _ | refine blk_drew ?_ | refine blk_alloc ?_ _)); exact BK165.out) hb); have n1_ := Aside0.mk (below_step (by repeat (first | (with_reducible first | exact HB.out | apply below_alloc | apply pw_below_drewN | apply below_drew1 | refine below_set ?_ GE165.out) | exact HB.out)) hb); have n2_ := Aside0.mk (hbox); have n3_ := Aside0.mk ((by rw [hg]; exact (below_size (by repeat (first | (with_reducible first | exact HB.out | apply below_alloc | apply pw_below_drewN | apply below_drew1 | refine below_set ?_ GE165.out) | exact HB.out))) : w.heap.size ≤ gb166)); have n4_ := Aside0.mk ((by rw [hg]; exact (below_size (by repeat (first | (with_reducible first | exact HB.out | apply below_alloc | apply pw_below_drewN | apply below_drew1 | refine below_set ?_ GE165.out) | exact HB.out))) : w.heap.size ≤ gb166)); have n5_ := Aside0.mk ((by rw [hg]; exact Nat.ne_of_lt (blk_lt (g := gb165) (o := .cells #[.int .i64 a0_0, .slice A0_1 l0_1.length c0_1] 35 (0, 0)) (by (with_reducible repeat (first | refine blk_drewN ?_ _ | refine blk_drew ?_ | refine blk_alloc ?_ _)); exact BK165.out)) : gb165 ≠ gb166)); have n6_ := Aside0.mk ((by rw [hg]; exact Nat.ne_of_gt (blk_lt (g := gb165) (o := .cells #[.int .i64 a0_0, .slice A0_1 l0_1.length c0_1] 35 (0, 0)) (by (with_reducible repeat (first | refine blk_drewN ?_ _ | refine blk_drew ?_ | refine blk_alloc ?_ _)); exact BK165.out)) : gb166 ≠ gb165)); clear BK165; clear HB; have BK165 := n0_; have HB := n1_; have BK166 := n2_; have GW166 := n3_; have GE166 := n4_; have NB165_166 := n5_; have NB166_165 := n6_; clear n0_ n1_ n2_ n3_ n4_ n5_ n6_; clear hb hbox hg))
  repeat (go_quiet (first | ((with_reducible refine gate_dst (N := 2) rfl ?_); (try (refine gate_guard (by rfl) ?_; dsimp only)); refine box_event ?hg (N := 2) ?hd (cs := #[.int .i64 a0_0, .slice A0_1 l0_1.length c0_1]) (t := 35) ?hr ?_; (case hd => rfl); (case hg => rfl); (case hr => first | (go_simp; done) | (go_simp; rfl)); intro gb165 hg w4 hbox hb; have n0_ := Aside0.mk (below_step (by repeat (first | (with_reducible first | exact HB.out | apply below_alloc | apply pw_below_drewN | apply below_drew1) | exact HB.out)) hb); have n1_ := Aside0.mk (hbox); have n2_ := Aside0.mk ((by rw [hg]; exact (below_size (by repeat (first | (with_reducible first | exact HB.out | apply below_alloc | apply pw_below_drewN | apply below_drew1) | exact HB.out))) : w.heap.size ≤ gb165)); have n3_ := Aside0.mk ((by rw [hg]; exact (below_size (by repeat (first | (with_reducible first | exact HB.out | apply below_alloc | apply pw_below_drewN | apply below_drew1) | exact HB.out))) : w.heap.size ≤ gb165)); clear HB; have HB := n0_; have BK165 := n1_; have GW165 := n2_; have GE165 := n3_; clear n0_ n1_ n2_ n3_; clear hb hbox hg) | ((with_reducible refine gate_dst (N := 3) rfl ?_); (try (refine gate_guard (by rfl) ?_; dsimp only)); refine box_event ?hg (N := 3) ?hd (cs := #[.int .i64 a1_0, .slice A1_1 l1_1.length c1_1]) (t := 35) ?hr ?_; (case hd => rfl); (case hg => rfl); (case hr => first | (go_simp; done) | (go_simp; rfl)); intro gb166 hg w5 hbox hb; have n0_ := Aside0.mk (blk_below (g := gb165) (o := .cells #[.int .i64 a0_0, .slice A0_1 l0_1.length c0_1] 35 (0, 0)) (by (with_reducible repeat (first | refine blk_drewN ?_ _ | refine blk_drew ?_ | refine blk_alloc ?_ _)); exact BK165.out) hb); have n1_ := Aside0.mk (below_step (by repeat (first | (with_reducible first | exact HB.out | apply below_alloc | apply pw_below_drewN | apply below_drew1 | refine below_set ?_ GE165.out) | exact HB.out)) hb); have n2_ := Aside0.mk (hbox); have n3_ := Aside0.mk ((by rw [hg]; exact (below_size (by repeat (first | (with_reducible first | exact HB.out | apply below_alloc | apply pw_below_drewN | apply below_drew1 | refine below_set ?_ GE165.out) | exact HB.out))) : w.heap.size ≤ gb166)); have n4_ := Aside0.mk ((by rw [hg]; exact (below_size (by repeat (first | (with_reducible first | exact HB.out | apply below_alloc | apply pw_below_drewN | apply below_drew1 | refine below_set ?_ GE165.out) | exact HB.out))) : w.heap.size ≤ gb166)); have n5_ := Aside0.mk ((by rw [hg]; exact Nat.ne_of_lt (blk_lt (g := gb165) (o := .cells #[.int .i64 a0_0, .slice A0_1 l0_1.length c0_1] 35 (0, 0)) (by (with_reducible repeat (first | refine blk_drewN ?_ _ | refine blk_drew ?_ | refine blk_alloc ?_ _)); exact BK165.out)) : gb165 ≠ gb166)); have n6_ := Aside0.mk ((by rw [hg]; exact Nat.ne_of_gt (blk_lt (g := gb165) (o := .cells #[.int .i64 a0_0, .slice A0_1 l0_1.length c0_1] 35 (0, 0)) (by (with_reducible repeat (first | refine blk_drewN ?_ _ | refine blk_drew ?_ | refine blk_alloc ?_ _)); exact BK165.out)) : gb166 ≠ gb165)); clear BK165; clear HB; have BK165 := n0_; have HB := n1_; have BK166 := n2_; have GW166 := n3_; have GE166 := n4_; have NB165_166 := n5_; have NB166_165 := n6_; clear n0_ n1_ n2_ n3_ n4_ n5_ n6_; clear hb hbox hg)); go_upto_region 1 with (first | ((with_reducible refine gate_dst (N := 2) rfl ?_); (try (refine gate_guard (by rfl) ?_; dsimp only)); refine box_event ?hg (N := 2) ?hd (cs := #[.int .i64 a0_0, .slice A0_1 l0_1.length c0_1]) (t := 35) ?hr ?_; (case hd => rfl); (case hg => rfl); (case hr => first | (go_simp; done) | (go_simp; rfl)); intro gb165 hg w4 hbox hb; have n0_ := Aside0.mk (below_step (by repeat (first | (with_reducible first | exact HB.out | apply below_alloc | apply pw_below_drewN | apply below_drew1) | exact HB.out)) hb); have n1_ := Aside0.mk (hbox); have n2_ := Aside0.mk ((by rw [hg]; exact (below_size (by repeat (first | (with_reducible first | exact HB.out | apply below_alloc | apply pw_below_drewN | apply below_drew1) | exact HB.out))) : w.heap.size ≤ gb165)); have n3_ := Aside0.mk ((by rw [hg]; exact (below_size (by repeat (first | (with_reducible first | exact HB.out | apply below_alloc | apply pw_below_drewN | apply below_drew1) | exact HB.out))) : w.heap.size ≤ gb165)); clear HB; have HB := n0_; have BK165 := n1_; have GW165 := n2_; have GE165 := n3_; clear n0_ n1_ n2_ n3_; clear hb hbox hg) | ((with_reducible refine gate_dst (N := 3) rfl ?_); (try (refine gate_guard (by rfl) ?_; dsimp only)); refine box_event ?hg (N := 3) ?hd (cs := #[.int .i64 a1_0, .slice A1_1 l1_1.length c1_1]) (t := 35) ?hr ?_; (case hd => rfl); (case hg => rfl); (case hr => first | (go_simp; done) | (go_simp; rfl)); intro gb166 hg w5 hbox hb; have n0_ := Aside0.mk (blk_below (g := gb165) (o := .cells #[.int .i64 a0_0, .slice A0_1 l0_1.length c0_1] 35 (0, 0)) (by (with_reducible repeat (first | refine blk_drewN ?_ _ | refine blk_drew ?_ | refine blk_alloc ?_ _)); exact BK165.out) hb); have n1_ := Aside0.mk (below_step (by repeat (first | (with_reducible first | exact HB.out | apply below_alloc | apply pw_below_drewN | apply below_drew1 | refine below_set ?_ GE165.out) | exact HB.out)) hb); have n2_ := Aside0.mk (hbox); have n3_ := Aside0.mk ((by rw [hg]; exact (below_size (by repeat (first | (with_reducible first | exact HB.out | apply below_alloc | apply pw_below_drewN | apply below_drew1 | refine below_set ?_ GE165.out) | exact HB.out))) : w.heap.size ≤ gb166)); have n4_ := Aside0.mk ((by rw [hg]; exact (below_size (by repeat (first | (with_reducible first | exact HB.out | apply below_alloc | apply pw_below_drewN | apply below_drew1 | refine below_set ?_ GE165.out) | exact HB.out))) : w.heap.size ≤ gb166)); have n5_ := Aside0.mk ((by rw [hg]; exact Nat.ne_of_lt (blk_lt (g := gb165) (o := .cells #[.int .i64 a0_0, .slice A0_1 l0_1.length c0_1] 35 (0, 0)) (by (with_reducible repeat (first | refine blk_drewN ?_ _ | refine blk_drew ?_ | refine blk_alloc ?_ _)); exact BK165.out)) : gb165 ≠ gb166)); have n6_ := Aside0.mk ((by rw [hg]; exact Nat.ne_of_gt (blk_lt (g := gb165) (o := .cells #[.int .i64 a0_0, .slice A0_1 l0_1.length c0_1] 35 (0, 0)) (by (with_reducible repeat (first | refine blk_drewN ?_ _ | refine blk_drew ?_ | refine blk_alloc ?_ _)); exact BK165.out)) : gb166 ≠ gb165)); clear BK165; clear HB; have BK165 := n0_; have HB := n1_; have BK166 := n2_; have GW166 := n3_; have GE166 := n4_; have NB165_166 := n5_; have NB166_165 := n6_; clear n0_ n1_ n2_ n3_ n4_ n5_ n6_; clear hb hbox hg)))
  (try simp only [Act.put, List.setIfInBounds_toArray, List.set_cons_zero, List.set_cons_succ])
  go_cut [19] (fun v19 wc => ∃ (kq : Nat) (x19_2 : Bool), v19 = .bool x19_2 ∧ Aside0 (threshingkit_SameFormula.j0 kq x19_2 a0_0 l0_1 a1_0 l1_1 = some r) ∧ Aside0 (kq ≤ k) ∧ Aside0 (wc.heap[gb165]? = some (.cells #[.int .i64 a0_0, (.slice A0_1 l0_1.length c0_1)] 35 (0, 0))) ∧ Aside0 (wc.heap[gb166]? = some (.cells #[.int .i64 a1_0, (.slice A1_1 l1_1.length c1_1)] 35 (0, 0))) ∧ Aside0 (Below w.heap.size w wc))
  case first =>
    have H := HC3.out
    clear HC3
    by_cases c6 : a0_0 = a1_0
    · rw [if_pos c6] at H
      have c6b0 : (a0_0 == a1_0) = true := beq_iff_eq.mpr c6
      have c6b1 : (a0_0 != a1_0) = false := bne_eq_false_iff_eq.mpr c6
      clear c6
      (first | rw [c6b0] | (simp only [i64_w, i32_w]; rw [c6b0]) | skip)
      have H' := Aside0.mk H
      clear H
      have hnb7 := NB165_166.out
      have hnc7 := NB166_165.out
      have hcz8_0 : w5.cell? ⟨gb165, 0, none⟩ = some (.int .i64 a0_0) := (blk_cell BK165.out 0).trans rfl
      have hcz8_1 : w5.cell? ⟨gb165, 1, none⟩ = some (.slice A0_1 l0_1.length c0_1) := (blk_cell BK165.out 1).trans rfl
      have hfz8_0 := blk_frozen BK165.out 0
      have hfz8_1 := blk_frozen BK165.out 1
      have hcz9_0 : w5.cell? ⟨gb166, 0, none⟩ = some (.int .i64 a1_0) := (blk_cell BK166.out 0).trans rfl
      have hcz9_1 : w5.cell? ⟨gb166, 1, none⟩ = some (.slice A1_1 l1_1.length c1_1) := (blk_cell BK166.out 1).trans rfl
      have hfz9_0 := blk_frozen BK166.out 0
      have hfz9_1 := blk_frozen BK166.out 1
      go_wp2
      repeat (go_quiet (fail); try go_wp2)
      go_meet
      case rel => exact ⟨_, (((l0_1.length : Int) != (l1_1.length : Int))), (by first | rfl | (simp; done) | (simp [*]; done)), H', ⟨by first | omega | exact Nat.le_refl _⟩, ⟨by (with_reducible repeat (first | refine blk_drewN ?_ _ | refine blk_drew ?_ | refine blk_alloc ?_ _)); exact BK165.out⟩, ⟨by (with_reducible repeat (first | refine blk_drewN ?_ _ | refine blk_drew ?_ | refine blk_alloc ?_ _)); exact BK166.out⟩, ⟨by repeat (first | (with_reducible first | exact HB.out | apply below_alloc | apply pw_below_drewN | apply below_drew1 | refine below_set ?_ GE165.out | refine below_set ?_ GE166.out) | exact HB.out)⟩⟩
    · rw [if_neg c6] at H
      have c6b0 : (a0_0 == a1_0) = false := beq_eq_false_iff_ne.mpr c6
      have c6b1 : (a0_0 != a1_0) = true := bne_iff_ne.mpr c6
      (first | rw [c6b0] | (simp only [i64_w, i32_w]; rw [c6b0]) | skip)
      have H' := Aside0.mk H
      clear H
      have hnb10 := NB165_166.out
      have hnc10 := NB166_165.out
      have hcz11_0 : w5.cell? ⟨gb165, 0, none⟩ = some (.int .i64 a0_0) := (blk_cell BK165.out 0).trans rfl
      have hcz11_1 : w5.cell? ⟨gb165, 1, none⟩ = some (.slice A0_1 l0_1.length c0_1) := (blk_cell BK165.out 1).trans rfl
      have hfz11_0 := blk_frozen BK165.out 0
      have hfz11_1 := blk_frozen BK165.out 1
      have hcz12_0 : w5.cell? ⟨gb166, 0, none⟩ = some (.int .i64 a1_0) := (blk_cell BK166.out 0).trans rfl
      have hcz12_1 : w5.cell? ⟨gb166, 1, none⟩ = some (.slice A1_1 l1_1.length c1_1) := (blk_cell BK166.out 1).trans rfl
      have hfz12_0 := blk_frozen BK166.out 0
      have hfz12_1 := blk_frozen BK166.out 1
      go_wp2
      repeat (go_quiet (fail); try go_wp2)
      go_meet
      case rel => exact ⟨_, (true), (by first | rfl | (simp; done) | (simp [*]; done)), H', ⟨by first | omega | exact Nat.le_refl _⟩, ⟨by (with_reducible repeat (first | refine blk_drewN ?_ _ | refine blk_drew ?_ | refine blk_alloc ?_ _)); exact BK165.out⟩, ⟨by (with_reducible repeat (first | refine blk_drewN ?_ _ | refine blk_drew ?_ | refine blk_alloc ?_ _)); exact BK166.out⟩, ⟨by repeat (first | (with_reducible first | exact HB.out | apply below_alloc | apply pw_below_drewN | apply below_drew1 | refine below_set ?_ GE165.out | refine below_set ?_ GE166.out) | exact HB.out)⟩⟩
  case rest =>
    clear HC3
    try clear c1
    try clear p2
    try clear c6
    try clear c6b0
    try clear c6b1
    try clear c7
    try clear c9
    try clear c10
    try clear hcz11_0
    try clear hcz11_1
    try clear hcz12_0
    try clear hcz12_1
    try clear hcz8_0
    try clear hcz8_1
    try clear hcz9_0
    try clear hcz9_1
    try clear hfz11_0
    try clear hfz11_1
    try clear hfz12_0
    try clear hfz12_1
    try clear hfz8_0
    try clear hfz8_1
    try clear hfz9_0
    try clear hfz9_1
    obtain ⟨kq, x19_2, rfl, HA, HJ2, BK165, BK166, HB⟩ := hcut
    cases kq with
    | zero => exact absurd HA.out (by simp [threshingkit_SameFormula.j0])
    | succ kj2 =>
      have H := HA.out
      clear HA
      simp only [threshingkit_SameFormula.j0] at H
      by_cases c13 : x19_2 = true
      · subst c13
        have H1 : (some false) = some r := by rw [if_pos rfl] at H; exact H
        clear H
        have H := H1
        clear H1
        obtain rfl := Option.some.inj H
        go_wp2
        repeat (go_quiet (fail); try go_wp2)
        go_ret
        exact ⟨by first | rfl | (simp [errW_none, errW_some] <;> rfl) | (simp [*, errW_none, errW_some] <;> rfl), by repeat (first | (with_reducible first | exact HB.out | apply below_alloc | apply pw_below_drewN | apply below_drew1 | refine below_set ?_ GE165.out | refine below_set ?_ GE166.out) | exact HB.out)⟩
      · replace c13 := Bool.eq_false_iff.mpr c13
        subst c13
        have H1 : (threshingkit_SameFormula.l0 kj2 0 a0_0 l0_1 a1_0 l1_1) = some r := by rw [if_neg (show ¬ (false = true) by decide)] at H; exact H
        clear H
        have H := H1
        clear H1
        have H' := Aside0.mk H
        clear H
        go_wp2
        repeat (go_quiet (fail); try go_wp2)
        go_loopg [5] kj2 (fun kq v5 w' => ∃ (x5_2 : Int), v5 = .int .i64 x5_2 ∧ Aside0 (threshingkit_SameFormula.l0 kq x5_2 a0_0 l0_1 a1_0 l1_1 = some r) ∧ Aside0 (kq ≤ kj2) ∧ Aside0 (w'.heap[gb165]? = some (.cells #[.int .i64 a0_0, (.slice A0_1 l0_1.length c0_1)] 35 (0, 0))) ∧ Aside0 (w'.heap[gb166]? = some (.cells #[.int .i64 a1_0, (.slice A1_1 l1_1.length c1_1)] 35 (0, 0))) ∧ Aside0 (Below w.heap.size w w'))
        case atStart => exact ⟨(0), (by first | rfl | (simp; done) | (simp [*]; done)), H', ⟨Nat.le_refl _⟩, ⟨by (with_reducible repeat (first | refine blk_drewN ?_ _ | refine blk_drew ?_ | refine blk_alloc ?_ _)); exact BK165.out⟩, ⟨by (with_reducible repeat (first | refine blk_drewN ?_ _ | refine blk_drew ?_ | refine blk_alloc ?_ _)); exact BK166.out⟩, ⟨by repeat (first | (with_reducible first | exact HB.out | apply below_alloc | apply pw_below_drewN | apply below_drew1 | refine below_set ?_ GE165.out | refine below_set ?_ GE166.out) | exact HB.out)⟩⟩
        case round =>
          clear H'
          try clear c1
          try clear p2
          try clear c6
          try clear c6b0
          try clear c6b1
          try clear c7
          try clear c9
          try clear c10
          try clear c13
          try clear hcz11_0
          try clear hcz11_1
          try clear hcz12_0
          try clear hcz12_1
          try clear hcz8_0
          try clear hcz8_1
          try clear hcz9_0
          try clear hcz9_1
          try clear hfz11_0
          try clear hfz11_1
          try clear hfz12_0
          try clear hfz12_1
          try clear hfz8_0
          try clear hfz8_1
          try clear hfz9_0
          try clear hfz9_1
          try clear p2
          obtain ⟨x5_2, rfl, HA, HK2, BK165, BK166, HB⟩ := hrel
          cases gk with
          | zero => exact absurd HA.out (by simp [threshingkit_SameFormula.l0])
          | succ k2 =>
            have H := HA.out
            clear HA
            simp only [threshingkit_SameFormula.l0] at H
            by_cases c14 : x5_2 < (l0_1.length : Int)
            · rw [if_pos c14] at H
              have c14b0 : decide (x5_2 < (l0_1.length : Int)) = true := decide_eq_true c14
              clear c14
              by_cases c15 : 0 ≤ x5_2
              · rw [if_pos c15] at H
                have c15b0 : decide (0 ≤ x5_2) = true := decide_eq_true c15
                clear c15
                by_cases c16 : x5_2 < (l1_1.length : Int)
                · rw [if_pos c16] at H
                  have c16b0 : decide (x5_2 < (l1_1.length : Int)) = true := decide_eq_true c16
                  clear c16
                  replace H := Option.bind_eq_some_iff.mp H
                  obtain ⟨t169, A170, H⟩ := H
                  replace H : (if t169 = true then (threshingkit_SameFormula.l0 k2 (wrap64 (x5_2 + 1)) a0_0 l0_1 a1_0 l1_1) else (some false)) = some r := H
                  have A17 := Aside0.mk A170
                  clear A170
                  by_cases c18 : t169 = true
                  · subst c18
                    have H1 : (threshingkit_SameFormula.l0 k2 (wrap64 (x5_2 + 1)) a0_0 l0_1 a1_0 l1_1) = some r := by rw [if_pos rfl] at H; exact H
                    clear H
                    have H := H1
                    clear H1
                    have H' := Aside0.mk H
                    clear H
                    have hnb19 := NB165_166.out
                    have hnc19 := NB166_165.out
                    have hcz20_0 : wr.cell? ⟨gb165, 0, none⟩ = some (.int .i64 a0_0) := (blk_cell BK165.out 0).trans rfl
                    have hcz20_1 : wr.cell? ⟨gb165, 1, none⟩ = some (.slice A0_1 l0_1.length c0_1) := (blk_cell BK165.out 1).trans rfl
                    have hfz20_0 := blk_frozen BK165.out 0
                    have hfz20_1 := blk_frozen BK165.out 1
                    have p167 : 0 ≤ (x5_2 : Int) := of_decide_eq_true (by first | (with_reducible assumption) | assumption)
                    have q167 : x5_2 < (l0_1.length : Int) := of_decide_eq_true (by first | (with_reducible assumption) | assumption)
                    obtain ⟨ad167, A167_0, c167_0, e167, hx167_0, hl167_0, hi167_0⟩ := at_L6 HR0_1.out x5_2 p167 q167
                    cases e167
                    replace hx167_0 := (HB.out.cell (World.block_lt_of_cell? w _ hx167_0)).trans hx167_0
                    have HR167_0 := Aside0.mk hi167_0
                    have HC167_0 := Aside0.mk hl167_0
                    clear hi167_0 hl167_0
                    replace p167 := eq_true p167
                    replace q167 := eq_true q167
                    have hcz21_0 : wr.cell? ⟨gb166, 0, none⟩ = some (.int .i64 a1_0) := (blk_cell BK166.out 0).trans rfl
                    have hcz21_1 : wr.cell? ⟨gb166, 1, none⟩ = some (.slice A1_1 l1_1.length c1_1) := (blk_cell BK166.out 1).trans rfl
                    have hfz21_0 := blk_frozen BK166.out 0
                    have hfz21_1 := blk_frozen BK166.out 1
                    have p168 : 0 ≤ (x5_2 : Int) := of_decide_eq_true (by first | (with_reducible assumption) | assumption)
                    have q168 : x5_2 < (l1_1.length : Int) := of_decide_eq_true (by first | (with_reducible assumption) | assumption)
                    obtain ⟨ad168, A168_0, c168_0, e168, hx168_0, hl168_0, hi168_0⟩ := at_L6 HR1_1.out x5_2 p168 q168
                    cases e168
                    replace hx168_0 := (HB.out.cell (World.block_lt_of_cell? w _ hx168_0)).trans hx168_0
                    have HR168_0 := Aside0.mk hi168_0
                    have HC168_0 := Aside0.mk hl168_0
                    clear hi168_0 hl168_0
                    replace p168 := eq_true p168
                    replace q168 := eq_true q168
                    go_wp2_with (first | (go_at_call 45; (with_reducible refine (threshingkit_SameClause.calls k2 _ _ (rd_L6 l0_1 x5_2) _ _ (rd_L6 l1_1 x5_2) true _ ?side1 ?side2 ?side3 ?side4 A17.out).mono ?_); (case side1 => repeat (first | exact (Kd.C_below HR167_0.out HB.out) | (with_reducible refine Kd.C_alloc ?_ _) | (with_reducible refine Kd.C_drewN ?_ _) | (with_reducible refine Kd.C_drew ?_))); (case side2 => exact HC167_0.out); (case side3 => repeat (first | exact (Kd.C_below HR168_0.out HB.out) | (with_reducible refine Kd.C_alloc ?_ _) | (with_reducible refine Kd.C_drewN ?_ _) | (with_reducible refine Kd.C_drew ?_))); (case side4 => exact HC168_0.out); rintro e w' ⟨rfl, ⟨nd, rfl⟩⟩; (try first | exact ⟨rfl, _, World.drewN_drewN _ _ _⟩ | exact ⟨rfl, _, Eq.trans (World.drewN_drewN _ _ _) (congrArg (World.drewN _) (Nat.add_assoc _ _ _))⟩)))
                    repeat (go_quiet (first | (go_at_call 45; (with_reducible refine (threshingkit_SameClause.calls k2 _ _ (rd_L6 l0_1 x5_2) _ _ (rd_L6 l1_1 x5_2) true _ ?side1 ?side2 ?side3 ?side4 A17.out).mono ?_); (case side1 => repeat (first | exact (Kd.C_below HR167_0.out HB.out) | (with_reducible refine Kd.C_alloc ?_ _) | (with_reducible refine Kd.C_drewN ?_ _) | (with_reducible refine Kd.C_drew ?_))); (case side2 => exact HC167_0.out); (case side3 => repeat (first | exact (Kd.C_below HR168_0.out HB.out) | (with_reducible refine Kd.C_alloc ?_ _) | (with_reducible refine Kd.C_drewN ?_ _) | (with_reducible refine Kd.C_drew ?_))); (case side4 => exact HC168_0.out); rintro e w' ⟨rfl, ⟨nd, rfl⟩⟩; (try first | exact ⟨rfl, _, World.drewN_drewN _ _ _⟩ | exact ⟨rfl, _, Eq.trans (World.drewN_drewN _ _ _) (congrArg (World.drewN _) (Nat.add_assoc _ _ _))⟩))); try go_wp2_with (first | (go_at_call 45; (with_reducible refine (threshingkit_SameClause.calls k2 _ _ (rd_L6 l0_1 x5_2) _ _ (rd_L6 l1_1 x5_2) true _ ?side1 ?side2 ?side3 ?side4 A17.out).mono ?_); (case side1 => repeat (first | exact (Kd.C_below HR167_0.out HB.out) | (with_reducible refine Kd.C_alloc ?_ _) | (with_reducible refine Kd.C_drewN ?_ _) | (with_reducible refine Kd.C_drew ?_))); (case side2 => exact HC167_0.out); (case side3 => repeat (first | exact (Kd.C_below HR168_0.out HB.out) | (with_reducible refine Kd.C_alloc ?_ _) | (with_reducible refine Kd.C_drewN ?_ _) | (with_reducible refine Kd.C_drew ?_))); (case side4 => exact HC168_0.out); rintro e w' ⟨rfl, ⟨nd, rfl⟩⟩; (try first | exact ⟨rfl, _, World.drewN_drewN _ _ _⟩ | exact ⟨rfl, _, Eq.trans (World.drewN_drewN _ _ _) (congrArg (World.drewN _) (Nat.add_assoc _ _ _))⟩))))
                    go_roundg k2
                    case measure => have := HJ2.out; have := HK2.out; omega
                    case rel => exact ⟨(wrap64 (x5_2 + 1)), (by first | rfl | (simp; done) | (simp [*]; done)), H', ⟨by have := HJ2.out; have := HK2.out; omega⟩, ⟨by (with_reducible repeat (first | refine blk_drewN ?_ _ | refine blk_drew ?_ | refine blk_alloc ?_ _)); exact BK165.out⟩, ⟨by (with_reducible repeat (first | refine blk_drewN ?_ _ | refine blk_drew ?_ | refine blk_alloc ?_ _)); exact BK166.out⟩, ⟨by repeat (first | (with_reducible first | exact HB.out | apply below_alloc | apply pw_below_drewN | apply below_drew1 | refine below_set ?_ GE165.out | refine below_set ?_ GE166.out) | exact HB.out)⟩⟩
                  · replace c18 := Bool.eq_false_iff.mpr c18
                    subst c18
                    have H1 : (some false) = some r := by rw [if_neg (show ¬ (false = true) by decide)] at H; exact H
                    clear H
                    have H := H1
                    clear H1
                    obtain rfl := Option.some.inj H
                    have hnb22 := NB165_166.out
                    have hnc22 := NB166_165.out
                    have hcz23_0 : wr.cell? ⟨gb165, 0, none⟩ = some (.int .i64 a0_0) := (blk_cell BK165.out 0).trans rfl
                    have hcz23_1 : wr.cell? ⟨gb165, 1, none⟩ = some (.slice A0_1 l0_1.length c0_1) := (blk_cell BK165.out 1).trans rfl
                    have hfz23_0 := blk_frozen BK165.out 0
                    have hfz23_1 := blk_frozen BK165.out 1
                    have p167 : 0 ≤ (x5_2 : Int) := of_decide_eq_true (by first | (with_reducible assumption) | assumption)
                    have q167 : x5_2 < (l0_1.length : Int) := of_decide_eq_true (by first | (with_reducible assumption) | assumption)
                    obtain ⟨ad167, A167_0, c167_0, e167, hx167_0, hl167_0, hi167_0⟩ := at_L6 HR0_1.out x5_2 p167 q167
                    cases e167
                    replace hx167_0 := (HB.out.cell (World.block_lt_of_cell? w _ hx167_0)).trans hx167_0
                    have HR167_0 := Aside0.mk hi167_0
                    have HC167_0 := Aside0.mk hl167_0
                    clear hi167_0 hl167_0
                    replace p167 := eq_true p167
                    replace q167 := eq_true q167
                    have hcz24_0 : wr.cell? ⟨gb166, 0, none⟩ = some (.int .i64 a1_0) := (blk_cell BK166.out 0).trans rfl
                    have hcz24_1 : wr.cell? ⟨gb166, 1, none⟩ = some (.slice A1_1 l1_1.length c1_1) := (blk_cell BK166.out 1).trans rfl
                    have hfz24_0 := blk_frozen BK166.out 0
                    have hfz24_1 := blk_frozen BK166.out 1
                    have p168 : 0 ≤ (x5_2 : Int) := of_decide_eq_true (by first | (with_reducible assumption) | assumption)
                    have q168 : x5_2 < (l1_1.length : Int) := of_decide_eq_true (by first | (with_reducible assumption) | assumption)
                    obtain ⟨ad168, A168_0, c168_0, e168, hx168_0, hl168_0, hi168_0⟩ := at_L6 HR1_1.out x5_2 p168 q168
                    cases e168
                    replace hx168_0 := (HB.out.cell (World.block_lt_of_cell? w _ hx168_0)).trans hx168_0
                    have HR168_0 := Aside0.mk hi168_0
                    have HC168_0 := Aside0.mk hl168_0
                    clear hi168_0 hl168_0
                    replace p168 := eq_true p168
                    replace q168 := eq_true q168
                    go_wp2_with (first | (go_at_call 45; (with_reducible refine (threshingkit_SameClause.calls k2 _ _ (rd_L6 l0_1 x5_2) _ _ (rd_L6 l1_1 x5_2) false _ ?side1 ?side2 ?side3 ?side4 A17.out).mono ?_); (case side1 => repeat (first | exact (Kd.C_below HR167_0.out HB.out) | (with_reducible refine Kd.C_alloc ?_ _) | (with_reducible refine Kd.C_drewN ?_ _) | (with_reducible refine Kd.C_drew ?_))); (case side2 => exact HC167_0.out); (case side3 => repeat (first | exact (Kd.C_below HR168_0.out HB.out) | (with_reducible refine Kd.C_alloc ?_ _) | (with_reducible refine Kd.C_drewN ?_ _) | (with_reducible refine Kd.C_drew ?_))); (case side4 => exact HC168_0.out); rintro e w' ⟨rfl, ⟨nd, rfl⟩⟩; (try first | exact ⟨rfl, _, World.drewN_drewN _ _ _⟩ | exact ⟨rfl, _, Eq.trans (World.drewN_drewN _ _ _) (congrArg (World.drewN _) (Nat.add_assoc _ _ _))⟩)))
                    repeat (go_quiet (first | (go_at_call 45; (with_reducible refine (threshingkit_SameClause.calls k2 _ _ (rd_L6 l0_1 x5_2) _ _ (rd_L6 l1_1 x5_2) false _ ?side1 ?side2 ?side3 ?side4 A17.out).mono ?_); (case side1 => repeat (first | exact (Kd.C_below HR167_0.out HB.out) | (with_reducible refine Kd.C_alloc ?_ _) | (with_reducible refine Kd.C_drewN ?_ _) | (with_reducible refine Kd.C_drew ?_))); (case side2 => exact HC167_0.out); (case side3 => repeat (first | exact (Kd.C_below HR168_0.out HB.out) | (with_reducible refine Kd.C_alloc ?_ _) | (with_reducible refine Kd.C_drewN ?_ _) | (with_reducible refine Kd.C_drew ?_))); (case side4 => exact HC168_0.out); rintro e w' ⟨rfl, ⟨nd, rfl⟩⟩; (try first | exact ⟨rfl, _, World.drewN_drewN _ _ _⟩ | exact ⟨rfl, _, Eq.trans (World.drewN_drewN _ _ _) (congrArg (World.drewN _) (Nat.add_assoc _ _ _))⟩))); try go_wp2_with (first | (go_at_call 45; (with_reducible refine (threshingkit_SameClause.calls k2 _ _ (rd_L6 l0_1 x5_2) _ _ (rd_L6 l1_1 x5_2) false _ ?side1 ?side2 ?side3 ?side4 A17.out).mono ?_); (case side1 => repeat (first | exact (Kd.C_below HR167_0.out HB.out) | (with_reducible refine Kd.C_alloc ?_ _) | (with_reducible refine Kd.C_drewN ?_ _) | (with_reducible refine Kd.C_drew ?_))); (case side2 => exact HC167_0.out); (case side3 => repeat (first | exact (Kd.C_below HR168_0.out HB.out) | (with_reducible refine Kd.C_alloc ?_ _) | (with_reducible refine Kd.C_drewN ?_ _) | (with_reducible refine Kd.C_drew ?_))); (case side4 => exact HC168_0.out); rintro e w' ⟨rfl, ⟨nd, rfl⟩⟩; (try first | exact ⟨rfl, _, World.drewN_drewN _ _ _⟩ | exact ⟨rfl, _, Eq.trans (World.drewN_drewN _ _ _) (congrArg (World.drewN _) (Nat.add_assoc _ _ _))⟩))))
                    go_ret
                    exact ⟨by first | rfl | (simp [errW_none, errW_some] <;> rfl) | (simp [*, errW_none, errW_some] <;> rfl), by repeat (first | (with_reducible first | exact HB.out | apply below_alloc | apply pw_below_drewN | apply below_drew1 | refine below_set ?_ GE165.out | refine below_set ?_ GE166.out) | exact HB.out)⟩
                · rw [if_neg c16] at H
                  exact absurd H (by simp)
              · rw [if_neg c15] at H
                exact absurd H (by simp)
            · rw [if_neg c14] at H
              have c14b0 : decide (x5_2 < (l0_1.length : Int)) = false := decide_eq_false c14
              clear c14
              obtain rfl := Option.some.inj H
              have hnb25 := NB165_166.out
              have hnc25 := NB166_165.out
              have hcz26_0 : wr.cell? ⟨gb165, 0, none⟩ = some (.int .i64 a0_0) := (blk_cell BK165.out 0).trans rfl
              have hcz26_1 : wr.cell? ⟨gb165, 1, none⟩ = some (.slice A0_1 l0_1.length c0_1) := (blk_cell BK165.out 1).trans rfl
              have hfz26_0 := blk_frozen BK165.out 0
              have hfz26_1 := blk_frozen BK165.out 1
              go_wp2
              repeat (go_quiet (fail); try go_wp2)
              go_ret
              exact ⟨by first | rfl | (simp [errW_none, errW_some] <;> rfl) | (simp [*, errW_none, errW_some] <;> rfl), by repeat (first | (with_reducible first | exact HB.out | apply below_alloc | apply pw_below_drewN | apply below_drew1 | refine below_set ?_ GE165.out | refine below_set ?_ GE166.out) | exact HB.out)⟩
end Go.Proofs.YtigloobbpcnnhaaGreatDoor.PB
end
section
namespace Go.Proofs.YtigloobbpcnnhaaGreatDoor.PB
open Go.RowKit Go.Proofs.YtigloobbpcnnhaaGreatDoorW.PrintWords Go.Proofs.YtigloobbpcnnhaaGreatDoorW.PrintLast Go.Proofs.YtigloobbpcnnhaaGreatDoorW.PrintMore
attribute [local go_sem] max2_int min2_int max_two min_two max_three min_three max_four min_four   -- for this text's walks alone
set_option linter.unusedVariables false
set_option linter.unusedSimpArgs false
def threshingkit_SameModel.l0 : Nat → List Bool → List Bool → Int → Option (Bool)
  | 0, _, _, _ => none
  | k + 1, x0, x1, x5 => if x5 < (x0.length : Int) then (if 0 ≤ x5 then (if x5 < (x1.length : Int) then (if ((rdOf false x0 x5) != (rdOf false x1 x5)) = true then (some false) else (threshingkit_SameModel.l0 k x0 x1 (wrap64 (x5 + 1)))) else (none)) else (none)) else (some true)
def threshingkit_SameModel.f (k : Nat) (l0 : List Bool) (l1 : List Bool) : Option (Bool) := if (l0.length : Int) = (l1.length : Int) then (threshingkit_SameModel.l0 k l0 l1 0) else (some false)
theorem threshingkit_SameModel.mono_l : ∀ k, (∀ y0 y1 y2, LeO (threshingkit_SameModel.l0 k y0 y1 y2) (threshingkit_SameModel.l0 (k + 1) y0 y1 y2))
  | 0 => fun _ _ _ r h => by simp [threshingkit_SameModel.l0] at h
  | k + 1 => by
    have ih0 := threshingkit_SameModel.mono_l k
    · intro y0 y1 y2
      unfold threshingkit_SameModel.l0
      repeat' first
      | (with_reducible exact ih0 _ _ _)
      | (with_reducible exact LeO.refl _)
      | (with_reducible exact LeO.none _)
      | (with_reducible refine LeO.ite ?_ ?_)
      | (with_reducible refine LeO.bind ?_ (fun _ => ?_))
      | exact ih0 _ _ _
      | exact LeO.none _
      | refine LeO.ite ?_ ?_
      | refine LeO.bind ?_ (fun _ => ?_)
theorem threshingkit_SameModel.mono : ∀ a0 a1 k, LeO (threshingkit_SameModel.f k a0 a1) (threshingkit_SameModel.f (k + 1) a0 a1) := by
  intro a0 a1 k
  have ih0 := threshingkit_SameModel.mono_l k
  unfold threshingkit_SameModel.f
  repeat' first
      | (with_reducible exact ih0 _ _ _)
      | (with_reducible exact LeO.refl _)
      | (with_reducible exact LeO.none _)
      | (with_reducible refine LeO.ite ?_ ?_)
      | (with_reducible refine LeO.bind ?_ (fun _ => ?_))
      | exact ih0 _ _ _
      | exact LeO.none _
      | refine LeO.ite ?_ ?_
      | refine LeO.bind ?_ (fun _ => ?_)
set_option maxHeartbeats 8000000 in
set_option maxRecDepth 100000 in
theorem threshingkit_SameModel.calls (k : Nat) (A0 : Option Addr) (c0 : Nat) (l0 : List Bool) (A1 : Option Addr) (c1 : Nat) (l1 : List Bool) (r : Bool) (w : World) (hr0 : Kd.C Kd.bool w A0 l0.length l0) (hc0 : l0.length ≤ c0) (hr1 : Kd.C Kd.bool w A1 l1.length l1) (hc1 : l1.length ≤ c1) (h : threshingkit_SameModel.f k l0 l1 = some r) :
    Calls Tryz.prog 7 #[.slice A0 l0.length c0, .slice A1 l1.length c1] w fun e w' => e = .returned (.bool r) ∧ Drawn0 w w' := by
  have HR0 := Aside0.mk hr0
  have HC0 := Aside0.mk hc0
  clear hr0 hc0
  have HR1 := Aside0.mk hr1
  have HC1 := Aside0.mk hc1
  clear hr1 hc1
  have H : (if (l0.length : Int) = (l1.length : Int) then (threshingkit_SameModel.l0 k l0 l1 0) else (some false)) = some r := h
  clear h
  by_cases c3 : (l0.length : Int) = (l1.length : Int)
  · rw [if_pos c3] at H
    have c3b0 : ((l0.length : Int) == (l1.length : Int)) = true := beq_iff_eq.mpr c3
    have c3b1 : ((l0.length : Int) != (l1.length : Int)) = false := bne_eq_false_iff_eq.mpr c3
    have c3b2 : (l0.length == l1.length) = true := by first | simpa using c3 | (simp at c3 ⊢; omega)
    clear c3
    have H' := Aside0.mk H
    clear H
    go_enter Tryz.func7, Tryz.ntmps7
    go_wp2
    repeat (go_quiet (fail); try go_wp2)
    go_loopg [5] k (fun kq v5 w' => ∃ (x5_1 : Int), v5 = .int .i64 x5_1 ∧ Aside0 (threshingkit_SameModel.l0 kq l0 l1 x5_1 = some r) ∧ Aside0 (kq ≤ k) ∧ Drawn0 w w')
    case atStart => exact ⟨(0), (by first | rfl | (simp; done) | (simp [*]; done)), H', ⟨Nat.le_refl _⟩, by repeat (first | exact Drawn0.refl _ | apply Drawn0.step)⟩
    case round =>
      clear H'
      try clear c1
      try clear p2
      try clear c3
      try clear c3b0
      try clear c3b1
      try clear c3b2
      obtain ⟨x5_1, rfl, HA, HK1, ⟨m1, rfl⟩⟩ := hrel
      cases gk with
      | zero => exact absurd HA.out (by simp [threshingkit_SameModel.l0])
      | succ k1 =>
        have H := HA.out
        clear HA
        simp only [threshingkit_SameModel.l0] at H
        by_cases c4 : x5_1 < (l0.length : Int)
        · rw [if_pos c4] at H
          have c4b0 : decide (x5_1 < (l0.length : Int)) = true := decide_eq_true c4
          clear c4
          by_cases c5 : 0 ≤ x5_1
          · rw [if_pos c5] at H
            have c5b0 : decide (0 ≤ x5_1) = true := decide_eq_true c5
            clear c5
            by_cases c6 : x5_1 < (l1.length : Int)
            · rw [if_pos c6] at H
              have c6b0 : decide (x5_1 < (l1.length : Int)) = true := decide_eq_true c6
              clear c6
              by_cases c7 : ((rdOf false l0 x5_1) != (rdOf false l1 x5_1)) = true
              · rw [if_pos c7] at H
                have c7b0 : ((rdOf false l0 x5_1) != (rdOf false l1 x5_1)) = true := c7
                (try (have c7b1 : decide ((rdOf false l0 x5_1) = (rdOf false l1 x5_1)) = false := by simpa using c7))
                (try (have c7b2 : ((rdOf false l0 x5_1) == (rdOf false l1 x5_1)) = false := by simpa using c7))
                (try (have c7b3 : ¬ ((rdOf false l0 x5_1) = (rdOf false l1 x5_1)) := by simpa using c7))
                clear c7
                obtain rfl := Option.some.inj H
                have p254 : 0 ≤ (x5_1 : Int) := of_decide_eq_true (by first | (with_reducible assumption) | assumption)
                have q254 : x5_1 < (l0.length : Int) := of_decide_eq_true (by first | (with_reducible assumption) | assumption)
                obtain ⟨ad254, e254, hx254_0⟩ := Kd.at_bool HR0.out x5_1 p254 q254
                cases e254
                replace p254 := eq_true p254
                replace q254 := eq_true q254
                have p255 : 0 ≤ (x5_1 : Int) := of_decide_eq_true (by first | (with_reducible assumption) | assumption)
                have q255 : x5_1 < (l1.length : Int) := of_decide_eq_true (by first | (with_reducible assumption) | assumption)
                obtain ⟨ad255, e255, hx255_0⟩ := Kd.at_bool HR1.out x5_1 p255 q255
                cases e255
                replace p255 := eq_true p255
                replace q255 := eq_true q255
                go_wp2
                repeat (go_quiet (fail); try go_wp2)
                go_ret
                exact ⟨by first | rfl | (simp; done) | (simp [*]; done), by repeat (first | exact Drawn0.refl _ | apply Drawn0.step)⟩
              · rw [if_neg c7] at H
                have c7b0 : ((rdOf false l0 x5_1) != (rdOf false l1 x5_1)) = false := by simpa using c7
                (try (have c7b1 : decide ((rdOf false l0 x5_1) = (rdOf false l1 x5_1)) = true := by simpa using c7))
                (try (have c7b2 : ((rdOf false l0 x5_1) == (rdOf false l1 x5_1)) = true := by simpa using c7))
                clear c7
                have H' := Aside0.mk H
                clear H
                have p254 : 0 ≤ (x5_1 : Int) := of_decide_eq_true (by first | (with_reducible assumption) | assumption)
                have q254 : x5_1 < (l0.length : Int) := of_decide_eq_true (by first | (with_reducible assumption) | assumption)
                obtain ⟨ad254, e254, hx254_0⟩ := Kd.at_bool HR0.out x5_1 p254 q254
                cases e254
                replace p254 := eq_true p254
                replace q254 := eq_true q254
                have p255 : 0 ≤ (x5_1 : Int) := of_decide_eq_true (by first | (with_reducible assumption) | assumption)
                have q255 : x5_1 < (l1.length : Int) := of_decide_eq_true (by first | (with_reducible assumption) | assumption)
                obtain ⟨ad255, e255, hx255_0⟩ := Kd.at_bool HR1.out x5_1 p255 q255
                cases e255
                replace p255 := eq_true p255
                replace q255 := eq_true q255
                go_wp2
                repeat (go_quiet (fail); try go_wp2)
                go_roundg k1
                case measure => have := HK1.out; omega
                case rel => exact ⟨(wrap64 (x5_1 + 1)), (by first | rfl | (simp; done) | (simp [*]; done)), H', ⟨by have := HK1.out; omega⟩, by repeat (first | exact Drawn0.refl _ | apply Drawn0.step)⟩
            · rw [if_neg c6] at H
              exact absurd H (by simp)
          · rw [if_neg c5] at H
            exact absurd H (by simp)
        · rw [if_neg c4] at H
          have c4b0 : decide (x5_1 < (l0.length : Int)) = false := decide_eq_false c4
          clear c4
          obtain rfl := Option.some.inj H
          go_wp2
          repeat (go_quiet (fail); try go_wp2)
          go_ret
          exact ⟨by first | rfl | (simp; done) | (simp [*]; done), by repeat (first | exact Drawn0.refl _ | apply Drawn0.step)⟩
  · rw [if_neg c3] at H
    have c3b0 : ((l0.length : Int) == (l1.length : Int)) = false := beq_eq_false_iff_ne.mpr c3
    have c3b1 : ((l0.length : Int) != (l1.length : Int)) = true := bne_iff_ne.mpr c3
    have c3b2 : (l0.length == l1.length) = false := by first | simpa using c3 | (simp at c3 ⊢; omega)
    obtain rfl := Option.some.inj H
    go_enter Tryz.func7, Tryz.ntmps7
    go_wp2
    repeat (go_quiet (fail); try go_wp2)
    go_ret
    exact ⟨by first | rfl | (simp; done) | (simp [*]; done), by repeat (first | exact Drawn0.refl _ | apply Drawn0.step)⟩
end Go.Proofs.YtigloobbpcnnhaaGreatDoor.PB
end
section
namespace Go.Proofs.YtigloobbpcnnhaaGreatDoor.PB
open Go.RowKit Go.Proofs.YtigloobbpcnnhaaGreatDoorW.PrintWords Go.Proofs.YtigloobbpcnnhaaGreatDoorW.PrintLast Go.Proofs.YtigloobbpcnnhaaGreatDoorW.PrintMore
attribute [local go_sem] max2_int min2_int max_two min_two max_three min_three max_four min_four   -- for this text's walks alone
set_option linter.unusedVariables false
set_option linter.unusedSimpArgs false
def threshingkit_Size.l0 : Nat → Int → Int → Int → Int → List (List Int) → Option (Int)
  | 0, _, _, _, _, _ => none
  | k + 1, x1, x5, x6, x214000, x214001 => if x6 < (x214001.length : Int) then (if x5 ≤ x1 then (if 0 ≤ x6 then (threshingkit_Size.l0 k x1 (wrap64 (x5 + ((rd_L6 x214001 x6).length : Int))) (wrap64 (x6 + 1)) x214000 x214001) else (none)) else (some (mn x5 (wrap64 (x1 + 1))))) else (some (mn x5 (wrap64 (x1 + 1))))
def threshingkit_Size.f (k : Nat) (a0_0 : Int) (l0_1 : List (List Int)) (a1 : Int) : Option (Int) := threshingkit_Size.l0 k a1 (l0_1.length : Int) 0 a0_0 l0_1
theorem threshingkit_Size.mono_l : ∀ k, (∀ y0 y1 y2 y3 y4, LeO (threshingkit_Size.l0 k y0 y1 y2 y3 y4) (threshingkit_Size.l0 (k + 1) y0 y1 y2 y3 y4))
  | 0 => fun _ _ _ _ _ r h => by simp [threshingkit_Size.l0] at h
  | k + 1 => by
    have ih0 := threshingkit_Size.mono_l k
    · intro y0 y1 y2 y3 y4
      unfold threshingkit_Size.l0
      repeat' first
      | (with_reducible exact ih0 _ _ _ _ _)
      | (with_reducible exact LeO.refl _)
      | (with_reducible exact LeO.none _)
      | (with_reducible refine LeO.ite ?_ ?_)
      | (with_reducible refine LeO.bind ?_ (fun _ => ?_))
      | exact ih0 _ _ _ _ _
      | exact LeO.none _
      | refine LeO.ite ?_ ?_
      | refine LeO.bind ?_ (fun _ => ?_)
theorem threshingkit_Size.mono : ∀ a0 a1 a2 k, LeO (threshingkit_Size.f k a0 a1 a2) (threshingkit_Size.f (k + 1) a0 a1 a2) := by
  intro a0 a1 a2 k
  have ih0 := threshingkit_Size.mono_l k
  unfold threshingkit_Size.f
  repeat' first
      | (with_reducible exact ih0 _ _ _ _ _)
      | (with_reducible exact LeO.refl _)
      | (with_reducible exact LeO.none _)
      | (with_reducible refine LeO.ite ?_ ?_)
      | (with_reducible refine LeO.bind ?_ (fun _ => ?_))
      | exact ih0 _ _ _ _ _
      | exact LeO.none _
      | refine LeO.ite ?_ ?_
      | refine LeO.bind ?_ (fun _ => ?_)
set_option maxHeartbeats 8000000 in
set_option maxRecDepth 100000 in
theorem threshingkit_Size.calls (k : Nat) (a0_0 : Int) (A0_1 : Option Addr) (c0_1 : Nat) (l0_1 : List (List Int)) (a1 : Int) (r : Int) (w : World) (hr0_1 : Kd.C (Kd.slice 40 (Kd.int .i32)) w A0_1 l0_1.length l0_1) (hc0_1 : l0_1.length ≤ c0_1) (h : threshingkit_Size.f k a0_0 l0_1 a1 = some r) :
    Calls Tryz.prog 24 #[.agg #[.int .i64 a0_0, .slice A0_1 l0_1.length c0_1], .int .i64 a1] w fun e w' => e = .returned (.int .i64 r) ∧ Below w.heap.size w w' := by
  have hu25 := Tryz.underlying35
  have HR0_1 := Aside0.mk hr0_1
  have HC0_1 := Aside0.mk hc0_1
  clear hr0_1 hc0_1
  have HB := Aside0.mk (Below.refl w.heap.size w)
  have H : (threshingkit_Size.l0 k a1 (l0_1.length : Int) 0 a0_0 l0_1) = some r := h
  clear h
  have H' := Aside0.mk H
  clear H
  go_enter Tryz.func24, Tryz.ntmps24
  go_wp2_with (first | ((with_reducible refine gate_dst (N := 2) rfl ?_); refine box_event ?hg (N := 2) ?hd (cs := #[.int .i64 a0_0, .slice A0_1 l0_1.length c0_1]) (t := 35) ?hr ?_; (case hd => rfl); (case hg => rfl); (case hr => first | (go_simp; done) | (go_simp; rfl)); intro gb213 hg w3 hbox hb; have n0_ := Aside0.mk (below_step (by repeat (first | (with_reducible first | exact HB.out | apply below_alloc | apply pw_below_drewN | apply below_drew1) | exact HB.out)) hb); have n1_ := Aside0.mk (hbox); have n2_ := Aside0.mk ((by rw [hg]; exact (below_size (by repeat (first | (with_reducible first | exact HB.out | apply below_alloc | apply pw_below_drewN | apply below_drew1) | exact HB.out))) : w.heap.size ≤ gb213)); have n3_ := Aside0.mk ((by rw [hg]; exact (below_size (by repeat (first | (with_reducible first | exact HB.out | apply below_alloc | apply pw_below_drewN | apply below_drew1) | exact HB.out))) : w.heap.size ≤ gb213)); clear HB; have HB := n0_; have BK213 := n1_; have GW213 := n2_; have GE213 := n3_; clear n0_ n1_ n2_ n3_; clear hb hbox hg; have hcz4_0 : w3.cell? ⟨gb213, 0, none⟩ = some (.int .i64 a0_0) := (blk_cell BK213.out 0).trans rfl; have hcz4_1 : w3.cell? ⟨gb213, 1, none⟩ = some (.slice A0_1 l0_1.length c0_1) := (blk_cell BK213.out 1).trans rfl; have hfz4_0 := blk_frozen BK213.out 0; have hfz4_1 := blk_frozen BK213.out 1))
  go_loopg [5, 6] k (fun kq v5 v6 w' => ∃ (x5_1 : Int) (x6_1 : Int), v5 = .int .i64 x5_1 ∧ v6 = .int .i64 x6_1 ∧ Aside0 (threshingkit_Size.l0 kq a1 x5_1 x6_1 a0_0 l0_1 = some r) ∧ Aside0 (kq ≤ k) ∧ Aside0 (w'.heap[gb213]? = some (.cells #[.int .i64 a0_0, (.slice A0_1 l0_1.length c0_1)] 35 (0, 0))) ∧ Aside0 (Below w.heap.size w w'))
  case atStart => exact ⟨((l0_1.length : Int)), (0), (by first | rfl | (simp; done) | (simp [*]; done)), (by first | rfl | (simp; done) | (simp [*]; done)), H', ⟨Nat.le_refl _⟩, ⟨by (with_reducible repeat (first | refine blk_drewN ?_ _ | refine blk_drew ?_ | refine blk_alloc ?_ _)); exact BK213.out⟩, ⟨by repeat (first | (with_reducible first | exact HB.out | apply below_alloc | apply pw_below_drewN | apply below_drew1 | refine below_set ?_ GE213.out) | exact HB.out)⟩⟩
  case round =>
    clear H'
    try clear c1
    try clear p2
    try clear hcz4_0
    try clear hcz4_1
    try clear hfz4_0
    try clear hfz4_1
    obtain ⟨x5_1, x6_1, rfl, rfl, HA, HK1, BK213, HB⟩ := hrel
    cases gk with
    | zero => exact absurd HA.out (by simp [threshingkit_Size.l0])
    | succ k1 =>
      have H := HA.out
      clear HA
      simp only [threshingkit_Size.l0] at H
      by_cases c5 : x6_1 < (l0_1.length : Int)
      · rw [if_pos c5] at H
        have c5b0 : decide (x6_1 < (l0_1.length : Int)) = true := decide_eq_true c5
        clear c5
        by_cases c6 : x5_1 ≤ a1
        · rw [if_pos c6] at H
          have c6b0 : decide (x5_1 ≤ a1) = true := decide_eq_true c6
          clear c6
          by_cases c7 : 0 ≤ x6_1
          · rw [if_pos c7] at H
            have c7b0 : decide (0 ≤ x6_1) = true := decide_eq_true c7
            clear c7
            have H' := Aside0.mk H
            clear H
            have hcz8_0 : wr.cell? ⟨gb213, 0, none⟩ = some (.int .i64 a0_0) := (blk_cell BK213.out 0).trans rfl
            have hcz8_1 : wr.cell? ⟨gb213, 1, none⟩ = some (.slice A0_1 l0_1.length c0_1) := (blk_cell BK213.out 1).trans rfl
            have hfz8_0 := blk_frozen BK213.out 0
            have hfz8_1 := blk_frozen BK213.out 1
            have p214 : 0 ≤ (x6_1 : Int) := of_decide_eq_true (by first | (with_reducible assumption) | assumption)
            have q214 : x6_1 < (l0_1.length : Int) := of_decide_eq_true (by first | (with_reducible assumption) | assumption)
            obtain ⟨ad214, A214_0, c214_0, e214, hx214_0, hl214_0, hi214_0⟩ := at_L6 HR0_1.out x6_1 p214 q214
            cases e214
            replace hx214_0 := (HB.out.cell (World.block_lt_of_cell? w _ hx214_0)).trans hx214_0
            have HR214_0 := Aside0.mk hi214_0
            have HC214_0 := Aside0.mk hl214_0
            clear hi214_0 hl214_0
            replace p214 := eq_true p214
            replace q214 := eq_true q214
            go_wp2
            go_roundg k1
            case measure => have := HK1.out; omega
            case rel => exact ⟨(wrap64 (x5_1 + ((rd_L6 l0_1 x6_1).length : Int))), (wrap64 (x6_1 + 1)), (by first | rfl | (simp; done) | (simp [*]; done)), (by first | rfl | (simp; done) | (simp [*]; done)), H', ⟨by have := HK1.out; omega⟩, ⟨by (with_reducible repeat (first | refine blk_drewN ?_ _ | refine blk_drew ?_ | refine blk_alloc ?_ _)); exact BK213.out⟩, ⟨by repeat (first | (with_reducible first | exact HB.out | apply below_alloc | apply pw_below_drewN | apply below_drew1 | refine below_set ?_ GE213.out) | exact HB.out)⟩⟩
          · rw [if_neg c7] at H
            exact absurd H (by simp)
        · rw [if_neg c6] at H
          have c6b0 : decide (x5_1 ≤ a1) = false := decide_eq_false c6
          clear c6
          obtain ⟨ji9, hji9⟩ : ∃ j_ : Int, (mn x5_1 (wrap64 (a1 + 1))) = j_ := ⟨_, rfl⟩
          replace H : (some ji9) = some r := by first | (rw [hji9] at H; exact H) | (simp only [hji9] at H ⊢; exact H)
          have hji9_ : (if (wrap64 (a1 + 1)) < x5_1 then (wrap64 (a1 + 1)) else x5_1) = ji9 := hji9
          obtain rfl := Option.some.inj H
          have hcz10_0 : wr.cell? ⟨gb213, 0, none⟩ = some (.int .i64 a0_0) := (blk_cell BK213.out 0).trans rfl
          have hcz10_1 : wr.cell? ⟨gb213, 1, none⟩ = some (.slice A0_1 l0_1.length c0_1) := (blk_cell BK213.out 1).trans rfl
          have hfz10_0 := blk_frozen BK213.out 0
          have hfz10_1 := blk_frozen BK213.out 1
          go_wp2
          go_ret
          exact ⟨by first | rfl | (simp [errW_none, errW_some] <;> rfl) | (simp only [← hji9]; first | rfl | (simp [errW_none, errW_some] <;> rfl)) | (simp [*, errW_none, errW_some] <;> rfl), by repeat (first | (with_reducible first | exact HB.out | apply below_alloc | apply pw_below_drewN | apply below_drew1 | refine below_set ?_ GE213.out) | exact HB.out)⟩
      · rw [if_neg c5] at H
        have c5b0 : decide (x6_1 < (l0_1.length : Int)) = false := decide_eq_false c5
        clear c5
        obtain ⟨ji11, hji11⟩ : ∃ j_ : Int, (mn x5_1 (wrap64 (a1 + 1))) = j_ := ⟨_, rfl⟩
        replace H : (some ji11) = some r := by first | (rw [hji11] at H; exact H) | (simp only [hji11] at H ⊢; exact H)
        have hji11_ : (if (wrap64 (a1 + 1)) < x5_1 then (wrap64 (a1 + 1)) else x5_1) = ji11 := hji11
        obtain rfl := Option.some.inj H
        have hcz12_0 : wr.cell? ⟨gb213, 0, none⟩ = some (.int .i64 a0_0) := (blk_cell BK213.out 0).trans rfl
        have hcz12_1 : wr.cell? ⟨gb213, 1, none⟩ = some (.slice A0_1 l0_1.length c0_1) := (blk_cell BK213.out 1).trans rfl
        have hfz12_0 := blk_frozen BK213.out 0
        have hfz12_1 := blk_frozen BK213.out 1
        go_wp2
        go_ret
        exact ⟨by first | rfl | (simp [errW_none, errW_some] <;> rfl) | (simp only [← hji11]; first | rfl | (simp [errW_none, errW_some] <;> rfl)) | (simp [*, errW_none, errW_some] <;> rfl), by repeat (first | (with_reducible first | exact HB.out | apply below_alloc | apply pw_below_drewN | apply below_drew1 | refine below_set ?_ GE213.out) | exact HB.out)⟩
end Go.Proofs.YtigloobbpcnnhaaGreatDoor.PB
end
section
namespace Go.Proofs.YtigloobbpcnnhaaGreatDoor.PB
open Go.RowKit Go.Proofs.YtigloobbpcnnhaaGreatDoorW.PrintWords Go.Proofs.YtigloobbpcnnhaaGreatDoorW.PrintLast Go.Proofs.YtigloobbpcnnhaaGreatDoorW.PrintMore
set_option linter.unusedVariables false
set_option linter.unusedSimpArgs false
theorem wrap_id {x : Int} (h0 : -9223372036854775808 ≤ x) (h1 : x ≤ 9223372036854775807) : wrap64 x = x := by unfold wrap64; omega
theorem rd_nat (l : List Int) (i : Nat) (h : i < l.length) : rd l (i : Int) = l[i] := by simp [rd, List.getElem?_eq_getElem h]
theorem rdL6_nat (l : List (List Int)) (i : Nat) (h : i < l.length) : rd_L6 l (i : Int) = l[i] := by simp [rd_L6, List.getElem?_eq_getElem h]
/-- Literals are of 32 bits. -/
def I32 (x : Int) : Prop := -2147483648 ≤ x ∧ x ≤ 2147483647
theorem cvar_f (x : Int) (h : I32 x) : cnf_Var.f x = some (if x < 0 then -x else x) := by
  unfold cnf_Var.f cnf_lit_variable.f
  unfold I32 at h
  by_cases hx : x < 0
  · rw [if_pos hx, wrap_id (x := x) (by omega) (by omega), wrap_id (x := -x) (by omega) (by omega), if_pos hx]; rfl
  · rw [if_neg hx, wrap_id (by omega) (by omega), if_neg hx]; rfl
theorem rvar_f (x : Int) (h : I32 x) : threshingref01_Var.f x = some (if x < 0 then -x else x) := by
  unfold threshingref01_Var.f
  unfold I32 at h
  by_cases hx : x < 0
  · rw [if_pos hx, if_pos hx, wrap_id (x := x) (by omega) (by omega), wrap_id (x := -x) (by omega) (by omega)]
  · rw [if_neg hx, if_neg hx, wrap_id (x := x) (by omega) (by omega)]
/-- The literals that are left: those of clause i from place j on, then those of the clauses behind it. -/
theorem left_cons (cs : List (List Int)) (i : Nat) (h : i < cs.length) : (cs.drop i).flatten = cs[i] ++ (cs.drop (i + 1)).flatten := by
  rw [List.drop_eq_getElem_cons h, List.flatten_cons]
theorem cright_loops (v : Int) (hv : 0 ≤ v) (cs : List (List Int)) (hl : cs.length ≤ 9223372036854775807) (hg : ∀ c ∈ cs, c.length ≤ 9223372036854775807 ∧ ∀ x ∈ c, I32 x) :
    ∀ (d i n : Nat), i + d = cs.length → n ≤ 16777216 → Ev (fun k => cnf_Right.l0 k (n : Int) cs (cs.length : Int) (i : Int) v cs) (dRightL v n (cs.drop i).flatten) := by
  intro d
  induction d with
  | zero =>
    intro i n hi hn
    refine Ev.step (f := fun _ => some 0) (fun k => ?_) ?_
    · rw [cnf_Right.l0, if_neg (by omega)]
    · rw [List.drop_eq_nil_of_le (by omega)]
      have : dRightL v n [] = 0 := by cases n <;> rfl
      rw [List.flatten_nil, this]
      exact Ev.now 0
  | succ d ih =>
    intro i n hi hn
    have hlt : i < cs.length := by omega
    have hmem := hg cs[i] (List.getElem_mem hlt)
    obtain ⟨c, hc⟩ : ∃ c, c = cs[i] := ⟨_, rfl⟩
    rw [← hc] at hmem
    have inner : ∀ (e j n : Nat), j + e = c.length → n ≤ 16777216 → Ev (fun k => cnf_Right.l1 k (n : Int) cs (cs.length : Int) (i : Int) c (c.length : Int) (j : Int) v cs) (dRightL v n (c.drop j ++ (cs.drop (i + 1)).flatten)) := by
      intro e
      induction e with
      | zero =>
        intro j n hj hn
        refine Ev.step (f := fun k => cnf_Right.l0 k (n : Int) cs (cs.length : Int) ((i + 1 : Nat) : Int) v cs) (fun k => ?_) ?_
        · rw [cnf_Right.l1, if_neg (by omega), wrap_id (by omega) (by omega)]
          rfl
        · rw [List.drop_eq_nil_of_le (by omega), List.nil_append]
          exact ih (i + 1) n (by omega) hn
      | succ e ihe =>
        intro j n hj hn
        have hjl : j < c.length := by omega
        have hx := hmem.2 c[j] (List.getElem_mem hjl)
        rw [List.drop_eq_getElem_cons hjl, List.cons_append]
        obtain ⟨x, hxe⟩ : ∃ x, x = c[j] := ⟨_, rfl⟩
        rw [← hxe] at hx ⊢
        cases n with
        | zero =>
          refine Ev.step (f := fun _ => some 3) (fun k => ?_) (Ev.now 3)
          rw [cnf_Right.l1, if_pos (by omega), if_pos (by omega), if_pos (by omega), if_pos (show ((0 : Nat) : Int) = 0 from rfl)]
        | succ n =>
          have head : ∀ k, cnf_Right.l1 (k + 1) ((n + 1 : Nat) : Int) cs (cs.length : Int) (i : Int) c (c.length : Int) (j : Int) v cs = if x = 0 ∨ x < -v ∨ v < x then some 4 else cnf_Right.l1 k (n : Int) cs (cs.length : Int) (i : Int) c (c.length : Int) ((j + 1 : Nat) : Int) v cs := by
            intro k
            rw [cnf_Right.l1, if_pos (by omega), if_pos (by omega), if_pos (by omega), if_neg (by omega), rd_nat c j hjl, ← hxe, cvar_f x hx, Option.bind_some]
            have hw1 : wrap64 (((n + 1 : Nat) : Int) - 1) = (n : Int) := by rw [wrap_id (by omega) (by omega)]; omega
            have hw2 : wrap64 ((j : Int) + 1) = ((j + 1 : Nat) : Int) := by rw [wrap_id (by omega) (by omega)]; rfl
            rw [hw1, hw2]
            clear hw1 hw2
            by_cases h0 : x = 0
            · rw [if_pos h0, if_pos (.inl h0)]
            · rw [if_neg h0]
              by_cases hb : (if x < 0 then -x else x) > v
              · rw [if_pos hb, if_pos]
                by_cases hx0 : x < 0
                · rw [if_pos hx0] at hb; omega
                · rw [if_neg hx0] at hb; omega
              · rw [if_neg hb, if_neg]
                by_cases hx0 : x < 0
                · rw [if_pos hx0] at hb; omega
                · rw [if_neg hx0] at hb; omega
          rw [dRightL]
          by_cases hbad : x = 0 ∨ x < -v ∨ v < x
          · rw [if_pos hbad]
            refine Ev.step (f := fun _ => some 4) (fun k => ?_) (Ev.now 4)
            rw [head, if_pos hbad]
          · rw [if_neg hbad]
            refine Ev.step (f := fun k => cnf_Right.l1 k (n : Int) cs (cs.length : Int) (i : Int) c (c.length : Int) ((j + 1 : Nat) : Int) v cs) (fun k => ?_) (ihe (j + 1) n (by omega) (by omega))
            rw [head, if_neg hbad]
    refine Ev.step (f := fun k => cnf_Right.l1 k (n : Int) cs (cs.length : Int) (i : Int) c (c.length : Int) ((0 : Nat) : Int) v cs) (fun k => ?_) ?_
    · rw [cnf_Right.l0, if_pos (by omega), if_pos (by omega), if_pos (by omega), rdL6_nat cs i hlt, ← hc]
      rfl
    · have := inner c.length 0 n (by omega) hn
      rw [List.drop_zero] at this
      rw [left_cons cs i hlt, ← hc]
      exact this
theorem cright_ev (v : Int) (cs : List (List Int)) (hl : cs.length ≤ 9223372036854775807) (hg : ∀ c ∈ cs, c.length ≤ 9223372036854775807 ∧ ∀ x ∈ c, I32 x) : Ev (fun k => cnf_Right.f k v cs) (dRight v cs) := by
  unfold dRight
  by_cases h1 : v < 0
  · rw [if_pos (.inl h1)]
    refine Ev.congr (f := fun k => cnf_Right.j0 k true v cs) (fun k => ?_) (Ev.step (f := fun _ => some 2) (fun k => ?_) (Ev.now 2))
    · unfold cnf_Right.f
      rw [if_pos h1, decide_eq_true h1]
    · rw [cnf_Right.j0, if_pos rfl]
  · by_cases h2 : 1048576 < v
    · rw [if_pos (.inr h2)]
      refine Ev.congr (f := fun k => cnf_Right.j0 k true v cs) (fun k => ?_) (Ev.step (f := fun _ => some 2) (fun k => ?_) (Ev.now 2))
      · unfold cnf_Right.f
        rw [if_neg h1, decide_eq_true (by omega)]
      · rw [cnf_Right.j0, if_pos rfl]
    · rw [if_neg (by omega)]
      refine Ev.congr (f := fun k => cnf_Right.j0 k false v cs) (fun k => ?_) ?_
      · unfold cnf_Right.f
        rw [if_neg h1, decide_eq_false (by omega)]
      · by_cases h3 : 1048576 < cs.length
        · rw [if_pos h3]
          refine Ev.step (f := fun _ => some 3) (fun k => ?_) (Ev.now 3)
          rw [cnf_Right.j0, if_neg (by decide), if_pos (by omega)]
        · rw [if_neg h3]
          refine Ev.step (f := fun k => cnf_Right.l0 k ((16777216 : Nat) : Int) cs (cs.length : Int) ((0 : Nat) : Int) v cs) (fun k => ?_) ?_
          · rw [cnf_Right.j0, if_neg (by decide), if_neg (by omega)]
            rfl
          · have := cright_loops v (by omega) cs hl hg cs.length 0 16777216 (by omega) (Nat.le_refl _)
            rw [List.drop_zero] at this
            exact this
theorem rright_loops (v : Int) (hv : 0 ≤ v) (cs : List (List Int)) (hl : cs.length ≤ 9223372036854775806) (hg : ∀ c ∈ cs, c.length ≤ 9223372036854775806 ∧ ∀ x ∈ c, I32 x) :
    ∀ (d i n : Nat) (y : Int), i + d = cs.length → n ≤ 16777216 → y + (n : Int) = 16777216 → Ev (fun k => threshingref01_Right.l0 k y (i : Int) v cs) (dRightL v n (cs.drop i).flatten) := by
  intro d
  induction d with
  | zero =>
    intro i n y hi hn hy
    refine Ev.step (f := fun _ => some 0) (fun k => ?_) ?_
    · rw [threshingref01_Right.l0, if_neg (by omega)]
    · rw [List.drop_eq_nil_of_le (by omega)]
      have : dRightL v n [] = 0 := by cases n <;> rfl
      rw [List.flatten_nil, this]
      exact Ev.now 0
  | succ d ih =>
    intro i n y hi hn hy
    have hlt : i < cs.length := by omega
    have hmem := hg cs[i] (List.getElem_mem hlt)
    obtain ⟨c, hc⟩ : ∃ c, c = cs[i] := ⟨_, rfl⟩
    rw [← hc] at hmem
    have inner : ∀ (e j n : Nat) (y : Int), j + e = c.length → n ≤ 16777216 → y + (n : Int) = 16777216 → Ev (fun k => threshingref01_Right.l1 k y (i : Int) (j : Int) v cs) (dRightL v n (c.drop j ++ (cs.drop (i + 1)).flatten)) := by
      intro e
      induction e with
      | zero =>
        intro j n y hj hn hy
        refine Ev.step (f := fun k => threshingref01_Right.l0 k y ((i + 1 : Nat) : Int) v cs) (fun k => ?_) ?_
        · rw [threshingref01_Right.l1, if_pos (by omega), if_pos (by omega), rdL6_nat cs i hlt, ← hc, if_neg (by omega), wrap_id (x := (i : Int) + 1) (by omega) (by omega)]
          rfl
        · rw [List.drop_eq_nil_of_le (by omega), List.nil_append]
          exact ih (i + 1) n y (by omega) hn hy
      | succ e ihe =>
        intro j n y hj hn hy
        have hjl : j < c.length := by omega
        have hx := hmem.2 c[j] (List.getElem_mem hjl)
        rw [List.drop_eq_getElem_cons hjl, List.cons_append]
        obtain ⟨x, hxe⟩ : ∃ x, x = c[j] := ⟨_, rfl⟩
        rw [← hxe] at hx ⊢
        cases n with
        | zero =>
          refine Ev.step (f := fun _ => some 3) (fun k => ?_) (Ev.now 3)
          rw [threshingref01_Right.l1, if_pos (by omega), if_pos (by omega), rdL6_nat cs i hlt, ← hc, if_pos (by omega), wrap_id (x := y + 1) (by omega) (by omega), if_pos (by omega)]
        | succ n =>
          have head : ∀ k, threshingref01_Right.l1 (k + 1) y (i : Int) (j : Int) v cs = if x = 0 ∨ x < -v ∨ v < x then some 4 else threshingref01_Right.l1 k (y + 1) (i : Int) ((j + 1 : Nat) : Int) v cs := by
            intro k
            have b1 : ¬ (y + 1 > 16777216) := by omega
            have b2 : (0 : Int) ≤ (j : Int) := by omega
            have b3 : (0 : Int) ≤ (i : Int) := by omega
            have b4 : (i : Int) < (cs.length : Int) := by omega
            have b5 : (j : Int) < (c.length : Int) := by omega
            have hw2 : wrap64 ((j : Int) + 1) = ((j + 1 : Nat) : Int) := by rw [wrap_id (by omega) (by omega)]; rfl
            have hw1 : wrap64 (y + 1) = y + 1 := wrap_id (by omega) (by omega)
            rw [threshingref01_Right.l1, if_pos b3, if_pos b4, rdL6_nat cs i hlt, ← hc, if_pos b5, hw1, if_neg b1, if_pos b2, rd_nat c j hjl, ← hxe, rvar_f x hx, Option.bind_some, hw2]
            clear hw1 hw2
            by_cases h0 : x = 0
            · rw [if_pos h0, if_pos (.inl h0)]
            · rw [if_neg h0]
              by_cases hb : (if x < 0 then -x else x) > v
              · rw [if_pos hb, if_pos]
                by_cases hx0 : x < 0
                · rw [if_pos hx0] at hb; omega
                · rw [if_neg hx0] at hb; omega
              · rw [if_neg hb, if_neg]
                by_cases hx0 : x < 0
                · rw [if_pos hx0] at hb; omega
                · rw [if_neg hx0] at hb; omega
          rw [dRightL]
          by_cases hbad : x = 0 ∨ x < -v ∨ v < x
          · rw [if_pos hbad]
            refine Ev.step (f := fun _ => some 4) (fun k => ?_) (Ev.now 4)
            rw [head, if_pos hbad]
          · rw [if_neg hbad]
            refine Ev.step (f := fun k => threshingref01_Right.l1 k (y + 1) (i : Int) ((j + 1 : Nat) : Int) v cs) (fun k => ?_) (ihe (j + 1) n (y + 1) (by omega) (by omega) (by omega))
            rw [head, if_neg hbad]
    refine Ev.step (f := fun k => threshingref01_Right.l1 k y (i : Int) ((0 : Nat) : Int) v cs) (fun k => ?_) ?_
    · rw [threshingref01_Right.l0, if_pos (by omega)]
      rfl
    · have := inner c.length 0 n y (by omega) hn hy
      rw [List.drop_zero] at this
      rw [left_cons cs i hlt, ← hc]
      exact this
theorem rright_ev (v : Int) (cs : List (List Int)) (hl : cs.length ≤ 9223372036854775806) (hg : ∀ c ∈ cs, c.length ≤ 9223372036854775806 ∧ ∀ x ∈ c, I32 x) : Ev (fun k => threshingref01_Right.f k v cs) (dRight v cs) := by
  unfold dRight
  by_cases h1 : v < 0
  · rw [if_pos (.inl h1)]
    refine Ev.congr (f := fun k => threshingref01_Right.j0 k true v cs) (fun k => ?_) (Ev.step (f := fun _ => some 2) (fun k => ?_) (Ev.now 2))
    · unfold threshingref01_Right.f
      rw [if_pos h1]
    · rw [threshingref01_Right.j0, if_pos rfl]
  · by_cases h2 : 1048576 < v
    · rw [if_pos (.inr h2)]
      refine Ev.congr (f := fun k => threshingref01_Right.j0 k true v cs) (fun k => ?_) (Ev.step (f := fun _ => some 2) (fun k => ?_) (Ev.now 2))
      · unfold threshingref01_Right.f
        rw [if_neg h1, decide_eq_true (by omega)]
      · rw [threshingref01_Right.j0, if_pos rfl]
    · rw [if_neg (by omega)]
      refine Ev.congr (f := fun k => threshingref01_Right.j0 k false v cs) (fun k => ?_) ?_
      · unfold threshingref01_Right.f
        rw [if_neg h1, decide_eq_false (by omega)]
      · by_cases h3 : 1048576 < cs.length
        · rw [if_pos h3]
          refine Ev.step (f := fun _ => some 3) (fun k => ?_) (Ev.now 3)
          rw [threshingref01_Right.j0, if_neg (by decide), if_pos (by omega)]
        · rw [if_neg h3]
          refine Ev.step (f := fun k => threshingref01_Right.l0 k 0 ((0 : Nat) : Int) v cs) (fun k => ?_) ?_
          · rw [threshingref01_Right.j0, if_neg (by decide), if_neg (by omega)]
            rfl
          · have := rright_loops v (by omega) cs hl hg cs.length 0 16777216 0 (by omega) (Nat.le_refl _) (by omega)
            rw [List.drop_zero] at this
            exact this
theorem sameC_ev (c : List Int) (hl : c.length ≤ 9223372036854775806) : Ev (fun k => threshingkit_SameClause.f k c c) true := by
  have loop : ∀ (d i : Nat), i + d = c.length → Ev (fun k => threshingkit_SameClause.l0 k c c (i : Int)) true := by
    intro d
    induction d with
    | zero =>
      intro i hi
      refine Ev.step (f := fun _ => some true) (fun k => ?_) (Ev.now true)
      rw [threshingkit_SameClause.l0, if_neg (by omega)]
    | succ d ih =>
      intro i hi
      refine Ev.step (f := fun k => threshingkit_SameClause.l0 k c c ((i + 1 : Nat) : Int)) (fun k => ?_) (ih (i + 1) (by omega))
      rw [threshingkit_SameClause.l0, if_pos (by omega), if_pos (by omega), if_pos (by omega), if_pos rfl, wrap_id (by omega) (by omega)]
      rfl
  refine Ev.congr (f := fun k => threshingkit_SameClause.l0 k c c ((0 : Nat) : Int)) (fun k => ?_) (loop c.length 0 (by omega))
  unfold threshingkit_SameClause.f
  rw [if_pos rfl]
  rfl
theorem sameF_ev (v : Int) (cs : List (List Int)) (hl : cs.length ≤ 9223372036854775806) (hg : ∀ c ∈ cs, c.length ≤ 9223372036854775806) : Ev (fun k => threshingkit_SameFormula.f k v cs v cs) true := by
  have loop : ∀ (d i : Nat), i + d = cs.length → Ev (fun k => threshingkit_SameFormula.l0 k (i : Int) v cs v cs) true := by
    intro d
    induction d with
    | zero =>
      intro i hi
      refine Ev.step (f := fun _ => some true) (fun k => ?_) (Ev.now true)
      rw [threshingkit_SameFormula.l0, if_neg (by omega)]
    | succ d ih =>
      intro i hi
      have hlt : i < cs.length := by omega
      refine Ev.step (f := fun k => (threshingkit_SameClause.f k cs[i] cs[i]).bind fun t => if t = true then threshingkit_SameFormula.l0 k ((i + 1 : Nat) : Int) v cs v cs else some false) (fun k => ?_) (Ev.bind (f := fun k t => if t = true then threshingkit_SameFormula.l0 k ((i + 1 : Nat) : Int) v cs v cs else some false) (sameC_ev cs[i] (hg _ (List.getElem_mem hlt))) ?_)
      · rw [threshingkit_SameFormula.l0, if_pos (by omega), if_pos (by omega), if_pos (by omega), rdL6_nat cs i hlt, wrap_id (by omega) (by omega)]
        rfl
      · simp only [if_true]
        exact ih (i + 1) (by omega)
  refine Ev.congr (f := fun k => threshingkit_SameFormula.j0 k false v cs v cs) (fun k => ?_) (Ev.step (f := fun k => threshingkit_SameFormula.l0 k ((0 : Nat) : Int) v cs v cs) (fun k => ?_) (loop cs.length 0 (by omega)))
  · unfold threshingkit_SameFormula.f
    rw [if_pos rfl]
    congr 1
    simp
  · rw [threshingkit_SameFormula.j0, if_neg (by decide)]
    rfl
theorem sameM_ev (m : List Bool) (hl : m.length ≤ 9223372036854775806) : Ev (fun k => threshingkit_SameModel.f k m m) true := by
  have loop : ∀ (d i : Nat), i + d = m.length → Ev (fun k => threshingkit_SameModel.l0 k m m (i : Int)) true := by
    intro d
    induction d with
    | zero =>
      intro i hi
      refine Ev.step (f := fun _ => some true) (fun k => ?_) (Ev.now true)
      rw [threshingkit_SameModel.l0, if_neg (by omega)]
    | succ d ih =>
      intro i hi
      refine Ev.step (f := fun k => threshingkit_SameModel.l0 k m m ((i + 1 : Nat) : Int)) (fun k => ?_) (ih (i + 1) (by omega))
      rw [threshingkit_SameModel.l0, if_pos (by omega), if_pos (by omega), if_pos (by omega), if_neg (by simp), wrap_id (by omega) (by omega)]
      rfl
  refine Ev.congr (f := fun k => threshingkit_SameModel.l0 k m m ((0 : Nat) : Int)) (fun k => ?_) (loop m.length 0 (by omega))
  unfold threshingkit_SameModel.f
  rw [if_pos rfl]
  rfl
theorem size_ev (v : Int) (cs : List (List Int)) (hl : cs.length ≤ 140737488355328) (hg : ∀ c ∈ cs, c.length ≤ 140737488355328) : ∃ m : Int, Ev (fun k => threshingkit_Size.f k v cs 3000) m ∧ (m ≤ 3000 → (cs.map List.length).sum + cs.length ≤ 3000) := by
  have loop : ∀ (d i n : Nat), i + d = cs.length → n = cs.length + ((cs.take i).map List.length).sum → n ≤ 281474976710656 + 3000 → ∃ m : Int, Ev (fun k => threshingkit_Size.l0 k 3000 (n : Int) (i : Int) v cs) m ∧ (m ≤ 3000 → (cs.map List.length).sum + cs.length ≤ 3000) := by
    intro d
    induction d with
    | zero =>
      intro i n hi hn hb
      refine ⟨_, Ev.step (f := fun _ => some (mn (n : Int) 3001)) (fun k => ?_) (Ev.now _), fun hm => ?_⟩
      · rw [threshingkit_Size.l0, if_neg (by omega), wrap_id (x := 3000 + 1) (by omega) (by omega)]
        rfl
      · rw [List.take_of_length_le (by omega)] at hn
        unfold mn at hm
        split at hm <;> omega
    | succ d ih =>
      intro i n hi hn hb
      have hlt : i < cs.length := by omega
      by_cases h3 : (n : Int) ≤ 3000
      · have hc := hg _ (List.getElem_mem hlt)
        obtain ⟨m, h1, h2⟩ := ih (i + 1) (n + cs[i].length) (by omega) (by rw [List.take_succ_eq_append_getElem hlt, List.map_append, List.sum_append, hn]; simp only [List.map_cons, List.map_nil, List.sum_cons, List.sum_nil]; omega) (by omega)
        refine ⟨m, Ev.step (f := fun k => threshingkit_Size.l0 k 3000 ((n + cs[i].length : Nat) : Int) ((i + 1 : Nat) : Int) v cs) (fun k => ?_) h1, h2⟩
        rw [threshingkit_Size.l0, if_pos (by omega), if_pos h3, if_pos (by omega), rdL6_nat cs i hlt, wrap_id (x := (n : Int) + (cs[i].length : Int)) (by omega) (by omega), wrap_id (x := (i : Int) + 1) (by omega) (by omega)]
        rfl
      · refine ⟨_, Ev.step (f := fun _ => some (mn (n : Int) 3001)) (fun k => ?_) (Ev.now _), fun hm => ?_⟩
        · rw [threshingkit_Size.l0, if_pos (by omega), if_neg h3, wrap_id (x := 3000 + 1) (by omega) (by omega)]
          rfl
        · unfold mn at hm
          split at hm <;> omega
  obtain ⟨m, h1, h2⟩ := loop cs.length 0 cs.length (by omega) (by simp) (by omega)
  exact ⟨m, h1, h2⟩
end Go.Proofs.YtigloobbpcnnhaaGreatDoor.PB
end
section
namespace Go.Proofs.YtigloobbpcnnhaaGreatDoor.PB
open Go.RowKit Go.Proofs.YtigloobbpcnnhaaGreatDoorW.PrintWords Go.Proofs.YtigloobbpcnnhaaGreatDoorW.PrintLast Go.Proofs.YtigloobbpcnnhaaGreatDoorW.PrintMore
set_option linter.unusedVariables false
set_option linter.unusedSimpArgs false
def print.T4 : Bool × List (List Nat × List Nat) := (true, [([], []), ([0], [0]), ([1], [1]), ([2], [2]), ([3], [3]), ([], []), ([5], [5]), ([6], [6]), ([7, 2], [7]), ([4, 8], [4, 8]), ([9], [9]), ([10], [10]), ([11, 8, 0, 1, 2, 3, 4, 5, 6, 7, 8, 9, 10, 11], [11])])
def print.B4 : List Nat := [0, 1, 3, 7, 15, 0, 32, 96, 231, 511, 1023, 2047, 4095]
theorem print.tab4 : rtab .any (opsOf Tryz.f21 4) = print.T4 := by kernel_rfl
theorem print.bits4 : waitsOk print.T4.2 print.B4 = true := by kernel_rfl
def dLits (c : List Int) : List UInt8 := c.flatMap fun x => Lib.itoa x ++ [32]
theorem dLits_snoc (c : List Int) (x : Int) : dLits (c ++ [x]) = dLits c ++ (Lib.itoa x ++ [32]) := by simp [dLits]
theorem dClause_lits (c : List Int) : dClause c = dLits c ++ [48, 10] := rfl
/-- What has been written: i clauses, j literals of the next. -/
def dPt (v : Int) (cs : List (List Int)) (i : Nat) (l : List Int) : List UInt8 := dHeadL v cs.length ++ [10] ++ (cs.take i).flatMap dClause ++ dLits l
theorem dPt_next (v : Int) (cs : List (List Int)) (i : Nat) (h : i < cs.length) : dPt v cs i cs[i] ++ [48, 10] = dPt v cs (i + 1) [] := by
  unfold dPt
  rw [List.take_succ_eq_append_getElem h, List.flatMap_append]
  simp [dClause_lits, dLits]
theorem dPt_end (v : Int) (cs : List (List Int)) : dPt v cs cs.length [] = dText v cs := by
  unfold dPt dText dHeadL
  rw [List.take_length]
  simp [dLits]
theorem dPt_len (v : Int) (cs : List (List Int)) (i : Nat) (h : i < cs.length) (j : Nat) (hj : j ≤ cs[i].length) : (dPt v cs i (cs[i].take j)).length + 2 ≤ (dText v cs).length := by
  have e : dText v cs = dPt v cs i (cs[i].take j) ++ (dLits (cs[i].drop j) ++ ([48, 10] ++ (cs.drop (i + 1)).flatMap dClause)) := by
    have hc : cs = cs.take i ++ cs[i] :: cs.drop (i + 1) := by rw [← List.drop_eq_getElem_cons h, List.take_append_drop]
    have h2 : cs.flatMap dClause = (cs.take i).flatMap dClause ++ (dClause cs[i] ++ (cs.drop (i + 1)).flatMap dClause) := by
      conv => lhs; rw [hc]
      rw [List.flatMap_append, List.flatMap_cons]
    have h3 : dLits cs[i] = dLits (cs[i].take j) ++ dLits (cs[i].drop j) := by
      unfold dLits
      rw [← List.flatMap_append, List.take_append_drop]
    have h4 : dText v cs = dHeadL v cs.length ++ [10] ++ cs.flatMap dClause := by simp [dText, dHeadL]
    rw [h4, h2, dClause_lits, h3]
    unfold dPt
    simp
  rw [e]
  simp only [List.length_append, List.length_cons, List.length_nil]
  omega
theorem head_bytes (v : Int) (n : Nat) : baOf [112, 32, 99, 110, 102, 32] ++ baOf (Lib.itoa v) ++ baOf [32] ++ baOf (Lib.itoa (n : Int)) ++ baOf [10] = baOf (dHeadL v n ++ [10]) := by
  simp only [baOf_append]
  rfl
set_option maxHeartbeats 4000000 in
set_option maxRecDepth 100000 in
theorem print_calls (v : Int) (A : Option Addr) (c : Nat) (cs : List (List Int)) (w : World) (hC : kcs.C w A cs.length cs) (hc : cs.length ≤ c) (hg : ∀ q ∈ cs, q.length ≤ 140737488355328 ∧ ∀ x ∈ q, I32 x) (hl : cs.length ≤ 140737488355328) (hz : (cs.map List.length).sum + cs.length ≤ 1000000) (hlt : LT w.heap.size w) :
    Calls Tryz.prog 21 #[.agg #[.int .i64 v, .slice A cs.length c]] w fun e w' => ∃ rv, e = .returned (.tuple #[rv, .int .i64 (dPrint v cs).2]) ∧ ((dRight v cs = 0 → EM w' w.heap.size rv (dText v cs)) ∧ (dRight v cs ≠ 0 → rv = .slice none 0 0)) ∧ Below w.heap.size w w' := by
  have HLT := Aside0.mk hlt
  have HC := Aside0.mk hC
  obtain ⟨kr, hkr⟩ := (cright_ev v cs (by omega) (fun q hq => ⟨by have := (hg q hq).1; omega, (hg q hq).2⟩)).rounds
  have HKR := Aside0.mk hkr
  clear hlt hC hkr hg hl
  obtain ⟨er, her⟩ : ∃ er, er = dRight v cs := ⟨_, rfl⟩
  rw [← her] at HKR
  by_cases h0 : er = 0
  · have hd := (dRight_zero v cs).1 (her ▸ h0)
    have HD := Aside0.mk hd
    have hv0 : -9223372036854775808 ≤ v := by have := hd.v0; omega
    have hv1 : v ≤ 9223372036854775807 := by have := hd.v1; omega
    have hn0 : -9223372036854775808 ≤ (cs.length : Int) := by omega
    have hn1 : (cs.length : Int) ≤ 9223372036854775807 := by have := hd.c; omega
    have hnl : (cs.length : Int) ≤ 1048576 := by have := hd.c; omega
    have HTL := Aside0.mk (show (dText v cs).length ≤ 30000000 by have := dText_len v cs hd; omega)
    obtain ⟨sv, hsv⟩ : ∃ sv, sv = baOf (Lib.itoa v) := ⟨_, rfl⟩
    obtain ⟨sn, hsn⟩ : ∃ sn, sn = baOf (Lib.itoa (cs.length : Int)) := ⟨_, rfl⟩
    have hsvz : sv.size ≤ 21 := by rw [hsv]; exact itoa_len v hv0 hv1
    have hsnz : sn.size ≤ 21 := by rw [hsn]; exact itoa_len (cs.length : Int) hn0 hn1
    have hb0 := head_bytes v cs.length
    rw [← hsv, ← hsn] at hb0
    have HHB := Aside0.mk (show baOf (dHeadL v cs.length ++ [10]) = (((((⟨#[112, 32, 99, 110, 102, 32]⟩ : ByteArray) ++ sv) ++ (⟨#[32]⟩ : ByteArray)) ++ sn) ++ (⟨#[10]⟩ : ByteArray)) from hb0.symm)
    have hbs : (((((⟨#[112, 32, 99, 110, 102, 32]⟩ : ByteArray) ++ sv) ++ (⟨#[32]⟩ : ByteArray)) ++ sn) ++ (⟨#[10]⟩ : ByteArray)).size = 8 + sv.size + sn.size := by
      simp only [ByteArray.size_append]
      show 6 + sv.size + 1 + sn.size + 1 = _
      omega
    obtain ⟨HBZ, hHBZ⟩ : ∃ z, z = (((((⟨#[112, 32, 99, 110, 102, 32]⟩ : ByteArray) ++ sv) ++ (⟨#[32]⟩ : ByteArray)) ++ sn) ++ (⟨#[10]⟩ : ByteArray)).size := ⟨_, rfl⟩
    have HHBZ := Aside0.mk hHBZ.symm
    have HHBS := Aside0.mk (show HBZ ≤ 9223372036854775807 by omega)
    have HHBL := Aside0.mk (show HBZ = (dHeadL v cs.length ++ [10]).length by rw [hHBZ, ← HHB.out]; rfl)
    have HSV := Aside0.mk hsv
    have HSN := Aside0.mk hsn
    have HP := Aside0.mk (show (dPrint v cs).2 = 0 by unfold dPrint; rw [if_pos (her ▸ h0)])
    have HE := Aside0.mk (show dRight v cs = 0 from her ▸ h0)
    clear hbs hb0 hHBZ hsv hsn
    subst h0
    clear her hd hz
    have z0 : 6 + sv.size ≤ 9223372036854775807 := by omega
    have z1 : decide (6 + sv.size ≤ 9223372036854775807) = true := decide_eq_true z0
    have z2 : (9223372036854775807 < 6 + sv.size) = False := eq_false (Nat.not_lt.2 z0)
    replace z0 := eq_true z0
    have q0 : ((⟨#[112, 32, 99, 110, 102, 32]⟩ : ByteArray) ++ sv).size + 1 ≤ 9223372036854775807 := by rw [ByteArray.size_append]; show 6 + sv.size + 1 ≤ _; omega
    have q1 : decide (((⟨#[112, 32, 99, 110, 102, 32]⟩ : ByteArray) ++ sv).size + 1 ≤ 9223372036854775807) = true := decide_eq_true q0
    have q2 : (9223372036854775807 < ((⟨#[112, 32, 99, 110, 102, 32]⟩ : ByteArray) ++ sv).size + 1) = False := eq_false (Nat.not_lt.2 q0)
    replace q0 := eq_true q0
    have qq0 : 6 + sv.size + 1 ≤ 9223372036854775807 := by omega
    have qq1 : decide (6 + sv.size + 1 ≤ 9223372036854775807) = true := decide_eq_true qq0
    have qq2 : (9223372036854775807 < 6 + sv.size + 1) = False := eq_false (Nat.not_lt.2 qq0)
    replace qq0 := eq_true qq0
    have y0 : (((⟨#[112, 32, 99, 110, 102, 32]⟩ : ByteArray) ++ sv) ++ (⟨#[32]⟩ : ByteArray)).size + sn.size ≤ 9223372036854775807 := by rw [ByteArray.size_append, ByteArray.size_append]; show 6 + sv.size + 1 + sn.size ≤ _; omega
    have y1 : decide ((((⟨#[112, 32, 99, 110, 102, 32]⟩ : ByteArray) ++ sv) ++ (⟨#[32]⟩ : ByteArray)).size + sn.size ≤ 9223372036854775807) = true := decide_eq_true y0
    have y2 : (9223372036854775807 < (((⟨#[112, 32, 99, 110, 102, 32]⟩ : ByteArray) ++ sv) ++ (⟨#[32]⟩ : ByteArray)).size + sn.size) = False := eq_false (Nat.not_lt.2 y0)
    replace y0 := eq_true y0
    have yy0 : 6 + sv.size + 1 + sn.size ≤ 9223372036854775807 := by omega
    have yy1 : decide (6 + sv.size + 1 + sn.size ≤ 9223372036854775807) = true := decide_eq_true yy0
    have yy2 : (9223372036854775807 < 6 + sv.size + 1 + sn.size) = False := eq_false (Nat.not_lt.2 yy0)
    replace yy0 := eq_true yy0
    have x_0 : ((((⟨#[112, 32, 99, 110, 102, 32]⟩ : ByteArray) ++ sv) ++ (⟨#[32]⟩ : ByteArray)) ++ sn).size + 1 ≤ 9223372036854775807 := by rw [ByteArray.size_append, ByteArray.size_append, ByteArray.size_append]; show 6 + sv.size + 1 + sn.size + 1 ≤ _; omega
    have x_1 : decide (((((⟨#[112, 32, 99, 110, 102, 32]⟩ : ByteArray) ++ sv) ++ (⟨#[32]⟩ : ByteArray)) ++ sn).size + 1 ≤ 9223372036854775807) = true := decide_eq_true x_0
    have x_2 : (9223372036854775807 < ((((⟨#[112, 32, 99, 110, 102, 32]⟩ : ByteArray) ++ sv) ++ (⟨#[32]⟩ : ByteArray)) ++ sn).size + 1) = False := eq_false (Nat.not_lt.2 x_0)
    replace x_0 := eq_true x_0
    have xx0 : 6 + sv.size + 1 + sn.size + 1 ≤ 9223372036854775807 := by omega
    have xx1 : decide (6 + sv.size + 1 + sn.size + 1 ≤ 9223372036854775807) = true := decide_eq_true xx0
    have xx2 : (9223372036854775807 < 6 + sv.size + 1 + sn.size + 1) = False := eq_false (Nat.not_lt.2 xx0)
    replace xx0 := eq_true xx0
    go_enter Tryz.func21, Tryz.ntmps21
    go_upto_region 4 with (first | ((with_reducible refine gate_dst (N := 1) rfl ?_); refine box_event ?hg (N := 1) ?hd (cs := #[.int .i64 v, .slice A cs.length c]) (t := 35) ?hr ?_; (case hd => rfl); (case hg => rfl); (case hr => first | (go_simp; done) | (go_simp; rfl)); intro g1 hgb w1 hbox hb; have HG1 := Aside0.mk hbox; have HB1 := Aside0.mk hb; have hcz0 := (blk_cell hbox 0).trans (show _ = some (Value.int .i64 v) from rfl); have hcz1 := (blk_cell hbox 1).trans (show _ = some (Value.slice A cs.length c) from rfl); clear hbox hb hgb) | (go_at_call 25; refine (cnf_Right.calls kr v A c cs 0 w1 (Kd.C_below HC.out HB1.out) hc HKR.out).mono ?_; rintro e w2 ⟨rfl, hb⟩; have HB2 := Aside0.mk (below_step HB1.out hb); have HG2 := Aside0.mk (blk_below HG1.out hb); clear hb hcz0 hcz1))
    refine start_ (n := 13) (S := fun w' => w'.heap[g1]? = some (.cells #[.int .i64 v, .slice A cs.length c] 35 (0, 0))) (ds := []) #[false, false, false, false, false, false, false, false, false, false, false, false, false] (by kernel_rfl) rfl rfl (blk_drew HG2.out) (fun hHeld => ?_); refine with_tabW print.tab4 print.bits4 (fun HT_ HW_ => ?_)
    have HB3 := Aside0.mk (below_drew1 HB2.out)
    have HG3 := Aside0.mk (blk_drew HG2.out)
    generalize w2.drew = w3 at HB3 HG3 hHeld ⊢
    refine pure_ (i := 0) (N := some 15) (v := ?_) (a' := ?_) #[true, false, false, false, false, false, false, false, false, false, false, false, false] rfl rfl (any_of HT_.out (by kernel_rfl)) (fun _ _ _ h => h) (Or.inl ⟨by rfl, ?_⟩) ?_ ?_
    rotate_left
    · intro w'
      go_simp
      with_reducible rfl
    rotate_left
    · simp only [Act.put, List.setIfInBounds_toArray, List.set_cons_zero, List.set_cons_succ, i64_w, i32_w]
      rfl
    refine take_ (i := 1) (N := some 16) (v := ?_) (a' := ?_) #[true, true, false, false, false, false, false, false, false, false, false, false, false] rfl rfl (take_ofW HT_.out HW_.out (by kernel_rfl)) (fun _ _ _ h => h) (Or.inl ⟨by rfl, ?_⟩) hHeld ?_ ?_
    rotate_left
    · rintro w' hS
      have hcz1 := (blk_cell hS 0).trans (show _ = some (Value.int .i64 v) from rfl)
      go_simp
      with_reducible rfl
    rotate_left
    · simp only [Act.put, List.setIfInBounds_toArray, List.set_cons_zero, List.set_cons_succ, i64_w, i32_w]
      rfl
    refine pure_ (i := 5) (N := some 20) (v := ?_) (a' := ?_) #[true, true, false, false, false, true, false, false, false, false, false, false, false] rfl rfl (any_of HT_.out (by kernel_rfl)) (fun _ _ _ h => h) (Or.inl ⟨by rfl, ?_⟩) ?_ ?_
    rotate_left
    · intro w'
      go_simp
      with_reducible rfl
    rotate_left
    · simp only [Act.put, List.setIfInBounds_toArray, List.set_cons_zero, List.set_cons_succ, i64_w, i32_w]
      rfl
    refine take_ (i := 6) (N := some 21) (v := ?_) (a' := ?_) #[true, true, false, false, false, true, true, false, false, false, false, false, false] rfl rfl (take_ofW HT_.out HW_.out (by kernel_rfl)) (fun _ _ _ h => h) (Or.inl ⟨by rfl, ?_⟩) hHeld ?_ ?_
    rotate_left
    · rintro w' hS
      have hcz1 := (blk_cell hS 1).trans (show _ = some (Value.slice A cs.length c) from rfl)
      go_simp
      with_reducible rfl
    rotate_left
    · simp only [Act.put, List.setIfInBounds_toArray, List.set_cons_zero, List.set_cons_succ, i64_w, i32_w]
      rfl
    refine pure_ (i := 7) (N := some 22) (v := ?_) (a' := ?_) #[true, true, false, false, false, true, true, true, false, false, false, false, false] rfl rfl (any_of HT_.out (by kernel_rfl)) (fun _ _ _ h => h) (Or.inl ⟨by rfl, ?_⟩) ?_ ?_
    rotate_left
    · intro w'
      go_simp
      with_reducible rfl
    rotate_left
    · simp only [Act.put, List.setIfInBounds_toArray, List.set_cons_zero, List.set_cons_succ, i64_w, i32_w]
      rfl
    refine one_ (i := 2) (N := some 17) #[true, true, true, false, false, true, true, true, false, false, false, false, false] rfl rfl (one_of HT_.out (by kernel_rfl)) (by decide) (fun K hK => ?_)
    refine goes_ Tryz.func28 (by kernel_rfl) rfl #[.int .i64 v] (by rfl) rfl rfl (by (try simp only [List.map_toArray, List.map_cons, List.map_nil]); first | done | rfl) ?_
    refine (itoa_calls v w3 hv0 hv1 (HLT.out.on HB3.out).here).mono ?_
    rw [← HSV.out]
    rintro e4 w4 ⟨rfl, hb⟩
    refine ⟨_, rfl, ?_⟩
    have HB4 := Aside0.mk (below_step HB3.out hb)
    have HG4 := Aside0.mk (blk_below HG3.out hb)
    clear hb
    refine hK.out _ _ HG4.out (fun hHeld => ?_)
    clear hK K
    refine norm_ (a' := ?_) ?_ ?_
    rotate_left
    · show Act.put _ (some 17) _ = _
      simp only [Act.put, List.setIfInBounds_toArray, List.set_cons_zero, List.set_cons_succ, i64_w, i32_w]
      rfl
    refine pure_ (i := 3) (N := some 18) (v := ?_) (a' := ?_) #[true, true, true, true, false, true, true, true, false, false, false, false, false] rfl rfl (any_of HT_.out (by kernel_rfl)) (fun _ _ _ h => h) (Or.inl ⟨by rfl, ?_⟩) ?_ ?_
    rotate_left
    · intro w'
      go_simp
      with_reducible rfl
    rotate_left
    · simp only [Act.put, List.setIfInBounds_toArray, List.set_cons_zero, List.set_cons_succ, i64_w, i32_w]
      rfl
    refine pure_ (i := 4) (N := some 19) (v := ?_) (a' := ?_) #[true, true, true, true, true, true, true, true, false, false, false, false, false] rfl rfl (any_of HT_.out (by kernel_rfl)) (fun _ _ _ h => h) (Or.inl ⟨by rfl, ?_⟩) ?_ ?_
    rotate_left
    · intro w'
      go_simp
      with_reducible rfl
    rotate_left
    · simp only [Act.put, List.setIfInBounds_toArray, List.set_cons_zero, List.set_cons_succ, i64_w, i32_w]
      rfl
    refine one_ (i := 8) (N := some 23) #[true, true, true, true, true, true, true, true, true, false, false, false, false] rfl rfl (one_of HT_.out (by kernel_rfl)) (by decide) (fun K hK => ?_)
    refine goes_ Tryz.func28 (by kernel_rfl) rfl #[.int .i64 (cs.length : Int)] (by rfl) rfl rfl (by (try simp only [List.map_toArray, List.map_cons, List.map_nil]); first | done | rfl) ?_
    refine (itoa_calls (cs.length : Int) w4 hn0 hn1 (HLT.out.on HB4.out).here).mono ?_
    rw [← HSN.out]
    rintro e5 w5 ⟨rfl, hb⟩
    refine ⟨_, rfl, ?_⟩
    have HB5 := Aside0.mk (below_step HB4.out hb)
    have HG5 := Aside0.mk (blk_below HG4.out hb)
    clear hb
    refine hK.out _ _ HG5.out (fun hHeld => ?_)
    clear hK K
    refine norm_ (a' := ?_) ?_ ?_
    rotate_left
    · show Act.put _ (some 23) _ = _
      simp only [Act.put, List.setIfInBounds_toArray, List.set_cons_zero, List.set_cons_succ, i64_w, i32_w]
      rfl
    refine pure_ (i := 9) (N := some 24) (v := ?_) (a' := ?_) #[true, true, true, true, true, true, true, true, true, true, false, false, false] rfl rfl (any_of HT_.out (by kernel_rfl)) (fun _ _ _ h => h) (Or.inl ⟨by rfl, ?_⟩) ?_ ?_
    rotate_left
    · intro w'
      go_simp
      with_reducible rfl
    rotate_left
    · simp only [Act.put, List.setIfInBounds_toArray, List.set_cons_zero, List.set_cons_succ, i64_w, i32_w]
      rfl
    refine pure_ (i := 10) (N := some 25) (v := ?_) (a' := ?_) #[true, true, true, true, true, true, true, true, true, true, true, false, false] rfl rfl (any_of HT_.out (by kernel_rfl)) (fun _ _ _ h => h) (Or.inl ⟨by rfl, ?_⟩) ?_ ?_
    rotate_left
    · intro w'
      go_simp
      with_reducible rfl
    rotate_left
    · simp only [Act.put, List.setIfInBounds_toArray, List.set_cons_zero, List.set_cons_succ, i64_w, i32_w]
      rfl
    refine one_ (i := 11) (N := some 26) #[true, true, true, true, true, true, true, true, true, true, true, true, false] rfl rfl (one_of HT_.out (by kernel_rfl)) (by decide) (fun K hK => ?_)
    refine value_ (w1 := Lib.bytesWorld w5 5 (((((⟨#[112, 32, 99, 110, 102, 32]⟩ : ByteArray) ++ sv) ++ (⟨#[32]⟩ : ByteArray)) ++ sn) ++ (⟨#[10]⟩ : ByteArray))) (v := .slice (some ⟨w5.heap.size, 0, none⟩) HBZ (grownCap w5 HBZ 0 5)) (by rfl) rfl ?_ ?_
    · have kb := print_bytes (P := Tryz.prog) 9 46 5 Tryz.underlying9 Tryz.underlying46 Tryz.underlying5 (((((⟨#[112, 32, 99, 110, 102, 32]⟩ : ByteArray) ++ sv) ++ (⟨#[32]⟩ : ByteArray)) ++ sn) ++ (⟨#[10]⟩ : ByteArray)) w5
      rw [HHBZ.out] at kb
      unfold execOp
      simp only [Act.eval]
      simp [kb, Sem.run_bind, Sem.run_pure, Result.andThen]
    have HEM := Aside0.mk (show EM (Lib.bytesWorld w5 5 (((((⟨#[112, 32, 99, 110, 102, 32]⟩ : ByteArray) ++ sv) ++ (⟨#[32]⟩ : ByteArray)) ++ sn) ++ (⟨#[10]⟩ : ByteArray))) w.heap.size (.slice (some ⟨w5.heap.size, 0, none⟩) HBZ (grownCap w5 HBZ 0 5)) (dHeadL v cs.length ++ [10]) from by
      have := em_bytes w5 (dHeadL v cs.length ++ [10]) (by rw [← HHBL.out]; exact HHBS.out)
      rw [← HHBL.out, HHB.out] at this
      obtain ⟨g, cap, cur, fz, e1, e2, e3⟩ := this
      exact ⟨g, cap, cur, fz, e1, Nat.le_trans HB5.out.size e2, e3⟩)
    have HB6 := Aside0.mk (below_step HB5.out (bytes_below (Below.refl _ w5) (Nat.le_refl _) 5 (((((⟨#[112, 32, 99, 110, 102, 32]⟩ : ByteArray) ++ sv) ++ (⟨#[32]⟩ : ByteArray)) ++ sn) ++ (⟨#[10]⟩ : ByteArray))))
    have HG6 := Aside0.mk (blk_below HG5.out (bytes_below (Below.refl _ w5) (Nat.le_refl _) 5 (((((⟨#[112, 32, 99, 110, 102, 32]⟩ : ByteArray) ++ sv) ++ (⟨#[32]⟩ : ByteArray)) ++ sn) ++ (⟨#[10]⟩ : ByteArray))))
    obtain ⟨bv0, hbv0⟩ : ∃ bv0, bv0 = Value.slice (some ⟨w5.heap.size, 0, none⟩) HBZ (grownCap w5 HBZ 0 5) := ⟨_, rfl⟩
    rw [← hbv0] at HEM ⊢
    clear hbv0
    refine hK.out _ _ HG6.out (fun hHeld => ?_)
    clear hK K
    refine norm_ (a' := ?_) ?_ ?_
    rotate_left
    · show Act.put _ (some 26) _ = _
      simp only [Act.put, List.setIfInBounds_toArray, List.set_cons_zero, List.set_cons_succ, i64_w, i32_w]
      rfl
    refine pure_ (i := 12) (N := some 5) (v := ?_) (a' := ?_) #[true, true, true, true, true, true, true, true, true, true, true, true, true] rfl rfl (any_of HT_.out (by kernel_rfl)) (fun _ _ _ h => h) (Or.inl ⟨by rfl, ?_⟩) ?_ ?_
    rotate_left
    · intro w'
      go_simp
      with_reducible rfl
    rotate_left
    · simp only [Act.put, List.setIfInBounds_toArray, List.set_cons_zero, List.set_cons_succ, i64_w, i32_w]
      rfl
    refine done_ (done_of HT_.out (by kernel_rfl)) ?_
    have hcz1 := (blk_cell HG6.out 1).trans (show _ = some (Value.slice A cs.length c) from rfl)
    have HEM0 := Aside0.mk (show EM _ w.heap.size bv0 (dPt v cs 0 []) from by
      have := HEM.out
      unfold dPt dLits
      simpa using this)
    clear HEM
    generalize Lib.bytesWorld w5 5 (((((⟨#[112, 32, 99, 110, 102, 32]⟩ : ByteArray) ++ sv) ++ (⟨#[32]⟩ : ByteArray)) ++ sn) ++ (⟨#[10]⟩ : ByteArray)) = w6 at HB6 HG6 hcz1 HEM0 ⊢
    go_wp2
    clear hcz1
    go_loopg [5, 30] cs.length (fun gf v5 v30 wr => ∃ i : Nat, v30 = .int .i64 (i : Int) ∧ i + gf = cs.length ∧ Aside0 (EM wr w.heap.size v5 (dPt v cs i [])) ∧ Aside0 (Below w.heap.size w wr))
    case atStart => exact ⟨0, rfl, by omega, HEM0, HB6⟩
    case round =>
      clear HEM0 HB6 HG6 HB5 HG5 HB4 HG4 HB3 HG3 HB2 HG2 HB1 HG1 hHeld
      obtain ⟨i, rfl, hi, HEM, HBW⟩ := hrel
      by_cases hlt : i < cs.length
      · have t5 : decide ((i : Int) < (cs.length : Int)) = true := decide_eq_true (by omega)
        have t6 : decide (i < cs.length) = true := decide_eq_true hlt
        have hi0 : (0 : Int) ≤ (i : Int) := Int.natCast_nonneg _
        have hil : (i : Int) < (cs.length : Int) := by omega
        have hi1 : (i : Int) + 1 ≤ 1048577 := by omega
        obtain ⟨ad, A1, c1, e1, hx, hl1, hC1⟩ := at_L6 HC.out (i : Int) hi0 hil
        cases e1
        replace hx := pw_cell_below HBW.out hx
        obtain ⟨q, hq⟩ : ∃ q, q = cs[i] := ⟨_, rfl⟩
        rw [rdL6_nat cs i hlt, ← hq] at hx hl1 hC1
        rw [Int.toNat_natCast] at hx
        have HCQ := Aside0.mk hC1
        have HQ := Aside0.mk hq
        have HGQ := Aside0.mk (show ∀ x ∈ q, Glit v x by rw [hq]; exact HD.out.g _ (List.getElem_mem hlt))
        have hql : q.length ≤ 30000000 := by
          have h1 := HD.out.l
          have h2 : q.length ≤ (cs.map List.length).sum := by
            rw [hq]
            have : ∀ (L : List (List Int)) (y : List Int), y ∈ L → y.length ≤ (L.map List.length).sum := by
              intro L
              induction L with
              | nil => intro y h; cases h
              | cons a L ih =>
                intro y h
                rw [List.map_cons, List.sum_cons]
                rcases List.mem_cons.1 h with rfl | h
                · omega
                · have := ih y h; omega
            exact this cs _ (List.getElem_mem hlt)
          omega
        have HLEN := Aside0.mk (show ∀ j, j ≤ q.length → (dPt v cs i (q.take j)).length + 2 ≤ 30000000 by intro j hj; have := dPt_len v cs i hlt j (by rw [← hq]; exact hj); rw [← hq] at this; have := HTL.out; omega)
        have HNX := Aside0.mk (show dPt v cs i q ++ [48, 10] = dPt v cs (i + 1) [] by rw [hq]; exact dPt_next v cs i hlt)
        clear hC1 hq
        go_wp2
        obtain ⟨wo, rfl⟩ : ∃ wo : World, wo = wr := ⟨_, rfl⟩
        obtain ⟨gko, hgko⟩ : ∃ gko, gko = gk := ⟨_, rfl⟩
        rw [← hgko] at hi
        have HGKO := Aside0.mk hgko
        clear hgko
        go_loopg [5, 36] q.length (fun gf v5 v36 wi => ∃ j : Nat, v36 = .int .i64 (j : Int) ∧ j + gf = q.length ∧ Aside0 (EM wi w.heap.size v5 (dPt v cs i (q.take j))) ∧ Aside0 (Below w.heap.size w wi))
        case atStart => exact ⟨0, rfl, by omega, HEM, HBW⟩
        case round =>
          clear HEM
          obtain ⟨j, rfl, hj, HEM, HBI⟩ := hrel
          have HCQ2 := HCQ
          have HEB := Aside0.mk HBI.out.size
          by_cases hjt : j < q.length
          · have t7 : decide ((j : Int) < (q.length : Int)) = true := decide_eq_true (by omega)
            have t8 : decide (j < q.length) = true := decide_eq_true hjt
            have hj0 : (0 : Int) ≤ (j : Int) := Int.natCast_nonneg _
            have hjl : (j : Int) < (q.length : Int) := by omega
            have hj1 : (j : Int) + 1 ≤ 30000001 := by omega
            obtain ⟨ad2, e2, hy⟩ := Kd.at_int (Kd.C_below HCQ.out HBI.out) (j : Int) hj0 hjl
            cases e2
            obtain ⟨x, hxe⟩ : ∃ x, x = q[j] := ⟨_, rfl⟩
            rw [Int.toNat_natCast, rd_nat q j hjt, ← hxe] at hy
            have hgl := HGQ.out x (by rw [hxe]; exact List.getElem_mem hjt)
            have hx0 : -1048576 ≤ x := by have := HD.out.v1; unfold Glit at hgl; omega
            have hx1 : x ≤ 1048576 := by have := HD.out.v1; unfold Glit at hgl; omega
            have HIT := Aside0.mk (itoa_len x (by omega) (by omega))
            have HTJ := Aside0.mk (show dPt v cs i (q.take j) ++ Lib.itoa x ++ [32] = dPt v cs i (q.take (j + 1)) by
              rw [List.take_succ_eq_append_getElem hjt, ← hxe]
              unfold dPt
              rw [dLits_snoc]
              simp)
            have HLJ := Aside0.mk (HLEN.out j (by omega))
            clear hgl hxe
            go_wp2_with (first | (go_at_call 43; refine (appendI_calls w.heap.size _ (dPt v cs i (q.take j)) x (by omega) (by omega) wr HEM.out HEB.out (by have := HLJ.out; omega) (HLT.out.on HBI.out)).mono ?_; rintro e w7 ⟨v7, rfl, he, hb⟩; have HE7 := Aside0.mk he; have HB7 := Aside0.mk (HBI.out.trans hb); clear he hb hy) | ((with_reducible refine gate_builtin (b := .append) (xs := #[.tmp 44, .tmp 45]) rfl ?_); refine em_cells rfl (.tmp 44) (.tmp 45) 46 rfl Tryz.underlying46 info5 rfl (EM.below HE7.out (below_alloc (Below.refl _ w7) (.cells #[.int .u8 32] 5))) ⟨w7.heap.size, 0, none⟩ 1 [32] rfl ?hr ?hl2 ?hb2 ?_; (case hr => intro k y hk; match k, hk with | 0, hk => exact (blk_cell (blk_new w7 (.cells #[.int .u8 32] 5 (0, 0))) 0).trans hk); (case hl2 => (have h1 := HLJ.out; have h2 := HIT.out; rw [List.length_append]; show _ + _ + 1 ≤ _; omega)); (case hb2 => exact Nat.le_trans HB7.out.size (below_alloc (Below.refl _ w7) (.cells #[.int .u8 32] 5)).size); intro v8 w8 he hbw hg; have HE8 := Aside0.mk he; have HB8 := Aside0.mk ((HB7.out.trans ((below_alloc (Below.refl _ w7) (.cells #[.int .u8 32] 5)).mono HB7.out.size)).trans hbw); clear he hbw hg))
            go_roundg (gk - 1)
            case measure => omega
            case rel => exact ⟨j + 1, by go_num, by omega, ⟨by rw [← HTJ.out]; exact HE8.out⟩, HB8⟩
          · have t7 : decide ((j : Int) < (q.length : Int)) = false := decide_eq_false (by omega)
            have t8 : decide (j < q.length) = false := decide_eq_false hjt
            obtain rfl : j = q.length := by omega
            have HLJ := Aside0.mk (HLEN.out q.length (Nat.le_refl _))
            have HQT := Aside0.mk (show dPt v cs i (q.take q.length) ++ [48, 10] = dPt v cs (i + 1) [] by rw [List.take_length]; exact HNX.out)
            go_wp2_with ((with_reducible refine gate_builtin (b := .append) (xs := #[.tmp 48, .const (.string ⟨#[48, 10]⟩)]) rfl ?_); refine em_string rfl (.tmp 48) (.const (.string ⟨#[48, 10]⟩)) 46 9 rfl Tryz.underlying46 Tryz.underlying9 info5 rfl HEM.out [48, 10] rfl (by have h1 := HLJ.out; show _ + 2 ≤ _; omega) HEB.out ?_; intro v8 w8 he hbw hg; have HE8 := Aside0.mk he; have HB8 := Aside0.mk (HBI.out.trans hbw); clear he hbw hg)
            go_roundg (gko - 1)
            case measure => have := HGKO.out; omega
            case rel => exact ⟨i + 1, by go_num, by omega, ⟨by rw [← HQT.out]; exact HE8.out⟩, HB8⟩
      · have t5 : decide ((i : Int) < (cs.length : Int)) = false := decide_eq_false (by omega)
        have t6 : decide (i < cs.length) = false := decide_eq_false hlt
        obtain rfl : i = cs.length := by omega
        go_wp2
        go_ret2
        refine ⟨_, by rw [HP.out]; rfl, ⟨fun _ => ?_, fun h => absurd HE.out h⟩, HBW.out⟩
        have := HEM.out
        rw [dPt_end] at this
        exact this
  · have t1 : (er == 0) = false := beq_eq_false_iff_ne.2 h0
    have t1n : (er != 0) = true := by rw [bne, t1]; rfl
    have HP := Aside0.mk (show (dPrint v cs).2 = er by unfold dPrint; rw [if_neg (her ▸ h0), her])
    have HE := Aside0.mk (show dRight v cs ≠ 0 from her ▸ h0)
    clear her h0 hz
    go_enter Tryz.func21, Tryz.ntmps21
    go_wp2_with (first | ((with_reducible refine gate_dst (N := 1) rfl ?_); refine box_event ?hg (N := 1) ?hd (cs := #[.int .i64 v, .slice A cs.length c]) (t := 35) ?hr ?_; (case hd => rfl); (case hg => rfl); (case hr => first | (go_simp; done) | (go_simp; rfl)); intro g1 hgb w1 hbox hb; have HG1 := Aside0.mk hbox; have HB1 := Aside0.mk hb; have hcz0 := (blk_cell hbox 0).trans (show _ = some (Value.int .i64 v) from rfl); have hcz1 := (blk_cell hbox 1).trans (show _ = some (Value.slice A cs.length c) from rfl); clear hbox hb hgb) | (go_at_call 25; refine (cnf_Right.calls kr v A c cs er w1 (Kd.C_below HC.out HB1.out) hc HKR.out).mono ?_; rintro e w2 ⟨rfl, hb⟩; have HB2 := Aside0.mk (below_step HB1.out hb); clear hb hcz0 hcz1))
    go_ret2
    exact ⟨_, by rw [HP.out]; rfl, ⟨fun h => absurd h HE.out, fun _ => rfl⟩, HB2.out⟩
end Go.Proofs.YtigloobbpcnnhaaGreatDoor.PB
end
section
namespace Go.Proofs.YtigloobbpcnnhaaGreatDoor.PB
open Go.RowKit Go.Shelf Go.Proofs.YtigloobbpcnnhaaGreatDoorW.PrintWords Go.Proofs.YtigloobbpcnnhaaGreatDoorW.PrintLast Go.Proofs.YtigloobbpcnnhaaGreatDoorW.PrintMore
set_option linter.unusedVariables false
set_option linter.unusedSimpArgs false
attribute [local go_sem] Oper.semAt_some
theorem nsz48 : (Tryz.prog.info? 81).map (·.size) = some 1 := by kernel_rfl
theorem nsz26 : (Tryz.prog.info? 24).map (·.size) = some 1 := by kernel_rfl
theorem nsz4 : (Tryz.prog.info? 4).map (·.size) = some 1 := by kernel_rfl
theorem nsz25 : (Tryz.prog.info? 35).map (·.size) = some 2 := by kernel_rfl
abbrev stOf (pre : List LR) : DS := dState (pre.map (·.l))
/-- Between two rounds. -/
structure PI (w : World) (g2 g3 g4 gp g5 g6 Bn : Nat) (pre : List LR) (W : World) : Prop where
  ok : (stOf pre).err = 0
  r2 : W.heap[g2]? = some (.cells #[.int .i64 0, .slice none 0 0] 35 (0, 0))
  r3 : W.heap[g3]? = some (.cells #[.int .i64 0] 24 (0, 0))
  r4 : W.heap[g4]? = some (.cells #[.int .i64 0] 3 (0, 0))
  prs : PRS (Bn + 1) w.heap.size gp (stOf pre).p W
  r5 : W.heap[g5]? = some (.cells #[.pointer (some ⟨gp, 0, none⟩)] 81 (0, 0))
  r6 : W.heap[g6]? = some (.cells #[.bool (stOf pre).headed] 4 (0, 0))
  bw : Below w.heap.size w W
/-- Behind the line that is wrong. -/
structure PX (w : World) (g2 g3 g4 : Nat) (pre : List LR) (W : World) : Prop where
  bad : (stOf pre).err ≠ 0
  r2 : W.heap[g2]? = some (.cells #[.int .i64 0, .slice none 0 0] 35 (0, 0))
  r3 : W.heap[g3]? = some (.cells #[.int .i64 (stOf pre).err] 24 (0, 0))
  r4 : W.heap[g4]? = some (.cells #[.int .i64 ((stOf pre).n : Nat)] 3 (0, 0))
  bw : Below w.heap.size w W
theorem PRS.own {Bn base g : Nat} {p : DP} {W W' : World} {B : Nat} {row : Option Nat} (h : PRS (Bn + 1) base g p W) (hg : W.grownBy W' row) (hr : ∀ r, row = some r → r = Bn ∨ (B ≤ r ∧ ∃ o : Obj, W.heap[r]? = some o ∧ o.isCells = false)) (hne : g ≠ Bn) : PRS (Bn + 1) base g p W' := by
  obtain ⟨v1, v3, hc, h1, h3⟩ := h.ex
  have step : ∀ k : Nat, Bn + 1 ≤ k → (∃ cells q, W.heap[k]? = some (.cells cells q (0, 0))) → W'.heap[k]? = W.heap[k]? := by
    rintro k hk ⟨cells, q, hq⟩
    rw [blk_row hg hr hq (by omega), hq]
  refine ⟨⟨v1, v3, blk_row hg hr hc hne, ?_, ?_⟩, h.bs, h.bl, Nat.le_trans h.top hg.size⟩
  · exact Kd.R_mono (Kd.R_step (Kd.R_bound h1) (fun k hk _ => by
      obtain ⟨_, hk1, _, q, _, cells, hq⟩ := hk
      exact step k hk1 ⟨cells, q, hq⟩)) (fun _ hk => hk.1)
  · exact Kd.R_mono (Kd.R_step (Kd.R_bound h3) (fun k hk _ => by
      obtain ⟨_, hk1, _, q, _, cells, hq⟩ := hk
      exact step k hk1 ⟨cells, q, hq⟩)) (fun _ hk => hk.1)
theorem PI.own {w : World} {g2 g3 g4 gp g5 g6 Bn B : Nat} (h2 : g2 < Bn) (h3 : g3 < Bn) (h4 : g4 < Bn) (hp : gp < Bn) (h5 : g5 < Bn) (h6 : g6 < Bn) (hw : w.heap.size ≤ Bn) (hB : w.heap.size ≤ B) : OwnBox B Bn (PI w g2 g3 g4 gp g5 g6 Bn) := by
  intro pre W W' row h hg hr
  refine ⟨h.ok, blk_row hg hr h.r2 (by omega), blk_row hg hr h.r3 (by omega), blk_row hg hr h.r4 (by omega), h.prs.own hg hr (by omega), blk_row hg hr h.r5 (by omega), blk_row hg hr h.r6 (by omega), ?_⟩
  refine h.bw.grown hg h.bw.size (fun k e => ?_)
  rcases hr k e with e2 | ⟨e2, _⟩
  · omega
  · omega
theorem PX.own {w : World} {g2 g3 g4 Bn B : Nat} (h2 : g2 < Bn) (h3 : g3 < Bn) (h4 : g4 < Bn) (hw : w.heap.size ≤ Bn) (hB : w.heap.size ≤ B) : OwnBox B Bn (PX w g2 g3 g4) := by
  intro pre W W' row h hg hr
  refine ⟨h.bad, blk_row hg hr h.r2 (by omega), blk_row hg hr h.r3 (by omega), blk_row hg hr h.r4 (by omega), ?_⟩
  refine h.bw.grown hg h.bw.size (fun k e => ?_)
  rcases hr k e with e2 | ⟨e2, _⟩
  · omega
  · omega
theorem stOf_snoc (pre : List LR) (x : LR) : stOf (pre ++ [x]) = dLine (stOf pre) x.l := by
  unfold stOf
  rw [List.map_append, List.map_singleton, dState_snoc]
section
variable {P : Program} {n l : Nat} {ops ops0 : Array Oper} {rest : List Oper} {o : Oper} {a : Act} {W : World} {Q : Exit → Act → World → Prop} {F : Fence}
theorem store_two {W : World} (t : TypeId) (p : Tmp) (v : Operand) (ho : o.op = .store t (.tmp p) v) (hgd : o.guard = none) (hN : o.dst = none) {g off : Nat} {e : TypeId} {cur : Array Value} (v0 v1 : Value) (cur' : Array Value)
    (haddr : a.eval (.tmp p) = .pointer (some ⟨g, off, none⟩)) (hv : a.eval v = .agg #[v0, v1]) (hh : W.heap[g]? = some (.cells cur e (0, 0))) (ht : (P.info? t).map (·.size) = some 2) (hfit : off + 2 ≤ cur.size)
    (h0 : v0.oneCell' = true) (h1 : v1.oneCell' = true) (hcur : setSeg cur off [v0, v1] = cur')
    (h : ∀ w1, w1.heap[g]? = some (.cells cur' e (0, 0)) → SameBut g W w1 → wpList P ops Q rest a w1) : wpList P ops Q (o :: rest) a W :=
  store_block t p v ho hgd hN _ [v0, v1] cur' haddr hv hh rfl ht hfit (by
    intro q hq
    simp only [List.mem_cons, List.not_mem_nil, or_false] at hq
    rcases hq with rfl | rfl
    · exact h0
    · exact h1) hcur h
theorem store_two_in (hF : WF F) (t : TypeId) (p : Tmp) (v : Operand) (ho : o.op = .store t (.tmp p) v) (hgd : o.guard = none) (hN : o.dst = none) {g off : Nat} {e : TypeId} {cur : Array Value} (v0 v1 : Value) (cur' : Array Value)
    (haddr : a.eval (.tmp p) = .pointer (some ⟨g, off, none⟩)) (hv : a.eval v = .agg #[v0, v1]) (hh : W.heap[g]? = some (.cells cur e (0, 0))) (ht : (P.info? t).map (·.size) = some 2) (hfit : off + 2 ≤ cur.size)
    (h0 : v0.oneCell' = true) (h1 : v1.oneCell' = true) (hcur : setSeg cur off [v0, v1] = cur')
    (h : ∀ w1, w1.heap[g]? = some (.cells cur' e (0, 0)) → SameBut g W w1 → wpListIn F n P ops Q rest a w1) : wpListIn F n P ops Q (o :: rest) a W :=
  list_in hF (ops0 := #[]) hgd (by intro c hc; rw [ho] at hc; cases hc) (φ := fun a' w' => a' = a ∧ w'.heap[g]? = some (.cells cur' e (0, 0)) ∧ SameBut g W w') (store_two t p v ho hgd hN v0 v1 cur' haddr hv hh ht hfit h0 h1 hcur (fun w1 e1 e2 => ⟨rfl, rfl, e1, e2⟩)) (by rintro a' w' ⟨rfl, e1, e2⟩; exact h w' e1 e2)
end
theorem keeps_ko {B : Nat} {T : List Nat} {A C : World} (h : KO T A C) : KeepsFrom B A C := ⟨h.size, fun k o _ hk ho => h.blk k o hk (fun cs t fr e => by subst e; cases ho)⟩
theorem ko_R {w w' : World} {base : Nat} {v : Value} {xs : List ByteArray} (h : Kd.string.R 9 w base (fun _ => True) v xs) (hk : KO TP w w') : Kd.string.R 9 w' base (fun _ => True) v xs :=
  Kd.R_mono (Kd.R_step (Kd.R_bound h) (fun k hk2 _ => by
    obtain ⟨_, _, _, q, hq, cells, hc⟩ := hk2
    simp only [Kd.string, Kd.scalar, List.mem_cons, List.not_mem_nil, or_false] at hq
    subst hq
    rw [hk.cells hc (by decide), hc])) (fun _ _ => trivial)
theorem dLine_head (n : Nat) (p : DP) (l : List UInt8) (h : dWords l ≠ []) : dLine ⟨0, n, false, p⟩ l = ⟨(dHead p (dWords l)).1, n + 1, true, (dHead p (dWords l)).2⟩ := by
  unfold dLine
  rw [if_neg (fun h => h rfl), if_pos rfl, if_neg h]
theorem dLine_words (n : Nat) (hd : Bool) (p : DP) (l : List UInt8) (h : hd = true ∨ dWords l = []) : dLine ⟨0, n, hd, p⟩ l = ⟨(dWordsL p (dWords l)).1, n + 1, hd, (dWordsL p (dWords l)).2⟩ := by
  unfold dLine
  rw [if_neg (fun h => h rfl)]
  cases hd with
  | true => rfl
  | false =>
    rcases h with h | h
    · cases h
    · rw [if_pos rfl, if_pos h, h]
      rfl
theorem dWordsL_cons (p : DP) (x : List UInt8) (r : List (List UInt8)) (e : Int) (p' : DP) (h : dWord p x = (e, p')) : dWordsL p (x :: r) = if e ≠ 0 then (e, p') else dWordsL p' r := by
  rw [dWordsL, h]
set_option maxRecDepth 100000 in
set_option maxHeartbeats 2000000 in
theorem parse_calls (ad : Addr) (c : Nat) (b : List UInt8) (w : World) (hC : (Kd.int .u8).C w (some ad) b.length (bI b)) (hc : b.length ≤ c) (hs : b.length ≤ 100000) (hlt : LT w.heap.size w) :
    Calls Tryz.prog 20 #[.slice (some ad) b.length c] w fun e w' => ∃ v, e = .returned (.tuple #[.agg #[.int .i64 (dParse b).1.1, v], .int .i64 (dParse b).2.1, .int .i64 (dParse b).2.2]) ∧ kcs.R 42 w' w.heap.size (fun _ => True) v (dParse b).1.2 ∧ Below w.heap.size w w' := by
  have HLT := Aside0.mk hlt
  have HS := Aside0.mk hs
  have HC := Aside0.mk hC
  clear hlt hs hC
  refine (callsIn_wide (n := 5)).1 ?_
  refine callsIn_of_wp_marks Tryz.func20 rfl trivial ?_ rfl
  simp only [Tryz.ntmps20, List.size_toArray, List.length_cons, List.length_nil, Nat.reduceAdd, Nat.reduceSub, Array.replicate_succ, Array.replicate_zero, List.push_toArray, List.append_toArray, List.nil_append, List.cons_append]
  gi_wp2_with (first | ((with_reducible refine gin_dst (N := 2) rfl ?_); refine box_in (.inl rfl) ?hg (by intro c hc; cases hc) (N := 2) ?hd (cs := #[.int .i64 0, .slice none 0 0]) (t := 35) ?hr ?_; (case hd => rfl); (case hg => rfl); (case hr => first | (go_simp; done) | (go_simp; rfl)); intro g2 hgb Wg2 hbox hb; have Hg2 := Aside0.mk hbox; have HB := Aside0.mk hb; have HLg2 := Aside0.mk (show w.heap.size ≤ g2 by rw [hgb]; exact Nat.le_refl _); clear hbox hb hgb) | ((with_reducible refine gin_dst (N := 3) rfl ?_); refine box_in (.inl rfl) ?hg (by intro c hc; cases hc) (N := 3) ?hd (cs := #[.int .i64 0]) (t := 24) ?hr ?_; (case hd => rfl); (case hg => rfl); (case hr => first | (go_simp; done) | (go_simp; rfl)); intro g3 hgb Wg3 hbox hb; have Hg3 := Aside0.mk hbox; have HLg3 := Aside0.mk (show w.heap.size ≤ g3 by rw [hgb]; exact HB.out.size); have HB' := Aside0.mk (below_step HB.out hb); clear HB; have HB := HB'; clear HB'; have Hg2' := Aside0.mk (blk_below Hg2.out hb); clear Hg2; have Hg2 := Hg2'; clear Hg2'; clear hbox hb hgb) | ((with_reducible refine gin_dst (N := 4) rfl ?_); refine box_in (.inl rfl) ?hg (by intro c hc; cases hc) (N := 4) ?hd (cs := #[.int .i64 0]) (t := 3) ?hr ?_; (case hd => rfl); (case hg => rfl); (case hr => first | (go_simp; done) | (go_simp; rfl)); intro g4 hgb Wg4 hbox hb; have Hg4 := Aside0.mk hbox; have HLg4 := Aside0.mk (show w.heap.size ≤ g4 by rw [hgb]; exact HB.out.size); have HB' := Aside0.mk (below_step HB.out hb); clear HB; have HB := HB'; clear HB'; have Hg2' := Aside0.mk (blk_below Hg2.out hb); clear Hg2; have Hg2 := Hg2'; clear Hg2'; have Hg3' := Aside0.mk (blk_below Hg3.out hb); clear Hg3; have Hg3 := Hg3'; clear Hg3'; clear hbox hb hgb) | ((with_reducible refine gin_dst (N := 15) rfl ?_); refine box_in (.inl rfl) ?hg (by intro c hc; cases hc) (N := 15) ?hd (cs := #[.int .i64 0, .slice none 0 0, .int .i64 0, .slice none 0 0, .int .i64 0]) (t := 83) ?hr ?_; (case hd => rfl); (case hg => rfl); (case hr => first | (go_simp; done) | (go_simp; rfl)); intro gp hgb Wgp hbox hb; have Hgp := Aside0.mk hbox; have HLgp := Aside0.mk (show w.heap.size ≤ gp by rw [hgb]; exact HB.out.size); have HB' := Aside0.mk (below_step HB.out hb); clear HB; have HB := HB'; clear HB'; have Hg2' := Aside0.mk (blk_below Hg2.out hb); clear Hg2; have Hg2 := Hg2'; clear Hg2'; have Hg3' := Aside0.mk (blk_below Hg3.out hb); clear Hg3; have Hg3 := Hg3'; clear Hg3'; have Hg4' := Aside0.mk (blk_below Hg4.out hb); clear Hg4; have Hg4 := Hg4'; clear Hg4'; clear hbox hb hgb) | ((with_reducible refine gin_dst (N := 5) rfl ?_); refine box_in (.inl rfl) ?hg (by intro c hc; cases hc) (N := 5) ?hd (cs := #[.pointer none]) (t := 81) ?hr ?_; (case hd => rfl); (case hg => rfl); (case hr => first | (go_simp; done) | (go_simp; rfl)); intro g5 hgb Wg5 hbox hb; have Hg5 := Aside0.mk hbox; have HLg5 := Aside0.mk (show w.heap.size ≤ g5 by rw [hgb]; exact HB.out.size); have HB' := Aside0.mk (below_step HB.out hb); clear HB; have HB := HB'; clear HB'; have Hg2' := Aside0.mk (blk_below Hg2.out hb); clear Hg2; have Hg2 := Hg2'; clear Hg2'; have Hg3' := Aside0.mk (blk_below Hg3.out hb); clear Hg3; have Hg3 := Hg3'; clear Hg3'; have Hg4' := Aside0.mk (blk_below Hg4.out hb); clear Hg4; have Hg4 := Hg4'; clear Hg4'; have Hgp' := Aside0.mk (blk_below Hgp.out hb); clear Hgp; have Hgp := Hgp'; clear Hgp'; clear hbox hb hgb) | ((with_reducible refine gin_store (t := 81) (p := 5) rfl ?_); refine store_one_in (.inl rfl) 81 5 (.tmp 15) rfl rfl rfl (.pointer (some ⟨gp, 0, none⟩)) #[.pointer (some ⟨gp, 0, none⟩)] rfl rfl Hg5.out rfl nsz48 (show 0 + 1 ≤ 1 by omega) rfl rfl ?_; intro WSg5 hw hsb; have Hg2' := Aside0.mk (hsb.other Hg2.out (blk_ne Hg2.out Hg5.out (by decide))); clear Hg2; have Hg2 := Hg2'; clear Hg2'; have Hg3' := Aside0.mk (hsb.other Hg3.out (blk_ne Hg3.out Hg5.out (by decide))); clear Hg3; have Hg3 := Hg3'; clear Hg3'; have Hg4' := Aside0.mk (hsb.other Hg4.out (blk_ne Hg4.out Hg5.out (by decide))); clear Hg4; have Hg4 := Hg4'; clear Hg4'; have Hgp' := Aside0.mk (hsb.other Hgp.out (blk_ne Hgp.out Hg5.out (by decide))); clear Hgp; have Hgp := Hgp'; clear Hgp'; have HB' := Aside0.mk (hsb.below HB.out HLg5.out); clear HB; have HB := HB'; clear HB'; clear Hg5; have Hg5 := Aside0.mk hw; clear hw hsb) | ((with_reducible refine gin_dst (N := 6) rfl ?_); refine box_in (.inl rfl) ?hg (by intro c hc; cases hc) (N := 6) ?hd (cs := #[.bool false]) (t := 4) ?hr ?_; (case hd => rfl); (case hg => rfl); (case hr => first | (go_simp; done) | (go_simp; rfl)); intro g6 hgb Wg6 hbox hb; have Hg6 := Aside0.mk hbox; have HLg6 := Aside0.mk (show w.heap.size ≤ g6 by rw [hgb]; exact HB.out.size); have HB' := Aside0.mk (below_step HB.out hb); clear HB; have HB := HB'; clear HB'; have Hg2' := Aside0.mk (blk_below Hg2.out hb); clear Hg2; have Hg2 := Hg2'; clear Hg2'; have Hg3' := Aside0.mk (blk_below Hg3.out hb); clear Hg3; have Hg3 := Hg3'; clear Hg3'; have Hg4' := Aside0.mk (blk_below Hg4.out hb); clear Hg4; have Hg4 := Hg4'; clear Hg4'; have Hgp' := Aside0.mk (blk_below Hgp.out hb); clear Hgp; have Hgp := Hgp'; clear Hgp'; have Hg5' := Aside0.mk (blk_below Hg5.out hb); clear Hg5; have Hg5 := Hg5'; clear Hg5'; clear hbox hb hgb) | ((with_reducible refine gin_store (t := 4) (p := 6) rfl ?_); refine store_one_in (.inl rfl) 4 6 (.const (.bool false)) rfl rfl rfl (.bool false) #[.bool false] rfl rfl Hg6.out rfl nsz4 (show 0 + 1 ≤ 1 by omega) rfl rfl ?_; intro WSg6 hw hsb; have Hg2' := Aside0.mk (hsb.other Hg2.out (blk_ne Hg2.out Hg6.out (by decide))); clear Hg2; have Hg2 := Hg2'; clear Hg2'; have Hg3' := Aside0.mk (hsb.other Hg3.out (blk_ne Hg3.out Hg6.out (by decide))); clear Hg3; have Hg3 := Hg3'; clear Hg3'; have Hg4' := Aside0.mk (hsb.other Hg4.out (blk_ne Hg4.out Hg6.out (by decide))); clear Hg4; have Hg4 := Hg4'; clear Hg4'; have Hgp' := Aside0.mk (hsb.other Hgp.out (blk_ne Hgp.out Hg6.out (by decide))); clear Hgp; have Hgp := Hgp'; clear Hgp'; have Hg5' := Aside0.mk (hsb.other Hg5.out (blk_ne Hg5.out Hg6.out (by decide))); clear Hg5; have Hg5 := Hg5'; clear Hg5'; have HB' := Aside0.mk (hsb.below HB.out HLg6.out); clear HB; have HB := HB'; clear HB'; clear Hg6; have Hg6 := Aside0.mk hw; clear hw hsb) | (refine ⟨trivial, ?_⟩; gi_at_call 14; refine (callsIn_wide.2 (lines_calls (some ad) b.length c _)).mono ?_; rintro e W0 ⟨Bn, hBn, rfl, hbox, hb⟩; have HBN := Aside0.mk hbox; have HBNL := Aside0.mk (show w.heap.size ≤ Bn by rw [hBn]; exact HB.out.size); have HXg2 := Aside0.mk (show g2 < Bn by rw [hBn]; exact blk_lt Hg2.out); have Hg2' := Aside0.mk (blk_below Hg2.out hb); clear Hg2; have Hg2 := Hg2'; clear Hg2'; have HXg3 := Aside0.mk (show g3 < Bn by rw [hBn]; exact blk_lt Hg3.out); have Hg3' := Aside0.mk (blk_below Hg3.out hb); clear Hg3; have Hg3 := Hg3'; clear Hg3'; have HXg4 := Aside0.mk (show g4 < Bn by rw [hBn]; exact blk_lt Hg4.out); have Hg4' := Aside0.mk (blk_below Hg4.out hb); clear Hg4; have Hg4 := Hg4'; clear Hg4'; have HXgp := Aside0.mk (show gp < Bn by rw [hBn]; exact blk_lt Hgp.out); have Hgp' := Aside0.mk (blk_below Hgp.out hb); clear Hgp; have Hgp := Hgp'; clear Hgp'; have HXg5 := Aside0.mk (show g5 < Bn by rw [hBn]; exact blk_lt Hg5.out); have Hg5' := Aside0.mk (blk_below Hg5.out hb); clear Hg5; have Hg5 := Hg5'; clear Hg5'; have HXg6 := Aside0.mk (show g6 < Bn by rw [hBn]; exact blk_lt Hg6.out); have Hg6' := Aside0.mk (blk_below Hg6.out hb); clear Hg6; have Hg6 := Hg6'; clear Hg6'; have HB' := Aside0.mk (below_step HB.out hb); clear HB; have HB := HB'; clear HB'; clear hbox hb hBn))
  have HPI := Aside0.mk (show PI w g2 g3 g4 gp g5 g6 Bn [] W0 from ⟨rfl, Hg2.out, Hg3.out, Hg4.out, ⟨⟨_, _, Hgp.out, Kd.R_nil _ _ _ _ _, Kd.R_nil _ _ _ _ _⟩, HLgp.out, Nat.le_succ_of_le HBNL.out, blk_lt HBN.out⟩, Hg5.out, Hg6.out, HB.out⟩)
  clear Hg2 Hg3 Hg4 Hgp Hg5 Hg6
  refine wpIn_range_box rfl (by omega) (gf := 31) (lb := #[.pointer (some ⟨Bn, 0, none⟩)]) rfl trivial (enters_of Tryz.func31 (by kernel_rfl) rfl)
    (encs := LR.enc) (Kp := KpBox w.heap.size Bn) (S := fun ys => ys.map (·.l) = dLines b ∧ LOK w b ys) (Sp := fun pre => LOK w b pre) (Bn := Bn) (blk_lt HBN.out) ?seq (fun h k => ⟨h.1.trans k.1, k.2.trans h.2⟩) ?kb (fun _ => rfl)
    (PI w g2 g3 g4 gp g5 g6 Bn) (fun c pre W => c = .ret ∧ PX w g2 g3 g4 pre W) (PI.own HXg2.out HXg3.out HXg4.out HXgp.out HXg5.out HXg6.out HBNL.out HB.out.size) (fun c s A B row h hg hr => ⟨h.1, PX.own HXg2.out HXg3.out HXg4.out HBNL.out HB.out.size s A B row h.2 hg hr⟩) HPI.out
    (fun x => { tmps := #[.slice (some ad) b.length c, undef, .pointer (some ⟨g2, 0, none⟩), .pointer (some ⟨g3, 0, none⟩), .pointer (some ⟨g4, 0, none⟩), .pointer (some ⟨g5, 0, none⟩), .pointer (some ⟨g6, 0, none⟩), .int .i64 (x.n : Int), .slice x.A x.l.length x.c, undef, undef, undef, undef, undef, .agg #[.int .i64 0, .slice none 0 0, .int .i64 0, .slice none 0 0, .int .i64 0], .pointer (some ⟨gp, 0, none⟩), .slice (some ad) b.length c, .func (.func 31) #[] #[.pointer (some ⟨Bn, 0, none⟩)], .int .i64 (x.n : Int), .slice x.A x.l.length x.c, undef, undef, undef, undef, undef, undef, undef, undef, undef, undef, undef, undef, undef, undef, undef, undef, undef, undef, undef, undef, undef, undef, undef, undef, undef, undef, undef, undef, undef, undef, undef, undef, undef, undef, undef, undef, undef, undef, undef, undef, undef, undef, undef, undef, undef, undef, undef, undef, undef, undef, undef, undef, undef, undef, undef, undef, undef, undef, undef, undef, undef, undef, undef, undef, undef], defers := [] }) ?assign ?body ?done ?stop
  case seq =>
    intro l J Jx W hb hJ hJx hY h0
    exact lines_in 4 (by omega) l Bn w (some ad) c b HS.out HC.out hc J Jx hJ hY W HBNL.out ((hb.block Bn (blk_lt HBN.out)).trans HBN.out) (HB.out.trans (hb.mono HB.out.size)) HLT.out h0
  case kb =>
    intro W l o o' hl hW _ _
    have hlt := (Array.getElem?_eq_some_iff.1 hW).1
    refine ⟨(Below.refl _ W).grown (grownBy_putObj' W l o') (by have := HB.out.size; omega) (fun k e => by cases e; have := HB.out.size; omega), World.putObj_heap_other ?_⟩
    have := blk_lt HBN.out
    omega
  case assign =>
    rintro l ⟨xn, xA, xc, xl⟩ W K hK
    simp only [LR.enc]
    gi_wp2
    exact hK
  case body =>
    rintro l pre ⟨xn, xA, xc, xl⟩ W hI hok
    have HI := Aside0.mk hI
    have hxn : xn = pre.length + 1 := hok.last
    subst hxn
    have hxl : xl ∈ dLines b := hok.px.subset (List.mem_map.2 ⟨⟨pre.length + 1, xA, xc, xl⟩, List.mem_append_right _ (List.mem_singleton.2 rfl), rfl⟩)
    have hxs : xl.length ≤ 100000 := Nat.le_trans (dLines_mem b xl hxl) HS.out
    have hat := hok.at_ ⟨pre.length + 1, xA, xc, xl⟩ (List.mem_append_right _ (List.mem_singleton.2 rfl))
    have HCX := Aside0.mk (show (Kd.int .u8).C W xA xl.length (bI xl) from Kd.C_below hat.1 hI.bw)
    have hxc : xl.length ≤ xc := hat.2
    have hnle : pre.length ≤ 100000 := by
      have h1 := hok.px.length_le
      have h2 := (dLines_sum b).2
      have h3 := HS.out
      rw [List.length_map, List.length_append, List.length_singleton] at h1
      omega
    obtain ⟨hd, p, hst⟩ : ∃ hd p, stOf pre = ⟨0, pre.length, hd, p⟩ := by
      have h1 := dState_n _ (pre.map (·.l)) rfl hI.ok
      have h2 := hI.ok
      have h3 : stOf pre = dState (pre.map (·.l)) := rfl
      rw [← h3] at h1
      revert h1 h2
      cases stOf pre with
      | mk e n hd p =>
        intro h1 h2
        simp only at h1 h2
        rw [List.length_map] at h1
        exact ⟨hd, p, by rw [h1, h2]⟩
    have hsn := stOf_snoc pre ⟨pre.length + 1, xA, xc, xl⟩
    rw [hst] at hsn
    have HP0 := Aside0.mk (show PRS (Bn + 1) w.heap.size gp p W by have := hI.prs; rw [hst] at this; exact this)
    have HR6 := Aside0.mk (show W.heap[g6]? = some (.cells #[.bool hd] 4 (0, 0)) by have := hI.r6; rw [hst] at this; exact this)
    have hinv := dState_inv (pre.map (·.l))
    rw [show dState (pre.map (·.l)) = stOf pre from rfl, hst] at hinv
    have HINV := Aside0.mk (show DInv p from hinv.p)
    obtain ⟨ws, hws⟩ : ∃ ws, ws = dWords xl := ⟨_, rfl⟩
    have HWS := Aside0.mk hws
    have hwl : ws.length ≤ 100000 := by rw [hws]; exact Nat.le_trans (dWords_len xl) hxs
    have HWM := Aside0.mk (show ∀ x ∈ ws, x.length ≤ 100000 by rw [hws]; exact fun x hx => Nat.le_trans (dWords_mem xl x hx).2 hxs)
    have HNE := Aside0.mk (show g6 ≠ gp ∧ g5 ≠ gp ∧ g2 ≠ gp ∧ g3 ≠ gp ∧ g4 ≠ gp from by
      obtain ⟨_, _, hgp, _⟩ := HP0.out.ex
      exact ⟨blk_ne HR6.out hgp (by decide), blk_ne hI.r5 hgp (by decide), blk_ne hI.r2 hgp (by decide), blk_ne hI.r3 hgp (by decide), blk_ne hI.r4 hgp (by decide)⟩)
    have HTOP := Aside0.mk (show Bn + 1 ≤ W.heap.size from HP0.out.top)
    by_cases hpath : hd = false ∧ ws ≠ []
    · obtain ⟨rfl, hwne⟩ := hpath
      rw [dLine_head _ _ _ (by rw [← hws]; exact hwne), ← hws] at hsn
      have hwp : 0 < ws.length := List.length_pos_iff.2 hwne
      have t1 : decide (0 < (ws.length : Int)) = true := decide_eq_true (by omega)
      have t2 : decide (0 < ws.length) = true := decide_eq_true hwp
      obtain ⟨ec, p', hh⟩ : ∃ ec p', dHead p ws = (ec, p') := ⟨_, _, rfl⟩
      rw [hh] at hsn
      have HHD := Aside0.mk hh
      have HSN := Aside0.mk hsn
      by_cases he : ec = 0
      · subst he
        clear hI hok hxl hat hst hsn hinv hws hwne hh
        gi_wp2_with (first | (refine ⟨trivial, ?_⟩; gi_at_call 15; refine (CallsIn.inRound l (callsIn_wide.2 (words_calls xA xc xl W HCX.out hxc hxs))).mono ?_; rw [← HWS.out]; rintro e W1 ⟨v, rfl, hR, hb⟩; obtain ⟨Aw, cw, ev⟩ := Kd.R_slice hR; rw [List.length_map] at ev; subst ev; have HR := Aside0.mk hR; have HB1 := Aside0.mk hb; have HBW1 := Aside0.mk (HI.out.bw.trans (hb.mono HI.out.bw.size)); have HP1 := Aside0.mk (HP0.out.below hb); have hc6 := (blk_cell (blk_below HR6.out hb) 0).trans (show _ = some (Value.bool false) from rfl); have hc5 := (blk_cell (blk_below HI.out.r5 hb) 0).trans (show _ = some (Value.pointer (some ⟨gp, 0, none⟩)) from rfl); clear hR hb) | (refine ⟨trivial, ?_⟩; gi_at_call 40; refine (CallsIn.inRound l (callsIn_wide.2 (head_calls (Bn + 1) w.heap.size gp p Aw cw ws W1 HP1.out (by have := (Kd.R_reads' HR.out).2.2; rw [List.length_map] at this; exact this) (Kd.R_reads' HR.out).2.1 HWM.out (HLT.out.on HBW1.out)))).mono ?_; rw [HHD.out]; rintro e2 W2 ⟨rfl, hprs, hbw, hko, hbut⟩; have HPR := Aside0.mk hprs; have HBW2 := Aside0.mk (HBW1.out.trans hbw); have HKO := Aside0.mk (((KO.refl TP W).below HB1.out).trans hko); have HBUT := Aside0.mk (((But.refl (Bn + 1) gp W).below HB1.out HTOP.out).trans hbut); have H62 := Aside0.mk (show W2.heap[g6]? = some (.cells #[.bool false] 4 (0, 0)) from (HBUT.out.blk g6 (by have := HXg6.out; omega) HNE.out.1).trans HR6.out); clear hprs hbw hko hbut hc6 hc5) | ((with_reducible refine gin_store (t := 4) (p := 6) rfl ?_); refine store_one_in (.inr ⟨l, rfl⟩) 4 6 (.const (.bool true)) rfl rfl rfl (.bool true) #[.bool true] rfl rfl H62.out rfl nsz4 (show 0 + 1 ≤ 1 by omega) rfl rfl ?_; intro V2 hw hsb; have HV2 := Aside0.mk hw; have HSV2 := Aside0.mk hsb; clear hw hsb))
        have h2 := HXg2.out
        have h3 := HXg3.out
        have h4 := HXg4.out
        have h5 := HXg5.out
        have h6 := HXg6.out
        refine ⟨(keeps_ko HKO.out).trans (keeps_same HSV2.out H62.out), ⟨HSV2.out.below ((Below.refl _ _).trans (show Below w.heap.size W W2 from ⟨HBW2.out.os.trans HI.out.bw.os.symm, HBW2.out.tape.trans HI.out.bw.tape.symm, HBW2.out.output.trans HI.out.bw.output.symm, HKO.out.size, fun k hk => (HBW2.out.block k hk).trans (HI.out.bw.block k hk).symm⟩)) HLg6.out, (HSV2.out.blk Bn (by omega)).trans (HBUT.out.blk Bn (by omega) (by have := HXgp.out; omega))⟩, ?_⟩
        refine ⟨by rw [HSN.out], (HSV2.out.blk g2 (blk_ne HI.out.r2 HR6.out (by decide))).trans ((HBUT.out.blk g2 (by omega) HNE.out.2.2.1).trans HI.out.r2), (HSV2.out.blk g3 (blk_ne HI.out.r3 HR6.out (by decide))).trans ((HBUT.out.blk g3 (by omega) HNE.out.2.2.2.1).trans HI.out.r3), (HSV2.out.blk g4 (blk_ne HI.out.r4 HR6.out (by decide))).trans ((HBUT.out.blk g4 (by omega) HNE.out.2.2.2.2).trans HI.out.r4), by rw [HSN.out]; exact HPR.out.other HSV2.out H62.out (by decide), (HSV2.out.blk g5 (blk_ne HI.out.r5 HR6.out (by decide))).trans ((HBUT.out.blk g5 (by omega) HNE.out.2.1).trans HI.out.r5), by rw [HSN.out]; exact HV2.out, HSV2.out.below HBW2.out HLg6.out⟩
      · have t3 : (ec == 0) = false := beq_eq_false_iff_ne.2 he
        have t3n : (ec != 0) = true := by rw [bne, t3]; rfl
        have HE0 := Aside0.mk he
        clear hI hok hxl hat hst hsn hinv hws hwne hh he
        gi_wp2_with (first | (refine ⟨trivial, ?_⟩; gi_at_call 15; refine (CallsIn.inRound l (callsIn_wide.2 (words_calls xA xc xl W HCX.out hxc hxs))).mono ?_; rw [← HWS.out]; rintro e W1 ⟨v, rfl, hR, hb⟩; obtain ⟨Aw, cw, ev⟩ := Kd.R_slice hR; rw [List.length_map] at ev; subst ev; have HR := Aside0.mk hR; have HB1 := Aside0.mk hb; have HBW1 := Aside0.mk (HI.out.bw.trans (hb.mono HI.out.bw.size)); have HP1 := Aside0.mk (HP0.out.below hb); have hc6 := (blk_cell (blk_below HR6.out hb) 0).trans (show _ = some (Value.bool false) from rfl); have hc5 := (blk_cell (blk_below HI.out.r5 hb) 0).trans (show _ = some (Value.pointer (some ⟨gp, 0, none⟩)) from rfl); clear hR hb) | (refine ⟨trivial, ?_⟩; gi_at_call 40; refine (CallsIn.inRound l (callsIn_wide.2 (head_calls (Bn + 1) w.heap.size gp p Aw cw ws W1 HP1.out (by have := (Kd.R_reads' HR.out).2.2; rw [List.length_map] at this; exact this) (Kd.R_reads' HR.out).2.1 HWM.out (HLT.out.on HBW1.out)))).mono ?_; rw [HHD.out]; rintro e2 W2 ⟨rfl, hprs, hbw, hko, hbut⟩; have HBW := Aside0.mk (HBW1.out.trans hbw); have HKO := Aside0.mk (((KO.refl TP W).below HB1.out).trans hko); have HBUT := Aside0.mk (((But.refl (Bn + 1) gp W).below HB1.out HTOP.out).trans hbut); have Hr2 := Aside0.mk ((HBUT.out.blk g2 (by have := HXg2.out; omega) HNE.out.2.2.1).trans HI.out.r2); have Hr3 := Aside0.mk ((HBUT.out.blk g3 (by have := HXg3.out; omega) HNE.out.2.2.2.1).trans HI.out.r3); have Hr4 := Aside0.mk ((HBUT.out.blk g4 (by have := HXg4.out; omega) HNE.out.2.2.2.2).trans HI.out.r4); clear hprs hbw hko hbut hc6 hc5) | ((with_reducible refine gin_store (t := 35) (p := 2) rfl ?_); refine store_two_in (.inr ⟨l, rfl⟩) 35 2 (.tmp 34) rfl rfl rfl (.int .i64 0) (.slice none 0 0) #[.int .i64 0, .slice none 0 0] rfl rfl Hr2.out nsz25 (Nat.le_refl 2) rfl rfl rfl ?_; intro V2 hw hsb; have HV2 := Aside0.mk hw; have HSV2 := Aside0.mk hsb; have Hr3' := Aside0.mk (hsb.other Hr3.out (blk_ne Hr3.out Hr2.out (by decide))); have Hr4' := Aside0.mk (hsb.other Hr4.out (blk_ne Hr4.out Hr2.out (by decide))); clear hw hsb) | ((with_reducible refine gin_store (t := 24) (p := 3) rfl ?_); refine store_one_in (.inr ⟨l, rfl⟩) 24 3 (.tmp 35) rfl rfl rfl (.int .i64 ec) #[.int .i64 ec] rfl rfl Hr3'.out rfl nsz26 (show 0 + 1 ≤ 1 by omega) rfl rfl ?_; intro V3 hw hsb; have HV3 := Aside0.mk hw; have HSV3 := Aside0.mk hsb; have HV23 := Aside0.mk (hsb.other HV2.out (blk_ne HV2.out Hr3'.out (by decide))); have Hr4q := Aside0.mk (hsb.other Hr4'.out (blk_ne Hr4'.out Hr3'.out (by decide))); clear hw hsb) | ((with_reducible refine gin_store (t := 3) (p := 4) rfl ?_); refine store_one_in (.inr ⟨l, rfl⟩) 3 4 (.tmp 36) rfl rfl rfl (.int .i64 ((pre.length : Int) + 1)) #[.int .i64 ((pre.length : Int) + 1)] rfl (by first | rfl | (simp; done)) Hr4q.out rfl nsz3 (show 0 + 1 ≤ 1 by omega) rfl rfl ?_; intro V4 hw hsb; have HV4 := Aside0.mk hw; have HSV4 := Aside0.mk hsb; have HV24 := Aside0.mk (hsb.other HV23.out (blk_ne HV23.out Hr4q.out (by decide))); have HV34 := Aside0.mk (hsb.other HV3.out (blk_ne HV3.out Hr4q.out (by decide))); clear hw hsb))
        exact ⟨((keeps_ko HKO.out).trans (keeps_same HSV2.out Hr2.out)).trans ((keeps_same HSV3.out Hr3'.out).trans (keeps_same HSV4.out Hr4q.out)), rfl, ⟨(by rw [HSN.out]; exact HE0.out), HV24.out, (by rw [HSN.out]; exact HV34.out), (by rw [HSN.out]; exact HV4.out), HSV4.out.below (HSV3.out.below (HSV2.out.below HBW.out HLg2.out) HLg3.out) HLg4.out⟩⟩
    · have hcase : hd = true ∨ dWords xl = [] := by
        rw [← hws]
        cases hd with
        | true => exact .inl rfl
        | false => exact .inr (Classical.byContradiction fun h => hpath ⟨rfl, h⟩)
      rw [dLine_words _ _ _ _ hcase, ← hws] at hsn
      rw [← hws] at hcase
      have HSN := Aside0.mk hsn
      clear hpath hok hxl hat hst hsn hinv hws hI
      have hkeys : (hd = true) ∨ (hd = false ∧ decide (0 < (ws.length : Int)) = false ∧ decide (0 < ws.length) = false) := by
        cases hd with
        | true => exact .inl rfl
        | false =>
          rcases hcase with h | h
          · cases h
          · exact .inr ⟨rfl, by rw [h]; rfl, by rw [h]; rfl⟩
      clear hcase
      rcases hkeys with rfl | ⟨rfl, t1, t2⟩
      · gi_wp2_with ((refine ⟨trivial, ?_⟩; gi_at_call 15; refine (CallsIn.inRound l (callsIn_wide.2 (words_calls xA xc xl W HCX.out hxc hxs))).mono ?_; rw [← HWS.out]; rintro e W1 ⟨v, rfl, hR, hb⟩; obtain ⟨Aw, cw, ev⟩ := Kd.R_slice hR; rw [List.length_map] at ev; subst ev; have HR := Aside0.mk hR; have HB1 := Aside0.mk hb; have HBW1 := Aside0.mk (HI.out.bw.trans (hb.mono HI.out.bw.size)); have HP1 := Aside0.mk (HP0.out.below hb); have hc6 := (blk_cell (blk_below HR6.out hb) 0).trans (show _ = some (Value.bool true) from rfl); have hc5 := (blk_cell (blk_below HI.out.r5 hb) 0).trans (show _ = some (Value.pointer (some ⟨gp, 0, none⟩)) from rfl); clear hR hb))
        clear hc5 hc6
        have HR6 := Aside0.mk (show W1.heap[g6]? = some (.cells #[.bool true] 4 (0, 0)) from blk_below HR6.out HB1.out)
        gi_loopw [39] (fun v39 wr => ∃ (j : Nat) (pj : DP), v39 = .int .i64 (j : Int) ∧ j ≤ ws.length ∧ Aside0 (dWordsL p ws = dWordsL pj (ws.drop j)) ∧ Aside0 (DInv pj) ∧ Aside0 (PRS (Bn + 1) w.heap.size gp pj wr) ∧ Aside0 (KO TP W1 wr) ∧ Aside0 (But (Bn + 1) gp W1 wr) ∧ Aside0 (Below w.heap.size w wr)) (fun v _ => ws.length - (intOf v).toNat)
        case atStart => exact ⟨0, p, rfl, Nat.zero_le _, ⟨rfl⟩, HINV, HP1, ⟨KO.refl _ _⟩, ⟨But.refl _ _ _⟩, HBW1⟩
        case round =>
          clear HP1 HINV HP0
          obtain ⟨j, pj, rfl, hj, HQ, HINV, HPJ, HKJ, HBJ, HBWJ⟩ := hrel
          have HKO0 := Aside0.mk (((KO.refl TP W).below HB1.out).trans HKJ.out)
          have HBUT0 := Aside0.mk (((But.refl (Bn + 1) gp W).below HB1.out HTOP.out).trans HBJ.out)
          by_cases hlt : j < ws.length
          · have t5 : decide ((j : Int) < (ws.length : Int)) = true := decide_eq_true (by omega)
            have t6 : decide (j < ws.length) = true := decide_eq_true hlt
            obtain ⟨x, hx⟩ : ∃ x, x = ws[j] := ⟨_, rfl⟩
            have hdr : ws.drop j = x :: ws.drop (j + 1) := by rw [hx]; exact List.drop_eq_getElem_cons hlt
            have hxz : x.length ≤ 100000 := HWM.out x (by rw [hx]; exact List.getElem_mem hlt)
            obtain ⟨ec, p', hh⟩ : ∃ ec p', dWord pj x = (ec, p') := ⟨_, _, rfl⟩
            have hq := HQ.out
            rw [hdr, dWordsL_cons pj x _ ec p' hh] at hq
            have HHD := Aside0.mk hh
            have HRJ := Aside0.mk (ko_R HR.out HKJ.out)
            obtain ⟨aw, e1, hxw⟩ := Kd.at_string (Kd.R_reads' HRJ.out).2.2 (j : Int) (by omega) (by rw [List.length_map]; omega)
            cases e1
            rw [Int.toNat_natCast, show rdOf ByteArray.empty (ws.map baOf) (j : Int) = baOf x by
              unfold rdOf
              rw [Int.toNat_natCast, List.getD_eq_getElem?_getD, List.getElem?_map, List.getElem?_eq_getElem hlt, hx]
              rfl] at hxw
            have hc5 := (blk_cell ((HBUT0.out.blk g5 (by have := HXg5.out; omega) HNE.out.2.1).trans HI.out.r5) 0).trans (show _ = some (Value.pointer (some ⟨gp, 0, none⟩)) from rfl)
            have hji : (0 : Int) ≤ (j : Int) := Int.natCast_nonneg _
            have hjl : (j : Int) < (ws.length : Int) := by omega
            have hj1 : (j : Int) + 1 ≤ 100000 := by omega
            have HINV' := Aside0.mk (show DInv p' by have := dWord_inv pj x HINV.out; rw [hh] at this; exact this)
            by_cases he : ec = 0
            · subst he
              rw [if_neg (fun h => h rfl)] at hq
              have HQ' := Aside0.mk hq
              clear hq hh hx hdr
              gi_wp2_with (refine ⟨trivial, ?_⟩; gi_at_call 41; refine (CallsIn.inRound l (callsIn_wide.2 (word_calls (Bn + 1) w.heap.size gp pj x wr HPJ.out HINV.out hxz (HLT.out.on HBWJ.out)))).mono ?_; rw [HHD.out]; rintro e2 W2 ⟨rfl, hprs, hbw, hko, hbut⟩; have HPR := Aside0.mk hprs; have HBW2 := Aside0.mk (HBWJ.out.trans hbw); have HKO2 := Aside0.mk (HKJ.out.trans hko); have HBUT2 := Aside0.mk (HBJ.out.trans hbut); clear hprs hbw hko hbut hc5 hxw)
              go_roundw
              case rel => exact ⟨j + 1, p', by go_num, by omega, HQ', HINV', HPR, HKO2, HBUT2, HBW2⟩
              case measure => simp [intOf]; omega
            · rw [if_pos he] at hq
              have t3 : (ec == 0) = false := beq_eq_false_iff_ne.2 he
              have t3n : (ec != 0) = true := by rw [bne, t3]; rfl
              have HE0 := Aside0.mk (show (stOf (pre ++ [⟨pre.length + 1, xA, xc, xl⟩])).err ≠ 0 ∧ (stOf (pre ++ [⟨pre.length + 1, xA, xc, xl⟩])).err = ec by rw [HSN.out, hq]; exact ⟨he, rfl⟩)
              clear hq hh hx hdr he
              gi_wp2_with (first | (refine ⟨trivial, ?_⟩; gi_at_call 41; refine (CallsIn.inRound l (callsIn_wide.2 (word_calls (Bn + 1) w.heap.size gp pj x wr HPJ.out HINV.out hxz (HLT.out.on HBWJ.out)))).mono ?_; rw [HHD.out]; rintro e2 W2 ⟨rfl, hprs, hbw, hko, hbut⟩; have HBW := Aside0.mk (HBWJ.out.trans hbw); have HKO := Aside0.mk (HKO0.out.trans hko); have HBUT := Aside0.mk (HBUT0.out.trans hbut); have Hr2 := Aside0.mk ((HBUT.out.blk g2 (by have := HXg2.out; omega) HNE.out.2.2.1).trans HI.out.r2); have Hr3 := Aside0.mk ((HBUT.out.blk g3 (by have := HXg3.out; omega) HNE.out.2.2.2.1).trans HI.out.r3); have Hr4 := Aside0.mk ((HBUT.out.blk g4 (by have := HXg4.out; omega) HNE.out.2.2.2.2).trans HI.out.r4); clear hprs hbw hko hbut hc5 hxw) | ((with_reducible refine gin_store (t := 35) (p := 2) rfl ?_); refine store_two_in (.inr ⟨l, rfl⟩) 35 2 (.tmp 48) rfl rfl rfl (.int .i64 0) (.slice none 0 0) #[.int .i64 0, .slice none 0 0] rfl rfl Hr2.out nsz25 (Nat.le_refl 2) rfl rfl rfl ?_; intro V2 hw hsb; have HV2 := Aside0.mk hw; have HSV2 := Aside0.mk hsb; have Hr3' := Aside0.mk (hsb.other Hr3.out (blk_ne Hr3.out Hr2.out (by decide))); have Hr4' := Aside0.mk (hsb.other Hr4.out (blk_ne Hr4.out Hr2.out (by decide))); clear hw hsb) | ((with_reducible refine gin_store (t := 24) (p := 3) rfl ?_); refine store_one_in (.inr ⟨l, rfl⟩) 24 3 (.tmp 49) rfl rfl rfl (.int .i64 ec) #[.int .i64 ec] rfl rfl Hr3'.out rfl nsz26 (show 0 + 1 ≤ 1 by omega) rfl rfl ?_; intro V3 hw hsb; have HV3 := Aside0.mk hw; have HSV3 := Aside0.mk hsb; have HV23 := Aside0.mk (hsb.other HV2.out (blk_ne HV2.out Hr3'.out (by decide))); have Hr4q := Aside0.mk (hsb.other Hr4'.out (blk_ne Hr4'.out Hr3'.out (by decide))); clear hw hsb) | ((with_reducible refine gin_store (t := 3) (p := 4) rfl ?_); refine store_one_in (.inr ⟨l, rfl⟩) 3 4 (.tmp 50) rfl rfl rfl (.int .i64 ((pre.length : Int) + 1)) #[.int .i64 ((pre.length : Int) + 1)] rfl (by first | rfl | (simp; done)) Hr4q.out rfl nsz3 (show 0 + 1 ≤ 1 by omega) rfl rfl ?_; intro V4 hw hsb; have HV4 := Aside0.mk hw; have HSV4 := Aside0.mk hsb; have HV24 := Aside0.mk (hsb.other HV23.out (blk_ne HV23.out Hr4q.out (by decide))); have HV34 := Aside0.mk (hsb.other HV3.out (blk_ne HV3.out Hr4q.out (by decide))); clear hw hsb))
              exact ⟨((keeps_ko HKO.out).trans (keeps_same HSV2.out Hr2.out)).trans ((keeps_same HSV3.out Hr3'.out).trans (keeps_same HSV4.out Hr4q.out)), rfl, ⟨HE0.out.1, HV24.out, (by rw [HE0.out.2]; exact HV34.out), (by rw [HSN.out]; exact HV4.out), HSV4.out.below (HSV3.out.below (HSV2.out.below HBW.out HLg2.out) HLg3.out) HLg4.out⟩⟩
          · have t5 : decide ((j : Int) < (ws.length : Int)) = false := decide_eq_false (by omega)
            have t6 : decide (j < ws.length) = false := decide_eq_false hlt
            obtain rfl : j = ws.length := by omega
            have HQ' := Aside0.mk (show dWordsL p ws = (0, pj) by rw [HQ.out, List.drop_length]; rfl)
            gi_wp2
            have h2 := HXg2.out
            have h3 := HXg3.out
            have h4 := HXg4.out
            have h5 := HXg5.out
            have h6 := HXg6.out
            refine ⟨keeps_ko HKO0.out, ⟨⟨HBWJ.out.os.trans HI.out.bw.os.symm, HBWJ.out.tape.trans HI.out.bw.tape.symm, HBWJ.out.output.trans HI.out.bw.output.symm, HKO0.out.size, fun k hk => (HBWJ.out.block k hk).trans (HI.out.bw.block k hk).symm⟩, HBUT0.out.blk Bn (by omega) (by have := HXgp.out; omega)⟩, ?_⟩
            exact ⟨by rw [HSN.out, HQ'.out], (HBUT0.out.blk g2 (by omega) HNE.out.2.2.1).trans HI.out.r2, (HBUT0.out.blk g3 (by omega) HNE.out.2.2.2.1).trans HI.out.r3, (HBUT0.out.blk g4 (by omega) HNE.out.2.2.2.2).trans HI.out.r4, by rw [HSN.out, HQ'.out]; exact HPJ.out, (HBUT0.out.blk g5 (by omega) HNE.out.2.1).trans HI.out.r5, by rw [HSN.out]; exact (HBJ.out.blk g6 (by omega) HNE.out.1).trans HR6.out, HBWJ.out⟩
      · gi_wp2_with ((refine ⟨trivial, ?_⟩; gi_at_call 15; refine (CallsIn.inRound l (callsIn_wide.2 (words_calls xA xc xl W HCX.out hxc hxs))).mono ?_; rw [← HWS.out]; rintro e W1 ⟨v, rfl, hR, hb⟩; obtain ⟨Aw, cw, ev⟩ := Kd.R_slice hR; rw [List.length_map] at ev; subst ev; have HR := Aside0.mk hR; have HB1 := Aside0.mk hb; have HBW1 := Aside0.mk (HI.out.bw.trans (hb.mono HI.out.bw.size)); have HP1 := Aside0.mk (HP0.out.below hb); have hc6 := (blk_cell (blk_below HR6.out hb) 0).trans (show _ = some (Value.bool false) from rfl); have hc5 := (blk_cell (blk_below HI.out.r5 hb) 0).trans (show _ = some (Value.pointer (some ⟨gp, 0, none⟩)) from rfl); clear hR hb))
        clear hc5 hc6
        have HR6 := Aside0.mk (show W1.heap[g6]? = some (.cells #[.bool false] 4 (0, 0)) from blk_below HR6.out HB1.out)
        gi_loopw [39] (fun v39 wr => ∃ (j : Nat) (pj : DP), v39 = .int .i64 (j : Int) ∧ j ≤ ws.length ∧ Aside0 (dWordsL p ws = dWordsL pj (ws.drop j)) ∧ Aside0 (DInv pj) ∧ Aside0 (PRS (Bn + 1) w.heap.size gp pj wr) ∧ Aside0 (KO TP W1 wr) ∧ Aside0 (But (Bn + 1) gp W1 wr) ∧ Aside0 (Below w.heap.size w wr)) (fun v _ => ws.length - (intOf v).toNat)
        case atStart => exact ⟨0, p, rfl, Nat.zero_le _, ⟨rfl⟩, HINV, HP1, ⟨KO.refl _ _⟩, ⟨But.refl _ _ _⟩, HBW1⟩
        case round =>
          clear HP1 HINV HP0
          obtain ⟨j, pj, rfl, hj, HQ, HINV, HPJ, HKJ, HBJ, HBWJ⟩ := hrel
          have HKO0 := Aside0.mk (((KO.refl TP W).below HB1.out).trans HKJ.out)
          have HBUT0 := Aside0.mk (((But.refl (Bn + 1) gp W).below HB1.out HTOP.out).trans HBJ.out)
          by_cases hlt : j < ws.length
          · have t5 : decide ((j : Int) < (ws.length : Int)) = true := decide_eq_true (by omega)
            have t6 : decide (j < ws.length) = true := decide_eq_true hlt
            obtain ⟨x, hx⟩ : ∃ x, x = ws[j] := ⟨_, rfl⟩
            have hdr : ws.drop j = x :: ws.drop (j + 1) := by rw [hx]; exact List.drop_eq_getElem_cons hlt
            have hxz : x.length ≤ 100000 := HWM.out x (by rw [hx]; exact List.getElem_mem hlt)
            obtain ⟨ec, p', hh⟩ : ∃ ec p', dWord pj x = (ec, p') := ⟨_, _, rfl⟩
            have hq := HQ.out
            rw [hdr, dWordsL_cons pj x _ ec p' hh] at hq
            have HHD := Aside0.mk hh
            have HRJ := Aside0.mk (ko_R HR.out HKJ.out)
            obtain ⟨aw, e1, hxw⟩ := Kd.at_string (Kd.R_reads' HRJ.out).2.2 (j : Int) (by omega) (by rw [List.length_map]; omega)
            cases e1
            rw [Int.toNat_natCast, show rdOf ByteArray.empty (ws.map baOf) (j : Int) = baOf x by
              unfold rdOf
              rw [Int.toNat_natCast, List.getD_eq_getElem?_getD, List.getElem?_map, List.getElem?_eq_getElem hlt, hx]
              rfl] at hxw
            have hc5 := (blk_cell ((HBUT0.out.blk g5 (by have := HXg5.out; omega) HNE.out.2.1).trans HI.out.r5) 0).trans (show _ = some (Value.pointer (some ⟨gp, 0, none⟩)) from rfl)
            have hji : (0 : Int) ≤ (j : Int) := Int.natCast_nonneg _
            have hjl : (j : Int) < (ws.length : Int) := by omega
            have hj1 : (j : Int) + 1 ≤ 100000 := by omega
            have HINV' := Aside0.mk (show DInv p' by have := dWord_inv pj x HINV.out; rw [hh] at this; exact this)
            by_cases he : ec = 0
            · subst he
              rw [if_neg (fun h => h rfl)] at hq
              have HQ' := Aside0.mk hq
              clear hq hh hx hdr
              gi_wp2_with (refine ⟨trivial, ?_⟩; gi_at_call 41; refine (CallsIn.inRound l (callsIn_wide.2 (word_calls (Bn + 1) w.heap.size gp pj x wr HPJ.out HINV.out hxz (HLT.out.on HBWJ.out)))).mono ?_; rw [HHD.out]; rintro e2 W2 ⟨rfl, hprs, hbw, hko, hbut⟩; have HPR := Aside0.mk hprs; have HBW2 := Aside0.mk (HBWJ.out.trans hbw); have HKO2 := Aside0.mk (HKJ.out.trans hko); have HBUT2 := Aside0.mk (HBJ.out.trans hbut); clear hprs hbw hko hbut hc5 hxw)
              go_roundw
              case rel => exact ⟨j + 1, p', by go_num, by omega, HQ', HINV', HPR, HKO2, HBUT2, HBW2⟩
              case measure => simp [intOf]; omega
            · rw [if_pos he] at hq
              have t3 : (ec == 0) = false := beq_eq_false_iff_ne.2 he
              have t3n : (ec != 0) = true := by rw [bne, t3]; rfl
              have HE0 := Aside0.mk (show (stOf (pre ++ [⟨pre.length + 1, xA, xc, xl⟩])).err ≠ 0 ∧ (stOf (pre ++ [⟨pre.length + 1, xA, xc, xl⟩])).err = ec by rw [HSN.out, hq]; exact ⟨he, rfl⟩)
              clear hq hh hx hdr he
              gi_wp2_with (first | (refine ⟨trivial, ?_⟩; gi_at_call 41; refine (CallsIn.inRound l (callsIn_wide.2 (word_calls (Bn + 1) w.heap.size gp pj x wr HPJ.out HINV.out hxz (HLT.out.on HBWJ.out)))).mono ?_; rw [HHD.out]; rintro e2 W2 ⟨rfl, hprs, hbw, hko, hbut⟩; have HBW := Aside0.mk (HBWJ.out.trans hbw); have HKO := Aside0.mk (HKO0.out.trans hko); have HBUT := Aside0.mk (HBUT0.out.trans hbut); have Hr2 := Aside0.mk ((HBUT.out.blk g2 (by have := HXg2.out; omega) HNE.out.2.2.1).trans HI.out.r2); have Hr3 := Aside0.mk ((HBUT.out.blk g3 (by have := HXg3.out; omega) HNE.out.2.2.2.1).trans HI.out.r3); have Hr4 := Aside0.mk ((HBUT.out.blk g4 (by have := HXg4.out; omega) HNE.out.2.2.2.2).trans HI.out.r4); clear hprs hbw hko hbut hc5 hxw) | ((with_reducible refine gin_store (t := 35) (p := 2) rfl ?_); refine store_two_in (.inr ⟨l, rfl⟩) 35 2 (.tmp 48) rfl rfl rfl (.int .i64 0) (.slice none 0 0) #[.int .i64 0, .slice none 0 0] rfl rfl Hr2.out nsz25 (Nat.le_refl 2) rfl rfl rfl ?_; intro V2 hw hsb; have HV2 := Aside0.mk hw; have HSV2 := Aside0.mk hsb; have Hr3' := Aside0.mk (hsb.other Hr3.out (blk_ne Hr3.out Hr2.out (by decide))); have Hr4' := Aside0.mk (hsb.other Hr4.out (blk_ne Hr4.out Hr2.out (by decide))); clear hw hsb) | ((with_reducible refine gin_store (t := 24) (p := 3) rfl ?_); refine store_one_in (.inr ⟨l, rfl⟩) 24 3 (.tmp 49) rfl rfl rfl (.int .i64 ec) #[.int .i64 ec] rfl rfl Hr3'.out rfl nsz26 (show 0 + 1 ≤ 1 by omega) rfl rfl ?_; intro V3 hw hsb; have HV3 := Aside0.mk hw; have HSV3 := Aside0.mk hsb; have HV23 := Aside0.mk (hsb.other HV2.out (blk_ne HV2.out Hr3'.out (by decide))); have Hr4q := Aside0.mk (hsb.other Hr4'.out (blk_ne Hr4'.out Hr3'.out (by decide))); clear hw hsb) | ((with_reducible refine gin_store (t := 3) (p := 4) rfl ?_); refine store_one_in (.inr ⟨l, rfl⟩) 3 4 (.tmp 50) rfl rfl rfl (.int .i64 ((pre.length : Int) + 1)) #[.int .i64 ((pre.length : Int) + 1)] rfl (by first | rfl | (simp; done)) Hr4q.out rfl nsz3 (show 0 + 1 ≤ 1 by omega) rfl rfl ?_; intro V4 hw hsb; have HV4 := Aside0.mk hw; have HSV4 := Aside0.mk hsb; have HV24 := Aside0.mk (hsb.other HV23.out (blk_ne HV23.out Hr4q.out (by decide))); have HV34 := Aside0.mk (hsb.other HV3.out (blk_ne HV3.out Hr4q.out (by decide))); clear hw hsb))
              exact ⟨((keeps_ko HKO.out).trans (keeps_same HSV2.out Hr2.out)).trans ((keeps_same HSV3.out Hr3'.out).trans (keeps_same HSV4.out Hr4q.out)), rfl, ⟨HE0.out.1, HV24.out, (by rw [HE0.out.2]; exact HV34.out), (by rw [HSN.out]; exact HV4.out), HSV4.out.below (HSV3.out.below (HSV2.out.below HBW.out HLg2.out) HLg3.out) HLg4.out⟩⟩
          · have t5 : decide ((j : Int) < (ws.length : Int)) = false := decide_eq_false (by omega)
            have t6 : decide (j < ws.length) = false := decide_eq_false hlt
            obtain rfl : j = ws.length := by omega
            have HQ' := Aside0.mk (show dWordsL p ws = (0, pj) by rw [HQ.out, List.drop_length]; rfl)
            gi_wp2
            have h2 := HXg2.out
            have h3 := HXg3.out
            have h4 := HXg4.out
            have h5 := HXg5.out
            have h6 := HXg6.out
            refine ⟨keeps_ko HKO0.out, ⟨⟨HBWJ.out.os.trans HI.out.bw.os.symm, HBWJ.out.tape.trans HI.out.bw.tape.symm, HBWJ.out.output.trans HI.out.bw.output.symm, HKO0.out.size, fun k hk => (HBWJ.out.block k hk).trans (HI.out.bw.block k hk).symm⟩, HBUT0.out.blk Bn (by omega) (by have := HXgp.out; omega)⟩, ?_⟩
            exact ⟨by rw [HSN.out, HQ'.out], (HBUT0.out.blk g2 (by omega) HNE.out.2.2.1).trans HI.out.r2, (HBUT0.out.blk g3 (by omega) HNE.out.2.2.2.1).trans HI.out.r3, (HBUT0.out.blk g4 (by omega) HNE.out.2.2.2.2).trans HI.out.r4, by rw [HSN.out, HQ'.out]; exact HPJ.out, (HBUT0.out.blk g5 (by omega) HNE.out.2.1).trans HI.out.r5, by rw [HSN.out]; exact (HBJ.out.blk g6 (by omega) HNE.out.1).trans HR6.out, HBWJ.out⟩
  case done =>
    rintro D ys W hD ⟨hys, hok⟩ hI hK
    have HI := Aside0.mk hI
    have HK := Aside0.mk hK
    have hdp : dParse b = dFinal (stOf ys) := by unfold dParse stOf; rw [hys]
    obtain ⟨hd, p, hst⟩ : ∃ hd p, stOf ys = ⟨0, (dLines b).length, hd, p⟩ := by
      have h1 := dState_n _ (ys.map (·.l)) rfl hI.ok
      have h2 := hI.ok
      have h3 : stOf ys = dState (ys.map (·.l)) := rfl
      rw [← h3, hys] at h1
      revert h1 h2
      cases stOf ys with
      | mk e n hd p =>
        intro h1 h2
        simp only at h1 h2
        exact ⟨hd, p, by rw [h1, h2]⟩
    rw [hst] at hdp
    have HP := Aside0.mk (show PRS (Bn + 1) w.heap.size gp p W by have := hI.prs; rw [hst] at this; exact this)
    have hnl : (dLines b).length ≤ 100000 := Nat.le_trans (dLines_sum b).2 HS.out
    obtain ⟨nl, hnl2⟩ : ∃ nl, nl = (dLines b).length := ⟨_, rfl⟩
    rw [← hnl2] at hnl hdp
    have HNL := Aside0.mk hnl2
    have hc5 := (blk_cell hI.r5 0).trans (show _ = some (Value.pointer (some ⟨gp, 0, none⟩)) from rfl)
    have hc6 := (blk_cell hI.r6 0).trans (show _ = some (Value.bool hd) by rw [hst]; rfl)
    have Hr2 := Aside0.mk hI.r2
    have Hr3 := Aside0.mk hI.r3
    have Hr4 := Aside0.mk hI.r4
    have HBWW := Aside0.mk hI.bw
    have hDlt := (Array.getElem?_eq_some_iff.1 hK).1
    cases hd with
    | false =>
      have HDP := Aside0.mk (show dParse b = ((0, []), 20, (nl : Int) + 1) by rw [hdp]; rfl)
      clear hdp hys hok hI hK hst hnl2
      gi_wp2_with (first | (refine ⟨trivial, ?_⟩; gi_at_call 42; refine (callsIn_wide.2 (last_calls ad c b W (Kd.C_below HC.out HBWW.out) hc HS.out)).mono ?_; rw [← HNL.out]; rintro e W2 ⟨rfl, hb⟩; have HK2 := Aside0.mk (blk_below HK.out hb); have HBW2 := Aside0.mk (below_step HBWW.out hb); have Hr2' := Aside0.mk (blk_below Hr2.out hb); clear Hr2; have Hr2 := Hr2'; clear Hr2'; have Hr3' := Aside0.mk (blk_below Hr3.out hb); clear Hr3; have Hr3 := Hr3'; clear Hr3'; have Hr4' := Aside0.mk (blk_below Hr4.out hb); clear Hr4; have Hr4 := Hr4'; clear Hr4'; clear hb hc5 hc6) | ((with_reducible refine gin_store (t := 35) (p := 2) rfl ?_); refine store_two_in (.inl rfl) 35 2 (.tmp 55) rfl rfl rfl (.int .i64 0) (.slice none 0 0) #[.int .i64 0, .slice none 0 0] rfl rfl Hr2.out nsz25 (Nat.le_refl 2) rfl rfl rfl ?_; intro V2 hw hsb; have HV2 := Aside0.mk hw; have HSV2 := Aside0.mk hsb; have Hr3' := Aside0.mk (hsb.other Hr3.out (blk_ne Hr3.out Hr2.out (by decide))); have Hr4' := Aside0.mk (hsb.other Hr4.out (blk_ne Hr4.out Hr2.out (by decide))); clear hw hsb) | ((with_reducible refine gin_store (t := 24) (p := 3) rfl ?_); refine store_one_in (.inl rfl) 24 3 (.const (.int .i64 20)) rfl rfl rfl (.int .i64 20) #[.int .i64 20] rfl rfl Hr3'.out rfl nsz26 (show 0 + 1 ≤ 1 by omega) rfl rfl ?_; intro V3 hw hsb; have HV3 := Aside0.mk hw; have HSV3 := Aside0.mk hsb; have HV23 := Aside0.mk (hsb.other HV2.out (blk_ne HV2.out Hr3'.out (by decide))); have Hr4q := Aside0.mk (hsb.other Hr4'.out (blk_ne Hr4'.out Hr3'.out (by decide))); clear hw hsb) | ((with_reducible refine gin_store (t := 3) (p := 4) rfl ?_); refine store_one_in (.inl rfl) 3 4 (.tmp 58) rfl rfl rfl (.int .i64 ((nl : Int) + 1)) #[.int .i64 ((nl : Int) + 1)] rfl (by first | rfl | (simp; done)) Hr4q.out rfl nsz3 (show 0 + 1 ≤ 1 by omega) rfl rfl ?_; intro V4 hw hsb; have HV4 := Aside0.mk hw; have HSV4 := Aside0.mk hsb; have HV24 := Aside0.mk (hsb.other HV23.out (blk_ne HV23.out Hr4q.out (by decide))); have HV34 := Aside0.mk (hsb.other HV3.out (blk_ne HV3.out Hr4q.out (by decide))); clear hw hsb))
      have hBD := blk_lt HBN.out
      have x2 := HXg2.out
      have x3 := HXg3.out
      have x4 := HXg4.out
      have hK4 : V4.heap[D]? = some (.deferred (some [])) := (HSV4.out.blk D (by omega)).trans ((HSV3.out.blk D (by omega)).trans ((HSV2.out.blk D (by omega)).trans HK2.out))
      rw [HDP.out]
      refine ⟨by simp, .inl ⟨_, _, rfl, run_takeDeferred hK4, ?_⟩⟩
      have h2a := cell_kept ((blk_cell HV24.out 0).trans (show _ = some (Value.int .i64 0) from rfl)) (grownBy_putObj' _ D (.deferred none)) (fun r e => by cases e; exact ⟨_, hK4, rfl⟩)
      have h2b := cell_kept ((blk_cell HV24.out 1).trans (show _ = some (Value.slice none 0 0) from rfl)) (grownBy_putObj' _ D (.deferred none)) (fun r e => by cases e; exact ⟨_, hK4, rfl⟩)
      have h3 := cell_kept ((blk_cell HV34.out 0).trans (show _ = some (Value.int .i64 (20)) from rfl)) (grownBy_putObj' _ D (.deferred none)) (fun r e => by cases e; exact ⟨_, hK4, rfl⟩)
      have h4 := cell_kept ((blk_cell HV4.out 0).trans (show _ = some (Value.int .i64 ((nl : Int) + 1)) from rfl)) (grownBy_putObj' _ D (.deferred none)) (fun r e => by cases e; exact ⟨_, hK4, rfl⟩)
      refine ⟨.tuple #[.agg #[.int .i64 0, .slice none 0 0], .int .i64 (20), .int .i64 ((nl : Int) + 1)], by simp [results, Tryz.f20, go_sem, h2a, h2b, h3, h4], _, rfl, ?_, ?_⟩
      · exact Kd.R_nil _ _ _ _ _
      · exact (HSV4.out.below (HSV3.out.below (HSV2.out.below HBW2.out HLg2.out) HLg3.out) HLg4.out).grown (grownBy_putObj' _ D (.deferred none)) ((HSV4.out.below (HSV3.out.below (HSV2.out.below HBW2.out HLg2.out) HLg3.out) HLg4.out).size) (fun k e => by cases e; have := HLg2.out; omega)
    | true =>
      by_cases ho : p.opn = []
      · have hl : p.opn.length = 0 := by rw [ho]; rfl
        have t1 : decide (0 < (p.opn.length : Int)) = false := decide_eq_false (by omega)
        have t2 : decide (0 < p.opn.length) = false := decide_eq_false (by omega)
        obtain ⟨v1, v3, hgp, hcc, hoo⟩ := HP.out.ex
        obtain ⟨A1, c1, rfl⟩ := Kd.R_slice hcc
        obtain ⟨A3, c3, rfl⟩ := Kd.R_slice hoo
        have HGP := Aside0.mk hgp
        have HCC := Aside0.mk hcc
        have hp0 := (blk_cell hgp 0).trans (show _ = some (Value.int .i64 p.vars) from rfl)
        have hp1 := (blk_cell hgp 1).trans (show _ = some (Value.slice A1 p.cls.length c1) from rfl)
        have hp2 := (blk_cell hgp 2).trans (show _ = some (Value.int .i64 p.want) from rfl)
        have hp3 := (blk_cell hgp 3).trans (show _ = some (Value.slice A3 p.opn.length c3) from rfl)
        by_cases hw : (p.cls.length : Int) < p.want
        · have HDP := Aside0.mk (show dParse b = ((0, []), 23, (nl : Int) + 1) by rw [hdp]; unfold dFinal; rw [if_neg (fun h => h rfl), if_neg (by simp), if_pos (.inr hw)])
          have t3 : decide ((p.cls.length : Int) < p.want) = true := decide_eq_true hw
          clear hdp hys hok hI hK hst hnl2 hgp hcc hoo hw ho hl
          gi_wp2
          gi_quiet (fail)
          obtain ⟨WQ, hWQ⟩ : ∃ WQ, WQ = W.drewN nq := ⟨_, rfl⟩
          have HBQ := Aside0.mk (show Below w.heap.size w WQ by rw [hWQ]; exact pw_below_drewN HBWW.out nq)
          have HKQ := Aside0.mk (show WQ.heap[D]? = some (.deferred (some [])) by rw [hWQ]; exact blk_drewN HK.out nq)
          have Hr2' := Aside0.mk (show WQ.heap[g2]? = some (.cells #[.int .i64 0, .slice none 0 0] 35 (0, 0)) by rw [hWQ]; exact blk_drewN Hr2.out nq)
          have Hr3' := Aside0.mk (show WQ.heap[g3]? = some (.cells #[.int .i64 0] 24 (0, 0)) by rw [hWQ]; exact blk_drewN Hr3.out nq)
          have Hr4' := Aside0.mk (show WQ.heap[g4]? = some (.cells #[.int .i64 0] 3 (0, 0)) by rw [hWQ]; exact blk_drewN Hr4.out nq)
          have HGPQ := Aside0.mk (show WQ.heap[gp]? = some (.cells (p.cells (.slice A1 p.cls.length c1) (.slice A3 p.opn.length c3)) 83 (0, 0)) by rw [hWQ]; exact blk_drewN HGP.out nq)
          have HCCQ := Aside0.mk (show kcs.R 42 WQ (Bn + 1) (fun k => some k ≠ (Value.slice A3 p.opn.length c3).ownBlock) (.slice A1 p.cls.length c1) p.cls by rw [hWQ]; exact Kd.R_drewN HCC.out nq)
          have HR5Q := Aside0.mk (show WQ.heap[g5]? = some (.cells #[.pointer (some ⟨gp, 0, none⟩)] 81 (0, 0)) by rw [hWQ]; exact blk_drewN HI.out.r5 nq)
          clear Hr2 Hr3 Hr4
          have Hr2 := Hr2'
          have Hr3 := Hr3'
          have Hr4 := Hr4'
          clear Hr2' Hr3' Hr4' hp0 hp1 hp2 hp3 hc5 hc6
          rw [← hWQ]
          clear hWQ
          gi_wp2_with (first | (refine ⟨trivial, ?_⟩; gi_at_call 42; refine (callsIn_wide.2 (last_calls ad c b WQ (Kd.C_below HC.out HBQ.out) hc HS.out)).mono ?_; rw [← HNL.out]; rintro e W2 ⟨rfl, hb⟩; have HK2 := Aside0.mk (blk_below HKQ.out hb); have HBW2 := Aside0.mk (below_step HBQ.out hb); have Hr2' := Aside0.mk (blk_below Hr2.out hb); clear Hr2; have Hr2 := Hr2'; clear Hr2'; have Hr3' := Aside0.mk (blk_below Hr3.out hb); clear Hr3; have Hr3 := Hr3'; clear Hr3'; have Hr4' := Aside0.mk (blk_below Hr4.out hb); clear Hr4; have Hr4 := Hr4'; clear Hr4'; clear hb) | ((with_reducible refine gin_store (t := 35) (p := 2) rfl ?_); refine store_two_in (.inl rfl) 35 2 (.tmp 77) rfl rfl rfl (.int .i64 0) (.slice none 0 0) #[.int .i64 0, .slice none 0 0] rfl rfl Hr2.out nsz25 (Nat.le_refl 2) rfl rfl rfl ?_; intro V2 hw hsb; have HV2 := Aside0.mk hw; have HSV2 := Aside0.mk hsb; have Hr3' := Aside0.mk (hsb.other Hr3.out (blk_ne Hr3.out Hr2.out (by decide))); have Hr4' := Aside0.mk (hsb.other Hr4.out (blk_ne Hr4.out Hr2.out (by decide))); clear hw hsb) | ((with_reducible refine gin_store (t := 24) (p := 3) rfl ?_); refine store_one_in (.inl rfl) 24 3 (.const (.int .i64 23)) rfl rfl rfl (.int .i64 23) #[.int .i64 23] rfl rfl Hr3'.out rfl nsz26 (show 0 + 1 ≤ 1 by omega) rfl rfl ?_; intro V3 hw hsb; have HV3 := Aside0.mk hw; have HSV3 := Aside0.mk hsb; have HV23 := Aside0.mk (hsb.other HV2.out (blk_ne HV2.out Hr3'.out (by decide))); have Hr4q := Aside0.mk (hsb.other Hr4'.out (blk_ne Hr4'.out Hr3'.out (by decide))); clear hw hsb) | ((with_reducible refine gin_store (t := 3) (p := 4) rfl ?_); refine store_one_in (.inl rfl) 3 4 (.tmp 80) rfl rfl rfl (.int .i64 ((nl : Int) + 1)) #[.int .i64 ((nl : Int) + 1)] rfl (by first | rfl | (simp; done)) Hr4q.out rfl nsz3 (show 0 + 1 ≤ 1 by omega) rfl rfl ?_; intro V4 hw hsb; have HV4 := Aside0.mk hw; have HSV4 := Aside0.mk hsb; have HV24 := Aside0.mk (hsb.other HV23.out (blk_ne HV23.out Hr4q.out (by decide))); have HV34 := Aside0.mk (hsb.other HV3.out (blk_ne HV3.out Hr4q.out (by decide))); clear hw hsb))
          have hBD := blk_lt HBN.out
          have x2 := HXg2.out
          have x3 := HXg3.out
          have x4 := HXg4.out
          have hK4 : V4.heap[D]? = some (.deferred (some [])) := (HSV4.out.blk D (by omega)).trans ((HSV3.out.blk D (by omega)).trans ((HSV2.out.blk D (by omega)).trans HK2.out))
          rw [HDP.out]
          refine ⟨by simp, .inl ⟨_, _, rfl, run_takeDeferred hK4, ?_⟩⟩
          have h2a := cell_kept ((blk_cell HV24.out 0).trans (show _ = some (Value.int .i64 0) from rfl)) (grownBy_putObj' _ D (.deferred none)) (fun r e => by cases e; exact ⟨_, hK4, rfl⟩)
          have h2b := cell_kept ((blk_cell HV24.out 1).trans (show _ = some (Value.slice none 0 0) from rfl)) (grownBy_putObj' _ D (.deferred none)) (fun r e => by cases e; exact ⟨_, hK4, rfl⟩)
          have h3 := cell_kept ((blk_cell HV34.out 0).trans (show _ = some (Value.int .i64 (23)) from rfl)) (grownBy_putObj' _ D (.deferred none)) (fun r e => by cases e; exact ⟨_, hK4, rfl⟩)
          have h4 := cell_kept ((blk_cell HV4.out 0).trans (show _ = some (Value.int .i64 ((nl : Int) + 1)) from rfl)) (grownBy_putObj' _ D (.deferred none)) (fun r e => by cases e; exact ⟨_, hK4, rfl⟩)
          refine ⟨.tuple #[.agg #[.int .i64 0, .slice none 0 0], .int .i64 (23), .int .i64 ((nl : Int) + 1)], by simp [results, Tryz.f20, go_sem, h2a, h2b, h3, h4], _, rfl, ?_, ?_⟩
          · exact Kd.R_nil _ _ _ _ _
          · exact (HSV4.out.below (HSV3.out.below (HSV2.out.below HBW2.out HLg2.out) HLg3.out) HLg4.out).grown (grownBy_putObj' _ D (.deferred none)) ((HSV4.out.below (HSV3.out.below (HSV2.out.below HBW2.out HLg2.out) HLg3.out) HLg4.out).size) (fun k e => by cases e; have := HLg2.out; omega)
        · have HDP := Aside0.mk (show dParse b = ((p.vars, p.cls), 0, 0) by rw [hdp]; unfold dFinal; rw [if_neg (fun h => h rfl), if_neg (by simp), if_neg (by rintro (h | h); exact h ho; exact hw h)])
          have t3 : decide ((p.cls.length : Int) < p.want) = false := decide_eq_false hw
          clear hdp hys hok hI hK hst hnl2 hgp hcc hoo hw ho hl
          gi_wp2
          gi_quiet (fail)
          obtain ⟨WQ, hWQ⟩ : ∃ WQ, WQ = W.drewN nq := ⟨_, rfl⟩
          have HBQ := Aside0.mk (show Below w.heap.size w WQ by rw [hWQ]; exact pw_below_drewN HBWW.out nq)
          have HKQ := Aside0.mk (show WQ.heap[D]? = some (.deferred (some [])) by rw [hWQ]; exact blk_drewN HK.out nq)
          have Hr2' := Aside0.mk (show WQ.heap[g2]? = some (.cells #[.int .i64 0, .slice none 0 0] 35 (0, 0)) by rw [hWQ]; exact blk_drewN Hr2.out nq)
          have Hr3' := Aside0.mk (show WQ.heap[g3]? = some (.cells #[.int .i64 0] 24 (0, 0)) by rw [hWQ]; exact blk_drewN Hr3.out nq)
          have Hr4' := Aside0.mk (show WQ.heap[g4]? = some (.cells #[.int .i64 0] 3 (0, 0)) by rw [hWQ]; exact blk_drewN Hr4.out nq)
          have HGPQ := Aside0.mk (show WQ.heap[gp]? = some (.cells (p.cells (.slice A1 p.cls.length c1) (.slice A3 p.opn.length c3)) 83 (0, 0)) by rw [hWQ]; exact blk_drewN HGP.out nq)
          have HCCQ := Aside0.mk (show kcs.R 42 WQ (Bn + 1) (fun k => some k ≠ (Value.slice A3 p.opn.length c3).ownBlock) (.slice A1 p.cls.length c1) p.cls by rw [hWQ]; exact Kd.R_drewN HCC.out nq)
          have HR5Q := Aside0.mk (show WQ.heap[g5]? = some (.cells #[.pointer (some ⟨gp, 0, none⟩)] 81 (0, 0)) by rw [hWQ]; exact blk_drewN HI.out.r5 nq)
          clear Hr2 Hr3 Hr4
          have Hr2 := Hr2'
          have Hr3 := Hr3'
          have Hr4 := Hr4'
          clear Hr2' Hr3' Hr4' hp0 hp1 hp2 hp3 hc5 hc6
          rw [← hWQ]
          clear hWQ
          have hp0 := (blk_cell HGPQ.out 0).trans (show _ = some (Value.int .i64 p.vars) from rfl)
          have hp1 := (blk_cell HGPQ.out 1).trans (show _ = some (Value.slice A1 p.cls.length c1) from rfl)
          have hc5 := (blk_cell HR5Q.out 0).trans (show _ = some (Value.pointer (some ⟨gp, 0, none⟩)) from rfl)
          gi_wp2_with (first | ((with_reducible refine gin_store (t := 35) (p := 2) rfl ?_); refine store_two_in (.inl rfl) 35 2 (.tmp 84) rfl rfl rfl (.int .i64 p.vars) (.slice A1 p.cls.length c1) #[.int .i64 p.vars, .slice A1 p.cls.length c1] rfl rfl Hr2.out nsz25 (Nat.le_refl 2) rfl rfl rfl ?_; intro V2 hw hsb; have HV2 := Aside0.mk hw; have HSV2 := Aside0.mk hsb; have Hr3' := Aside0.mk (hsb.other Hr3.out (blk_ne Hr3.out Hr2.out (by decide))); have Hr4' := Aside0.mk (hsb.other Hr4.out (blk_ne Hr4.out Hr2.out (by decide))); clear hw hsb) | ((with_reducible refine gin_store (t := 24) (p := 3) rfl ?_); refine store_one_in (.inl rfl) 24 3 (.const (.int .i64 0)) rfl rfl rfl (.int .i64 0) #[.int .i64 0] rfl rfl Hr3'.out rfl nsz26 (show 0 + 1 ≤ 1 by omega) rfl rfl ?_; intro V3 hw hsb; have HV3 := Aside0.mk hw; have HSV3 := Aside0.mk hsb; have HV23 := Aside0.mk (hsb.other HV2.out (blk_ne HV2.out Hr3'.out (by decide))); have Hr4q := Aside0.mk (hsb.other Hr4'.out (blk_ne Hr4'.out Hr3'.out (by decide))); clear hw hsb) | ((with_reducible refine gin_store (t := 3) (p := 4) rfl ?_); refine store_one_in (.inl rfl) 3 4 (.const (.int .i64 0)) rfl rfl rfl (.int .i64 (0)) #[.int .i64 (0)] rfl (by first | rfl | (simp; done)) Hr4q.out rfl nsz3 (show 0 + 1 ≤ 1 by omega) rfl rfl ?_; intro V4 hw hsb; have HV4 := Aside0.mk hw; have HSV4 := Aside0.mk hsb; have HV24 := Aside0.mk (hsb.other HV23.out (blk_ne HV23.out Hr4q.out (by decide))); have HV34 := Aside0.mk (hsb.other HV3.out (blk_ne HV3.out Hr4q.out (by decide))); clear hw hsb))
          have HBW2 := HBQ
          have HK2 := HKQ
          have hBD := blk_lt HBN.out
          have x2 := HXg2.out
          have x3 := HXg3.out
          have x4 := HXg4.out
          have hK4 : V4.heap[D]? = some (.deferred (some [])) := (HSV4.out.blk D (by omega)).trans ((HSV3.out.blk D (by omega)).trans ((HSV2.out.blk D (by omega)).trans HK2.out))
          rw [HDP.out]
          refine ⟨by simp, .inl ⟨_, _, rfl, run_takeDeferred hK4, ?_⟩⟩
          have h2a := cell_kept ((blk_cell HV24.out 0).trans (show _ = some (Value.int .i64 p.vars) from rfl)) (grownBy_putObj' _ D (.deferred none)) (fun r e => by cases e; exact ⟨_, hK4, rfl⟩)
          have h2b := cell_kept ((blk_cell HV24.out 1).trans (show _ = some (Value.slice A1 p.cls.length c1) from rfl)) (grownBy_putObj' _ D (.deferred none)) (fun r e => by cases e; exact ⟨_, hK4, rfl⟩)
          have h3 := cell_kept ((blk_cell HV34.out 0).trans (show _ = some (Value.int .i64 (0)) from rfl)) (grownBy_putObj' _ D (.deferred none)) (fun r e => by cases e; exact ⟨_, hK4, rfl⟩)
          have h4 := cell_kept ((blk_cell HV4.out 0).trans (show _ = some (Value.int .i64 (0)) from rfl)) (grownBy_putObj' _ D (.deferred none)) (fun r e => by cases e; exact ⟨_, hK4, rfl⟩)
          refine ⟨.tuple #[.agg #[.int .i64 p.vars, .slice A1 p.cls.length c1], .int .i64 (0), .int .i64 (0)], by simp [results, Tryz.f20, go_sem, h2a, h2b, h3, h4], _, rfl, ?_, ?_⟩
          · exact Kd.R_mono (Kd.R_step (Kd.R_bound (HSV4.out.Rt (HSV3.out.Rt (HSV2.out.Rt (Kd.R_lower HCCQ.out HP.out.bl) Hr2.out (by decide)) Hr3'.out (by decide)) Hr4q.out (by decide))) (fun k hk _ => by
              obtain ⟨_, _, _, q, _, cells, hq⟩ := hk
              refine World.putObj_heap_other ?_
              rintro rfl
              rw [hK4] at hq
              cases hq)) (fun _ _ => trivial)
          · exact (HSV4.out.below (HSV3.out.below (HSV2.out.below HBW2.out HLg2.out) HLg3.out) HLg4.out).grown (grownBy_putObj' _ D (.deferred none)) ((HSV4.out.below (HSV3.out.below (HSV2.out.below HBW2.out HLg2.out) HLg3.out) HLg4.out).size) (fun k e => by cases e; have := HLg2.out; omega)
      · have hl : 0 < p.opn.length := List.length_pos_iff.2 ho
        have t1 : decide (0 < (p.opn.length : Int)) = true := decide_eq_true (by omega)
        have t2 : decide (0 < p.opn.length) = true := decide_eq_true hl
        obtain ⟨v1, v3, hgp, hcc, hoo⟩ := HP.out.ex
        obtain ⟨A3, c3, rfl⟩ := Kd.R_slice hoo
        have hp3 := (blk_cell hgp 3).trans (show _ = some (Value.slice A3 p.opn.length c3) from rfl)
        have HDP := Aside0.mk (show dParse b = ((0, []), 23, (nl : Int) + 1) by rw [hdp]; unfold dFinal; rw [if_neg (fun h => h rfl), if_neg (by simp), if_pos (.inl ho)])
        clear hdp hys hok hI hK hst hnl2 hgp hcc hoo ho
        gi_wp2_with (first | (refine ⟨trivial, ?_⟩; gi_at_call 42; refine (callsIn_wide.2 (last_calls ad c b W (Kd.C_below HC.out HBWW.out) hc HS.out)).mono ?_; rw [← HNL.out]; rintro e W2 ⟨rfl, hb⟩; have HK2 := Aside0.mk (blk_below HK.out hb); have HBW2 := Aside0.mk (below_step HBWW.out hb); have Hr2' := Aside0.mk (blk_below Hr2.out hb); clear Hr2; have Hr2 := Hr2'; clear Hr2'; have Hr3' := Aside0.mk (blk_below Hr3.out hb); clear Hr3; have Hr3 := Hr3'; clear Hr3'; have Hr4' := Aside0.mk (blk_below Hr4.out hb); clear Hr4; have Hr4 := Hr4'; clear Hr4'; clear hb hc5 hc6 hp3) | ((with_reducible refine gin_store (t := 35) (p := 2) rfl ?_); refine store_two_in (.inl rfl) 35 2 (.tmp 77) rfl rfl rfl (.int .i64 0) (.slice none 0 0) #[.int .i64 0, .slice none 0 0] rfl rfl Hr2.out nsz25 (Nat.le_refl 2) rfl rfl rfl ?_; intro V2 hw hsb; have HV2 := Aside0.mk hw; have HSV2 := Aside0.mk hsb; have Hr3' := Aside0.mk (hsb.other Hr3.out (blk_ne Hr3.out Hr2.out (by decide))); have Hr4' := Aside0.mk (hsb.other Hr4.out (blk_ne Hr4.out Hr2.out (by decide))); clear hw hsb) | ((with_reducible refine gin_store (t := 24) (p := 3) rfl ?_); refine store_one_in (.inl rfl) 24 3 (.const (.int .i64 23)) rfl rfl rfl (.int .i64 23) #[.int .i64 23] rfl rfl Hr3'.out rfl nsz26 (show 0 + 1 ≤ 1 by omega) rfl rfl ?_; intro V3 hw hsb; have HV3 := Aside0.mk hw; have HSV3 := Aside0.mk hsb; have HV23 := Aside0.mk (hsb.other HV2.out (blk_ne HV2.out Hr3'.out (by decide))); have Hr4q := Aside0.mk (hsb.other Hr4'.out (blk_ne Hr4'.out Hr3'.out (by decide))); clear hw hsb) | ((with_reducible refine gin_store (t := 3) (p := 4) rfl ?_); refine store_one_in (.inl rfl) 3 4 (.tmp 80) rfl rfl rfl (.int .i64 ((nl : Int) + 1)) #[.int .i64 ((nl : Int) + 1)] rfl (by first | rfl | (simp; done)) Hr4q.out rfl nsz3 (show 0 + 1 ≤ 1 by omega) rfl rfl ?_; intro V4 hw hsb; have HV4 := Aside0.mk hw; have HSV4 := Aside0.mk hsb; have HV24 := Aside0.mk (hsb.other HV23.out (blk_ne HV23.out Hr4q.out (by decide))); have HV34 := Aside0.mk (hsb.other HV3.out (blk_ne HV3.out Hr4q.out (by decide))); clear hw hsb))
        have hBD := blk_lt HBN.out
        have x2 := HXg2.out
        have x3 := HXg3.out
        have x4 := HXg4.out
        have hK4 : V4.heap[D]? = some (.deferred (some [])) := (HSV4.out.blk D (by omega)).trans ((HSV3.out.blk D (by omega)).trans ((HSV2.out.blk D (by omega)).trans HK2.out))
        rw [HDP.out]
        refine ⟨by simp, .inl ⟨_, _, rfl, run_takeDeferred hK4, ?_⟩⟩
        have h2a := cell_kept ((blk_cell HV24.out 0).trans (show _ = some (Value.int .i64 0) from rfl)) (grownBy_putObj' _ D (.deferred none)) (fun r e => by cases e; exact ⟨_, hK4, rfl⟩)
        have h2b := cell_kept ((blk_cell HV24.out 1).trans (show _ = some (Value.slice none 0 0) from rfl)) (grownBy_putObj' _ D (.deferred none)) (fun r e => by cases e; exact ⟨_, hK4, rfl⟩)
        have h3 := cell_kept ((blk_cell HV34.out 0).trans (show _ = some (Value.int .i64 (23)) from rfl)) (grownBy_putObj' _ D (.deferred none)) (fun r e => by cases e; exact ⟨_, hK4, rfl⟩)
        have h4 := cell_kept ((blk_cell HV4.out 0).trans (show _ = some (Value.int .i64 ((nl : Int) + 1)) from rfl)) (grownBy_putObj' _ D (.deferred none)) (fun r e => by cases e; exact ⟨_, hK4, rfl⟩)
        refine ⟨.tuple #[.agg #[.int .i64 0, .slice none 0 0], .int .i64 (23), .int .i64 ((nl : Int) + 1)], by simp [results, Tryz.f20, go_sem, h2a, h2b, h3, h4], _, rfl, ?_, ?_⟩
        · exact Kd.R_nil _ _ _ _ _
        · exact (HSV4.out.below (HSV3.out.below (HSV2.out.below HBW2.out HLg2.out) HLg3.out) HLg4.out).grown (grownBy_putObj' _ D (.deferred none)) ((HSV4.out.below (HSV3.out.below (HSV2.out.below HBW2.out HLg2.out) HLg3.out) HLg4.out).size) (fun k e => by cases e; have := HLg2.out; omega)
  case stop =>
    rintro D c0 pre W hD hok ⟨rfl, hPX⟩ hK
    gi_wp2
    obtain ⟨suf, hs⟩ := hok.px
    have hdp : dParse b = ((0, []), (stOf pre).err, ((stOf pre).n : Int)) := by
      unfold dParse
      rw [← hs, dState_pre _ suf hPX.bad]
      unfold dFinal
      rw [if_pos hPX.bad]
    rw [hdp]
    have hBD := blk_lt HBN.out
    refine ⟨by simp, .inl ⟨_, _, rfl, run_takeDeferred hK, ?_⟩⟩
    have h2a := cell_kept ((blk_cell hPX.r2 0).trans (show _ = some (Value.int .i64 0) from rfl)) (grownBy_putObj' _ D (.deferred none)) (fun r e => by cases e; exact ⟨_, hK, rfl⟩)
    have h2b := cell_kept ((blk_cell hPX.r2 1).trans (show _ = some (Value.slice none 0 0) from rfl)) (grownBy_putObj' _ D (.deferred none)) (fun r e => by cases e; exact ⟨_, hK, rfl⟩)
    have h3 := cell_kept ((blk_cell hPX.r3 0).trans (show _ = some (Value.int .i64 (stOf pre).err) from rfl)) (grownBy_putObj' _ D (.deferred none)) (fun r e => by cases e; exact ⟨_, hK, rfl⟩)
    have h4 := cell_kept ((blk_cell hPX.r4 0).trans (show _ = some (Value.int .i64 ((stOf pre).n : Nat)) from rfl)) (grownBy_putObj' _ D (.deferred none)) (fun r e => by cases e; exact ⟨_, hK, rfl⟩)
    refine ⟨.tuple #[.agg #[.int .i64 0, .slice none 0 0], .int .i64 (stOf pre).err, .int .i64 ((stOf pre).n : Nat)], by simp [results, Tryz.f20, go_sem, h2a, h2b, h3, h4], _, rfl, Kd.R_nil _ _ _ _ _, ?_⟩
    exact hPX.bw.grown (grownBy_putObj' _ D (.deferred none)) hPX.bw.size (fun k e => by cases e; have := HB.out.size; omega)
end Go.Proofs.YtigloobbpcnnhaaGreatDoor.PB
end
section
namespace Go.Proofs.YtigloobbpcnnhaaGreatDoor.PB
open Go.RowKit Go.Proofs.YtigloobbpcnnhaaGreatDoorW.PrintWords Go.Proofs.YtigloobbpcnnhaaGreatDoorW.PrintLast Go.Proofs.YtigloobbpcnnhaaGreatDoorW.PrintMore
set_option linter.unusedVariables false
set_option linter.unusedSimpArgs false
section
variable {P : Program} {ops : Array Oper} {rest : List Oper} {o : Oper} {a : Act} {Q : Exit → Act → World → Prop}
end
/-- A literal row of bytes reads as the bytes. -/
theorem C_lit (l : List UInt8) (w : World) (g : Nat) (cs : Array Value) {fz : Nat × Nat} (hcs : cs.toList = Lib.byteCells l) (h : w.heap[g]? = some (.cells cs 5 fz)) (hl : l.length ≤ 9223372036854775807) : (Kd.int .u8).C w (some ⟨g, 0, none⟩) l.length (bI l) := by
  refine Kd.C_of_reads (d := (0 : Int)) (h1 := fun _ => rfl) ⟨bI_length l, hl, fun hp => ⟨_, rfl, fun j hj => ?_⟩⟩
  rw [add_plain, cell_of_row w g j cs 5 fz h, ← Array.getElem?_toList, hcs]
  unfold Lib.byteCells bI
  rw [List.getElem?_map, List.getElem?_eq_getElem hj, List.getD_eq_getElem?_getD, List.getElem?_map, List.getElem?_eq_getElem hj]
  rfl
theorem C_bools (l : List Bool) (w : World) (g : Nat) (cs : Array Value) (hcs : cs.toList = l.map Value.bool) (h : w.heap[g]? = some (.cells cs 4 (0, 0))) (hl : l.length ≤ 9223372036854775807) : Kd.bool.C w (some ⟨g, 0, none⟩) l.length l := by
  refine Kd.C_of_reads (d := false) (h1 := fun _ => rfl) ⟨rfl, hl, fun hp => ⟨_, rfl, fun j hj => ?_⟩⟩
  rw [add_plain, blk_cell h j, ← Array.getElem?_toList, hcs]
  rw [List.getElem?_map, List.getElem?_eq_getElem hj, List.getD_eq_getElem?_getD, List.getElem?_eq_getElem hj]
  rfl
theorem dec_one (u : Nat) (h : u < 10) : Lib.decDigits u = [UInt8.ofNat (48 + u)] := by rw [Lib.decDigits, dif_pos h]
def wT1 : List UInt8 := [99, 32, 120, 10, 112, 32, 99, 110, 102, 32, 50, 32, 50, 10, 49, 32, 45, 50, 32, 48, 32, 50, 10, 48, 10]
def wT2 : List UInt8 := [112, 32, 99, 110, 102, 32, 50, 32, 49, 10, 51, 32, 48, 10]
def wP1 : List UInt8 := [112, 32, 99, 110, 102, 32, 50, 32, 50, 10, 49, 32, 45, 50, 32, 48, 10, 50, 32, 48, 10]
def wV1 : List UInt8 := [118, 32, 49, 32, 45, 50, 32, 48, 10]
theorem w_parse1 : dParse wT1 = ((2, [[1, -2], [2]]), 0, 0) := by kernel_rfl
theorem w_parse2 : dParse wT2 = ((0, []), 22, 2) := by kernel_rfl
theorem itoa_1 : Lib.itoa 1 = [49] := by unfold Lib.itoa; rw [if_neg (by omega), show (1 : Int).toNat = 1 from rfl, dec_one 1 (by omega)]; rfl
theorem itoa_2 : Lib.itoa 2 = [50] := by unfold Lib.itoa; rw [if_neg (by omega), show (2 : Int).toNat = 2 from rfl, dec_one 2 (by omega)]; rfl
theorem itoa_m2 : Lib.itoa (-2) = [45, 50] := by unfold Lib.itoa; rw [if_pos (by omega), show (-2 : Int).natAbs = 2 from rfl, dec_one 2 (by omega)]; rfl
theorem w_text : dText 2 [[1, -2], [2]] = wP1 := by
  simp only [dText, dClause, List.flatMap_cons, List.flatMap_nil, List.length_cons, List.length_nil]
  rw [itoa_1, itoa_2, itoa_m2, show (((0 + 1 + 1 : Nat)) : Int) = 2 from rfl, itoa_2]
  rfl
theorem w_values : dValues [true, false] = wV1 := by
  have e : dVW 1 [true, false] = [[49], [45, 50]] := by
    simp only [dVW, dVWord]
    rw [show ((1 : Nat) : Int) = 1 from rfl, show ((1 + 1 : Nat) : Int) = 2 from rfl, itoa_1, itoa_2]
    rfl
  unfold dValues dVState
  rw [e]
  rfl
theorem w_right : DRight 2 [[1, -2], [2]] := by
  refine ⟨by decide, by decide, by decide, by decide, ?_⟩
  intro c hc x hx
  simp only [List.mem_cons, List.not_mem_nil, or_false] at hc
  rcases hc with rfl | rfl
  · simp only [List.mem_cons, List.not_mem_nil, or_false] at hx
    rcases hx with rfl | rfl <;> (unfold Glit; omega)
  · simp only [List.mem_cons, List.not_mem_nil, or_false] at hx
    subst hx
    unfold Glit; omega
theorem cs_T1 : (#[.int .u8 99, .int .u8 32, .int .u8 120, .int .u8 10, .int .u8 112, .int .u8 32, .int .u8 99, .int .u8 110, .int .u8 102, .int .u8 32, .int .u8 50, .int .u8 32, .int .u8 50, .int .u8 10, .int .u8 49, .int .u8 32, .int .u8 45, .int .u8 50, .int .u8 32, .int .u8 48, .int .u8 32, .int .u8 50, .int .u8 10, .int .u8 48, .int .u8 10] : Array Value).toList = Lib.byteCells wT1 := by kernel_rfl
theorem cs_T2 : (#[.int .u8 112, .int .u8 32, .int .u8 99, .int .u8 110, .int .u8 102, .int .u8 32, .int .u8 50, .int .u8 32, .int .u8 49, .int .u8 10, .int .u8 51, .int .u8 32, .int .u8 48, .int .u8 10] : Array Value).toList = Lib.byteCells wT2 := by kernel_rfl
theorem lt_alloc {w0 w : World} (hlt : LT w0.heap.size w0) (hB : Below w0.heap.size w0 w) (o : Obj) : LT (w.alloc o).heap.size (w.alloc o) := hlt.pay (below_alloc hB o)
theorem parse_lit (w0 w : World) (l : List UInt8) (n c : Nat) (cs : Array Value) {fz : Nat × Nat} (hn : l.length = n) (hcs : cs.toList = Lib.byteCells l) (hl : l.length ≤ 100000) (hlt : LT w0.heap.size w0) (hB : Below w0.heap.size w0 w) (hc : n ≤ c) : Calls Tryz.prog 20 #[.slice (some ⟨w.heap.size, 0, none⟩) n c] (w.alloc (.cells cs 5 fz)) fun e w' => ∃ A cc, e = .returned (.tuple #[.agg #[.int .i64 (dParse l).1.1, .slice A (dParse l).1.2.length cc], .int .i64 (dParse l).2.1, .int .i64 (dParse l).2.2]) ∧ kcs.C w' A (dParse l).1.2.length (dParse l).1.2 ∧ (dParse l).1.2.length ≤ cc ∧ Below w0.heap.size w0 w' ∧ Below w.heap.size w w' := by
  subst hn
  refine (parse_calls ⟨w.heap.size, 0, none⟩ c l _ (C_lit l _ w.heap.size cs hcs (blk_new w _) (by omega)) hc hl (lt_alloc hlt hB _)).mono ?_
  rintro e w2 ⟨va, he, hR, hb⟩
  have h2 := below_step (below_alloc (Below.refl _ w) _) hb
  obtain ⟨A, cc, rfl⟩ := Kd.R_slice hR
  exact ⟨A, cc, he, (Kd.R_reads' hR).2.2, (Kd.R_reads' hR).2.1, below_step hB h2, h2⟩
theorem values_lit (w0 w : World) (g : Nat) (l : List Bool) (n c : Nat) (cs : Array Value) (hg : g = w.heap.size) (hn : l.length = n) (hcs : cs.toList = l.map Value.bool) (hl : l.length ≤ 1100000) (hlt : LT w0.heap.size w0) (hB : Below w0.heap.size w0 w) (hc : n ≤ c) : Calls Tryz.prog 12 #[.slice (some ⟨g, 0, none⟩) n c] (w.alloc (.cells cs 4 (0, 0))) fun e w' => e = .returned (.string (baOf (dValues l))) ∧ Below w0.heap.size w0 w' := by
  subst hn hg
  refine (values_calls (some ⟨w.heap.size, 0, none⟩) c l _ (C_bools l _ w.heap.size cs hcs (blk_new w _) (by omega)) hc hl (lt_alloc hlt hB _)).mono ?_
  rintro e w2 ⟨he, hb⟩
  exact ⟨he, below_step hB (below_step (below_alloc (Below.refl _ w) _) hb)⟩
theorem EM.less {w : World} {b base : Nat} {v : Value} {l : List UInt8} (h : EM w b v l) (hle : base ≤ b) : EM w base v l := by
  obtain ⟨g, cap, cur, fz, h0, h1, h2⟩ := h
  exact ⟨g, cap, cur, fz, h0, Nat.le_trans hle h1, h2⟩
theorem print_lit (w0 w : World) (A1 : Option Addr) (c1 : Nat) (o : Obj) (hC : kcs.C w A1 2 [[1, -2], [2]]) (hc : 2 ≤ c1) (hlt : LT w0.heap.size w0) (hB : Below w0.heap.size w0 w) : Calls Tryz.prog 21 #[.agg #[.int .i64 2, .slice A1 2 c1]] (w.alloc o) fun e w' => ∃ ge ce, e = .returned (.tuple #[.slice (some ⟨ge, 0, none⟩) 21 ce, .int .i64 0]) ∧ EM w' w.heap.size (.slice (some ⟨ge, 0, none⟩) 21 ce) wP1 ∧ Below w0.heap.size w0 w' := by
  have hdr : dRight 2 [[1, -2], [2]] = 0 := (dRight_zero _ _).2 w_right
  have hpr : (dPrint 2 [[1, -2], [2]]).2 = 0 := by unfold dPrint; rw [if_pos hdr]
  have hg : ∀ q ∈ ([[1, -2], [2]] : List (List Int)), q.length ≤ 140737488355328 ∧ ∀ x ∈ q, I32 x := by
    intro q hq
    simp only [List.mem_cons, List.not_mem_nil, or_false] at hq
    rcases hq with rfl | rfl
    · refine ⟨by simp, ?_⟩
      intro x hx
      simp only [List.mem_cons, List.not_mem_nil, or_false] at hx
      unfold I32; omega
    · refine ⟨by simp, ?_⟩
      intro x hx
      simp only [List.mem_cons, List.not_mem_nil, or_false] at hx
      unfold I32; omega
  have h := print_calls 2 A1 c1 [[1, -2], [2]] (w.alloc o) (Kd.C_below hC (below_alloc (Below.refl _ _) _)) hc hg (by simp) (by simp) (lt_alloc hlt hB _)
  rw [hpr] at h
  refine h.mono ?_
  rintro e w5 ⟨rv, he, ⟨hem, _⟩, hb⟩
  have hem1 := hem hdr
  rw [w_text] at hem1
  obtain ⟨ge, ce, rfl, _, _, _⟩ := hem1.slice
  rw [show wP1.length = 21 from rfl] at he hem1
  exact ⟨ge, ce, he, EM.less hem1 (by rw [World.size_alloc]; omega), below_step (below_alloc hB _) hb⟩
theorem str_lit {w : World} {base g n c : Nat} {l : List UInt8} (h : EM w base (.slice (some ⟨g, 0, none⟩) n c) l) (hn : l.length = n) (o : Obj) : Sem.run Tryz.prog (convert 46 9 (.slice (some ⟨g, 0, none⟩) n c)) (w.alloc o) = .ok (.string (baOf l)) (w.alloc o) := by
  subst hn
  rw [Kd.C_string (P := Tryz.prog) (c := c) Tryz.underlying46 Tryz.underlying5 Tryz.underlying9 (h.below (below_alloc (Below.refl _ _) o)).C, bI_str]
set_option maxHeartbeats 400000 in
set_option maxRecDepth 100000 in
theorem works_calls (w : World) (hlt : LT w.heap.size w) : Calls Tryz.prog 8 #[] w fun e w' => e = .returned (.bool true) ∧ Below w.heap.size w w' := by
  have HLT := Aside0.mk hlt
  obtain ⟨sP, hsP⟩ : ∃ sP, sP = baOf wP1 := ⟨_, rfl⟩
  obtain ⟨sV, hsV⟩ : ∃ sV, sV = baOf wV1 := ⟨_, rfl⟩
  have p1 : (sP.toList == ([112, 32, 99, 110, 102, 32, 50, 32, 50, 10, 49, 32, 45, 50, 32, 48, 10, 50, 32, 48, 10] : List UInt8)) = true := by rw [hsP, word_eq]; exact decide_eq_true rfl
  have p2 : (sV.toList == ([118, 32, 49, 32, 45, 50, 32, 48, 10] : List UInt8)) = true := by rw [hsV, word_eq]; exact decide_eq_true rfl
  have HSP := Aside0.mk hsP
  have HSV := Aside0.mk hsV
  have HDR := Aside0.mk ((dRight_zero _ _).2 w_right)
  have HPR := Aside0.mk (show (dPrint 2 [[1, -2], [2]]).2 = 0 by unfold dPrint; rw [if_pos HDR.out])
  clear hlt hsP hsV
  have TOK := Aside0.mk trivial
  have kc := fun (w : World) (C : Array Value) (n c : Nat) => Lib.run_convert_bytes_const (P := Tryz.prog) w 46 5 C n c Tryz.underlying46 Tryz.underlying5
  go_enter Tryz.func8, Tryz.ntmps8
  go_wp2_with (first | (go_at_call 20; have := TOK; clear TOK this; refine (parse_lit w w wT1 25 25 #[.int .u8 99, .int .u8 32, .int .u8 120, .int .u8 10, .int .u8 112, .int .u8 32, .int .u8 99, .int .u8 110, .int .u8 102, .int .u8 32, .int .u8 50, .int .u8 32, .int .u8 50, .int .u8 10, .int .u8 49, .int .u8 32, .int .u8 45, .int .u8 50, .int .u8 32, .int .u8 48, .int .u8 32, .int .u8 50, .int .u8 10, .int .u8 48, .int .u8 10] rfl cs_T1 (by decide) HLT.out (Below.refl _ _) (Nat.le_refl _)).mono ?_; rw [w_parse1]; rintro e w2 ⟨A1, c1, rfl, hC, hcc, hb, _⟩; have HB2 := Aside0.mk hb; have HC2 := Aside0.mk hC; have HE2 := Aside0.mk hcc; clear hC hb hcc) | (go_at_call 21; refine (print_lit w w2 A1 c1 _ HC2.out HE2.out HLT.out HB2.out).mono ?_; rintro e w5 ⟨ge, ce, rfl, hem, hb⟩; have HEM5 := Aside0.mk hem; have HB5 := Aside0.mk hb; clear hem hb) | (go_at_call 20; refine (parse_lit w w5 wT2 14 14 #[.int .u8 112, .int .u8 32, .int .u8 99, .int .u8 110, .int .u8 102, .int .u8 32, .int .u8 50, .int .u8 32, .int .u8 49, .int .u8 10, .int .u8 51, .int .u8 32, .int .u8 48, .int .u8 10] rfl cs_T2 (by decide) HLT.out HB5.out (Nat.le_refl _)).mono ?_; rw [w_parse2]; rintro e w7 ⟨A7, c7, rfl, _, _, hb, hb5⟩; have HB7 := Aside0.mk hb; have hcv := str_lit (HEM5.out.below hb5) rfl (.cells #[.int .i64 0, .slice A7 0 c7] 35); rw [← HSP.out] at hcv; clear hb hb5) | (go_at_call 12; refine (values_lit w (w7.alloc (.cells #[.int .i64 0, .slice A7 0 c7] 35)) (w7.heap.size + 1) [true, false] 2 2 #[.bool true, .bool false] (World.size_alloc _ _).symm rfl rfl (by decide) HLT.out (below_alloc HB7.out _) (Nat.le_refl _)).mono ?_; rw [w_values, ← HSV.out]; rintro e w10 ⟨rfl, hb⟩; have HB10 := Aside0.mk hb; clear hb))
  go_ret
  exact ⟨rfl, HB10.out⟩
end Go.Proofs.YtigloobbpcnnhaaGreatDoor.PB
end
