import Derived.Test.YtfjnkbkcoakooaaDoorPure2
import Derived.Test.YtfjnkbkcoakooaaDoorFThreshingref04May
namespace Go.Proofs.YtfjnkbkcoakooaaDoor.PB
open Go.RowKit Go.Proofs.YtfjnkbkcoakooaaDoorW.PrintWords Go.Proofs.YtfjnkbkcoakooaaDoorW.PrintLast Go.Proofs.YtfjnkbkcoakooaaDoorW.PrintMore
set_option linter.unusedVariables false
set_option linter.unusedSimpArgs false
/-! ### May -/
theorem rmay_l1 (a b : Int) (x2 x3 : List Int) (hn : x3.length ≤ 9223372036854775806) (d : Nat) : ∀ i : Nat, i + d = x3.length → Ev (fun k => threshingref04_May.l1 k (i : Int) a b x2 x3) ((x3.drop i).all (Bhint a)) := by
  induction d with
  | zero =>
    intro i hi
    refine Ev_succ ?_
    simp only [threshingref04_May.l1, if_neg (show ¬ ((i : Int) < (x3.length : Int)) by omega)]
    rw [List.drop_of_length_le (by omega)]
    exact Ev.now _
  | succ d ih =>
    intro i hi
    have hlt : i < x3.length := by omega
    have hr := rd_nat x3 i hlt
    have hih := ih (i + 1) (by omega)
    refine Ev_succ ?_
    simp only [threshingref04_May.l1, if_pos (show (i : Int) < (x3.length : Int) by omega), if_pos (show 0 ≤ (i : Int) by omega), hr, wrap_cast (show i ≤ 9223372036854775806 by omega)]
    rw [List.drop_eq_getElem_cons hlt, List.all_cons]
    generalize x3[i] = h
    rw [show Bhint a h = (!decide (h = 0) && decide (-4611686018427387903 ≤ h) && decide (h ≤ 4611686018427387903) && (decide (0 < h) || !decide (a = 2))) from rfl]
    by_cases c1 : h = 0
    · simp only [c1, if_true, decide_true, Bool.not_true, Bool.false_and]; exact Ev.now _
    simp only [if_neg c1]
    by_cases c3 : h > 4611686018427387903
    · simp only [if_pos c3, decide_eq_false (show ¬ (h ≤ 4611686018427387903) by omega), Bool.and_false, Bool.false_and]; exact Ev.now _
    simp only [if_neg c3]
    by_cases c2 : h < -4611686018427387903
    · simp only [if_pos c2, decide_eq_false (show ¬ (-4611686018427387903 ≤ h) by omega), Bool.and_false, Bool.false_and]; exact Ev.now _
    simp only [if_neg c2, decide_eq_false c1, decide_eq_true (show -4611686018427387903 ≤ h by omega), decide_eq_true (show h ≤ 4611686018427387903 by omega), Bool.not_false, Bool.true_and]
    by_cases c4 : h < 0
    · simp only [if_pos c4, decide_eq_false (show ¬ 0 < h by omega), Bool.false_or]
      by_cases c5 : a = 2
      · simp only [if_pos c5, decide_eq_true c5, Bool.not_true, Bool.false_and]; exact Ev.now _
      · simp only [if_neg c5, decide_eq_false c5, Bool.not_false, Bool.true_and]; exact hih
    · simp only [if_neg c4, decide_eq_true (show 0 < h by omega), Bool.true_or, Bool.true_and]; exact hih
theorem rlit_f (x : Int) : threshingref04_Lit.f x = some (Blit x) := by
  unfold threshingref04_Lit.f Blit
  by_cases c1 : x = 0
  · rw [if_pos c1]; simp [c1]
  rw [if_neg c1]
  by_cases c2 : x ≥ -1048576
  · rw [if_pos c2]; simp [c1, show -1048576 ≤ x by omega]
  · rw [if_neg c2]; simp [show ¬ (-1048576 ≤ x) by omega]
theorem rmay_l0 (a b : Int) (x2 x3 : List Int) (hn : x2.length ≤ 9223372036854775806) (hn3 : x3.length ≤ 9223372036854775806) (d : Nat) : ∀ i : Nat, i + d = x2.length → Ev (fun k => threshingref04_May.l0 k (i : Int) a b x2 x3) ((x2.drop i).all Blit && x3.all (Bhint a)) := by
  induction d with
  | zero =>
    intro i hi
    refine Ev_succ ?_
    simp only [threshingref04_May.l0, if_neg (show ¬ ((i : Int) < (x2.length : Int)) by omega)]
    rw [List.drop_of_length_le (by omega)]
    simpa using rmay_l1 a b x2 x3 hn3 x3.length 0 (by omega)
  | succ d ih =>
    intro i hi
    have hlt : i < x2.length := by omega
    have hr := rd_nat x2 i hlt
    have hih := ih (i + 1) (by omega)
    refine Ev_succ ?_
    simp only [threshingref04_May.l0, if_pos (show (i : Int) < (x2.length : Int) by omega), if_pos (show 0 ≤ (i : Int) by omega), hr, rlit_f, Option.bind_some, wrap_cast (show i ≤ 9223372036854775806 by omega)]
    rw [List.drop_eq_getElem_cons hlt, List.all_cons]
    cases Blit x2[i] with
    | false => simp only [Bool.false_and]; exact Ev.now _
    | true => simp only [if_true, Bool.true_and]; exact hih
theorem rmay_ev (s : S43) (hn : s.f2.length ≤ 9223372036854775806) (hn3 : s.f3.length ≤ 9223372036854775806) : Ev (fun k => threshingref04_May.f k s.f0 s.f1 s.f2 s.f3) (Bmay s) := by
  have h0 := rmay_l0 s.f0 s.f1 s.f2 s.f3 hn hn3 s.f2.length 0 (by omega)
  simp only [List.drop_zero] at h0
  have h1 : ∀ b, Ev (fun k => threshingref04_May.j1 k b s.f0 s.f1 s.f2 s.f3) (!b && (s.f2.all Blit && s.f3.all (Bhint s.f0))) := by
    intro b
    refine Ev_succ ?_
    cases b with
    | true => simp only [threshingref04_May.j1, if_true]; exact Ev.now _
    | false => simp only [threshingref04_May.j1, Bool.false_eq_true, if_false, Bool.not_false, Bool.true_and]; exact h0
  have h2 : ∀ m, Ev (fun k => threshingref04_May.j0 k m s.f0 s.f1 s.f2 s.f3) (decide (m ≤ s.f1) && decide (s.f1 ≤ 4611686018427387903) && (s.f2.all Blit && s.f3.all (Bhint s.f0))) := by
    intro m
    refine Ev_succ ?_
    by_cases c : s.f1 < m
    · simp only [threshingref04_May.j0, if_pos c, decide_eq_false (show ¬ m ≤ s.f1 by omega), Bool.false_and]
      simpa using h1 true
    · simp only [threshingref04_May.j0, if_neg c, decide_eq_true (show m ≤ s.f1 by omega), Bool.true_and]
      have := h1 (decide (s.f1 > 4611686018427387903))
      have e : (!decide (s.f1 > 4611686018427387903)) = decide (s.f1 ≤ 4611686018427387903) := by
        by_cases c2 : s.f1 ≤ 4611686018427387903
        · rw [decide_eq_true c2, decide_eq_false (by omega)]; rfl
        · rw [decide_eq_false c2, decide_eq_true (by omega)]; rfl
      rw [e] at this
      exact this
  have e : Bmay s = ((decide (s.f0 = 1) && decide (1 ≤ s.f1) || decide (s.f0 = 2) && decide (0 ≤ s.f1) && decide (s.f2.length = 0)) && decide (s.f1 ≤ 4611686018427387903) && s.f2.all Blit && s.f3.all (Bhint s.f0)) := rfl
  rw [e]
  unfold threshingref04_May.f
  by_cases c1 : s.f0 = 1
  · simp only [if_pos c1]
    have := h2 1
    simp only [decide_eq_true c1, decide_eq_false (show ¬ s.f0 = 2 by omega), Bool.true_and, Bool.false_and, Bool.or_false, Bool.and_assoc] at this ⊢
    exact this
  simp only [if_neg c1]
  by_cases c2 : s.f0 = 2
  · simp only [if_pos c2]
    by_cases c3 : (s.f2.length : Int) > 0
    · simp only [if_pos c3, decide_eq_false c1, decide_eq_false (show ¬ s.f2.length = 0 by omega), Bool.false_and, Bool.and_false, Bool.or_false]
      exact Ev.now _
    · simp only [if_neg c3]
      have := h2 0
      simp only [decide_eq_false c1, decide_eq_true c2, decide_eq_true (show s.f2.length = 0 by omega), Bool.true_and, Bool.false_and, Bool.and_true, Bool.false_or, Bool.and_assoc] at this ⊢
      exact this
  · simp only [if_neg c2, decide_eq_false c1, decide_eq_false c2, Bool.false_and, Bool.or_false]
    exact Ev.now _

end Go.Proofs.YtfjnkbkcoakooaaDoor.PB
