import Derived.Test.YtlimaebaagabaaaPure3
import Derived.Test.YtlimaebaagabaaaFThreshingref04Size
import Derived.Test.YtlimaebaagabaaaFThreshingref04Lent
import Derived.Test.YtlimaebaagabaaaFThreshingref05Write
namespace Go.Proofs.Ytlimaebaagabaaa.PB
open Go.RowKit Go.Proofs.YtlimaebaagabaaaW.PrintWords Go.Proofs.YtlimaebaagabaaaW.PrintLast Go.Proofs.YtlimaebaagabaaaW.PrintMore
set_option linter.unusedVariables false
set_option linter.unusedSimpArgs false

theorem Ev_succ {α : Type} {g : Nat → Option α} {r : α} (h : Ev (fun k => g (k + 1)) r) : Ev g r := Ev.step (fun _ => rfl) h
theorem wrap_cast {n : Nat} (h : n ≤ 9223372036854775806) : wrap64 ((n : Int) + 1) = ((n + 1 : Nat) : Int) := by unfold wrap64; omega

theorem wrap_id {x : Int} (h0 : -9223372036854775808 ≤ x) (h1 : x ≤ 9223372036854775807) : wrap64 x = x := by unfold wrap64; omega
theorem mn_nat (a b : Nat) : mn (a : Int) (b : Int) = ((min a b : Nat) : Int) := by unfold mn; split <;> omega
theorem Bhints_cons (x : Int) (l : List Int) : Bhints (x :: l) = Bput x ++ Bhints l := rfl
theorem Blits_cons (x : Int) (l : List Int) : Blits (x :: l) = Bput (wrap64 x) ++ Blits l := rfl

theorem sum_three (n a b : Nat) (hn : n ≤ 100000000) (ha : a ≤ 100000000) (hb : b ≤ 100000000) : wrap64 ((wrap64 ((wrap64 ((n : Int) + 1)) + (a : Int))) + (b : Int)) = ((n + 1 + a + b : Nat) : Int) := by
  have e1 : wrap64 ((n : Int) + 1) = (n : Int) + 1 := wrap_id (by omega) (by omega)
  rw [e1]
  have e2 : wrap64 ((n : Int) + 1 + (a : Int)) = (n : Int) + 1 + (a : Int) := wrap_id (by omega) (by omega)
  rw [e2]
  have e3 : wrap64 ((n : Int) + 1 + (a : Int) + (b : Int)) = (n : Int) + 1 + (a : Int) + (b : Int) := wrap_id (by omega) (by omega)
  rw [e3]
  omega

/-! ### Size -/
theorem size_l0 (l : List S43) (hl : l.length ≤ 9223372036854775807) (d : Nat) : ∀ (i n : Nat), i + d = l.length → n = i + Btot (l.take i) → n ≤ 6000 →
    ∃ m : Int, Ev (fun k => threshingref04_Size.l0 k l 6000 (n : Int) (i : Int)) m ∧ (m ≤ 6000 → l.length + Btot l ≤ 6000) := by
  induction d with
  | zero =>
    intro i n hi hn h6
    refine ⟨n, Ev_succ ?_, fun _ => ?_⟩
    · simp only [threshingref04_Size.l0, if_neg (show ¬ ((i : Int) < (l.length : Int)) by omega)]
      exact Ev.now _
    · rw [List.take_of_length_le (by omega)] at hn; omega
  | succ d ih =>
    intro i n hi hn h6
    have hlt : (i : Int) < (l.length : Int) := by omega
    have htk := rd43_nat l (i : Int) (by omega) hlt
    have e1 : ((i : Int) + 1).toNat = i + 1 := by omega
    rw [e1, Int.toNat_natCast] at htk
    obtain ⟨s, hs⟩ : ∃ s, s = rd_T43 l (i : Int) := ⟨_, rfl⟩
    rw [← hs] at htk
    have hbt : Btot (l.take (i + 1)) = Btot (l.take i) + (s.f2.length + s.f3.length) := by rw [htk, Btot_append]; simp only [Btot]; omega
    obtain ⟨a2, ha2⟩ : ∃ a, a = min s.f2.length 6000 := ⟨_, rfl⟩
    obtain ⟨a3, ha3⟩ : ∃ a, a = min s.f3.length 6000 := ⟨_, rfl⟩
    have h2a : a2 ≤ s.f2.length ∧ a2 ≤ 6000 ∧ (a2 < 6000 → a2 = s.f2.length) := by omega
    have h3a : a3 ≤ s.f3.length ∧ a3 ≤ 6000 ∧ (a3 < 6000 → a3 = s.f3.length) := by omega
    have key : ∃ m : Int, Ev (fun k => threshingref04_Size.l0 k l 6000 ((n + 1 + a2 + a3 : Nat) : Int) ((i + 1 : Nat) : Int)) m ∧ (m ≤ 6000 → l.length + Btot l ≤ 6000) := by
      by_cases hb : n + 1 + a2 + a3 ≤ 6000
      · exact ih (i + 1) (n + 1 + a2 + a3) (by omega) (by rw [hbt]; omega) hb
      · refine ⟨((n + 1 + a2 + a3 : Nat) : Int), Ev_succ ?_, fun h => by omega⟩
        by_cases hend : ((i + 1 : Nat) : Int) < (l.length : Int)
        · simp only [threshingref04_Size.l0, if_pos hend, if_neg (show ¬ (((n + 1 + a2 + a3 : Nat) : Int) ≤ 6000) by omega)]
          exact Ev.now _
        · simp only [threshingref04_Size.l0, if_neg hend]
          exact Ev.now _
    have z1 : (n : Int) ≤ 6000 := by omega
    have z2 : 0 ≤ (i : Int) := by omega
    have q1 : n ≤ 100000000 := by omega
    have q2 : a2 ≤ 100000000 := by omega
    have q3 : a3 ≤ 100000000 := by omega
    have q4 : i ≤ 9223372036854775806 := by omega
    clear ha2 ha3
    have em2 : mn (s.f2.length : Int) 6000 = (a2 : Int) := by
      clear key ih htk hbt hs hn
      unfold mn
      by_cases h : (6000 : Int) < s.f2.length
      · rw [if_pos h]; omega
      · rw [if_neg h]; omega
    have em3 : mn (s.f3.length : Int) 6000 = (a3 : Int) := by
      clear key ih htk hbt hs hn em2
      unfold mn
      by_cases h : (6000 : Int) < s.f3.length
      · rw [if_pos h]; omega
      · rw [if_neg h]; omega
    have z3 := wrap_cast q4
    have ew := sum_three n a2 a3 q1 q2 q3
    obtain ⟨m, h1, h2⟩ := key
    refine ⟨m, Ev_succ ?_, h2⟩
    simp only [threshingref04_Size.l0, if_pos hlt, if_pos z1, if_pos z2, ← hs, em2, em3, ew, z3]
    exact h1
theorem size_ev (l : List S43) (hl : l.length ≤ 9223372036854775807) : ∃ m : Int, Ev (fun k => threshingref04_Size.f k l 6000) m ∧ (m ≤ 6000 → l.length + Btot l ≤ 6000) :=
  size_l0 l hl l.length 0 0 (by omega) (by simp [Btot]) (by omega)

/-! ### Lent -/
theorem lent_ev (l : List S43) (hl : l.length ≤ 6000) (ht : Btot l ≤ 6000) : Ev (fun k => threshingref04_Lent.f k l) l := by
  have key : ∀ (d i : Nat), i + d = l.length → Ev (fun k => threshingref04_Lent.l0 k l (l.take i) (i : Int)) l := by
    intro d
    induction d with
    | zero =>
      intro i hi
      refine Ev_succ ?_
      simp only [threshingref04_Lent.l0, if_neg (show ¬ ((i : Int) < (l.length : Int)) by omega), List.take_of_length_le (show l.length ≤ i by omega)]
      exact Ev.now _
    | succ d ih =>
      intro i hi
      have hlt : (i : Int) < (l.length : Int) := by omega
      have htk := rd43_nat l (i : Int) (by omega) hlt
      have e1 : ((i : Int) + 1).toNat = i + 1 := by omega
      rw [e1, Int.toNat_natCast] at htk
      have hm := Btot_mem l _ (rd43_mem l (i : Int) (by omega) hlt)
      have hlen : (l.take i).length ≤ i := List.length_take_le _ _
      refine Ev_succ ?_
      simp only [threshingref04_Lent.l0, if_pos hlt, if_pos (show 0 ≤ (i : Int) by omega), List.nil_append, List.length_nil, Nat.zero_add, if_pos (show (rd_T43 l (i : Int)).f2.length < 35184372088832 by omega), if_pos (show (rd_T43 l (i : Int)).f3.length < 17592186044416 by omega), if_pos (show (l.take i).length < 2199023255552 by omega), wrap_cast (show i ≤ 9223372036854775806 by omega)]
      rw [← htk]
      exact ih (i + 1) (by omega)
  exact key l.length 0 (by omega)

/-! ### Large -/
theorem large_ev (l : List S43) (hl : l.length ≤ 6000) (ht : Btot l ≤ 6000) : Ev (fun k => threshingref04_Large.f k l) false := by
  have key : ∀ (d i : Nat), i + d = l.length → Ev (fun k => threshingref04_Large.l0 k l (Btot (l.take i) : Nat) (i : Int)) false := by
    intro d
    induction d with
    | zero =>
      intro i hi
      refine Ev_succ ?_
      rw [List.take_of_length_le (show l.length ≤ i by omega)]
      simp only [threshingref04_Large.l0, if_neg (show ¬ ((i : Int) < (l.length : Int)) by omega), if_neg (show ¬ ((l.length : Int) > 4194304) by omega), decide_eq_false (show ¬ ((Btot l : Int) > 16777216) by omega)]
      exact Ev.now _
    | succ d ih =>
      intro i hi
      have hlt : (i : Int) < (l.length : Int) := by omega
      have htk := rd43_nat l (i : Int) (by omega) hlt
      have e1 : ((i : Int) + 1).toNat = i + 1 := by omega
      rw [e1, Int.toNat_natCast] at htk
      have hm := Btot_mem l _ (rd43_mem l (i : Int) (by omega) hlt)
      have hle := Btot_take_le l i
      obtain ⟨s, hs⟩ : ∃ s, s = rd_T43 l (i : Int) := ⟨_, rfl⟩
      rw [← hs] at htk hm
      have hbt : Btot (l.take (i + 1)) = Btot (l.take i) + (s.f2.length + s.f3.length) := by rw [htk, Btot_append]; simp only [Btot]; omega
      have z1 : ((Btot (l.take i) : Nat) : Int) ≤ 16777216 := by omega
      have z2 : 0 ≤ (i : Int) := by omega
      have z3 := wrap_cast (show i ≤ 9223372036854775806 by omega)
      have hih := ih (i + 1) (by omega)
      have em2 : mn (s.f2.length : Int) 16777217 = (s.f2.length : Int) := by unfold mn; rw [if_neg (by omega)]
      have em3 : mn (s.f3.length : Int) 16777217 = (s.f3.length : Int) := by unfold mn; rw [if_neg (by omega)]
      have ew : wrap64 ((wrap64 (((Btot (l.take i) : Nat) : Int) + (s.f2.length : Int))) + (s.f3.length : Int)) = ((Btot (l.take (i + 1)) : Nat) : Int) := by
        rw [hbt, wrap_id (x := ((Btot (l.take i) : Nat) : Int) + (s.f2.length : Int)) (by omega) (by omega), wrap_id (by omega) (by omega)]
        omega
      refine Ev_succ ?_
      simp only [threshingref04_Large.l0, if_pos hlt, if_pos z1, if_pos z2, ← hs, em2, em3, ew, z3]
      exact hih
  exact key l.length 0 (by omega)

/-! ### May -/
theorem rmay_l1 (a b : Int) (x2 x3 : List Int) (hn : x3.length ≤ 9223372036854775806) (d : Nat) : ∀ i : Nat, i + d = x3.length → Ev (fun k => threshingref04_May.l1 k (i : Int) a b x2 x3) ((x3.drop i).all (Bhint a)) := by
  induction d with
  | zero =>
    intro i hi
    refine Ev_succ ?_
    simp only [threshingref04_May.l1, if_neg (show ¬ ((i : Int) < (x3.length : Int)) by omega)]
    rw [List.drop_of_length_le (by omega)]
    exact Ev.now _
  | succ d ih =>
    intro i hi
    have hlt : i < x3.length := by omega
    have hr := rd_nat x3 i hlt
    have hih := ih (i + 1) (by omega)
    refine Ev_succ ?_
    simp only [threshingref04_May.l1, if_pos (show (i : Int) < (x3.length : Int) by omega), if_pos (show 0 ≤ (i : Int) by omega), hr, wrap_cast (show i ≤ 9223372036854775806 by omega)]
    rw [List.drop_eq_getElem_cons hlt, List.all_cons]
    generalize x3[i] = h
    rw [show Bhint a h = (!decide (h = 0) && decide (-4611686018427387903 ≤ h) && decide (h ≤ 4611686018427387903) && (decide (0 < h) || !decide (a = 2))) from rfl]
    by_cases c1 : h = 0
    · simp only [c1, if_true, decide_true, Bool.not_true, Bool.false_and]; exact Ev.now _
    simp only [if_neg c1]
    by_cases c3 : h > 4611686018427387903
    · simp only [if_pos c3, decide_eq_false (show ¬ (h ≤ 4611686018427387903) by omega), Bool.and_false, Bool.false_and]; exact Ev.now _
    simp only [if_neg c3]
    by_cases c2 : h < -4611686018427387903
    · simp only [if_pos c2, decide_eq_false (show ¬ (-4611686018427387903 ≤ h) by omega), Bool.and_false, Bool.false_and]; exact Ev.now _
    simp only [if_neg c2, decide_eq_false c1, decide_eq_true (show -4611686018427387903 ≤ h by omega), decide_eq_true (show h ≤ 4611686018427387903 by omega), Bool.not_false, Bool.true_and]
    by_cases c4 : h < 0
    · simp only [if_pos c4, decide_eq_false (show ¬ 0 < h by omega), Bool.false_or]
      by_cases c5 : a = 2
      · simp only [if_pos c5, decide_eq_true c5, Bool.not_true, Bool.false_and]; exact Ev.now _
      · simp only [if_neg c5, decide_eq_false c5, Bool.not_false, Bool.true_and]; exact hih
    · simp only [if_neg c4, decide_eq_true (show 0 < h by omega), Bool.true_or, Bool.true_and]; exact hih
theorem rlit_f (x : Int) : threshingref04_Lit.f x = some (Blit x) := by
  unfold threshingref04_Lit.f Blit
  by_cases c1 : x = 0
  · rw [if_pos c1]; simp [c1]
  rw [if_neg c1]
  by_cases c2 : x ≥ -1048576
  · rw [if_pos c2]; simp [c1, show -1048576 ≤ x by omega]
  · rw [if_neg c2]; simp [show ¬ (-1048576 ≤ x) by omega]
theorem rmay_l0 (a b : Int) (x2 x3 : List Int) (hn : x2.length ≤ 9223372036854775806) (hn3 : x3.length ≤ 9223372036854775806) (d : Nat) : ∀ i : Nat, i + d = x2.length → Ev (fun k => threshingref04_May.l0 k (i : Int) a b x2 x3) ((x2.drop i).all Blit && x3.all (Bhint a)) := by
  induction d with
  | zero =>
    intro i hi
    refine Ev_succ ?_
    simp only [threshingref04_May.l0, if_neg (show ¬ ((i : Int) < (x2.length : Int)) by omega)]
    rw [List.drop_of_length_le (by omega)]
    simpa using rmay_l1 a b x2 x3 hn3 x3.length 0 (by omega)
  | succ d ih =>
    intro i hi
    have hlt : i < x2.length := by omega
    have hr := rd_nat x2 i hlt
    have hih := ih (i + 1) (by omega)
    refine Ev_succ ?_
    simp only [threshingref04_May.l0, if_pos (show (i : Int) < (x2.length : Int) by omega), if_pos (show 0 ≤ (i : Int) by omega), hr, rlit_f, Option.bind_some, wrap_cast (show i ≤ 9223372036854775806 by omega)]
    rw [List.drop_eq_getElem_cons hlt, List.all_cons]
    cases Blit x2[i] with
    | false => simp only [Bool.false_and]; exact Ev.now _
    | true => simp only [if_true, Bool.true_and]; exact hih
theorem rmay_ev (s : S43) (hn : s.f2.length ≤ 9223372036854775806) (hn3 : s.f3.length ≤ 9223372036854775806) : Ev (fun k => threshingref04_May.f k s.f0 s.f1 s.f2 s.f3) (Bmay s) := by
  have h0 := rmay_l0 s.f0 s.f1 s.f2 s.f3 hn hn3 s.f2.length 0 (by omega)
  simp only [List.drop_zero] at h0
  have h1 : ∀ b, Ev (fun k => threshingref04_May.j1 k b s.f0 s.f1 s.f2 s.f3) (!b && (s.f2.all Blit && s.f3.all (Bhint s.f0))) := by
    intro b
    refine Ev_succ ?_
    cases b with
    | true => simp only [threshingref04_May.j1, if_true]; exact Ev.now _
    | false => simp only [threshingref04_May.j1, Bool.false_eq_true, if_false, Bool.not_false, Bool.true_and]; exact h0
  have h2 : ∀ m, Ev (fun k => threshingref04_May.j0 k m s.f0 s.f1 s.f2 s.f3) (decide (m ≤ s.f1) && decide (s.f1 ≤ 4611686018427387903) && (s.f2.all Blit && s.f3.all (Bhint s.f0))) := by
    intro m
    refine Ev_succ ?_
    by_cases c : s.f1 < m
    · simp only [threshingref04_May.j0, if_pos c, decide_eq_false (show ¬ m ≤ s.f1 by omega), Bool.false_and]
      simpa using h1 true
    · simp only [threshingref04_May.j0, if_neg c, decide_eq_true (show m ≤ s.f1 by omega), Bool.true_and]
      have := h1 (decide (s.f1 > 4611686018427387903))
      have e : (!decide (s.f1 > 4611686018427387903)) = decide (s.f1 ≤ 4611686018427387903) := by
        by_cases c2 : s.f1 ≤ 4611686018427387903
        · rw [decide_eq_true c2, decide_eq_false (by omega)]; rfl
        · rw [decide_eq_false c2, decide_eq_true (by omega)]; rfl
      rw [e] at this
      exact this
  have e : Bmay s = ((decide (s.f0 = 1) && decide (1 ≤ s.f1) || decide (s.f0 = 2) && decide (0 ≤ s.f1) && decide (s.f2.length = 0)) && decide (s.f1 ≤ 4611686018427387903) && s.f2.all Blit && s.f3.all (Bhint s.f0)) := rfl
  rw [e]
  unfold threshingref04_May.f
  by_cases c1 : s.f0 = 1
  · simp only [if_pos c1]
    have := h2 1
    simp only [decide_eq_true c1, decide_eq_false (show ¬ s.f0 = 2 by omega), Bool.true_and, Bool.false_and, Bool.or_false, Bool.and_assoc] at this ⊢
    exact this
  simp only [if_neg c1]
  by_cases c2 : s.f0 = 2
  · simp only [if_pos c2]
    by_cases c3 : (s.f2.length : Int) > 0
    · simp only [if_pos c3, decide_eq_false c1, decide_eq_false (show ¬ s.f2.length = 0 by omega), Bool.false_and, Bool.and_false, Bool.or_false]
      exact Ev.now _
    · simp only [if_neg c3]
      have := h2 0
      simp only [decide_eq_false c1, decide_eq_true c2, decide_eq_true (show s.f2.length = 0 by omega), Bool.true_and, Bool.false_and, Bool.and_true, Bool.false_or, Bool.and_assoc] at this ⊢
      exact this
  · simp only [if_neg c2, decide_eq_false c1, decide_eq_false c2, Bool.false_and, Bool.or_false]
    exact Ev.now _

/-! ### put -/
theorem rput_l0 : ∀ (j : Nat) (c : Int) (bs : List Int), 0 ≤ c → c < 128 ^ (j + 1) → bs.length + j + 1 < 140737488355328 → Ev (fun k => threshingref05_put.l0 k bs c) (bs ++ Bvar j c) := by
  intro j
  induction j with
  | zero =>
    intro c bs h0 h1 hb
    have h1' : c < 128 := by simpa using h1
    refine Ev_succ ?_
    simp only [threshingref05_put.l0, if_neg (show ¬ c ≥ 128 by omega), if_pos (show bs.length < 140737488355328 by omega)]
    exact Ev.now _
  | succ j ih =>
    intro c bs h0 h1 hb
    refine Ev_succ ?_
    by_cases hc : c ≥ 128
    · have hi := ih (c / 128) (bs ++ [Go.bits .or .u8 (c % 256) 128]) (by omega) (by rw [Int.pow_succ] at h1; omega) (by simp only [List.length_append, List.length_singleton]; omega)
      rw [show Bvar (j + 1) c = (if 127 < c then Go.bits .or .u8 (c % 256) 128 :: Bvar j (c / 128) else [c % 256]) from rfl, if_pos (show 127 < c by omega)]
      simp only [threshingref05_put.l0, if_pos hc, if_pos (show bs.length < 140737488355328 by omega)]
      simpa using hi
    · rw [show Bvar (j + 1) c = (if 127 < c then Go.bits .or .u8 (c % 256) 128 :: Bvar j (c / 128) else [c % 256]) from rfl, if_neg (show ¬ 127 < c by omega)]
      simp only [threshingref05_put.l0, if_neg hc, if_pos (show bs.length < 140737488355328 by omega)]
      exact Ev.now _
theorem rput_ev (bs : List Int) (n : Int) (hb : bs.length + 11 < 140737488355328) : Ev (fun k => threshingref05_put.f k bs n) (bs ++ Bput n) := by
  have hr := Bcode_range n
  have h0 := rput_l0 10 (Bcode n) bs hr.1 hr.2 (by omega)
  have h1 : ∀ c, c = Bcode n → Ev (fun k => threshingref05_put.j0 k bs c) (bs ++ Bput n) := by
    rintro c rfl
    refine Ev_succ ?_
    simp only [threshingref05_put.j0]
    exact h0
  unfold threshingref05_put.f
  by_cases hn : n < 0
  · simp only [if_pos hn]
    exact h1 _ (by unfold Bcode; rw [if_pos hn])
  · simp only [if_neg hn]
    exact h1 _ (by unfold Bcode; rw [if_neg hn])

/-! ### step -/
theorem rstep_l1 (a b : Int) (x2 x3 : List Int) (hn : x3.length ≤ 1000000000) (d : Nat) : ∀ (i : Nat) (bs : List Int), i + d = x3.length → bs.length + 11 * d + 20 < 140737488355328 → Ev (fun k => threshingref05_step.l1 k bs (i : Int) a b x2 x3) (bs ++ (Bhints (x3.drop i) ++ Bput 0)) := by
  induction d with
  | zero =>
    intro i bs hi hb
    refine Ev_succ ?_
    simp only [threshingref05_step.l1, if_neg (show ¬ ((i : Int) < (x3.length : Int)) by omega), if_pos (show bs.length < 140737488355328 by omega)]
    rw [List.drop_of_length_le (by omega), Bput0]
    exact Ev.now _
  | succ d ih =>
    intro i bs hi hb
    have hlt : i < x3.length := by omega
    have hr := rd_nat x3 i hlt
    have hl := Bput_length x3[i]
    have hih := ih (i + 1) (bs ++ Bput x3[i]) (by omega) (by rw [List.length_append]; omega)
    refine Ev_succ ?_
    simp only [threshingref05_step.l1, if_pos (show (i : Int) < (x3.length : Int) by omega), if_pos (show 0 ≤ (i : Int) by omega), hr, wrap_cast (show i ≤ 9223372036854775806 by omega)]
    refine Ev.bind (rput_ev bs x3[i] (by omega)) ?_
    rw [List.drop_eq_getElem_cons hlt, Bhints_cons, List.append_assoc, ← List.append_assoc bs]
    exact hih
theorem rstep_j2 (a b : Int) (x2 x3 : List Int) (hn : x3.length ≤ 1000000000) (bs : List Int) (hb : bs.length + 11 * x3.length + 20 < 140737488355328) : Ev (fun k => threshingref05_step.j2 k bs a b x2 x3) (bs ++ (Bhints x3 ++ Bput 0)) := by
  refine Ev_succ ?_
  simp only [threshingref05_step.j2]
  simpa using rstep_l1 a b x2 x3 hn x3.length 0 bs (by omega) (by omega)
theorem rstep_l0 (a b : Int) (x2 x3 : List Int) (hn : x2.length ≤ 1000000000) (hn3 : x3.length ≤ 1000000000) (d : Nat) : ∀ (i : Nat) (bs : List Int), i + d = x2.length → bs.length + 11 * d + 11 * x3.length + 40 < 140737488355328 →
    Ev (fun k => threshingref05_step.l0 k bs (i : Int) a b x2 x3) (bs ++ (Blits (x2.drop i) ++ ((if a = 1 then [0] else []) ++ (Bhints x3 ++ Bput 0)))) := by
  induction d with
  | zero =>
    intro i bs hi hb
    refine Ev_succ ?_
    rw [List.drop_of_length_le (by omega)]
    by_cases ha : a = 1
    · simp only [threshingref05_step.l0, if_neg (show ¬ ((i : Int) < (x2.length : Int)) by omega), if_pos ha, if_pos (show bs.length < 140737488355328 by omega)]
      have := rstep_j2 a b x2 x3 hn3 (bs ++ [0]) (by rw [List.length_append, List.length_singleton]; omega)
      simpa [Blits] using this
    · simp only [threshingref05_step.l0, if_neg (show ¬ ((i : Int) < (x2.length : Int)) by omega), if_neg ha]
      have := rstep_j2 a b x2 x3 hn3 bs (by omega)
      simpa [Blits] using this
  | succ d ih =>
    intro i bs hi hb
    have hlt : i < x2.length := by omega
    have hr := rd_nat x2 i hlt
    have hl := Bput_length (wrap64 x2[i])
    have hih := ih (i + 1) (bs ++ Bput (wrap64 x2[i])) (by omega) (by rw [List.length_append]; omega)
    refine Ev_succ ?_
    simp only [threshingref05_step.l0, if_pos (show (i : Int) < (x2.length : Int) by omega), if_pos (show 0 ≤ (i : Int) by omega), hr, wrap_cast (show i ≤ 9223372036854775806 by omega)]
    refine Ev.bind (rput_ev bs (wrap64 x2[i]) (by omega)) ?_
    rw [List.drop_eq_getElem_cons hlt, Blits_cons, List.append_assoc, ← List.append_assoc bs]
    exact hih
theorem rstep_ev (bs : List Int) (s : S43) (hm : Bmay s = true) (hn : s.f2.length ≤ 1000000000) (hn3 : s.f3.length ≤ 1000000000) (hb : bs.length + 11 * s.f2.length + 11 * s.f3.length + 80 < 140737488355328) :
    Ev (fun k => threshingref05_step.f k bs s.f0 s.f1 s.f2 s.f3) (bs ++ Bstep s) := by
  obtain ⟨hk, _⟩ := Bmay_facts s hm
  have hl := Bput_length s.f1
  have h0 : ∀ b, (b = 97 ∨ b = 100) → Ev (fun k => threshingref05_step.j0 k (bs ++ [b]) s.f0 s.f1 s.f2 s.f3) ((bs ++ [b]) ++ (Bput s.f1 ++ (Blits s.f2 ++ ((if s.f0 = 1 then [0] else []) ++ (Bhints s.f3 ++ Bput 0))))) := by
    intro b _
    refine Ev_succ ?_
    simp only [threshingref05_step.j0]
    refine Ev.bind (rput_ev (bs ++ [b]) s.f1 (by rw [List.length_append, List.length_singleton]; omega)) ?_
    have := rstep_l0 s.f0 s.f1 s.f2 s.f3 hn hn3 s.f2.length 0 (bs ++ [b] ++ Bput s.f1) (by omega) (by simp only [List.length_append, List.length_singleton]; omega)
    simpa using this
  unfold threshingref05_step.f Bstep Bhead
  rcases hk with hk | ⟨hk, h2⟩
  · simp only [if_pos hk, if_pos (show bs.length < 140737488355328 by omega)]
    have := h0 97 (.inl rfl)
    rw [if_pos hk] at this
    rw [Bput0] at this ⊢
    simpa using this
  · have hk1 : ¬ s.f0 = 1 := by omega
    simp only [if_neg hk1, if_pos (show bs.length < 140737488355328 by omega)]
    have := h0 100 (.inr rfl)
    rw [if_neg hk1, h2] at this
    rw [h2]
    simpa [Blits] using this

/-! ### Write -/
theorem rwrite_ev (l : List S43) (hl : l.length ≤ 6000) (ht : Btot l ≤ 6000) : Ev (fun k => threshingref05_Write.f k l) (Bwrite l) := by
  have key : ∀ (d i : Nat), i + d = l.length → (l.take i).all Bmay = true → Ev (fun k => threshingref05_Write.l0 k l (Bsteps (l.take i)) (i : Int)) (if l.all Bmay then (Bsteps l, 0) else ([], 50)) := by
    intro d
    induction d with
    | zero =>
      intro i hi hall
      refine Ev_succ ?_
      rw [List.take_of_length_le (show l.length ≤ i by omega)] at hall ⊢
      simp only [threshingref05_Write.l0, if_neg (show ¬ ((i : Int) < (l.length : Int)) by omega), hall, if_true]
      exact Ev.now _
    | succ d ih =>
      intro i hi hall
      have hlt : (i : Int) < (l.length : Int) := by omega
      have htk := rd43_nat l (i : Int) (by omega) hlt
      have e1 : ((i : Int) + 1).toNat = i + 1 := by omega
      rw [e1, Int.toNat_natCast] at htk
      have hmem := rd43_mem l (i : Int) (by omega) hlt
      have hm := Btot_mem l _ hmem
      have hsl := Bsteps_length (l.take i)
      have htl := Btot_take_le l i
      have hll := List.length_take_le i l
      obtain ⟨s, hs⟩ : ∃ s, s = rd_T43 l (i : Int) := ⟨_, rfl⟩
      rw [← hs] at htk hm hmem
      refine Ev_succ ?_
      simp only [threshingref05_Write.l0, if_pos hlt, if_pos (show 0 ≤ (i : Int) by omega), ← hs]
      refine Ev.bind (rmay_ev s (by omega) (by omega)) ?_
      cases hmay : Bmay s with
      | false =>
        have hno : l.all Bmay = false := by
          cases ha : l.all Bmay with
          | false => rfl
          | true => have := List.all_eq_true.1 ha s hmem; rw [hmay] at this; cases this
        simp only [hno, Bool.false_eq_true, if_false]
        exact Ev.now _
      | true =>
        simp only [if_true]
        refine Ev.bind (rstep_ev (Bsteps (l.take i)) s hmay (by omega) (by omega) (by omega)) ?_
        have hih := ih (i + 1) (by omega) (by rw [htk, List.all_append, hall]; simp [hmay])
        rw [htk, Bsteps_append] at hih
        simp only [wrap_cast (show i ≤ 9223372036854775806 by omega)]
        simpa [Bsteps] using hih
  unfold threshingref05_Write.f
  refine Ev.bind (large_ev l hl ht) ?_
  simp only [Bool.false_eq_true, if_false]
  have := key l.length 0 (by omega) (by simp)
  unfold Bwrite
  rw [if_neg (by omega)]
  exact this
theorem Bsmall_of (l : List S43) (ht : Btot l ≤ 6000) : Bsmall l = true := by
  unfold Bsmall
  rw [List.all_eq_true]
  intro s hs
  have := Btot_mem l s hs
  simp only [Bool.and_eq_true, decide_eq_true_eq]
  omega
theorem same_ev (l : List S43) (hl : l.length ≤ 6000) (ht : Btot l ≤ 6000) : Ev (fun k => threshingref04_Same.f k l l) true := ⟨20000, fun k hk => same_f l (by omega) (by omega) k (by omega)⟩
end Go.Proofs.Ytlimaebaagabaaa.PB
