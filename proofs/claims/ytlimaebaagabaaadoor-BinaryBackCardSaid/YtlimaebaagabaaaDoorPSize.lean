import Derived.Test.YtlimaebaagabaaaDoorPure3
import Derived.Test.YtlimaebaagabaaaDoorFThreshingref04Size
namespace Go.Proofs.YtlimaebaagabaaaDoor.PB
open Go.RowKit Go.Proofs.YtlimaebaagabaaaDoorW.PrintWords Go.Proofs.YtlimaebaagabaaaDoorW.PrintLast Go.Proofs.YtlimaebaagabaaaDoorW.PrintMore
set_option linter.unusedVariables false
set_option linter.unusedSimpArgs false
theorem Ev_succ {α : Type} {g : Nat → Option α} {r : α} (h : Ev (fun k => g (k + 1)) r) : Ev g r := Ev.step (fun _ => rfl) h
theorem wrap_cast {n : Nat} (h : n ≤ 9223372036854775806) : wrap64 ((n : Int) + 1) = ((n + 1 : Nat) : Int) := by unfold wrap64; omega

theorem wrap_id {x : Int} (h0 : -9223372036854775808 ≤ x) (h1 : x ≤ 9223372036854775807) : wrap64 x = x := by unfold wrap64; omega
theorem mn_nat (a b : Nat) : mn (a : Int) (b : Int) = ((min a b : Nat) : Int) := by unfold mn; split <;> omega
theorem sum_three (n a b : Nat) (hn : n ≤ 100000000) (ha : a ≤ 100000000) (hb : b ≤ 100000000) : wrap64 ((wrap64 ((wrap64 ((n : Int) + 1)) + (a : Int))) + (b : Int)) = ((n + 1 + a + b : Nat) : Int) := by
  have e1 : wrap64 ((n : Int) + 1) = (n : Int) + 1 := wrap_id (by omega) (by omega)
  rw [e1]
  have e2 : wrap64 ((n : Int) + 1 + (a : Int)) = (n : Int) + 1 + (a : Int) := wrap_id (by omega) (by omega)
  rw [e2]
  have e3 : wrap64 ((n : Int) + 1 + (a : Int) + (b : Int)) = (n : Int) + 1 + (a : Int) + (b : Int) := wrap_id (by omega) (by omega)
  rw [e3]
  omega
/-! ### Size -/
theorem size_l0 (l : List S43) (hl : l.length ≤ 9223372036854775807) (d : Nat) : ∀ (i n : Nat), i + d = l.length → n = i + Btot (l.take i) → n ≤ 6000 →
    ∃ m : Int, Ev (fun k => threshingref04_Size.l0 k l 6000 (n : Int) (i : Int)) m ∧ (m ≤ 6000 → l.length + Btot l ≤ 6000) := by
  induction d with
  | zero =>
    intro i n hi hn h6
    refine ⟨n, Ev_succ ?_, fun _ => ?_⟩
    · simp only [threshingref04_Size.l0, if_neg (show ¬ ((i : Int) < (l.length : Int)) by omega)]
      exact Ev.now _
    · rw [List.take_of_length_le (by omega)] at hn; omega
  | succ d ih =>
    intro i n hi hn h6
    have hlt : (i : Int) < (l.length : Int) := by omega
    have htk := rd43_nat l (i : Int) (by omega) hlt
    have e1 : ((i : Int) + 1).toNat = i + 1 := by omega
    rw [e1, Int.toNat_natCast] at htk
    obtain ⟨s, hs⟩ : ∃ s, s = rd_T43 l (i : Int) := ⟨_, rfl⟩
    rw [← hs] at htk
    have hbt : Btot (l.take (i + 1)) = Btot (l.take i) + (s.f2.length + s.f3.length) := by rw [htk, Btot_append]; simp only [Btot]; omega
    obtain ⟨a2, ha2⟩ : ∃ a, a = min s.f2.length 6000 := ⟨_, rfl⟩
    obtain ⟨a3, ha3⟩ : ∃ a, a = min s.f3.length 6000 := ⟨_, rfl⟩
    have h2a : a2 ≤ s.f2.length ∧ a2 ≤ 6000 ∧ (a2 < 6000 → a2 = s.f2.length) := by omega
    have h3a : a3 ≤ s.f3.length ∧ a3 ≤ 6000 ∧ (a3 < 6000 → a3 = s.f3.length) := by omega
    have key : ∃ m : Int, Ev (fun k => threshingref04_Size.l0 k l 6000 ((n + 1 + a2 + a3 : Nat) : Int) ((i + 1 : Nat) : Int)) m ∧ (m ≤ 6000 → l.length + Btot l ≤ 6000) := by
      by_cases hb : n + 1 + a2 + a3 ≤ 6000
      · exact ih (i + 1) (n + 1 + a2 + a3) (by omega) (by rw [hbt]; omega) hb
      · refine ⟨((n + 1 + a2 + a3 : Nat) : Int), Ev_succ ?_, fun h => by omega⟩
        by_cases hend : ((i + 1 : Nat) : Int) < (l.length : Int)
        · simp only [threshingref04_Size.l0, if_pos hend, if_neg (show ¬ (((n + 1 + a2 + a3 : Nat) : Int) ≤ 6000) by omega)]
          exact Ev.now _
        · simp only [threshingref04_Size.l0, if_neg hend]
          exact Ev.now _
    have z1 : (n : Int) ≤ 6000 := by omega
    have z2 : 0 ≤ (i : Int) := by omega
    have q1 : n ≤ 100000000 := by omega
    have q2 : a2 ≤ 100000000 := by omega
    have q3 : a3 ≤ 100000000 := by omega
    have q4 : i ≤ 9223372036854775806 := by omega
    clear ha2 ha3
    have em2 : mn (s.f2.length : Int) 6000 = (a2 : Int) := by
      clear key ih htk hbt hs hn
      unfold mn
      by_cases h : (6000 : Int) < s.f2.length
      · rw [if_pos h]; omega
      · rw [if_neg h]; omega
    have em3 : mn (s.f3.length : Int) 6000 = (a3 : Int) := by
      clear key ih htk hbt hs hn em2
      unfold mn
      by_cases h : (6000 : Int) < s.f3.length
      · rw [if_pos h]; omega
      · rw [if_neg h]; omega
    have z3 := wrap_cast q4
    have ew := sum_three n a2 a3 q1 q2 q3
    obtain ⟨m, h1, h2⟩ := key
    refine ⟨m, Ev_succ ?_, h2⟩
    simp only [threshingref04_Size.l0, if_pos hlt, if_pos z1, if_pos z2, ← hs, em2, em3, ew, z3]
    exact h1
theorem size_ev (l : List S43) (hl : l.length ≤ 9223372036854775807) : ∃ m : Int, Ev (fun k => threshingref04_Size.f k l 6000) m ∧ (m ≤ 6000 → l.length + Btot l ≤ 6000) :=
  size_l0 l hl l.length 0 0 (by omega) (by simp [Btot]) (by omega)
theorem Bsmall_of (l : List S43) (ht : Btot l ≤ 6000) : Bsmall l = true := by
  unfold Bsmall
  rw [List.all_eq_true]
  intro s hs
  have := Btot_mem l s hs
  simp only [Bool.and_eq_true, decide_eq_true_eq]
  omega
end Go.Proofs.YtlimaebaagabaaaDoor.PB
