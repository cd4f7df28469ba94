import Derived.Test.YtlimaebaagabaaaDoorSpecw
import Derived.Test.YtlimaebaagabaaaDoorFBinaryMay
namespace Go.Proofs.YtlimaebaagabaaaDoor.PB
open Go.RowKit Go.Proofs.YtlimaebaagabaaaDoorW.PrintWords Go.Proofs.YtlimaebaagabaaaDoorW.PrintLast Go.Proofs.YtlimaebaagabaaaDoorW.PrintMore
set_option linter.unusedVariables false
set_option linter.unusedSimpArgs false
theorem wrap_succ {x : Int} {n : Nat} (h0 : 0 ≤ x) (h : x < (n : Int)) (hn : n ≤ 9223372036854775807) : wrap64 (x + 1) = x + 1 := by
  unfold wrap64
  omega
def Bhint (k h : Int) : Bool := !decide (h = 0) && decide (-4611686018427387903 ≤ h) && decide (h ≤ 4611686018427387903) && (decide (0 < h) || !decide (k = 2))
def Blit (x : Int) : Bool := !decide (x = 0) && decide (-1048576 ≤ x) && decide (x ≤ 1048576)
theorem rd_nat (l : List Int) (i : Nat) (h : i < l.length) : rd l (i : Int) = l[i] := by simp [rd, List.getElem?_eq_getElem h]
theorem may_l1 (k0 id : Int) (f2 f3 : List Int) (hn : f3.length ≤ 9223372036854775807) (d : Nat) : ∀ (k i : Nat), i + d = f3.length → d < k →
    binary_may.l1 k f3 (f3.length : Int) (i : Int) k0 id f2 f3 = some ((f3.drop i).all (Bhint k0)) := by
  induction d with
  | zero =>
    intro k i hi hk
    obtain ⟨k, rfl⟩ : ∃ m, k = m + 1 := ⟨k - 1, by omega⟩
    simp only [binary_may.l1]
    rw [if_neg (by omega), List.drop_of_length_le (by omega)]
    rfl
  | succ d ih =>
    intro k i hi hk
    obtain ⟨k, rfl⟩ : ∃ m, k = m + 1 := ⟨k - 1, by omega⟩
    have hlt : i < f3.length := by omega
    have hr := rd_nat f3 i hlt
    have hw : wrap64 ((i : Int) + 1) = ((i + 1 : Nat) : Int) := by rw [wrap_succ (n := f3.length) (by omega) (by omega) hn]; rfl
    have hih := ih k (i + 1) (by omega) (by omega)
    simp only [binary_may.l1]
    rw [if_pos (by omega), if_pos (by omega), if_pos (by omega), hw, hih, hr, List.drop_eq_getElem_cons hlt, List.all_cons]
    generalize f3[i] = h
    unfold Bhint
    by_cases c1 : h = 0
    · simp [c1]
    rw [if_neg c1]
    by_cases c2 : h < -4611686018427387903
    · rw [if_pos c2]; simp [show ¬ (-4611686018427387903 ≤ h) by omega]
    rw [if_neg c2]
    by_cases c3 : h > 4611686018427387903
    · rw [if_pos c3]; simp [show ¬ (h ≤ 4611686018427387903) by omega]
    rw [if_neg c3]
    by_cases c4 : h < 0
    · rw [if_pos c4]
      by_cases c5 : k0 = 2
      · rw [if_pos c5]; simp [c5, show ¬ 0 < h by omega]
      · rw [if_neg c5]; simp [c1, c5, show -4611686018427387903 ≤ h by omega, show h ≤ 4611686018427387903 by omega]
    · rw [if_neg c4]; simp [c1, show 0 < h by omega, show -4611686018427387903 ≤ h by omega, show h ≤ 4611686018427387903 by omega]
theorem may_l0 (k0 id : Int) (f2 f3 : List Int) (hn : f2.length ≤ 9223372036854775807) (hn3 : f3.length ≤ 9223372036854775807) (d : Nat) : ∀ (k i : Nat), i + d = f2.length → d + f3.length + 1 < k →
    binary_may.l0 k f2 (f2.length : Int) (i : Int) k0 id f2 f3 = some ((f2.drop i).all Blit && f3.all (Bhint k0)) := by
  induction d with
  | zero =>
    intro k i hi hk
    obtain ⟨k, rfl⟩ : ∃ m, k = m + 1 := ⟨k - 1, by omega⟩
    have h1 := may_l1 k0 id f2 f3 hn3 f3.length k 0 (by omega) (by omega)
    simp only [binary_may.l0]
    rw [if_neg (by omega), List.drop_of_length_le (by omega)]
    simpa using h1
  | succ d ih =>
    intro k i hi hk
    obtain ⟨k, rfl⟩ : ∃ m, k = m + 1 := ⟨k - 1, by omega⟩
    have hlt : i < f2.length := by omega
    have hr := rd_nat f2 i hlt
    have hw : wrap64 ((i : Int) + 1) = ((i + 1 : Nat) : Int) := by rw [wrap_succ (n := f2.length) (by omega) (by omega) hn]; rfl
    have hih := ih k (i + 1) (by omega) (by omega)
    simp only [binary_may.l0]
    rw [if_pos (by omega), if_pos (by omega), if_pos (by omega), hw, hih, hr, List.drop_eq_getElem_cons hlt, List.all_cons]
    generalize f2[i] = h
    unfold Blit
    by_cases c1 : h = 0
    · simp [c1]
    rw [if_neg c1]
    by_cases c2 : h < -1048576
    · rw [if_pos c2]; simp [show ¬ (-1048576 ≤ h) by omega]
    rw [if_neg c2]
    by_cases c3 : h > 1048576
    · rw [if_pos c3]; simp [show ¬ (h ≤ 1048576) by omega]
    rw [if_neg c3]; simp [c1, show -1048576 ≤ h by omega, show h ≤ 1048576 by omega]
theorem may_f (s : S43) (hn : s.f2.length ≤ 9223372036854775807) (hn3 : s.f3.length ≤ 9223372036854775807) (k : Nat) (hk : s.f2.length + s.f3.length + 3 < k) :
    binary_may.f k s.f0 s.f1 s.f2 s.f3 = some (Bmay s) := by
  obtain ⟨k, rfl⟩ : ∃ m, k = m + 1 := ⟨k - 1, by omega⟩
  have h0 := may_l0 s.f0 s.f1 s.f2 s.f3 hn hn3 s.f2.length k 0 (by omega) (by omega)
  simp only [Int.ofNat_zero, List.drop_zero, Int.natCast_zero] at h0
  have hj : ∀ b, binary_may.j0 (k + 1) b s.f0 s.f1 s.f2 s.f3 = some (!b && (s.f2.all Blit && s.f3.all (Bhint s.f0))) := by
    intro b
    simp only [binary_may.j0]
    cases b
    · rw [if_neg (by simp)]; simpa using h0
    · simp
  unfold binary_may.f
  simp only [hj]
  have e : Bmay s = ((decide (s.f0 = 1) && decide (1 ≤ s.f1) || decide (s.f0 = 2) && decide (0 ≤ s.f1) && decide (s.f2.length = 0)) && decide (s.f1 ≤ 4611686018427387903) && s.f2.all Blit && s.f3.all (Bhint s.f0)) := rfl
  rw [e]
  generalize s.f2.all Blit = x
  generalize s.f3.all (Bhint s.f0) = y
  by_cases c1 : s.f1 > 4611686018427387903
  · rw [if_pos c1]; simp [show ¬ s.f1 ≤ 4611686018427387903 by omega]
  rw [if_neg c1]
  by_cases c2 : s.f0 = 1
  · rw [if_pos c2]
    by_cases c3 : s.f1 < 1
    · rw [if_pos c3]; simp [c2, show ¬ 1 ≤ s.f1 by omega]
    · rw [if_neg c3, if_neg (by omega)]; simp [c2, show 1 ≤ s.f1 by omega, show s.f1 ≤ 4611686018427387903 by omega]
  rw [if_neg c2]
  by_cases c3 : s.f0 = 2
  · rw [if_pos c3]
    by_cases c4 : s.f1 < 0
    · rw [if_pos c4]; simp [c2, show ¬ 0 ≤ s.f1 by omega]
    rw [if_neg c4]
    by_cases c5 : (s.f2.length : Int) > 0
    · rw [if_pos c5]; simp [c2, show ¬ s.f2 = [] by intro h; simp [h] at c5]
    · rw [if_neg c5]; simp [c3, show s.f2.length = 0 by omega, show 0 ≤ s.f1 by omega, show s.f1 ≤ 4611686018427387903 by omega]
  · rw [if_neg c3]; simp [c2, c3]
end Go.Proofs.YtlimaebaagabaaaDoor.PB
