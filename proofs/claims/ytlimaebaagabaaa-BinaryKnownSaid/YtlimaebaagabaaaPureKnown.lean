import Derived.Test.YtlimaebaagabaaaPure3
import Derived.Test.YtlimaebaagabaaaFBinaryKnownf
namespace Go.Proofs.Ytlimaebaagabaaa.PB
open Go.RowKit Go.Proofs.YtlimaebaagabaaaW.PrintWords Go.Proofs.YtlimaebaagabaaaW.PrintLast Go.Proofs.YtlimaebaagabaaaW.PrintMore
set_option linter.unusedVariables false
set_option linter.unusedSimpArgs false
theorem known_big' (k n : Nat) (h1 : 4194304 < n) : binary_Write.f k (List.replicate n z43) = some ([], 3) := by
  unfold binary_Write.f
  have h : Bsmall (List.replicate n z43) = true := by
    unfold Bsmall
    rw [List.all_eq_true]
    intro s hs
    rw [List.eq_of_mem_replicate hs]
    rfl
  rw [if_pos h]
  unfold Bwrite
  rw [if_pos (.inl (by rw [List.length_replicate]; exact h1))]
theorem known_big (k : Nat) : binary_Write.f k (List.replicate 4194305 z43) = some ([], 3) := known_big' k 4194305 (by omega)
theorem known_row' (k n : Nat) (h1 : 16777216 < n) (h2 : n ≤ 70368744177664) : binary_Write.f k ([(⟨0, 0, ([] : List Int), (List.replicate n 0)⟩ : S43)] : List S43) = some ([], 3) := by
  unfold binary_Write.f
  have h : Bsmall ([(⟨0, 0, ([] : List Int), (List.replicate n 0)⟩ : S43)] : List S43) = true := by
    unfold Bsmall
    rw [List.all_eq_true]
    intro s hs
    rw [List.mem_singleton.1 hs]
    simp only [List.length_replicate, List.length_nil, Bool.and_eq_true, decide_eq_true_eq]
    exact ⟨by omega, h2⟩
  rw [if_pos h]
  unfold Bwrite
  rw [if_pos (.inr (by simp only [Btot, List.length_replicate, List.length_nil]; omega))]
theorem known_row (k : Nat) : binary_Write.f k ([(⟨0, 0, ([] : List Int), (List.replicate 16777217 0)⟩ : S43)] : List S43) = some ([], 3) := known_row' k 16777217 (by omega) (by omega)
theorem known_nil (k : Nat) : binary_Parse.f k ([] : List Int) = some ([], 0, 0) := by kernel_rfl
theorem known_l1_end (k : Nat) (x13 : List (List Int)) (x14 : Int) (h : ¬ x14 < (x13.length : Int)) : threshinglaw05_BinaryKnown.l1 (k + 1) x13 x14 = some true := by
  rw [threshinglaw05_BinaryKnown.l1, if_neg h, known_nil, Option.bind_some, if_pos (by omega), known_big, Option.bind_some, if_pos (by omega), known_row, Option.bind_some]
  simp only [works_f, Option.bind_some]
  rfl
def kWrong : List (List Int) := [(([97, 18, 2, 5, 0, 6, 8] : List Int)), (([97, 0, 0, 0] : List Int)), (([97, 130, 0, 0, 0] : List Int)), (([97, 3, 0, 0] : List Int)), (([98, 2, 0, 0] : List Int)), (([100, 2, 5, 0] : List Int)), (([97] : List Int)), (([97, 2] : List Int)), (([97, 2, 0] : List Int)), (([97, 2, 1, 0, 0] : List Int)), (([97, 2, 128, 0, 0, 0] : List Int)), (([97, 2, 130, 128, 128, 1, 0, 0] : List Int)), (([100, 1, 0] : List Int)), (([97, 128, 128, 128, 128, 128, 128, 128, 128, 128, 1, 0, 0] : List Int)), (([97, 255, 255, 255, 255, 255, 255, 255, 255, 255] : List Int)), (([97, 2, 0, 128] : List Int))]
theorem kWrong_bad : (List.range 16).all (fun i => decide ((Bparse ([100, 0, 0] ++ rd_L6 kWrong (i : Int))).1.length = 0) && decide ((Bparse ([100, 0, 0] ++ rd_L6 kWrong (i : Int))).2.1 = 50) && decide ((Bparse ([100, 0, 0] ++ rd_L6 kWrong (i : Int))).2.2 = 3) && decide ((rd_L6 kWrong (i : Int)).length ≤ 20)) = true := by kernel_rfl
theorem known_l1_step (k i : Nat) (h : i < 16) : threshinglaw05_BinaryKnown.l1 (k + 1) kWrong (i : Int) = threshinglaw05_BinaryKnown.l1 k kWrong ((i + 1 : Nat) : Int) := by
  have hb := List.all_eq_true.1 kWrong_bad i (List.mem_range.2 h)
  simp only [Bool.and_eq_true, decide_eq_true_eq] at hb
  obtain ⟨⟨⟨hp1, hp2⟩, hp3⟩, hl⟩ := hb
  have h16 : kWrong.length = 16 := rfl
  have hw : wrap64 ((i : Int) + 1) = ((i + 1 : Nat) : Int) := by unfold wrap64; omega
  rw [threshinglaw05_BinaryKnown.l1, if_pos (by rw [h16]; omega), Option.bind_some, if_pos (by omega), if_pos (by show 3 + _ < _; omega)]
  have hpf : binary_Parse.f k ([100, 0, 0] ++ rd_L6 kWrong (i : Int)) = some (Bparse ([100, 0, 0] ++ rd_L6 kWrong (i : Int))) := by
    unfold binary_Parse.f
    rw [if_pos (by rw [List.length_append]; show 3 + _ ≤ _; omega)]
  rw [hpf, Option.bind_some, if_pos (by rw [hp1]; rfl), if_pos hp2, if_pos hp3, hw]
theorem known_l1 (k : Nat) : ∀ d i : Nat, i + d = 16 → threshinglaw05_BinaryKnown.l1 (k + d + 1) kWrong (i : Int) = some true := by
  intro d
  induction d with
  | zero => intro i h; exact known_l1_end k kWrong _ (by show ¬ _ < ((16 : Nat) : Int); omega)
  | succ d ih =>
    intro i h
    rw [show k + (d + 1) + 1 = (k + d + 1) + 1 by omega, known_l1_step _ i (by omega)]
    exact ih (i + 1) (by omega)
def kGood : List S43 := [(⟨2, 64, ([] : List Int), (([3] : List Int))⟩ : S43), (⟨1, 1, ([] : List Int), (([(-1)] : List Int))⟩ : S43), (⟨1, 4611686018427387903, (([1048576, (-1048576)] : List Int)), (([4611686018427387903, (-4611686018427387903)] : List Int))⟩ : S43), (⟨2, 0, ([] : List Int), ([] : List Int)⟩ : S43)]
def kBad : List S43 := [(⟨0, 0, ([] : List Int), ([] : List Int)⟩ : S43), (⟨3, 1, ([] : List Int), ([] : List Int)⟩ : S43), (⟨1, 0, ([] : List Int), ([] : List Int)⟩ : S43), (⟨1, 4611686018427387904, ([] : List Int), ([] : List Int)⟩ : S43), (⟨1, 1, (([0] : List Int)), ([] : List Int)⟩ : S43), (⟨1, 1, (([(-2147483648)] : List Int)), ([] : List Int)⟩ : S43), (⟨1, 1, ([] : List Int), (([0] : List Int))⟩ : S43), (⟨1, 1, ([] : List Int), (([(-9223372036854775808)] : List Int))⟩ : S43), (⟨2, (-1), ([] : List Int), ([] : List Int)⟩ : S43), (⟨2, 0, (([1] : List Int)), ([] : List Int)⟩ : S43), (⟨2, 0, ([] : List Int), (([(-1)] : List Int))⟩ : S43)]
theorem kBad_bad : (List.range 11).all (fun i => decide (Bwrite [(⟨(rd_T43 kGood 0).f0, (rd_T43 kGood 0).f1, (rd_T43 kGood 0).f2, (rd_T43 kGood 0).f3⟩ : S43), (⟨(rd_T43 kBad (i : Int)).f0, (rd_T43 kBad (i : Int)).f1, (rd_T43 kBad (i : Int)).f2, (rd_T43 kBad (i : Int)).f3⟩ : S43)] = ([], 50)) && Bsmall [(⟨(rd_T43 kGood 0).f0, (rd_T43 kGood 0).f1, (rd_T43 kGood 0).f2, (rd_T43 kGood 0).f3⟩ : S43), (⟨(rd_T43 kBad (i : Int)).f0, (rd_T43 kBad (i : Int)).f1, (rd_T43 kBad (i : Int)).f2, (rd_T43 kBad (i : Int)).f3⟩ : S43)]) = true := by kernel_rfl
theorem known_l0_step (k i : Nat) (h : i < 11) : threshinglaw05_BinaryKnown.l0 (k + 1) kGood kBad (i : Int) = threshinglaw05_BinaryKnown.l0 k kGood kBad ((i + 1 : Nat) : Int) := by
  have hb := List.all_eq_true.1 kBad_bad i (List.mem_range.2 h)
  simp only [Bool.and_eq_true, decide_eq_true_eq] at hb
  obtain ⟨hp, hl⟩ := hb
  have h11 : kBad.length = 11 := rfl
  have h4 : kGood.length = 4 := rfl
  have hw : wrap64 ((i : Int) + 1) = ((i + 1 : Nat) : Int) := by unfold wrap64; omega
  have hpf : binary_Write.f k [(⟨(rd_T43 kGood 0).f0, (rd_T43 kGood 0).f1, (rd_T43 kGood 0).f2, (rd_T43 kGood 0).f3⟩ : S43), (⟨(rd_T43 kBad (i : Int)).f0, (rd_T43 kBad (i : Int)).f1, (rd_T43 kBad (i : Int)).f2, (rd_T43 kBad (i : Int)).f3⟩ : S43)] = some ([], 50) := by
    unfold binary_Write.f
    rw [if_pos hl, hp]
  rw [threshinglaw05_BinaryKnown.l0, if_pos (by rw [h11]; omega), if_pos (by rw [h4]; omega), if_pos (by omega), hpf, Option.bind_some, hw]
  rfl
theorem known_l0 (k : Nat) : ∀ d i : Nat, i + d = 11 → threshinglaw05_BinaryKnown.l0 (k + 17 + d + 1) kGood kBad (i : Int) = some true := by
  intro d
  induction d with
  | zero =>
    intro i h
    rw [Nat.add_zero, threshinglaw05_BinaryKnown.l0, if_neg (by show ¬ _ < ((11 : Nat) : Int); omega)]
    exact known_l1 k 16 0 rfl
  | succ d ih =>
    intro i h
    rw [show k + 17 + (d + 1) + 1 = (k + 17 + d + 1) + 1 by omega, known_l0_step _ i (by omega)]
    exact ih (i + 1) (by omega)
theorem known_j0 (k : Nat) : threshinglaw05_BinaryKnown.j0 (k + 30) kGood false = some true := by
  show threshinglaw05_BinaryKnown.j0 ((k + 29) + 1) kGood false = some true
  rw [threshinglaw05_BinaryKnown.j0, if_neg (by simp)]
  exact known_l0 k 11 0 rfl
def kWant : List Int := (((([100, 128, 1, 6, 0, 97, 2, 0, 3, 0, 97] ++ [254, 255, 255, 255, 255, 255, 255, 255, 127]) ++ [128, 128, 128, 1, 129, 128, 128, 1, 0]) ++ [254, 255, 255, 255, 255, 255, 255, 255, 127]) ++ [255, 255, 255, 255, 255, 255, 255, 255, 127, 0, 100, 0, 0] : List Int)
theorem known_w (k : Nat) : binary_Write.f k kGood = some (kWant, 0) := by kernel_rfl
theorem known_p (k : Nat) : binary_Parse.f k kWant = some (kGood, 0, 0) := by kernel_rfl
theorem known_f (k : Nat) (hk : 50 < k) : threshinglaw05_BinaryKnown.f k = threshinglaw05_BinaryKnown.j0 k kGood false := by
  have hlen : kGood.length + Btot kGood + 5 ≤ 50 := by decide
  have hsame : threshingref04_Same.f k kGood kGood = some true := same_f kGood (by decide) (by decide) k (by omega)
  unfold threshinglaw05_BinaryKnown.f
  rw [Option.bind_some]
  rw [show binary_Write.f k [(⟨2, 64, ([] : List Int), (([3] : List Int))⟩ : S43), (⟨1, 1, ([] : List Int), (([(-1)] : List Int))⟩ : S43), (⟨1, 4611686018427387903, (([1048576, (-1048576)] : List Int)), (([4611686018427387903, (-4611686018427387903)] : List Int))⟩ : S43), (⟨2, 0, ([] : List Int), ([] : List Int)⟩ : S43)] = some (kWant, 0) from known_w k]
  simp only [Option.bind_some]
  rw [if_pos (by decide), if_pos (by decide), if_pos (by decide), if_pos (by decide)]
  change ((binary_Parse.f k kWant).bind _) = _
  rw [known_p, Option.bind_some]
  simp only [if_true]
  rw [if_pos (by rfl)]
  change ((threshingref04_Same.f k kGood kGood).bind _) = _
  rw [hsame, Option.bind_some]
  rfl
theorem known_pure : threshinglaw05_BinaryKnown.f 60 = some true := by
  rw [known_f 60 (by omega)]
  exact known_j0 30
end Go.Proofs.Ytlimaebaagabaaa.PB
