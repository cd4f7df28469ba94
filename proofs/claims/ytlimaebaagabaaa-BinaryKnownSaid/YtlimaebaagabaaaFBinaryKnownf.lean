-- MADE BY PROGRAM (print.py over stood-in functions; wip/tools/strike.py)
import Derived.Test.YtlimaebaagabaaaPB0
import Derived.Test.YtlimaebaagabaaaHBinaryWrite
import Derived.Test.YtlimaebaagabaaaHBinaryParse
import Derived.Test.YtlimaebaagabaaaFThreshingref04Same
import Derived.Test.YtlimaebaagabaaaFThreshinglaw05Works
namespace Go.Proofs.Ytlimaebaagabaaa.PB
open Go.RowKit Go.Proofs.YtlimaebaagabaaaW.PrintWords Go.Proofs.YtlimaebaagabaaaW.PrintLast Go.Proofs.YtlimaebaagabaaaW.PrintMore
attribute [local go_sem] max2_int min2_int max_two min_two max_three min_three max_four min_four   -- for this text's walks alone
set_option linter.unusedVariables false
set_option linter.unusedSimpArgs false

/-! ### threshinglaw05_BinaryKnown: function 7 -/
mutual
def threshinglaw05_BinaryKnown.j0 : Nat → List (S43) → Bool → Option (Bool)
  | 0, _, _ => none
  | k + 1, x1, x82 => if x82 = true then (some false) else (threshinglaw05_BinaryKnown.l0 k x1 (([(⟨0, 0, ([] : List Int), ([] : List Int)⟩ : S43), (⟨3, 1, ([] : List Int), ([] : List Int)⟩ : S43), (⟨1, 0, ([] : List Int), ([] : List Int)⟩ : S43), (⟨1, 4611686018427387904, ([] : List Int), ([] : List Int)⟩ : S43), (⟨1, 1, (([0] : List Int)), ([] : List Int)⟩ : S43), (⟨1, 1, (([(-2147483648)] : List Int)), ([] : List Int)⟩ : S43), (⟨1, 1, ([] : List Int), (([0] : List Int))⟩ : S43), (⟨1, 1, ([] : List Int), (([(-9223372036854775808)] : List Int))⟩ : S43), (⟨2, (-1), ([] : List Int), ([] : List Int)⟩ : S43), (⟨2, 0, (([1] : List Int)), ([] : List Int)⟩ : S43), (⟨2, 0, ([] : List Int), (([(-1)] : List Int))⟩ : S43)] : List (S43))) 0)
def threshinglaw05_BinaryKnown.l0 : Nat → List (S43) → List (S43) → Int → Option (Bool)
  | 0, _, _, _ => none
  | k + 1, x1, x9, x10 => if x10 < (x9.length : Int) then (if 0 < (x1.length : Int) then (if 0 ≤ x10 then ((binary_Write.f k (([(⟨(rd_T43 x1 0).f0, (rd_T43 x1 0).f1, (rd_T43 x1 0).f2, (rd_T43 x1 0).f3⟩ : S43), (⟨(rd_T43 x9 x10).f0, (rd_T43 x9 x10).f1, (rd_T43 x9 x10).f2, (rd_T43 x9 x10).f3⟩ : S43)] : List (S43)))).bind fun bt308 => (if (bt308.1.length : Int) > 0 then (some false) else (if bt308.2 = 50 then (threshinglaw05_BinaryKnown.l0 k x1 x9 (wrap64 (x10 + 1))) else (some false)))) else (none)) else (none)) else (threshinglaw05_BinaryKnown.l1 k (([(([97, 18, 2, 5, 0, 6, 8] : List Int)), (([97, 0, 0, 0] : List Int)), (([97, 130, 0, 0, 0] : List Int)), (([97, 3, 0, 0] : List Int)), (([98, 2, 0, 0] : List Int)), (([100, 2, 5, 0] : List Int)), (([97] : List Int)), (([97, 2] : List Int)), (([97, 2, 0] : List Int)), (([97, 2, 1, 0, 0] : List Int)), (([97, 2, 128, 0, 0, 0] : List Int)), (([97, 2, 130, 128, 128, 1, 0, 0] : List Int)), (([100, 1, 0] : List Int)), (([97, 128, 128, 128, 128, 128, 128, 128, 128, 128, 1, 0, 0] : List Int)), (([97, 255, 255, 255, 255, 255, 255, 255, 255, 255] : List Int)), (([97, 2, 0, 128] : List Int))] : List (List Int))) 0)
def threshinglaw05_BinaryKnown.l1 : Nat → List (List Int) → Int → Option (Bool)
  | 0, _, _ => none
  | k + 1, x13, x14 => if x14 < (x13.length : Int) then ((some (([100, 0, 0] : List Int) : List Int)).bind fun y363 => (if 0 ≤ x14 then (if y363.length + (rd_L6 x13 x14).length < 140737488355328 then ((binary_Parse.f k (y363 ++ (rd_L6 x13 x14))).bind fun bt370 => (if (bt370.1.length : Int) = 0 then (if bt370.2.1 = 50 then (if bt370.2.2 = 3 then (threshinglaw05_BinaryKnown.l1 k x13 (wrap64 (x14 + 1))) else (some false)) else (some false)) else (some false))) else (none)) else (none))) else ((binary_Parse.f k ([] : List Int)).bind fun bt375 => (if 4194305 ≤ 4398046511104 then ((binary_Write.f k (List.replicate 4194305 z43)).bind fun bt383 => (if 16777217 ≤ 35184372088832 then ((binary_Write.f k (([(⟨0, 0, ([] : List Int), (List.replicate 16777217 0)⟩ : S43)] : List (S43)))).bind fun bt393 => (if (bt375.1.length : Int) = 0 then (if bt375.2.1 = 0 then (if bt375.2.2 = 0 then (if bt383.2 = 3 then (if bt393.2 = 3 then ((threshinglaw05_works.f k).bind fun t397 => (some t397)) else (some false)) else (some false)) else (some false)) else (some false)) else (some false))) else (none))) else (none)))
end
def threshinglaw05_BinaryKnown.f (k : Nat)  : Option (Bool) := (some (([(⟨2, 64, ([] : List Int), (([3] : List Int))⟩ : S43), (⟨1, 1, ([] : List Int), (([(-1)] : List Int))⟩ : S43), (⟨1, 4611686018427387903, (([1048576, (-1048576)] : List Int)), (([4611686018427387903, (-4611686018427387903)] : List Int))⟩ : S43), (⟨2, 0, ([] : List Int), ([] : List Int)⟩ : S43)] : List (S43)) : List (S43))).bind fun y245 => ((binary_Write.f k y245).bind fun bt248 => ((some (([254, 255, 255, 255, 255, 255, 255, 255, 127] : List Int) : List Int)).bind fun y252 => ((some (([100, 128, 1, 6, 0, 97, 2, 0, 3, 0, 97] : List Int) : List Int)).bind fun y255 => (if y255.length + y252.length < 140737488355328 then ((some (y255 ++ y252 : List Int)).bind fun y258 => ((some (([128, 128, 128, 1, 129, 128, 128, 1, 0] : List Int) : List Int)).bind fun y261 => (if y258.length + y261.length < 140737488355328 then ((some (y258 ++ y261 : List Int)).bind fun y264 => (if y264.length + y252.length < 140737488355328 then ((some (y264 ++ y252 : List Int)).bind fun y267 => ((some (([255, 255, 255, 255, 255, 255, 255, 255, 127, 0, 100, 0, 0] : List Int) : List Int)).bind fun y270 => (if y267.length + y270.length < 140737488355328 then ((some (y267 ++ y270 : List Int)).bind fun y273 => ((binary_Parse.f k y273).bind fun bt276 => (if bt248.2 = 0 then (if (strOfNums bt248.1).toList = (strOfNums y273).toList then (if bt276.2.1 = 0 then (if bt276.2.2 = 0 then ((threshingref04_Same.f k bt276.1 y245).bind fun t281 => (threshinglaw05_BinaryKnown.j0 k y245 (!t281))) else (threshinglaw05_BinaryKnown.j0 k y245 true)) else (threshinglaw05_BinaryKnown.j0 k y245 true)) else (threshinglaw05_BinaryKnown.j0 k y245 true)) else (threshinglaw05_BinaryKnown.j0 k y245 true)))) else (none)))) else (none))) else (none)))) else (none)))))
theorem threshinglaw05_BinaryKnown.mono_l : ∀ k, (∀ y0 y1, LeO (threshinglaw05_BinaryKnown.j0 k y0 y1) (threshinglaw05_BinaryKnown.j0 (k + 1) y0 y1)) ∧ (∀ y0 y1 y2, LeO (threshinglaw05_BinaryKnown.l0 k y0 y1 y2) (threshinglaw05_BinaryKnown.l0 (k + 1) y0 y1 y2)) ∧ (∀ y0 y1, LeO (threshinglaw05_BinaryKnown.l1 k y0 y1) (threshinglaw05_BinaryKnown.l1 (k + 1) y0 y1))
  | 0 => ⟨fun _ _ r h => by simp [threshinglaw05_BinaryKnown.j0] at h, fun _ _ _ r h => by simp [threshinglaw05_BinaryKnown.l0] at h, fun _ _ r h => by simp [threshinglaw05_BinaryKnown.l1] at h⟩
  | k + 1 => by
    obtain ⟨ih0, ih1, ih2⟩ := threshinglaw05_BinaryKnown.mono_l k
    refine ⟨?_, ?_, ?_⟩
    · intro y0 y1
      unfold threshinglaw05_BinaryKnown.j0
      repeat' first
      | (with_reducible exact ih0 _ _)
      | (with_reducible exact ih1 _ _ _)
      | (with_reducible exact ih2 _ _)
      | (with_reducible exact binary_Parse.mono _ _)
      | (with_reducible exact binary_Write.mono _ _)
      | (with_reducible exact threshinglaw05_works.mono _)
      | (with_reducible exact threshingref04_Same.mono _ _ _)
      | (with_reducible exact LeO.refl _)
      | (with_reducible exact LeO.none _)
      | (with_reducible refine LeO.ite ?_ ?_)
      | (with_reducible refine LeO.bind ?_ (fun _ => ?_))
      | exact ih0 _ _
      | exact ih1 _ _ _
      | exact ih2 _ _
      | exact binary_Parse.mono _ _
      | exact binary_Write.mono _ _
      | exact threshinglaw05_works.mono _
      | exact threshingref04_Same.mono _ _ _
      | exact LeO.none _
      | refine LeO.ite ?_ ?_
      | refine LeO.bind ?_ (fun _ => ?_)
    · intro y0 y1 y2
      unfold threshinglaw05_BinaryKnown.l0
      repeat' first
      | (with_reducible exact ih0 _ _)
      | (with_reducible exact ih1 _ _ _)
      | (with_reducible exact ih2 _ _)
      | (with_reducible exact binary_Parse.mono _ _)
      | (with_reducible exact binary_Write.mono _ _)
      | (with_reducible exact threshinglaw05_works.mono _)
      | (with_reducible exact threshingref04_Same.mono _ _ _)
      | (with_reducible exact LeO.refl _)
      | (with_reducible exact LeO.none _)
      | (with_reducible refine LeO.ite ?_ ?_)
      | (with_reducible refine LeO.bind ?_ (fun _ => ?_))
      | exact ih0 _ _
      | exact ih1 _ _ _
      | exact ih2 _ _
      | exact binary_Parse.mono _ _
      | exact binary_Write.mono _ _
      | exact threshinglaw05_works.mono _
      | exact threshingref04_Same.mono _ _ _
      | exact LeO.none _
      | refine LeO.ite ?_ ?_
      | refine LeO.bind ?_ (fun _ => ?_)
    · intro y0 y1
      unfold threshinglaw05_BinaryKnown.l1
      repeat' first
      | (with_reducible exact ih0 _ _)
      | (with_reducible exact ih1 _ _ _)
      | (with_reducible exact ih2 _ _)
      | (with_reducible exact binary_Parse.mono _ _)
      | (with_reducible exact binary_Write.mono _ _)
      | (with_reducible exact threshinglaw05_works.mono _)
      | (with_reducible exact threshingref04_Same.mono _ _ _)
      | (with_reducible exact LeO.refl _)
      | (with_reducible exact LeO.none _)
      | (with_reducible refine LeO.ite ?_ ?_)
      | (with_reducible refine LeO.bind ?_ (fun _ => ?_))
      | exact ih0 _ _
      | exact ih1 _ _ _
      | exact ih2 _ _
      | exact binary_Parse.mono _ _
      | exact binary_Write.mono _ _
      | exact threshinglaw05_works.mono _
      | exact threshingref04_Same.mono _ _ _
      | exact LeO.none _
      | refine LeO.ite ?_ ?_
      | refine LeO.bind ?_ (fun _ => ?_)
theorem threshinglaw05_BinaryKnown.mono : ∀ k, LeO (threshinglaw05_BinaryKnown.f k ) (threshinglaw05_BinaryKnown.f (k + 1) ) := by
  intro  k
  obtain ⟨ih0, ih1, ih2⟩ := threshinglaw05_BinaryKnown.mono_l k
  unfold threshinglaw05_BinaryKnown.f
  repeat' first
      | (with_reducible exact ih0 _ _)
      | (with_reducible exact ih1 _ _ _)
      | (with_reducible exact ih2 _ _)
      | (with_reducible exact binary_Parse.mono _ _)
      | (with_reducible exact binary_Write.mono _ _)
      | (with_reducible exact threshinglaw05_works.mono _)
      | (with_reducible exact threshingref04_Same.mono _ _ _)
      | (with_reducible exact LeO.refl _)
      | (with_reducible exact LeO.none _)
      | (with_reducible refine LeO.ite ?_ ?_)
      | (with_reducible refine LeO.bind ?_ (fun _ => ?_))
      | exact ih0 _ _
      | exact ih1 _ _ _
      | exact ih2 _ _
      | exact binary_Parse.mono _ _
      | exact binary_Write.mono _ _
      | exact threshinglaw05_works.mono _
      | exact threshingref04_Same.mono _ _ _
      | exact LeO.none _
      | refine LeO.ite ?_ ?_
      | refine LeO.bind ?_ (fun _ => ?_)
end Go.Proofs.Ytlimaebaagabaaa.PB
