-- MADE BY PROGRAM (print.py over stood-in functions; wip/tools/fakeprint.py)
import Derived.Test.YtfjnkbkcoakooaaDoorPB0
import Derived.Test.YtfjnkbkcoakooaaDoorHLratParseK
import Derived.Test.YtfjnkbkcoakooaaDoorFWorksK
namespace Go.Proofs.YtfjnkbkcoakooaaDoor.PB
open Go.RowKit Go.Proofs.YtfjnkbkcoakooaaDoorW.PrintWords Go.Proofs.YtfjnkbkcoakooaaDoorW.PrintLast Go.Proofs.YtfjnkbkcoakooaaDoorW.PrintMore
attribute [local go_sem] max2_int min2_int max_two min_two max_three min_three max_four min_four   -- for this text's walks alone
set_option linter.unusedVariables false
set_option linter.unusedSimpArgs false

/-! ### threshinglaw04_LratKnown: function 8 -/
mutual
def threshinglaw04_LratKnown.j0 : Nat → List (S43) → Bool → Option (Bool)
  | 0, _, _ => none
  | k + 1, x1, x39 => if x39 = true then (some false) else (threshinglaw04_LratKnown.l0 k x1 (([(⟨0, 0, ([] : List Int), ([] : List Int)⟩ : S43), (⟨3, 1, ([] : List Int), ([] : List Int)⟩ : S43), (⟨1, 0, ([] : List Int), ([] : List Int)⟩ : S43), (⟨1, (-1), ([] : List Int), ([] : List Int)⟩ : S43), (⟨1, 4611686018427387904, ([] : List Int), ([] : List Int)⟩ : S43), (⟨1, 1, (([0] : List Int)), ([] : List Int)⟩ : S43), (⟨1, 1, (([1048577] : List Int)), ([] : List Int)⟩ : S43), (⟨1, 1, (([(-2147483648)] : List Int)), ([] : List Int)⟩ : S43), (⟨1, 1, ([] : List Int), (([0] : List Int))⟩ : S43), (⟨1, 1, ([] : List Int), (([(-9223372036854775808)] : List Int))⟩ : S43), (⟨2, (-1), ([] : List Int), ([] : List Int)⟩ : S43), (⟨2, 0, (([1] : List Int)), ([] : List Int)⟩ : S43), (⟨2, 0, ([] : List Int), (([(-1)] : List Int))⟩ : S43)] : List (S43))) 0)
def threshinglaw04_LratKnown.l0 : Nat → List (S43) → List (S43) → Int → Option (Bool)
  | 0, _, _, _ => none
  | k + 1, x1, x4, x5 => if x5 < (x4.length : Int) then (if 0 < (x1.length : Int) then (if 0 ≤ x5 then ((lrat_Write.f k (([(⟨(rd_T43 x1 0).f0, (rd_T43 x1 0).f1, (rd_T43 x1 0).f2, (rd_T43 x1 0).f3⟩ : S43), (⟨(rd_T43 x4 x5).f0, (rd_T43 x4 x5).f1, (rd_T43 x4 x5).f2, (rd_T43 x4 x5).f3⟩ : S43)] : List (S43)))).bind fun bt384 => (if bt384.1.toList = ([] : List UInt8) then (if bt384.2 = 40 then (threshinglaw04_LratKnown.l0 k x1 x4 (wrap64 (x5 + 1))) else (some false)) else (some false))) else (none)) else (none)) else (threshinglaw04_LratKnown.l1 k (([(⟨#[57, 32, 49, 32, 48, 32, 51, 32, 48]⟩ : ByteArray), (⟨#[57, 32, 49, 32, 48, 32, 51, 10]⟩ : ByteArray), (⟨#[48, 57, 32, 49, 32, 48, 32, 48, 10]⟩ : ByteArray), (⟨#[57, 32, 48, 49, 32, 48, 32, 48, 10]⟩ : ByteArray), (⟨#[57, 32, 32, 49, 32, 48, 32, 48, 10]⟩ : ByteArray), (⟨#[57, 32, 49, 32, 48, 32, 48, 32, 48, 10]⟩ : ByteArray), (⟨#[10]⟩ : ByteArray), (⟨#[32, 10]⟩ : ByteArray), (⟨#[57, 10]⟩ : ByteArray), (⟨#[57, 32, 48, 10]⟩ : ByteArray), (⟨#[57, 32, 100, 10]⟩ : ByteArray), (⟨#[57, 32, 100, 32, 48, 32, 48, 10]⟩ : ByteArray), (⟨#[57, 32, 100, 32, 49, 10]⟩ : ByteArray), (⟨#[57, 32, 100, 32, 45, 49, 32, 48, 10]⟩ : ByteArray), (⟨#[45, 57, 32, 48, 32, 48, 10]⟩ : ByteArray), (⟨#[48, 32, 48, 32, 48, 10]⟩ : ByteArray), (⟨#[57, 32, 45, 48, 32, 48, 32, 48, 10]⟩ : ByteArray), (⟨#[57, 32, 43, 49, 32, 48, 32, 48, 10]⟩ : ByteArray), (⟨#[57, 32, 49, 48, 52, 56, 53, 55, 55, 32, 48, 32, 48, 10]⟩ : ByteArray), (⟨#[57, 32, 48, 32, 52, 54, 49, 49, 54, 56, 54, 48, 49, 56, 52, 50, 55, 51, 56, 55, 57, 48, 52, 32, 48, 10]⟩ : ByteArray), (⟨#[57, 32, 48, 32, 57, 57, 57, 57, 57, 57, 57, 57, 57, 57, 57, 57, 57, 57, 57, 57, 57, 57, 57, 57, 32, 48, 10]⟩ : ByteArray), (⟨#[57, 32, 49, 32, 48, 32, 49, 32, 48, 32, 10]⟩ : ByteArray), (⟨#[32, 57, 32, 48, 32, 48, 10]⟩ : ByteArray), (⟨#[57, 32, 48, 32, 48, 13, 10]⟩ : ByteArray), (⟨#[99, 32, 120, 10]⟩ : ByteArray), (⟨#[57, 32, 100, 32, 100, 32, 48, 10]⟩ : ByteArray), (⟨#[57, 32, 49, 32, 100, 32, 48, 10]⟩ : ByteArray)] : List ByteArray)) 0)
def threshinglaw04_LratKnown.l1 : Nat → List ByteArray → Int → Option (Bool)
  | 0, _, _ => none
  | k + 1, x8, x9 => if x9 < (x8.length : Int) then (if 0 ≤ x9 then (if 8 + (rdOf ByteArray.empty x8 x9).size ≤ 9223372036854775807 then ((lrat_Parse.f k ((⟨#[57, 32, 100, 32, 51, 32, 48, 10]⟩ : ByteArray) ++ (rdOf ByteArray.empty x8 x9))).bind fun bt390 => (if (bt390.1.length : Int) = 0 then (if bt390.2.1 = 40 then (if bt390.2.2 = 2 then (threshinglaw04_LratKnown.l1 k x8 (wrap64 (x9 + 1))) else (some false)) else (some false)) else (some false))) else (none)) else (none)) else ((lrat_Parse.f k (⟨#[]⟩ : ByteArray)).bind fun bt395 => (if 4194305 ≤ 4398046511104 then ((lrat_Write.f k (List.replicate 4194305 z43)).bind fun bt403 => (if 16777217 ≤ 35184372088832 then ((lrat_Write.f k (([(⟨0, 0, ([] : List Int), (List.replicate 16777217 0)⟩ : S43)] : List (S43)))).bind fun bt411 => (if (bt395.1.length : Int) = 0 then (if bt395.2.1 = 0 then (if bt395.2.2 = 0 then (if bt403.2 = 3 then (if bt411.2 = 3 then ((threshinglaw04_works.f k).bind fun t413 => (some t413)) else (some false)) else (some false)) else (some false)) else (some false)) else (some false))) else (none))) else (none)))
end
def threshinglaw04_LratKnown.f (k : Nat)  : Option (Bool) := (some (([(⟨1, 10, ([] : List Int), (([9, (-4), 7] : List Int))⟩ : S43), (⟨2, 0, ([] : List Int), ([] : List Int)⟩ : S43), (⟨1, 4611686018427387903, (([1048576, (-1048576)] : List Int)), (([4611686018427387903, (-4611686018427387903)] : List Int))⟩ : S43), (⟨2, 4611686018427387903, ([] : List Int), (([1] : List Int))⟩ : S43)] : List (S43)) : List (S43))).bind fun y350 => ((lrat_Write.f k y350).bind fun bt353 => (if bt353.2 = 0 then (threshinglaw04_LratKnown.j0 k y350 (bt353.1.toList != ([49, 48, 32, 48, 32, 57, 32, 45, 52, 32, 55, 32, 48, 10, 48, 32, 100, 32, 48, 10, 52, 54, 49, 49, 54, 56, 54, 48, 49, 56, 52, 50, 55, 51, 56, 55, 57, 48, 51, 32, 49, 48, 52, 56, 53, 55, 54, 32, 45, 49, 48, 52, 56, 53, 55, 54, 32, 48, 32, 52, 54, 49, 49, 54, 56, 54, 48, 49, 56, 52, 50, 55, 51, 56, 55, 57, 48, 51, 32, 45, 52, 54, 49, 49, 54, 56, 54, 48, 49, 56, 52, 50, 55, 51, 56, 55, 57, 48, 51, 32, 48, 10, 52, 54, 49, 49, 54, 56, 54, 48, 49, 56, 52, 50, 55, 51, 56, 55, 57, 48, 51, 32, 100, 32, 49, 32, 48, 10] : List UInt8))) else (threshinglaw04_LratKnown.j0 k y350 true)))
theorem threshinglaw04_LratKnown.mono_l : ∀ k, (∀ y0 y1, LeO (threshinglaw04_LratKnown.j0 k y0 y1) (threshinglaw04_LratKnown.j0 (k + 1) y0 y1)) ∧ (∀ y0 y1 y2, LeO (threshinglaw04_LratKnown.l0 k y0 y1 y2) (threshinglaw04_LratKnown.l0 (k + 1) y0 y1 y2)) ∧ (∀ y0 y1, LeO (threshinglaw04_LratKnown.l1 k y0 y1) (threshinglaw04_LratKnown.l1 (k + 1) y0 y1))
  | 0 => ⟨fun _ _ r h => by simp [threshinglaw04_LratKnown.j0] at h, fun _ _ _ r h => by simp [threshinglaw04_LratKnown.l0] at h, fun _ _ r h => by simp [threshinglaw04_LratKnown.l1] at h⟩
  | k + 1 => by
    obtain ⟨ih0, ih1, ih2⟩ := threshinglaw04_LratKnown.mono_l k
    refine ⟨?_, ?_, ?_⟩
    · intro y0 y1
      unfold threshinglaw04_LratKnown.j0
      repeat' first
      | (with_reducible exact ih0 _ _)
      | (with_reducible exact ih1 _ _ _)
      | (with_reducible exact ih2 _ _)
      | (with_reducible exact lrat_Parse.mono _ _)
      | (with_reducible exact lrat_Write.mono _ _)
      | (with_reducible exact threshinglaw04_works.mono _)
      | (with_reducible exact LeO.refl _)
      | (with_reducible exact LeO.none _)
      | (with_reducible refine LeO.ite ?_ ?_)
      | (with_reducible refine LeO.bind ?_ (fun _ => ?_))
      | exact ih0 _ _
      | exact ih1 _ _ _
      | exact ih2 _ _
      | exact lrat_Parse.mono _ _
      | exact lrat_Write.mono _ _
      | exact threshinglaw04_works.mono _
      | exact LeO.none _
      | refine LeO.ite ?_ ?_
      | refine LeO.bind ?_ (fun _ => ?_)
    · intro y0 y1 y2
      unfold threshinglaw04_LratKnown.l0
      repeat' first
      | (with_reducible exact ih0 _ _)
      | (with_reducible exact ih1 _ _ _)
      | (with_reducible exact ih2 _ _)
      | (with_reducible exact lrat_Parse.mono _ _)
      | (with_reducible exact lrat_Write.mono _ _)
      | (with_reducible exact threshinglaw04_works.mono _)
      | (with_reducible exact LeO.refl _)
      | (with_reducible exact LeO.none _)
      | (with_reducible refine LeO.ite ?_ ?_)
      | (with_reducible refine LeO.bind ?_ (fun _ => ?_))
      | exact ih0 _ _
      | exact ih1 _ _ _
      | exact ih2 _ _
      | exact lrat_Parse.mono _ _
      | exact lrat_Write.mono _ _
      | exact threshinglaw04_works.mono _
      | exact LeO.none _
      | refine LeO.ite ?_ ?_
      | refine LeO.bind ?_ (fun _ => ?_)
    · intro y0 y1
      unfold threshinglaw04_LratKnown.l1
      repeat' first
      | (with_reducible exact ih0 _ _)
      | (with_reducible exact ih1 _ _ _)
      | (with_reducible exact ih2 _ _)
      | (with_reducible exact lrat_Parse.mono _ _)
      | (with_reducible exact lrat_Write.mono _ _)
      | (with_reducible exact threshinglaw04_works.mono _)
      | (with_reducible exact LeO.refl _)
      | (with_reducible exact LeO.none _)
      | (with_reducible refine LeO.ite ?_ ?_)
      | (with_reducible refine LeO.bind ?_ (fun _ => ?_))
      | exact ih0 _ _
      | exact ih1 _ _ _
      | exact ih2 _ _
      | exact lrat_Parse.mono _ _
      | exact lrat_Write.mono _ _
      | exact threshinglaw04_works.mono _
      | exact LeO.none _
      | refine LeO.ite ?_ ?_
      | refine LeO.bind ?_ (fun _ => ?_)
theorem threshinglaw04_LratKnown.mono : ∀ k, LeO (threshinglaw04_LratKnown.f k ) (threshinglaw04_LratKnown.f (k + 1) ) := by
  intro  k
  obtain ⟨ih0, ih1, ih2⟩ := threshinglaw04_LratKnown.mono_l k
  unfold threshinglaw04_LratKnown.f
  repeat' first
      | (with_reducible exact ih0 _ _)
      | (with_reducible exact ih1 _ _ _)
      | (with_reducible exact ih2 _ _)
      | (with_reducible exact lrat_Parse.mono _ _)
      | (with_reducible exact lrat_Write.mono _ _)
      | (with_reducible exact threshinglaw04_works.mono _)
      | (with_reducible exact LeO.refl _)
      | (with_reducible exact LeO.none _)
      | (with_reducible refine LeO.ite ?_ ?_)
      | (with_reducible refine LeO.bind ?_ (fun _ => ?_))
      | exact ih0 _ _
      | exact ih1 _ _ _
      | exact ih2 _ _
      | exact lrat_Parse.mono _ _
      | exact lrat_Write.mono _ _
      | exact threshinglaw04_works.mono _
      | exact LeO.none _
      | refine LeO.ite ?_ ?_
      | refine LeO.bind ?_ (fun _ => ?_)
def threshinglaw04_LratKnown.T9 : Bool × List (List Nat × List Nat) := (true, [([], []), ([0], [0]), ([1], [1]), ([], []), ([], []), ([3, 4], [3, 4]), ([5], [5]), ([2, 6], [2, 6]), ([7], [7]), ([8], [8]), ([9], [9]), ([9], [9]), ([10, 8, 0, 1, 2, 3, 4, 5, 6, 7, 8, 9, 10], [10]), ([11, 12, 0, 1, 2, 3, 4, 5, 6, 7, 8, 9, 10, 11, 12], [11])])
def threshinglaw04_LratKnown.B9 : List Nat := [0, 1, 3, 0, 0, 24, 56, 127, 255, 511, 1023, 1023, 2047, 8191]
theorem threshinglaw04_LratKnown.tab9 : rtab .any (opsOf Tryd.f8 9) = threshinglaw04_LratKnown.T9 := by kernel_rfl
theorem threshinglaw04_LratKnown.bits9 : waitsOk threshinglaw04_LratKnown.T9.2 threshinglaw04_LratKnown.B9 = true := by kernel_rfl
set_option maxHeartbeats 8000000 in
set_option maxRecDepth 100000 in
theorem threshinglaw04_LratKnown.calls (k : Nat)  (r : Bool) (w : World) (hr : r = true) (h : threshinglaw04_LratKnown.f k  = some r) (hlt : LT w.heap.size w) :
    Calls Tryd.prog 8 #[] w fun e w' => e = .returned (.bool r) ∧ Below w.heap.size w w' := by
  have hu43 := Tryd.underlying43
  have HLT := Aside0.mk hlt
  clear hlt
  have HB := Aside0.mk (Below.refl w.heap.size w)
  have H : ((some (([(⟨1, 10, ([] : List Int), (([9, (-4), 7] : List Int))⟩ : S43), (⟨2, 0, ([] : List Int), ([] : List Int)⟩ : S43), (⟨1, 4611686018427387903, (([1048576, (-1048576)] : List Int)), (([4611686018427387903, (-4611686018427387903)] : List Int))⟩ : S43), (⟨2, 4611686018427387903, ([] : List Int), (([1] : List Int))⟩ : S43)] : List (S43)) : List (S43))).bind fun y350 => ((lrat_Write.f k y350).bind fun bt353 => (if bt353.2 = 0 then (threshinglaw04_LratKnown.j0 k y350 (bt353.1.toList != ([49, 48, 32, 48, 32, 57, 32, 45, 52, 32, 55, 32, 48, 10, 48, 32, 100, 32, 48, 10, 52, 54, 49, 49, 54, 56, 54, 48, 49, 56, 52, 50, 55, 51, 56, 55, 57, 48, 51, 32, 49, 48, 52, 56, 53, 55, 54, 32, 45, 49, 48, 52, 56, 53, 55, 54, 32, 48, 32, 52, 54, 49, 49, 54, 56, 54, 48, 49, 56, 52, 50, 55, 51, 56, 55, 57, 48, 51, 32, 45, 52, 54, 49, 49, 54, 56, 54, 48, 49, 56, 52, 50, 55, 51, 56, 55, 57, 48, 51, 32, 48, 10, 52, 54, 49, 49, 54, 56, 54, 48, 49, 56, 52, 50, 55, 51, 56, 55, 57, 48, 51, 32, 100, 32, 49, 32, 48, 10] : List UInt8))) else (threshinglaw04_LratKnown.j0 k y350 true)))) = some r := h
  clear h
  obtain ⟨y338, hy338⟩ : ∃ y_ : List Int, y_ = (([9, (-4), 7] : List Int)) := ⟨_, rfl⟩
  replace H : ((some (([(⟨1, 10, ([] : List Int), y338⟩ : S43), (⟨2, 0, ([] : List Int), ([] : List Int)⟩ : S43), (⟨1, 4611686018427387903, (([1048576, (-1048576)] : List Int)), (([4611686018427387903, (-4611686018427387903)] : List Int))⟩ : S43), (⟨2, 4611686018427387903, ([] : List Int), (([1] : List Int))⟩ : S43)] : List (S43)) : List (S43))).bind fun y350 => ((lrat_Write.f k y350).bind fun bt353 => (if bt353.2 = 0 then (threshinglaw04_LratKnown.j0 k y350 (bt353.1.toList != ([49, 48, 32, 48, 32, 57, 32, 45, 52, 32, 55, 32, 48, 10, 48, 32, 100, 32, 48, 10, 52, 54, 49, 49, 54, 56, 54, 48, 49, 56, 52, 50, 55, 51, 56, 55, 57, 48, 51, 32, 49, 48, 52, 56, 53, 55, 54, 32, 45, 49, 48, 52, 56, 53, 55, 54, 32, 48, 32, 52, 54, 49, 49, 54, 56, 54, 48, 49, 56, 52, 50, 55, 51, 56, 55, 57, 48, 51, 32, 45, 52, 54, 49, 49, 54, 56, 54, 48, 49, 56, 52, 50, 55, 51, 56, 55, 57, 48, 51, 32, 48, 10, 52, 54, 49, 49, 54, 56, 54, 48, 49, 56, 52, 50, 55, 51, 56, 55, 57, 48, 51, 32, 100, 32, 49, 32, 48, 10] : List UInt8))) else (threshinglaw04_LratKnown.j0 k y350 true)))) = some r := by first | (rw [hy338]; with_reducible exact H) | (have H2_ := (Option.bind_some _ _).symm.trans H; rw [hy338]; with_reducible exact H2_) | (have H2_ := (Option.bind_some _ _).symm.trans H; with_reducible exact H2_) | with_reducible exact H | (rw [hy338]; exact H) | exact H
  have Ny338 := Aside0.mk hy338
  clear hy338
  obtain ⟨y341, hy341⟩ : ∃ y_ : List Int, y_ = (([1048576, (-1048576)] : List Int)) := ⟨_, rfl⟩
  replace H : ((some (([(⟨1, 10, ([] : List Int), y338⟩ : S43), (⟨2, 0, ([] : List Int), ([] : List Int)⟩ : S43), (⟨1, 4611686018427387903, y341, (([4611686018427387903, (-4611686018427387903)] : List Int))⟩ : S43), (⟨2, 4611686018427387903, ([] : List Int), (([1] : List Int))⟩ : S43)] : List (S43)) : List (S43))).bind fun y350 => ((lrat_Write.f k y350).bind fun bt353 => (if bt353.2 = 0 then (threshinglaw04_LratKnown.j0 k y350 (bt353.1.toList != ([49, 48, 32, 48, 32, 57, 32, 45, 52, 32, 55, 32, 48, 10, 48, 32, 100, 32, 48, 10, 52, 54, 49, 49, 54, 56, 54, 48, 49, 56, 52, 50, 55, 51, 56, 55, 57, 48, 51, 32, 49, 48, 52, 56, 53, 55, 54, 32, 45, 49, 48, 52, 56, 53, 55, 54, 32, 48, 32, 52, 54, 49, 49, 54, 56, 54, 48, 49, 56, 52, 50, 55, 51, 56, 55, 57, 48, 51, 32, 45, 52, 54, 49, 49, 54, 56, 54, 48, 49, 56, 52, 50, 55, 51, 56, 55, 57, 48, 51, 32, 48, 10, 52, 54, 49, 49, 54, 56, 54, 48, 49, 56, 52, 50, 55, 51, 56, 55, 57, 48, 51, 32, 100, 32, 49, 32, 48, 10] : List UInt8))) else (threshinglaw04_LratKnown.j0 k y350 true)))) = some r := by first | (rw [hy341]; with_reducible exact H) | (have H2_ := (Option.bind_some _ _).symm.trans H; rw [hy341]; with_reducible exact H2_) | (have H2_ := (Option.bind_some _ _).symm.trans H; with_reducible exact H2_) | with_reducible exact H | (rw [hy341]; exact H) | exact H
  have Ny341 := Aside0.mk hy341
  clear hy341
  obtain ⟨y344, hy344⟩ : ∃ y_ : List Int, y_ = (([4611686018427387903, (-4611686018427387903)] : List Int)) := ⟨_, rfl⟩
  replace H : ((some (([(⟨1, 10, ([] : List Int), y338⟩ : S43), (⟨2, 0, ([] : List Int), ([] : List Int)⟩ : S43), (⟨1, 4611686018427387903, y341, y344⟩ : S43), (⟨2, 4611686018427387903, ([] : List Int), (([1] : List Int))⟩ : S43)] : List (S43)) : List (S43))).bind fun y350 => ((lrat_Write.f k y350).bind fun bt353 => (if bt353.2 = 0 then (threshinglaw04_LratKnown.j0 k y350 (bt353.1.toList != ([49, 48, 32, 48, 32, 57, 32, 45, 52, 32, 55, 32, 48, 10, 48, 32, 100, 32, 48, 10, 52, 54, 49, 49, 54, 56, 54, 48, 49, 56, 52, 50, 55, 51, 56, 55, 57, 48, 51, 32, 49, 48, 52, 56, 53, 55, 54, 32, 45, 49, 48, 52, 56, 53, 55, 54, 32, 48, 32, 52, 54, 49, 49, 54, 56, 54, 48, 49, 56, 52, 50, 55, 51, 56, 55, 57, 48, 51, 32, 45, 52, 54, 49, 49, 54, 56, 54, 48, 49, 56, 52, 50, 55, 51, 56, 55, 57, 48, 51, 32, 48, 10, 52, 54, 49, 49, 54, 56, 54, 48, 49, 56, 52, 50, 55, 51, 56, 55, 57, 48, 51, 32, 100, 32, 49, 32, 48, 10] : List UInt8))) else (threshinglaw04_LratKnown.j0 k y350 true)))) = some r := by first | (rw [hy344]; with_reducible exact H) | (have H2_ := (Option.bind_some _ _).symm.trans H; rw [hy344]; with_reducible exact H2_) | (have H2_ := (Option.bind_some _ _).symm.trans H; with_reducible exact H2_) | with_reducible exact H | (rw [hy344]; exact H) | exact H
  have Ny344 := Aside0.mk hy344
  clear hy344
  obtain ⟨y347, hy347⟩ : ∃ y_ : List Int, y_ = (([1] : List Int)) := ⟨_, rfl⟩
  replace H : ((some (([(⟨1, 10, ([] : List Int), y338⟩ : S43), (⟨2, 0, ([] : List Int), ([] : List Int)⟩ : S43), (⟨1, 4611686018427387903, y341, y344⟩ : S43), (⟨2, 4611686018427387903, ([] : List Int), y347⟩ : S43)] : List (S43)) : List (S43))).bind fun y350 => ((lrat_Write.f k y350).bind fun bt353 => (if bt353.2 = 0 then (threshinglaw04_LratKnown.j0 k y350 (bt353.1.toList != ([49, 48, 32, 48, 32, 57, 32, 45, 52, 32, 55, 32, 48, 10, 48, 32, 100, 32, 48, 10, 52, 54, 49, 49, 54, 56, 54, 48, 49, 56, 52, 50, 55, 51, 56, 55, 57, 48, 51, 32, 49, 48, 52, 56, 53, 55, 54, 32, 45, 49, 48, 52, 56, 53, 55, 54, 32, 48, 32, 52, 54, 49, 49, 54, 56, 54, 48, 49, 56, 52, 50, 55, 51, 56, 55, 57, 48, 51, 32, 45, 52, 54, 49, 49, 54, 56, 54, 48, 49, 56, 52, 50, 55, 51, 56, 55, 57, 48, 51, 32, 48, 10, 52, 54, 49, 49, 54, 56, 54, 48, 49, 56, 52, 50, 55, 51, 56, 55, 57, 48, 51, 32, 100, 32, 49, 32, 48, 10] : List UInt8))) else (threshinglaw04_LratKnown.j0 k y350 true)))) = some r := by first | (rw [hy347]; with_reducible exact H) | (have H2_ := (Option.bind_some _ _).symm.trans H; rw [hy347]; with_reducible exact H2_) | (have H2_ := (Option.bind_some _ _).symm.trans H; with_reducible exact H2_) | with_reducible exact H | (rw [hy347]; exact H) | exact H
  have Ny347 := Aside0.mk hy347
  clear hy347
  obtain ⟨y350, hy350⟩ : ∃ y_ : List (S43), y_ = (([(⟨1, 10, ([] : List Int), y338⟩ : S43), (⟨2, 0, ([] : List Int), ([] : List Int)⟩ : S43), (⟨1, 4611686018427387903, y341, y344⟩ : S43), (⟨2, 4611686018427387903, ([] : List Int), y347⟩ : S43)] : List (S43))) := ⟨_, rfl⟩
  replace H : ((lrat_Write.f k y350).bind fun bt353 => (if bt353.2 = 0 then (threshinglaw04_LratKnown.j0 k y350 (bt353.1.toList != ([49, 48, 32, 48, 32, 57, 32, 45, 52, 32, 55, 32, 48, 10, 48, 32, 100, 32, 48, 10, 52, 54, 49, 49, 54, 56, 54, 48, 49, 56, 52, 50, 55, 51, 56, 55, 57, 48, 51, 32, 49, 48, 52, 56, 53, 55, 54, 32, 45, 49, 48, 52, 56, 53, 55, 54, 32, 48, 32, 52, 54, 49, 49, 54, 56, 54, 48, 49, 56, 52, 50, 55, 51, 56, 55, 57, 48, 51, 32, 45, 52, 54, 49, 49, 54, 56, 54, 48, 49, 56, 52, 50, 55, 51, 56, 55, 57, 48, 51, 32, 48, 10, 52, 54, 49, 49, 54, 56, 54, 48, 49, 56, 52, 50, 55, 51, 56, 55, 57, 48, 51, 32, 100, 32, 49, 32, 48, 10] : List UInt8))) else (threshinglaw04_LratKnown.j0 k y350 true))) = some r := by first | (rw [hy350]; with_reducible exact H) | (have H2_ := (Option.bind_some _ _).symm.trans H; rw [hy350]; with_reducible exact H2_) | (have H2_ := (Option.bind_some _ _).symm.trans H; with_reducible exact H2_) | with_reducible exact H | (rw [hy350]; exact H) | exact H
  have Ny350 := Aside0.mk hy350
  clear hy350
  replace H := Option.bind_eq_some_iff.mp H
  obtain ⟨⟨t353, t354⟩, A10, H⟩ := H
  replace H : (if t354 = 0 then (threshinglaw04_LratKnown.j0 k y350 (t353.toList != ([49, 48, 32, 48, 32, 57, 32, 45, 52, 32, 55, 32, 48, 10, 48, 32, 100, 32, 48, 10, 52, 54, 49, 49, 54, 56, 54, 48, 49, 56, 52, 50, 55, 51, 56, 55, 57, 48, 51, 32, 49, 48, 52, 56, 53, 55, 54, 32, 45, 49, 48, 52, 56, 53, 55, 54, 32, 48, 32, 52, 54, 49, 49, 54, 56, 54, 48, 49, 56, 52, 50, 55, 51, 56, 55, 57, 48, 51, 32, 45, 52, 54, 49, 49, 54, 56, 54, 48, 49, 56, 52, 50, 55, 51, 56, 55, 57, 48, 51, 32, 48, 10, 52, 54, 49, 49, 54, 56, 54, 48, 49, 56, 52, 50, 55, 51, 56, 55, 57, 48, 51, 32, 100, 32, 49, 32, 48, 10] : List UInt8))) else (threshinglaw04_LratKnown.j0 k y350 true)) = some r := H
  have A1 := Aside0.mk A10
  clear A10
  have HC2 := Aside0.mk H
  clear H
  go_enter Tryd.func8, Tryd.ntmps8
  go_upto_region 3 with (first | ((with_reducible refine gate_dst (N := 20) rfl ?_); refine Kd.R_lit (Kd.int .i64) _ 2 ?hg (N := 20) ?hd (xs := ([9, (-4), 7] : List Int)) (inner := [.int .i64 9, .int .i64 (-4), .int .i64 7]) (ok := fun _ => True) (okp := fun _ => True) ?hr ?hp (fun _ hk => hk) trivial (Below.refl _ _) (Nat.le_refl _) (by simp) ?_; (case hd => rfl); (case hg => rfl); (case hr => first | (go_simp; done) | (go_simp; rfl)); (case hp => exact (Reps.one (show Kd.M (Kd.int .i64) _ _ _ 9 [.int .i64 9] from rfl) (Reps.one (show Kd.M (Kd.int .i64) _ _ _ (-4) [.int .i64 (-4)] from rfl) (Reps.one (show Kd.M (Kd.int .i64) _ _ _ 7 [.int .i64 7] from rfl) (Reps.none _ _))))); intro v339 w3 ho4 hb hg_ hnew_; clear hg_ hnew_; (first | rw [← Ny338.out] at ho4 | (simp only [Int.reduceToNat] at ho4; rw [← Ny338.out] at ho4)); have n0_ := Aside0.mk (Kd.R_lower ho4 (below_size (by repeat (first | (with_reducible first | exact HB.out | apply below_alloc | apply pw_below_drewN | apply below_drew1) | exact HB.out)))); have n1_ := Aside0.mk (below_step (by repeat (first | (with_reducible first | exact HB.out | apply below_alloc | apply pw_below_drewN | apply below_drew1) | exact HB.out)) hb); clear HB; have HO340 := n0_; have HB := n1_; clear n0_ n1_; clear hb ho4; obtain ⟨Ao5, co5, eo5⟩ := Kd.R_slice HO340.out; subst eo5) | ((with_reducible refine gate_dst (N := 23) rfl ?_); refine Kd.R_lit (Kd.int .i32) _ 44 ?hg (N := 23) ?hd (xs := ([1048576, (-1048576)] : List Int)) (inner := [.int .i32 1048576, .int .i32 (-1048576)]) (ok := fun _ => True) (okp := fun _ => True) ?hr ?hp (fun _ hk => hk) trivial (Below.refl _ _) (Nat.le_refl _) (by simp) ?_; (case hd => rfl); (case hg => rfl); (case hr => first | (go_simp; done) | (go_simp; rfl)); (case hp => exact (Reps.one (show Kd.M (Kd.int .i32) _ _ _ 1048576 [.int .i32 1048576] from rfl) (Reps.one (show Kd.M (Kd.int .i32) _ _ _ (-1048576) [.int .i32 (-1048576)] from rfl) (Reps.none _ _)))); intro v342 w6 ho7 hb hg_ hnew_; clear hg_ hnew_; (first | rw [← Ny341.out] at ho7 | (simp only [Int.reduceToNat] at ho7; rw [← Ny341.out] at ho7)); have n0_ := Aside0.mk (Kd.R_below (by (with_reducible repeat (first | apply Kd.R_alloc | apply Kd.R_drewN | apply Kd.R_drew)); exact HO340.out) hb); have n1_ := Aside0.mk (Kd.R_lower ho7 (below_size (by repeat (first | (with_reducible first | exact HB.out | apply below_alloc | apply pw_below_drewN | apply below_drew1) | exact HB.out)))); have n2_ := Aside0.mk (below_step (by repeat (first | (with_reducible first | exact HB.out | apply below_alloc | apply pw_below_drewN | apply below_drew1) | exact HB.out)) hb); clear HO340; clear HB; have HO340 := n0_; have HO343 := n1_; have HB := n2_; clear n0_ n1_ n2_; clear hb ho7) | ((with_reducible refine gate_dst (N := 24) rfl ?_); refine Kd.R_lit (Kd.int .i64) _ 2 ?hg (N := 24) ?hd (xs := ([4611686018427387903, (-4611686018427387903)] : List Int)) (inner := [.int .i64 4611686018427387903, .int .i64 (-4611686018427387903)]) (ok := fun _ => True) (okp := fun _ => True) ?hr ?hp (fun _ hk => hk) trivial (Below.refl _ _) (Nat.le_refl _) (by simp) ?_; (case hd => rfl); (case hg => rfl); (case hr => first | (go_simp; done) | (go_simp; rfl)); (case hp => exact (Reps.one (show Kd.M (Kd.int .i64) _ _ _ 4611686018427387903 [.int .i64 4611686018427387903] from rfl) (Reps.one (show Kd.M (Kd.int .i64) _ _ _ (-4611686018427387903) [.int .i64 (-4611686018427387903)] from rfl) (Reps.none _ _)))); intro v345 w8 ho9 hb hg_ hnew_; clear hg_ hnew_; (first | rw [← Ny344.out] at ho9 | (simp only [Int.reduceToNat] at ho9; rw [← Ny344.out] at ho9)); have n0_ := Aside0.mk (Kd.R_elder' (by (with_reducible repeat (first | apply Kd.R_alloc | apply Kd.R_drewN | apply Kd.R_drew)); exact HO340.out) (Kd.R_base ho9) hb); have n1_ := Aside0.mk (Kd.R_below (by (with_reducible repeat (first | apply Kd.R_alloc | apply Kd.R_drewN | apply Kd.R_drew)); exact HO343.out) hb); have n2_ := Aside0.mk (Kd.R_lower (Kd.R_new' ho9 (Kd.R_lt (by (with_reducible repeat (first | apply Kd.R_alloc | apply Kd.R_drewN | apply Kd.R_drew)); exact HO340.out))) (below_size (by repeat (first | (with_reducible first | exact HB.out | apply below_alloc | apply pw_below_drewN | apply below_drew1) | exact HB.out)))); have n3_ := Aside0.mk (below_step (by repeat (first | (with_reducible first | exact HB.out | apply below_alloc | apply pw_below_drewN | apply below_drew1) | exact HB.out)) hb); clear HO340; clear HO343; clear HB; have HO340 := n0_; have HO343 := n1_; have HO346 := n2_; have HB := n3_; clear n0_ n1_ n2_ n3_; clear hb ho9; obtain ⟨Ao10, co10, eo10⟩ := Kd.R_slice HO346.out; subst eo10; obtain ⟨Ao11, co11, eo11⟩ := Kd.R_slice HO343.out; subst eo11) | ((with_reducible refine gate_dst (N := 26) rfl ?_); refine Kd.R_lit (Kd.int .i64) _ 2 ?hg (N := 26) ?hd (xs := ([1] : List Int)) (inner := [.int .i64 1]) (ok := fun _ => True) (okp := fun _ => True) ?hr ?hp (fun _ hk => hk) trivial (Below.refl _ _) (Nat.le_refl _) (by simp) ?_; (case hd => rfl); (case hg => rfl); (case hr => first | (go_simp; done) | (go_simp; rfl)); (case hp => exact (Reps.one (show Kd.M (Kd.int .i64) _ _ _ 1 [.int .i64 1] from rfl) (Reps.none _ _))); intro v348 w12 ho13 hb hg_ hnew_; clear hg_ hnew_; (first | rw [← Ny347.out] at ho13 | (simp only [Int.reduceToNat] at ho13; rw [← Ny347.out] at ho13)); have n0_ := Aside0.mk (Kd.R_elder' (by (with_reducible repeat (first | apply Kd.R_alloc | apply Kd.R_drewN | apply Kd.R_drew)); exact HO340.out) (Kd.R_base ho13) hb); have n1_ := Aside0.mk (Kd.R_below (by (with_reducible repeat (first | apply Kd.R_alloc | apply Kd.R_drewN | apply Kd.R_drew)); exact HO343.out) hb); have n2_ := Aside0.mk (Kd.R_elder' (by (with_reducible repeat (first | apply Kd.R_alloc | apply Kd.R_drewN | apply Kd.R_drew)); exact HO346.out) (Kd.R_base ho13) hb); have n3_ := Aside0.mk (Kd.R_lower (Kd.R_new' (Kd.R_new' ho13 (Kd.R_lt (by (with_reducible repeat (first | apply Kd.R_alloc | apply Kd.R_drewN | apply Kd.R_drew)); exact HO340.out))) (Kd.R_lt (by (with_reducible repeat (first | apply Kd.R_alloc | apply Kd.R_drewN | apply Kd.R_drew)); exact HO346.out))) (below_size (by repeat (first | (with_reducible first | exact HB.out | apply below_alloc | apply pw_below_drewN | apply below_drew1) | exact HB.out)))); have n4_ := Aside0.mk (below_step (by repeat (first | (with_reducible first | exact HB.out | apply below_alloc | apply pw_below_drewN | apply below_drew1) | exact HB.out)) hb); clear HO340; clear HO343; clear HO346; clear HB; have HO340 := n0_; have HO343 := n1_; have HO346 := n2_; have HO349 := n3_; have HB := n4_; clear n0_ n1_ n2_ n3_ n4_; clear hb ho13; obtain ⟨Ao14, co14, eo14⟩ := Kd.R_slice HO349.out; subst eo14) | ((with_reducible refine gate_dst (N := 28) rfl ?_); refine Kd.N_lit k43 _ 43 ?hg (N' := 28) ?hd (xs := ([(⟨1, 10, ([] : List Int), y338⟩ : S43), (⟨2, 0, ([] : List Int), ([] : List Int)⟩ : S43), (⟨1, 4611686018427387903, y341, y344⟩ : S43), (⟨2, 4611686018427387903, ([] : List Int), y347⟩ : S43)] : List (S43))) (inner := [.int .u8 1, .int .i64 10, .slice none 0 0, .slice Ao5 y338.length co5, .int .u8 2, .int .i64 0, .slice none 0 0, .slice none 0 0, .int .u8 1, .int .i64 4611686018427387903, .slice Ao11 y341.length co11, .slice Ao10 y344.length co10, .int .u8 2, .int .i64 4611686018427387903, .slice none 0 0, .slice Ao14 y347.length co14]) (ok := (fun _ => True)) (okp := (fun _ => True)) ?hr ?hp (fun _ hk => hk) ((show ∀ k_, w12.heap.size ≤ k_ → (fun _ => True) k_ from fun k_ hk => trivial) _ (Nat.le_refl _)) (Below.refl _ _) (Nat.le_refl _) (by simp) ?_; (case hd => rfl); (case hg => rfl); (case hr => first | (go_simp; done) | (go_simp; rfl)); (case hp => exact (Reps.c4 (show Kd.FK k43 _ _ (⟨1, 10, ([] : List Int), y338⟩ : S43) [.int .u8 1, .int .i64 10, .slice none 0 0, .slice Ao5 y338.length co5] from (k43_mkF _ _ (⟨1, 10, ([] : List Int), y338⟩ : S43) (Nat.le_refl _) (Kd.F_nil _ _ _) (Kd.R_reads' (Kd.R_mono (ok' := (fun _ => True)) (HO340.out) (fun k_ hk => trivial))).2.1 (Kd.R_F (Kd.R_mono (ok' := (fun _ => True)) (HO340.out) (fun k_ hk => trivial))))) (Reps.c4 (show Kd.FK k43 _ _ (⟨2, 0, ([] : List Int), ([] : List Int)⟩ : S43) [.int .u8 2, .int .i64 0, .slice none 0 0, .slice none 0 0] from (k43_mkF _ _ (⟨2, 0, ([] : List Int), ([] : List Int)⟩ : S43) (Nat.le_refl _) (Kd.F_nil _ _ _) (Nat.le_refl _) (Kd.F_nil _ _ _))) (Reps.c4 (show Kd.FK k43 _ _ (⟨1, 4611686018427387903, y341, y344⟩ : S43) [.int .u8 1, .int .i64 4611686018427387903, .slice Ao11 y341.length co11, .slice Ao10 y344.length co10] from (k43_mkF _ _ (⟨1, 4611686018427387903, y341, y344⟩ : S43) (Kd.R_reads' (Kd.R_mono (ok' := (fun _ => True)) (HO343.out) (fun k_ hk => trivial))).2.1 (Kd.R_F (Kd.R_mono (ok' := (fun _ => True)) (HO343.out) (fun k_ hk => trivial))) (Kd.R_reads' (Kd.R_mono (ok' := (fun _ => True)) (HO346.out) (fun k_ hk => trivial))).2.1 (Kd.R_F (Kd.R_mono (ok' := (fun _ => True)) (HO346.out) (fun k_ hk => trivial))))) (Reps.c4 (show Kd.FK k43 _ _ (⟨2, 4611686018427387903, ([] : List Int), y347⟩ : S43) [.int .u8 2, .int .i64 4611686018427387903, .slice none 0 0, .slice Ao14 y347.length co14] from (k43_mkF _ _ (⟨2, 4611686018427387903, ([] : List Int), y347⟩ : S43) (Nat.le_refl _) (Kd.F_nil _ _ _) (Kd.R_reads' (Kd.R_mono (ok' := (fun _ => True)) (HO349.out) (fun k_ hk => trivial))).2.1 (Kd.R_F (Kd.R_mono (ok' := (fun _ => True)) (HO349.out) (fun k_ hk => trivial))))) (Reps.none _ _)))))); intro v351 w15 ho16 hb hg_ hnew_; clear hg_ hnew_; (first | rw [← Ny350.out] at ho16 | (simp only [Int.reduceToNat] at ho16; rw [← Ny350.out] at ho16)); have n0_ := Aside0.mk (Kd.N_lower ho16 (below_size (by repeat (first | (with_reducible first | exact HB.out | apply below_alloc | apply pw_below_drewN | apply below_drew1) | exact HB.out)))); have n1_ := Aside0.mk (below_step (by repeat (first | (with_reducible first | exact HB.out | apply below_alloc | apply pw_below_drewN | apply below_drew1) | exact HB.out)) hb); clear HB; clear HO340; clear HO343; clear HO346; clear HO349; have HO352 := n0_; have HB := n1_; clear n0_ n1_; clear hb ho16; obtain ⟨Ao17, co17, eo17⟩ := Kd.N_slice HO352.out; subst eo17) | ((with_reducible refine gate_callee (f := 12) rfl ?_); refine goesL_ (some 31) rfl rfl Tryd.func12 (by kernel_rfl) rfl #[.slice Ao17 y350.length co17] rfl (by (try simp only [List.map_toArray, List.map_cons, List.map_nil]); first | done | rfl | (simp only [List.length_drop, List.length_take]; rfl)) ?_; (with_reducible refine (lrat_Write.calls k _ _ y350 t353 t354 _ ?side1 ?side2 A1.out ?sideT).mono ?_); (case sideT => exact LT.pay HLT.out (by repeat (first | (with_reducible first | exact HB.out | apply below_alloc | apply pw_below_drewN | apply below_drew1) | exact HB.out))); (case side1 => repeat (first | exact (Kd.N_reads' HO352.out).2.2 | (with_reducible refine Kd.C_alloc ?_ _) | (with_reducible refine Kd.C_drewN ?_ _) | (with_reducible refine Kd.C_drew ?_))); (case side2 => exact (Kd.N_reads' HO352.out).2.1); rintro e w18 ⟨rfl, hb⟩; refine ⟨_, rfl, ?_⟩; have n0_ := Aside0.mk (Kd.N_below (by (with_reducible repeat (first | apply Kd.N_alloc | apply Kd.N_drewN | apply Kd.N_drew)); exact HO352.out) hb); have n1_ := Aside0.mk (below_step (by repeat (first | (with_reducible first | exact HB.out | apply below_alloc | apply pw_below_drewN | apply below_drew1) | exact HB.out)) hb); clear HO352; clear HB; have HO352 := n0_; have HB := n1_; clear n0_ n1_; (try clear hb); (try clear hb2); (try clear hk); (try clear hi)))
  (try simp only [Act.put, List.setIfInBounds_toArray, List.set_cons_zero, List.set_cons_succ])
  go_cut [39] (fun v39 wc => ∃ (kq : Nat) (x39_1 : Bool), v39 = .bool x39_1 ∧ Aside0 (threshinglaw04_LratKnown.j0 kq y350 x39_1 = some r) ∧ Aside0 (kq ≤ k) ∧ Aside0 (Kd.N k43 43 wc w.heap.size (fun _ => True) (.slice Ao17 y350.length co17) y350) ∧ Aside0 (Below w.heap.size w wc))
  case first =>
    have H := HC2.out
    clear HC2
    by_cases c19 : t354 = 0
    · rw [if_pos c19] at H
      have c19b0 : (t354 == 0) = true := beq_iff_eq.mpr c19
      have c19b1 : (t354 != 0) = false := bne_eq_false_iff_eq.mpr c19
      clear c19
      (first | rw [c19b0] | (simp only [i64_w, i32_w]; rw [c19b0]) | skip)
      have H' := Aside0.mk H
      clear H
      go_wp2
      go_meet
      case rel => exact ⟨_, ((t353.toList != ([49, 48, 32, 48, 32, 57, 32, 45, 52, 32, 55, 32, 48, 10, 48, 32, 100, 32, 48, 10, 52, 54, 49, 49, 54, 56, 54, 48, 49, 56, 52, 50, 55, 51, 56, 55, 57, 48, 51, 32, 49, 48, 52, 56, 53, 55, 54, 32, 45, 49, 48, 52, 56, 53, 55, 54, 32, 48, 32, 52, 54, 49, 49, 54, 56, 54, 48, 49, 56, 52, 50, 55, 51, 56, 55, 57, 48, 51, 32, 45, 52, 54, 49, 49, 54, 56, 54, 48, 49, 56, 52, 50, 55, 51, 56, 55, 57, 48, 51, 32, 48, 10, 52, 54, 49, 49, 54, 56, 54, 48, 49, 56, 52, 50, 55, 51, 56, 55, 57, 48, 51, 32, 100, 32, 49, 32, 48, 10] : List UInt8))), (by first | rfl | (simp; done) | (simp [*]; done)), H', ⟨by first | omega | exact Nat.le_refl _⟩, ⟨by (with_reducible repeat (first | apply Kd.N_alloc | apply Kd.N_drewN | apply Kd.N_drew)); exact HO352.out⟩, ⟨by repeat (first | (with_reducible first | exact HB.out | apply below_alloc | apply pw_below_drewN | apply below_drew1) | exact HB.out)⟩⟩
    · rw [if_neg c19] at H
      have c19b0 : (t354 == 0) = false := beq_eq_false_iff_ne.mpr c19
      have c19b1 : (t354 != 0) = true := bne_iff_ne.mpr c19
      (first | rw [c19b0] | (simp only [i64_w, i32_w]; rw [c19b0]) | skip)
      have H' := Aside0.mk H
      clear H
      go_wp2
      go_meet
      case rel => exact ⟨_, (true), (by first | rfl | (simp; done) | (simp [*]; done)), H', ⟨by first | omega | exact Nat.le_refl _⟩, ⟨by (with_reducible repeat (first | apply Kd.N_alloc | apply Kd.N_drewN | apply Kd.N_drew)); exact HO352.out⟩, ⟨by repeat (first | (with_reducible first | exact HB.out | apply below_alloc | apply pw_below_drewN | apply below_drew1) | exact HB.out)⟩⟩
  case rest =>
    clear HC2
    try clear c1
    try clear p2
    try clear c4
    try clear c8
    try clear c12
    try clear c19
    try clear c19b0
    try clear c19b1
    obtain ⟨kq, x39_1, rfl, HA, HJ1, HO_1, HB⟩ := hcut
    cases kq with
    | zero => exact absurd HA.out (by simp [threshinglaw04_LratKnown.j0])
    | succ kj1 =>
      have H := HA.out
      clear HA
      simp only [threshinglaw04_LratKnown.j0] at H
      by_cases c20 : x39_1 = true
      · subst c20
        have H1 : (some false) = some r := by rw [if_pos rfl] at H; exact H
        clear H
        have H := H1
        clear H1
        exact absurd ((Option.some.inj H).trans hr) (by decide)
      · replace c20 := Bool.eq_false_iff.mpr c20
        subst c20
        have H1 : (threshinglaw04_LratKnown.l0 kj1 y350 (([(⟨0, 0, ([] : List Int), ([] : List Int)⟩ : S43), (⟨3, 1, ([] : List Int), ([] : List Int)⟩ : S43), (⟨1, 0, ([] : List Int), ([] : List Int)⟩ : S43), (⟨1, (-1), ([] : List Int), ([] : List Int)⟩ : S43), (⟨1, 4611686018427387904, ([] : List Int), ([] : List Int)⟩ : S43), (⟨1, 1, (([0] : List Int)), ([] : List Int)⟩ : S43), (⟨1, 1, (([1048577] : List Int)), ([] : List Int)⟩ : S43), (⟨1, 1, (([(-2147483648)] : List Int)), ([] : List Int)⟩ : S43), (⟨1, 1, ([] : List Int), (([0] : List Int))⟩ : S43), (⟨1, 1, ([] : List Int), (([(-9223372036854775808)] : List Int))⟩ : S43), (⟨2, (-1), ([] : List Int), ([] : List Int)⟩ : S43), (⟨2, 0, (([1] : List Int)), ([] : List Int)⟩ : S43), (⟨2, 0, ([] : List Int), (([(-1)] : List Int))⟩ : S43)] : List (S43))) 0) = some r := by rw [if_neg (show ¬ (false = true) by decide)] at H; exact H
        clear H
        have H := H1
        clear H1
        obtain ⟨y355, hy355⟩ : ∃ y_ : List Int, y_ = (([0] : List Int)) := ⟨_, rfl⟩
        replace H : (threshinglaw04_LratKnown.l0 kj1 y350 (([(⟨0, 0, ([] : List Int), ([] : List Int)⟩ : S43), (⟨3, 1, ([] : List Int), ([] : List Int)⟩ : S43), (⟨1, 0, ([] : List Int), ([] : List Int)⟩ : S43), (⟨1, (-1), ([] : List Int), ([] : List Int)⟩ : S43), (⟨1, 4611686018427387904, ([] : List Int), ([] : List Int)⟩ : S43), (⟨1, 1, y355, ([] : List Int)⟩ : S43), (⟨1, 1, (([1048577] : List Int)), ([] : List Int)⟩ : S43), (⟨1, 1, (([(-2147483648)] : List Int)), ([] : List Int)⟩ : S43), (⟨1, 1, ([] : List Int), (([0] : List Int))⟩ : S43), (⟨1, 1, ([] : List Int), (([(-9223372036854775808)] : List Int))⟩ : S43), (⟨2, (-1), ([] : List Int), ([] : List Int)⟩ : S43), (⟨2, 0, (([1] : List Int)), ([] : List Int)⟩ : S43), (⟨2, 0, ([] : List Int), (([(-1)] : List Int))⟩ : S43)] : List (S43))) 0) = some r := by first | (rw [hy355]; with_reducible exact H) | (have H2_ := (Option.bind_some _ _).symm.trans H; rw [hy355]; with_reducible exact H2_) | (have H2_ := (Option.bind_some _ _).symm.trans H; with_reducible exact H2_) | with_reducible exact H | (rw [hy355]; exact H) | exact H
        have Ny355 := Aside0.mk hy355
        clear hy355
        obtain ⟨y358, hy358⟩ : ∃ y_ : List Int, y_ = (([1048577] : List Int)) := ⟨_, rfl⟩
        replace H : (threshinglaw04_LratKnown.l0 kj1 y350 (([(⟨0, 0, ([] : List Int), ([] : List Int)⟩ : S43), (⟨3, 1, ([] : List Int), ([] : List Int)⟩ : S43), (⟨1, 0, ([] : List Int), ([] : List Int)⟩ : S43), (⟨1, (-1), ([] : List Int), ([] : List Int)⟩ : S43), (⟨1, 4611686018427387904, ([] : List Int), ([] : List Int)⟩ : S43), (⟨1, 1, y355, ([] : List Int)⟩ : S43), (⟨1, 1, y358, ([] : List Int)⟩ : S43), (⟨1, 1, (([(-2147483648)] : List Int)), ([] : List Int)⟩ : S43), (⟨1, 1, ([] : List Int), (([0] : List Int))⟩ : S43), (⟨1, 1, ([] : List Int), (([(-9223372036854775808)] : List Int))⟩ : S43), (⟨2, (-1), ([] : List Int), ([] : List Int)⟩ : S43), (⟨2, 0, (([1] : List Int)), ([] : List Int)⟩ : S43), (⟨2, 0, ([] : List Int), (([(-1)] : List Int))⟩ : S43)] : List (S43))) 0) = some r := by first | (rw [hy358]; with_reducible exact H) | (have H2_ := (Option.bind_some _ _).symm.trans H; rw [hy358]; with_reducible exact H2_) | (have H2_ := (Option.bind_some _ _).symm.trans H; with_reducible exact H2_) | with_reducible exact H | (rw [hy358]; exact H) | exact H
        have Ny358 := Aside0.mk hy358
        clear hy358
        obtain ⟨y361, hy361⟩ : ∃ y_ : List Int, y_ = (([(-2147483648)] : List Int)) := ⟨_, rfl⟩
        replace H : (threshinglaw04_LratKnown.l0 kj1 y350 (([(⟨0, 0, ([] : List Int), ([] : List Int)⟩ : S43), (⟨3, 1, ([] : List Int), ([] : List Int)⟩ : S43), (⟨1, 0, ([] : List Int), ([] : List Int)⟩ : S43), (⟨1, (-1), ([] : List Int), ([] : List Int)⟩ : S43), (⟨1, 4611686018427387904, ([] : List Int), ([] : List Int)⟩ : S43), (⟨1, 1, y355, ([] : List Int)⟩ : S43), (⟨1, 1, y358, ([] : List Int)⟩ : S43), (⟨1, 1, y361, ([] : List Int)⟩ : S43), (⟨1, 1, ([] : List Int), (([0] : List Int))⟩ : S43), (⟨1, 1, ([] : List Int), (([(-9223372036854775808)] : List Int))⟩ : S43), (⟨2, (-1), ([] : List Int), ([] : List Int)⟩ : S43), (⟨2, 0, (([1] : List Int)), ([] : List Int)⟩ : S43), (⟨2, 0, ([] : List Int), (([(-1)] : List Int))⟩ : S43)] : List (S43))) 0) = some r := by first | (rw [hy361]; with_reducible exact H) | (have H2_ := (Option.bind_some _ _).symm.trans H; rw [hy361]; with_reducible exact H2_) | (have H2_ := (Option.bind_some _ _).symm.trans H; with_reducible exact H2_) | with_reducible exact H | (rw [hy361]; exact H) | exact H
        have Ny361 := Aside0.mk hy361
        clear hy361
        obtain ⟨y364, hy364⟩ : ∃ y_ : List Int, y_ = (([0] : List Int)) := ⟨_, rfl⟩
        replace H : (threshinglaw04_LratKnown.l0 kj1 y350 (([(⟨0, 0, ([] : List Int), ([] : List Int)⟩ : S43), (⟨3, 1, ([] : List Int), ([] : List Int)⟩ : S43), (⟨1, 0, ([] : List Int), ([] : List Int)⟩ : S43), (⟨1, (-1), ([] : List Int), ([] : List Int)⟩ : S43), (⟨1, 4611686018427387904, ([] : List Int), ([] : List Int)⟩ : S43), (⟨1, 1, y355, ([] : List Int)⟩ : S43), (⟨1, 1, y358, ([] : List Int)⟩ : S43), (⟨1, 1, y361, ([] : List Int)⟩ : S43), (⟨1, 1, ([] : List Int), y364⟩ : S43), (⟨1, 1, ([] : List Int), (([(-9223372036854775808)] : List Int))⟩ : S43), (⟨2, (-1), ([] : List Int), ([] : List Int)⟩ : S43), (⟨2, 0, (([1] : List Int)), ([] : List Int)⟩ : S43), (⟨2, 0, ([] : List Int), (([(-1)] : List Int))⟩ : S43)] : List (S43))) 0) = some r := by first | (rw [hy364]; with_reducible exact H) | (have H2_ := (Option.bind_some _ _).symm.trans H; rw [hy364]; with_reducible exact H2_) | (have H2_ := (Option.bind_some _ _).symm.trans H; with_reducible exact H2_) | with_reducible exact H | (rw [hy364]; exact H) | exact H
        have Ny364 := Aside0.mk hy364
        clear hy364
        obtain ⟨y367, hy367⟩ : ∃ y_ : List Int, y_ = (([(-9223372036854775808)] : List Int)) := ⟨_, rfl⟩
        replace H : (threshinglaw04_LratKnown.l0 kj1 y350 (([(⟨0, 0, ([] : List Int), ([] : List Int)⟩ : S43), (⟨3, 1, ([] : List Int), ([] : List Int)⟩ : S43), (⟨1, 0, ([] : List Int), ([] : List Int)⟩ : S43), (⟨1, (-1), ([] : List Int), ([] : List Int)⟩ : S43), (⟨1, 4611686018427387904, ([] : List Int), ([] : List Int)⟩ : S43), (⟨1, 1, y355, ([] : List Int)⟩ : S43), (⟨1, 1, y358, ([] : List Int)⟩ : S43), (⟨1, 1, y361, ([] : List Int)⟩ : S43), (⟨1, 1, ([] : List Int), y364⟩ : S43), (⟨1, 1, ([] : List Int), y367⟩ : S43), (⟨2, (-1), ([] : List Int), ([] : List Int)⟩ : S43), (⟨2, 0, (([1] : List Int)), ([] : List Int)⟩ : S43), (⟨2, 0, ([] : List Int), (([(-1)] : List Int))⟩ : S43)] : List (S43))) 0) = some r := by first | (rw [hy367]; with_reducible exact H) | (have H2_ := (Option.bind_some _ _).symm.trans H; rw [hy367]; with_reducible exact H2_) | (have H2_ := (Option.bind_some _ _).symm.trans H; with_reducible exact H2_) | with_reducible exact H | (rw [hy367]; exact H) | exact H
        have Ny367 := Aside0.mk hy367
        clear hy367
        obtain ⟨y370, hy370⟩ : ∃ y_ : List Int, y_ = (([1] : List Int)) := ⟨_, rfl⟩
        replace H : (threshinglaw04_LratKnown.l0 kj1 y350 (([(⟨0, 0, ([] : List Int), ([] : List Int)⟩ : S43), (⟨3, 1, ([] : List Int), ([] : List Int)⟩ : S43), (⟨1, 0, ([] : List Int), ([] : List Int)⟩ : S43), (⟨1, (-1), ([] : List Int), ([] : List Int)⟩ : S43), (⟨1, 4611686018427387904, ([] : List Int), ([] : List Int)⟩ : S43), (⟨1, 1, y355, ([] : List Int)⟩ : S43), (⟨1, 1, y358, ([] : List Int)⟩ : S43), (⟨1, 1, y361, ([] : List Int)⟩ : S43), (⟨1, 1, ([] : List Int), y364⟩ : S43), (⟨1, 1, ([] : List Int), y367⟩ : S43), (⟨2, (-1), ([] : List Int), ([] : List Int)⟩ : S43), (⟨2, 0, y370, ([] : List Int)⟩ : S43), (⟨2, 0, ([] : List Int), (([(-1)] : List Int))⟩ : S43)] : List (S43))) 0) = some r := by first | (rw [hy370]; with_reducible exact H) | (have H2_ := (Option.bind_some _ _).symm.trans H; rw [hy370]; with_reducible exact H2_) | (have H2_ := (Option.bind_some _ _).symm.trans H; with_reducible exact H2_) | with_reducible exact H | (rw [hy370]; exact H) | exact H
        have Ny370 := Aside0.mk hy370
        clear hy370
        obtain ⟨y373, hy373⟩ : ∃ y_ : List Int, y_ = (([(-1)] : List Int)) := ⟨_, rfl⟩
        replace H : (threshinglaw04_LratKnown.l0 kj1 y350 (([(⟨0, 0, ([] : List Int), ([] : List Int)⟩ : S43), (⟨3, 1, ([] : List Int), ([] : List Int)⟩ : S43), (⟨1, 0, ([] : List Int), ([] : List Int)⟩ : S43), (⟨1, (-1), ([] : List Int), ([] : List Int)⟩ : S43), (⟨1, 4611686018427387904, ([] : List Int), ([] : List Int)⟩ : S43), (⟨1, 1, y355, ([] : List Int)⟩ : S43), (⟨1, 1, y358, ([] : List Int)⟩ : S43), (⟨1, 1, y361, ([] : List Int)⟩ : S43), (⟨1, 1, ([] : List Int), y364⟩ : S43), (⟨1, 1, ([] : List Int), y367⟩ : S43), (⟨2, (-1), ([] : List Int), ([] : List Int)⟩ : S43), (⟨2, 0, y370, ([] : List Int)⟩ : S43), (⟨2, 0, ([] : List Int), y373⟩ : S43)] : List (S43))) 0) = some r := by first | (rw [hy373]; with_reducible exact H) | (have H2_ := (Option.bind_some _ _).symm.trans H; rw [hy373]; with_reducible exact H2_) | (have H2_ := (Option.bind_some _ _).symm.trans H; with_reducible exact H2_) | with_reducible exact H | (rw [hy373]; exact H) | exact H
        have Ny373 := Aside0.mk hy373
        clear hy373
        obtain ⟨y376, hy376⟩ : ∃ y_ : List (S43), y_ = (([(⟨0, 0, ([] : List Int), ([] : List Int)⟩ : S43), (⟨3, 1, ([] : List Int), ([] : List Int)⟩ : S43), (⟨1, 0, ([] : List Int), ([] : List Int)⟩ : S43), (⟨1, (-1), ([] : List Int), ([] : List Int)⟩ : S43), (⟨1, 4611686018427387904, ([] : List Int), ([] : List Int)⟩ : S43), (⟨1, 1, y355, ([] : List Int)⟩ : S43), (⟨1, 1, y358, ([] : List Int)⟩ : S43), (⟨1, 1, y361, ([] : List Int)⟩ : S43), (⟨1, 1, ([] : List Int), y364⟩ : S43), (⟨1, 1, ([] : List Int), y367⟩ : S43), (⟨2, (-1), ([] : List Int), ([] : List Int)⟩ : S43), (⟨2, 0, y370, ([] : List Int)⟩ : S43), (⟨2, 0, ([] : List Int), y373⟩ : S43)] : List (S43))) := ⟨_, rfl⟩
        replace H : (threshinglaw04_LratKnown.l0 kj1 y350 y376 0) = some r := by first | (rw [hy376]; with_reducible exact H) | (have H2_ := (Option.bind_some _ _).symm.trans H; rw [hy376]; with_reducible exact H2_) | (have H2_ := (Option.bind_some _ _).symm.trans H; with_reducible exact H2_) | with_reducible exact H | (rw [hy376]; exact H) | exact H
        have Ny376 := Aside0.mk hy376
        clear hy376
        have H' := Aside0.mk H
        clear H
        go_wp2_with (first | ((with_reducible refine gate_dst (N := 45) rfl ?_); refine Kd.R_lit (Kd.int .i32) _ 44 ?hg (N := 45) ?hd (xs := ([0] : List Int)) (inner := [.int .i32 0]) (ok := fun _ => True) (okp := fun _ => True) ?hr ?hp (fun _ hk => hk) trivial (Below.refl _ _) (Nat.le_refl _) (by simp) ?_; (case hd => rfl); (case hg => rfl); (case hr => first | (go_simp; done) | (go_simp; rfl)); (case hp => exact (Reps.one (show Kd.M (Kd.int .i32) _ _ _ 0 [.int .i32 0] from rfl) (Reps.none _ _))); intro v356 w21 ho22 hb hg_ hnew_; clear hg_ hnew_; (first | rw [← Ny355.out] at ho22 | (simp only [Int.reduceToNat] at ho22; rw [← Ny355.out] at ho22)); have n0_ := Aside0.mk (Kd.N_elder' (by (with_reducible repeat (first | apply Kd.N_alloc | apply Kd.N_drewN | apply Kd.N_drew)); exact HO_1.out) (Kd.R_base ho22) hb); have n1_ := Aside0.mk (Kd.R_lower ho22 (below_size (by repeat (first | (with_reducible first | exact HB.out | apply below_alloc | apply pw_below_drewN | apply below_drew1) | exact HB.out)))); have n2_ := Aside0.mk (below_step (by repeat (first | (with_reducible first | exact HB.out | apply below_alloc | apply pw_below_drewN | apply below_drew1) | exact HB.out)) hb); clear HO_1; clear HB; have HO_1 := n0_; have HO357 := n1_; have HB := n2_; clear n0_ n1_ n2_; clear hb ho22; obtain ⟨Ao23, co23, eo23⟩ := Kd.R_slice HO357.out; subst eo23) | ((with_reducible refine gate_dst (N := 47) rfl ?_); refine Kd.R_lit (Kd.int .i32) _ 44 ?hg (N := 47) ?hd (xs := ([1048577] : List Int)) (inner := [.int .i32 1048577]) (ok := fun _ => True) (okp := fun _ => True) ?hr ?hp (fun _ hk => hk) trivial (Below.refl _ _) (Nat.le_refl _) (by simp) ?_; (case hd => rfl); (case hg => rfl); (case hr => first | (go_simp; done) | (go_simp; rfl)); (case hp => exact (Reps.one (show Kd.M (Kd.int .i32) _ _ _ 1048577 [.int .i32 1048577] from rfl) (Reps.none _ _))); intro v359 w24 ho25 hb hg_ hnew_; clear hg_ hnew_; (first | rw [← Ny358.out] at ho25 | (simp only [Int.reduceToNat] at ho25; rw [← Ny358.out] at ho25)); have n0_ := Aside0.mk (Kd.N_elder' (by (with_reducible repeat (first | apply Kd.N_alloc | apply Kd.N_drewN | apply Kd.N_drew)); exact HO_1.out) (Kd.R_base ho25) hb); have n1_ := Aside0.mk (Kd.R_elder' (by (with_reducible repeat (first | apply Kd.R_alloc | apply Kd.R_drewN | apply Kd.R_drew)); exact HO357.out) (Kd.R_base ho25) hb); have n2_ := Aside0.mk (Kd.R_lower (Kd.R_new' ho25 (Kd.R_lt (by (with_reducible repeat (first | apply Kd.R_alloc | apply Kd.R_drewN | apply Kd.R_drew)); exact HO357.out))) (below_size (by repeat (first | (with_reducible first | exact HB.out | apply below_alloc | apply pw_below_drewN | apply below_drew1) | exact HB.out)))); have n3_ := Aside0.mk (below_step (by repeat (first | (with_reducible first | exact HB.out | apply below_alloc | apply pw_below_drewN | apply below_drew1) | exact HB.out)) hb); clear HO_1; clear HO357; clear HB; have HO_1 := n0_; have HO357 := n1_; have HO360 := n2_; have HB := n3_; clear n0_ n1_ n2_ n3_; clear hb ho25; obtain ⟨Ao26, co26, eo26⟩ := Kd.R_slice HO360.out; subst eo26) | ((with_reducible refine gate_dst (N := 49) rfl ?_); refine Kd.R_lit (Kd.int .i32) _ 44 ?hg (N := 49) ?hd (xs := ([(-2147483648)] : List Int)) (inner := [.int .i32 (-2147483648)]) (ok := fun _ => True) (okp := fun _ => True) ?hr ?hp (fun _ hk => hk) trivial (Below.refl _ _) (Nat.le_refl _) (by simp) ?_; (case hd => rfl); (case hg => rfl); (case hr => first | (go_simp; done) | (go_simp; rfl)); (case hp => exact (Reps.one (show Kd.M (Kd.int .i32) _ _ _ (-2147483648) [.int .i32 (-2147483648)] from rfl) (Reps.none _ _))); intro v362 w27 ho28 hb hg_ hnew_; clear hg_ hnew_; (first | rw [← Ny361.out] at ho28 | (simp only [Int.reduceToNat] at ho28; rw [← Ny361.out] at ho28)); have n0_ := Aside0.mk (Kd.N_elder' (by (with_reducible repeat (first | apply Kd.N_alloc | apply Kd.N_drewN | apply Kd.N_drew)); exact HO_1.out) (Kd.R_base ho28) hb); have n1_ := Aside0.mk (Kd.R_elder' (by (with_reducible repeat (first | apply Kd.R_alloc | apply Kd.R_drewN | apply Kd.R_drew)); exact HO357.out) (Kd.R_base ho28) hb); have n2_ := Aside0.mk (Kd.R_elder' (by (with_reducible repeat (first | apply Kd.R_alloc | apply Kd.R_drewN | apply Kd.R_drew)); exact HO360.out) (Kd.R_base ho28) hb); have n3_ := Aside0.mk (Kd.R_lower (Kd.R_new' (Kd.R_new' ho28 (Kd.R_lt (by (with_reducible repeat (first | apply Kd.R_alloc | apply Kd.R_drewN | apply Kd.R_drew)); exact HO357.out))) (Kd.R_lt (by (with_reducible repeat (first | apply Kd.R_alloc | apply Kd.R_drewN | apply Kd.R_drew)); exact HO360.out))) (below_size (by repeat (first | (with_reducible first | exact HB.out | apply below_alloc | apply pw_below_drewN | apply below_drew1) | exact HB.out)))); have n4_ := Aside0.mk (below_step (by repeat (first | (with_reducible first | exact HB.out | apply below_alloc | apply pw_below_drewN | apply below_drew1) | exact HB.out)) hb); clear HO_1; clear HO357; clear HO360; clear HB; have HO_1 := n0_; have HO357 := n1_; have HO360 := n2_; have HO363 := n3_; have HB := n4_; clear n0_ n1_ n2_ n3_ n4_; clear hb ho28; obtain ⟨Ao29, co29, eo29⟩ := Kd.R_slice HO363.out; subst eo29) | ((with_reducible refine gate_dst (N := 51) rfl ?_); refine Kd.R_lit (Kd.int .i64) _ 2 ?hg (N := 51) ?hd (xs := ([0] : List Int)) (inner := [.int .i64 0]) (ok := fun _ => True) (okp := fun _ => True) ?hr ?hp (fun _ hk => hk) trivial (Below.refl _ _) (Nat.le_refl _) (by simp) ?_; (case hd => rfl); (case hg => rfl); (case hr => first | (go_simp; done) | (go_simp; rfl)); (case hp => exact (Reps.one (show Kd.M (Kd.int .i64) _ _ _ 0 [.int .i64 0] from rfl) (Reps.none _ _))); intro v365 w30 ho31 hb hg_ hnew_; clear hg_ hnew_; (first | rw [← Ny364.out] at ho31 | (simp only [Int.reduceToNat] at ho31; rw [← Ny364.out] at ho31)); have n0_ := Aside0.mk (Kd.N_elder' (by (with_reducible repeat (first | apply Kd.N_alloc | apply Kd.N_drewN | apply Kd.N_drew)); exact HO_1.out) (Kd.R_base ho31) hb); have n1_ := Aside0.mk (Kd.R_below (by (with_reducible repeat (first | apply Kd.R_alloc | apply Kd.R_drewN | apply Kd.R_drew)); exact HO357.out) hb); have n2_ := Aside0.mk (Kd.R_below (by (with_reducible repeat (first | apply Kd.R_alloc | apply Kd.R_drewN | apply Kd.R_drew)); exact HO360.out) hb); have n3_ := Aside0.mk (Kd.R_below (by (with_reducible repeat (first | apply Kd.R_alloc | apply Kd.R_drewN | apply Kd.R_drew)); exact HO363.out) hb); have n4_ := Aside0.mk (Kd.R_lower ho31 (below_size (by repeat (first | (with_reducible first | exact HB.out | apply below_alloc | apply pw_below_drewN | apply below_drew1) | exact HB.out)))); have n5_ := Aside0.mk (below_step (by repeat (first | (with_reducible first | exact HB.out | apply below_alloc | apply pw_below_drewN | apply below_drew1) | exact HB.out)) hb); clear HO_1; clear HO357; clear HO360; clear HO363; clear HB; have HO_1 := n0_; have HO357 := n1_; have HO360 := n2_; have HO363 := n3_; have HO366 := n4_; have HB := n5_; clear n0_ n1_ n2_ n3_ n4_ n5_; clear hb ho31; obtain ⟨Ao32, co32, eo32⟩ := Kd.R_slice HO366.out; subst eo32) | ((with_reducible refine gate_dst (N := 53) rfl ?_); refine Kd.R_lit (Kd.int .i64) _ 2 ?hg (N := 53) ?hd (xs := ([(-9223372036854775808)] : List Int)) (inner := [.int .i64 (-9223372036854775808)]) (ok := fun _ => True) (okp := fun _ => True) ?hr ?hp (fun _ hk => hk) trivial (Below.refl _ _) (Nat.le_refl _) (by simp) ?_; (case hd => rfl); (case hg => rfl); (case hr => first | (go_simp; done) | (go_simp; rfl)); (case hp => exact (Reps.one (show Kd.M (Kd.int .i64) _ _ _ (-9223372036854775808) [.int .i64 (-9223372036854775808)] from rfl) (Reps.none _ _))); intro v368 w33 ho34 hb hg_ hnew_; clear hg_ hnew_; (first | rw [← Ny367.out] at ho34 | (simp only [Int.reduceToNat] at ho34; rw [← Ny367.out] at ho34)); have n0_ := Aside0.mk (Kd.N_elder' (by (with_reducible repeat (first | apply Kd.N_alloc | apply Kd.N_drewN | apply Kd.N_drew)); exact HO_1.out) (Kd.R_base ho34) hb); have n1_ := Aside0.mk (Kd.R_below (by (with_reducible repeat (first | apply Kd.R_alloc | apply Kd.R_drewN | apply Kd.R_drew)); exact HO357.out) hb); have n2_ := Aside0.mk (Kd.R_below (by (with_reducible repeat (first | apply Kd.R_alloc | apply Kd.R_drewN | apply Kd.R_drew)); exact HO360.out) hb); have n3_ := Aside0.mk (Kd.R_below (by (with_reducible repeat (first | apply Kd.R_alloc | apply Kd.R_drewN | apply Kd.R_drew)); exact HO363.out) hb); have n4_ := Aside0.mk (Kd.R_elder' (by (with_reducible repeat (first | apply Kd.R_alloc | apply Kd.R_drewN | apply Kd.R_drew)); exact HO366.out) (Kd.R_base ho34) hb); have n5_ := Aside0.mk (Kd.R_lower (Kd.R_new' ho34 (Kd.R_lt (by (with_reducible repeat (first | apply Kd.R_alloc | apply Kd.R_drewN | apply Kd.R_drew)); exact HO366.out))) (below_size (by repeat (first | (with_reducible first | exact HB.out | apply below_alloc | apply pw_below_drewN | apply below_drew1) | exact HB.out)))); have n6_ := Aside0.mk (below_step (by repeat (first | (with_reducible first | exact HB.out | apply below_alloc | apply pw_below_drewN | apply below_drew1) | exact HB.out)) hb); clear HO_1; clear HO357; clear HO360; clear HO363; clear HO366; clear HB; have HO_1 := n0_; have HO357 := n1_; have HO360 := n2_; have HO363 := n3_; have HO366 := n4_; have HO369 := n5_; have HB := n6_; clear n0_ n1_ n2_ n3_ n4_ n5_ n6_; clear hb ho34; obtain ⟨Ao35, co35, eo35⟩ := Kd.R_slice HO369.out; subst eo35) | ((with_reducible refine gate_dst (N := 56) rfl ?_); refine Kd.R_lit (Kd.int .i32) _ 44 ?hg (N := 56) ?hd (xs := ([1] : List Int)) (inner := [.int .i32 1]) (ok := fun _ => True) (okp := fun _ => True) ?hr ?hp (fun _ hk => hk) trivial (Below.refl _ _) (Nat.le_refl _) (by simp) ?_; (case hd => rfl); (case hg => rfl); (case hr => first | (go_simp; done) | (go_simp; rfl)); (case hp => exact (Reps.one (show Kd.M (Kd.int .i32) _ _ _ 1 [.int .i32 1] from rfl) (Reps.none _ _))); intro v371 w36 ho37 hb hg_ hnew_; clear hg_ hnew_; (first | rw [← Ny370.out] at ho37 | (simp only [Int.reduceToNat] at ho37; rw [← Ny370.out] at ho37)); have n0_ := Aside0.mk (Kd.N_elder' (by (with_reducible repeat (first | apply Kd.N_alloc | apply Kd.N_drewN | apply Kd.N_drew)); exact HO_1.out) (Kd.R_base ho37) hb); have n1_ := Aside0.mk (Kd.R_elder' (by (with_reducible repeat (first | apply Kd.R_alloc | apply Kd.R_drewN | apply Kd.R_drew)); exact HO357.out) (Kd.R_base ho37) hb); have n2_ := Aside0.mk (Kd.R_elder' (by (with_reducible repeat (first | apply Kd.R_alloc | apply Kd.R_drewN | apply Kd.R_drew)); exact HO360.out) (Kd.R_base ho37) hb); have n3_ := Aside0.mk (Kd.R_elder' (by (with_reducible repeat (first | apply Kd.R_alloc | apply Kd.R_drewN | apply Kd.R_drew)); exact HO363.out) (Kd.R_base ho37) hb); have n4_ := Aside0.mk (Kd.R_below (by (with_reducible repeat (first | apply Kd.R_alloc | apply Kd.R_drewN | apply Kd.R_drew)); exact HO366.out) hb); have n5_ := Aside0.mk (Kd.R_below (by (with_reducible repeat (first | apply Kd.R_alloc | apply Kd.R_drewN | apply Kd.R_drew)); exact HO369.out) hb); have n6_ := Aside0.mk (Kd.R_lower (Kd.R_new' (Kd.R_new' (Kd.R_new' ho37 (Kd.R_lt (by (with_reducible repeat (first | apply Kd.R_alloc | apply Kd.R_drewN | apply Kd.R_drew)); exact HO357.out))) (Kd.R_lt (by (with_reducible repeat (first | apply Kd.R_alloc | apply Kd.R_drewN | apply Kd.R_drew)); exact HO360.out))) (Kd.R_lt (by (with_reducible repeat (first | apply Kd.R_alloc | apply Kd.R_drewN | apply Kd.R_drew)); exact HO363.out))) (below_size (by repeat (first | (with_reducible first | exact HB.out | apply below_alloc | apply pw_below_drewN | apply below_drew1) | exact HB.out)))); have n7_ := Aside0.mk (below_step (by repeat (first | (with_reducible first | exact HB.out | apply below_alloc | apply pw_below_drewN | apply below_drew1) | exact HB.out)) hb); clear HO_1; clear HO357; clear HO360; clear HO363; clear HO366; clear HO369; clear HB; have HO_1 := n0_; have HO357 := n1_; have HO360 := n2_; have HO363 := n3_; have HO366 := n4_; have HO369 := n5_; have HO372 := n6_; have HB := n7_; clear n0_ n1_ n2_ n3_ n4_ n5_ n6_ n7_; clear hb ho37; obtain ⟨Ao38, co38, eo38⟩ := Kd.R_slice HO372.out; subst eo38) | ((with_reducible refine gate_dst (N := 58) rfl ?_); refine Kd.R_lit (Kd.int .i64) _ 2 ?hg (N := 58) ?hd (xs := ([(-1)] : List Int)) (inner := [.int .i64 (-1)]) (ok := fun _ => True) (okp := fun _ => True) ?hr ?hp (fun _ hk => hk) trivial (Below.refl _ _) (Nat.le_refl _) (by simp) ?_; (case hd => rfl); (case hg => rfl); (case hr => first | (go_simp; done) | (go_simp; rfl)); (case hp => exact (Reps.one (show Kd.M (Kd.int .i64) _ _ _ (-1) [.int .i64 (-1)] from rfl) (Reps.none _ _))); intro v374 w39 ho40 hb hg_ hnew_; clear hg_ hnew_; (first | rw [← Ny373.out] at ho40 | (simp only [Int.reduceToNat] at ho40; rw [← Ny373.out] at ho40)); have n0_ := Aside0.mk (Kd.N_elder' (by (with_reducible repeat (first | apply Kd.N_alloc | apply Kd.N_drewN | apply Kd.N_drew)); exact HO_1.out) (Kd.R_base ho40) hb); have n1_ := Aside0.mk (Kd.R_below (by (with_reducible repeat (first | apply Kd.R_alloc | apply Kd.R_drewN | apply Kd.R_drew)); exact HO357.out) hb); have n2_ := Aside0.mk (Kd.R_below (by (with_reducible repeat (first | apply Kd.R_alloc | apply Kd.R_drewN | apply Kd.R_drew)); exact HO360.out) hb); have n3_ := Aside0.mk (Kd.R_below (by (with_reducible repeat (first | apply Kd.R_alloc | apply Kd.R_drewN | apply Kd.R_drew)); exact HO363.out) hb); have n4_ := Aside0.mk (Kd.R_elder' (by (with_reducible repeat (first | apply Kd.R_alloc | apply Kd.R_drewN | apply Kd.R_drew)); exact HO366.out) (Kd.R_base ho40) hb); have n5_ := Aside0.mk (Kd.R_elder' (by (with_reducible repeat (first | apply Kd.R_alloc | apply Kd.R_drewN | apply Kd.R_drew)); exact HO369.out) (Kd.R_base ho40) hb); have n6_ := Aside0.mk (Kd.R_below (by (with_reducible repeat (first | apply Kd.R_alloc | apply Kd.R_drewN | apply Kd.R_drew)); exact HO372.out) hb); have n7_ := Aside0.mk (Kd.R_lower (Kd.R_new' (Kd.R_new' ho40 (Kd.R_lt (by (with_reducible repeat (first | apply Kd.R_alloc | apply Kd.R_drewN | apply Kd.R_drew)); exact HO366.out))) (Kd.R_lt (by (with_reducible repeat (first | apply Kd.R_alloc | apply Kd.R_drewN | apply Kd.R_drew)); exact HO369.out))) (below_size (by repeat (first | (with_reducible first | exact HB.out | apply below_alloc | apply pw_below_drewN | apply below_drew1) | exact HB.out)))); have n8_ := Aside0.mk (below_step (by repeat (first | (with_reducible first | exact HB.out | apply below_alloc | apply pw_below_drewN | apply below_drew1) | exact HB.out)) hb); clear HO_1; clear HO357; clear HO360; clear HO363; clear HO366; clear HO369; clear HO372; clear HB; have HO_1 := n0_; have HO357 := n1_; have HO360 := n2_; have HO363 := n3_; have HO366 := n4_; have HO369 := n5_; have HO372 := n6_; have HO375 := n7_; have HB := n8_; clear n0_ n1_ n2_ n3_ n4_ n5_ n6_ n7_ n8_; clear hb ho40; obtain ⟨Ao41, co41, eo41⟩ := Kd.R_slice HO375.out; subst eo41) | ((with_reducible refine gate_dst (N := 60) rfl ?_); refine Kd.N_lit k43 _ 43 ?hg (N' := 60) ?hd (xs := ([(⟨0, 0, ([] : List Int), ([] : List Int)⟩ : S43), (⟨3, 1, ([] : List Int), ([] : List Int)⟩ : S43), (⟨1, 0, ([] : List Int), ([] : List Int)⟩ : S43), (⟨1, (-1), ([] : List Int), ([] : List Int)⟩ : S43), (⟨1, 4611686018427387904, ([] : List Int), ([] : List Int)⟩ : S43), (⟨1, 1, y355, ([] : List Int)⟩ : S43), (⟨1, 1, y358, ([] : List Int)⟩ : S43), (⟨1, 1, y361, ([] : List Int)⟩ : S43), (⟨1, 1, ([] : List Int), y364⟩ : S43), (⟨1, 1, ([] : List Int), y367⟩ : S43), (⟨2, (-1), ([] : List Int), ([] : List Int)⟩ : S43), (⟨2, 0, y370, ([] : List Int)⟩ : S43), (⟨2, 0, ([] : List Int), y373⟩ : S43)] : List (S43))) (inner := [.int .u8 0, .int .i64 0, .slice none 0 0, .slice none 0 0, .int .u8 3, .int .i64 1, .slice none 0 0, .slice none 0 0, .int .u8 1, .int .i64 0, .slice none 0 0, .slice none 0 0, .int .u8 1, .int .i64 (-1), .slice none 0 0, .slice none 0 0, .int .u8 1, .int .i64 4611686018427387904, .slice none 0 0, .slice none 0 0, .int .u8 1, .int .i64 1, .slice Ao23 y355.length co23, .slice none 0 0, .int .u8 1, .int .i64 1, .slice Ao26 y358.length co26, .slice none 0 0, .int .u8 1, .int .i64 1, .slice Ao29 y361.length co29, .slice none 0 0, .int .u8 1, .int .i64 1, .slice none 0 0, .slice Ao32 y364.length co32, .int .u8 1, .int .i64 1, .slice none 0 0, .slice Ao35 y367.length co35, .int .u8 2, .int .i64 (-1), .slice none 0 0, .slice none 0 0, .int .u8 2, .int .i64 0, .slice Ao38 y370.length co38, .slice none 0 0, .int .u8 2, .int .i64 0, .slice none 0 0, .slice Ao41 y373.length co41]) (ok := (fun k_ => some k_ ≠ (.slice Ao17 y350.length co17 : Value).ownBlock)) (okp := (fun k_ => some k_ ≠ (.slice Ao17 y350.length co17 : Value).ownBlock)) ?hr ?hp (fun _ hk => hk) ((show ∀ k_, w39.heap.size ≤ k_ → (fun k_ => some k_ ≠ (.slice Ao17 y350.length co17 : Value).ownBlock) k_ from fun k_ hk => Kd.fresh' (Kd.N_lt (by (with_reducible repeat (first | apply Kd.N_alloc | apply Kd.N_drewN | apply Kd.N_drew)); exact HO_1.out)) k_ hk) _ (Nat.le_refl _)) (Below.refl _ _) (Nat.le_refl _) (by simp) ?_; (case hd => rfl); (case hg => rfl); (case hr => first | (go_simp; done) | (go_simp; rfl)); (case hp => exact (Reps.c4 (show Kd.FK k43 _ _ (⟨0, 0, ([] : List Int), ([] : List Int)⟩ : S43) [.int .u8 0, .int .i64 0, .slice none 0 0, .slice none 0 0] from (k43_mkF _ _ (⟨0, 0, ([] : List Int), ([] : List Int)⟩ : S43) (Nat.le_refl _) (Kd.F_nil _ _ _) (Nat.le_refl _) (Kd.F_nil _ _ _))) (Reps.c4 (show Kd.FK k43 _ _ (⟨3, 1, ([] : List Int), ([] : List Int)⟩ : S43) [.int .u8 3, .int .i64 1, .slice none 0 0, .slice none 0 0] from (k43_mkF _ _ (⟨3, 1, ([] : List Int), ([] : List Int)⟩ : S43) (Nat.le_refl _) (Kd.F_nil _ _ _) (Nat.le_refl _) (Kd.F_nil _ _ _))) (Reps.c4 (show Kd.FK k43 _ _ (⟨1, 0, ([] : List Int), ([] : List Int)⟩ : S43) [.int .u8 1, .int .i64 0, .slice none 0 0, .slice none 0 0] from (k43_mkF _ _ (⟨1, 0, ([] : List Int), ([] : List Int)⟩ : S43) (Nat.le_refl _) (Kd.F_nil _ _ _) (Nat.le_refl _) (Kd.F_nil _ _ _))) (Reps.c4 (show Kd.FK k43 _ _ (⟨1, (-1), ([] : List Int), ([] : List Int)⟩ : S43) [.int .u8 1, .int .i64 (-1), .slice none 0 0, .slice none 0 0] from (k43_mkF _ _ (⟨1, (-1), ([] : List Int), ([] : List Int)⟩ : S43) (Nat.le_refl _) (Kd.F_nil _ _ _) (Nat.le_refl _) (Kd.F_nil _ _ _))) (Reps.c4 (show Kd.FK k43 _ _ (⟨1, 4611686018427387904, ([] : List Int), ([] : List Int)⟩ : S43) [.int .u8 1, .int .i64 4611686018427387904, .slice none 0 0, .slice none 0 0] from (k43_mkF _ _ (⟨1, 4611686018427387904, ([] : List Int), ([] : List Int)⟩ : S43) (Nat.le_refl _) (Kd.F_nil _ _ _) (Nat.le_refl _) (Kd.F_nil _ _ _))) (Reps.c4 (show Kd.FK k43 _ _ (⟨1, 1, y355, ([] : List Int)⟩ : S43) [.int .u8 1, .int .i64 1, .slice Ao23 y355.length co23, .slice none 0 0] from (k43_mkF _ _ (⟨1, 1, y355, ([] : List Int)⟩ : S43) (Kd.R_reads' (Kd.R_mono (ok' := (fun k_ => some k_ ≠ (.slice Ao17 y350.length co17 : Value).ownBlock)) (Kd.R_apart' (HO357.out) (Kd.N_typed HO_1.out) (by decide)) (fun k_ hk => hk.2))).2.1 (Kd.R_F (Kd.R_mono (ok' := (fun k_ => some k_ ≠ (.slice Ao17 y350.length co17 : Value).ownBlock)) (Kd.R_apart' (HO357.out) (Kd.N_typed HO_1.out) (by decide)) (fun k_ hk => hk.2))) (Nat.le_refl _) (Kd.F_nil _ _ _))) (Reps.c4 (show Kd.FK k43 _ _ (⟨1, 1, y358, ([] : List Int)⟩ : S43) [.int .u8 1, .int .i64 1, .slice Ao26 y358.length co26, .slice none 0 0] from (k43_mkF _ _ (⟨1, 1, y358, ([] : List Int)⟩ : S43) (Kd.R_reads' (Kd.R_mono (ok' := (fun k_ => some k_ ≠ (.slice Ao17 y350.length co17 : Value).ownBlock)) (Kd.R_apart' (HO360.out) (Kd.N_typed HO_1.out) (by decide)) (fun k_ hk => hk.2))).2.1 (Kd.R_F (Kd.R_mono (ok' := (fun k_ => some k_ ≠ (.slice Ao17 y350.length co17 : Value).ownBlock)) (Kd.R_apart' (HO360.out) (Kd.N_typed HO_1.out) (by decide)) (fun k_ hk => hk.2))) (Nat.le_refl _) (Kd.F_nil _ _ _))) (Reps.c4 (show Kd.FK k43 _ _ (⟨1, 1, y361, ([] : List Int)⟩ : S43) [.int .u8 1, .int .i64 1, .slice Ao29 y361.length co29, .slice none 0 0] from (k43_mkF _ _ (⟨1, 1, y361, ([] : List Int)⟩ : S43) (Kd.R_reads' (Kd.R_mono (ok' := (fun k_ => some k_ ≠ (.slice Ao17 y350.length co17 : Value).ownBlock)) (Kd.R_apart' (HO363.out) (Kd.N_typed HO_1.out) (by decide)) (fun k_ hk => hk.2))).2.1 (Kd.R_F (Kd.R_mono (ok' := (fun k_ => some k_ ≠ (.slice Ao17 y350.length co17 : Value).ownBlock)) (Kd.R_apart' (HO363.out) (Kd.N_typed HO_1.out) (by decide)) (fun k_ hk => hk.2))) (Nat.le_refl _) (Kd.F_nil _ _ _))) (Reps.c4 (show Kd.FK k43 _ _ (⟨1, 1, ([] : List Int), y364⟩ : S43) [.int .u8 1, .int .i64 1, .slice none 0 0, .slice Ao32 y364.length co32] from (k43_mkF _ _ (⟨1, 1, ([] : List Int), y364⟩ : S43) (Nat.le_refl _) (Kd.F_nil _ _ _) (Kd.R_reads' (Kd.R_mono (ok' := (fun k_ => some k_ ≠ (.slice Ao17 y350.length co17 : Value).ownBlock)) (Kd.R_apart' (HO366.out) (Kd.N_typed HO_1.out) (by decide)) (fun k_ hk => hk.2))).2.1 (Kd.R_F (Kd.R_mono (ok' := (fun k_ => some k_ ≠ (.slice Ao17 y350.length co17 : Value).ownBlock)) (Kd.R_apart' (HO366.out) (Kd.N_typed HO_1.out) (by decide)) (fun k_ hk => hk.2))))) (Reps.c4 (show Kd.FK k43 _ _ (⟨1, 1, ([] : List Int), y367⟩ : S43) [.int .u8 1, .int .i64 1, .slice none 0 0, .slice Ao35 y367.length co35] from (k43_mkF _ _ (⟨1, 1, ([] : List Int), y367⟩ : S43) (Nat.le_refl _) (Kd.F_nil _ _ _) (Kd.R_reads' (Kd.R_mono (ok' := (fun k_ => some k_ ≠ (.slice Ao17 y350.length co17 : Value).ownBlock)) (Kd.R_apart' (HO369.out) (Kd.N_typed HO_1.out) (by decide)) (fun k_ hk => hk.2))).2.1 (Kd.R_F (Kd.R_mono (ok' := (fun k_ => some k_ ≠ (.slice Ao17 y350.length co17 : Value).ownBlock)) (Kd.R_apart' (HO369.out) (Kd.N_typed HO_1.out) (by decide)) (fun k_ hk => hk.2))))) (Reps.c4 (show Kd.FK k43 _ _ (⟨2, (-1), ([] : List Int), ([] : List Int)⟩ : S43) [.int .u8 2, .int .i64 (-1), .slice none 0 0, .slice none 0 0] from (k43_mkF _ _ (⟨2, (-1), ([] : List Int), ([] : List Int)⟩ : S43) (Nat.le_refl _) (Kd.F_nil _ _ _) (Nat.le_refl _) (Kd.F_nil _ _ _))) (Reps.c4 (show Kd.FK k43 _ _ (⟨2, 0, y370, ([] : List Int)⟩ : S43) [.int .u8 2, .int .i64 0, .slice Ao38 y370.length co38, .slice none 0 0] from (k43_mkF _ _ (⟨2, 0, y370, ([] : List Int)⟩ : S43) (Kd.R_reads' (Kd.R_mono (ok' := (fun k_ => some k_ ≠ (.slice Ao17 y350.length co17 : Value).ownBlock)) (Kd.R_apart' (HO372.out) (Kd.N_typed HO_1.out) (by decide)) (fun k_ hk => hk.2))).2.1 (Kd.R_F (Kd.R_mono (ok' := (fun k_ => some k_ ≠ (.slice Ao17 y350.length co17 : Value).ownBlock)) (Kd.R_apart' (HO372.out) (Kd.N_typed HO_1.out) (by decide)) (fun k_ hk => hk.2))) (Nat.le_refl _) (Kd.F_nil _ _ _))) (Reps.c4 (show Kd.FK k43 _ _ (⟨2, 0, ([] : List Int), y373⟩ : S43) [.int .u8 2, .int .i64 0, .slice none 0 0, .slice Ao41 y373.length co41] from (k43_mkF _ _ (⟨2, 0, ([] : List Int), y373⟩ : S43) (Nat.le_refl _) (Kd.F_nil _ _ _) (Kd.R_reads' (Kd.R_mono (ok' := (fun k_ => some k_ ≠ (.slice Ao17 y350.length co17 : Value).ownBlock)) (Kd.R_apart' (HO375.out) (Kd.N_typed HO_1.out) (by decide)) (fun k_ hk => hk.2))).2.1 (Kd.R_F (Kd.R_mono (ok' := (fun k_ => some k_ ≠ (.slice Ao17 y350.length co17 : Value).ownBlock)) (Kd.R_apart' (HO375.out) (Kd.N_typed HO_1.out) (by decide)) (fun k_ hk => hk.2))))) (Reps.none _ _))))))))))))))); intro v377 w42 ho43 hb hg_ hnew_; clear hg_ hnew_; (first | rw [← Ny376.out] at ho43 | (simp only [Int.reduceToNat] at ho43; rw [← Ny376.out] at ho43)); have n0_ := Aside0.mk (Kd.N_elder' (by (with_reducible repeat (first | apply Kd.N_alloc | apply Kd.N_drewN | apply Kd.N_drew)); exact HO_1.out) (by first | exact Kd.N_base ho43 | exact Kd.S_base ho43) hb); have n1_ := Aside0.mk (Kd.N_lower ho43 (below_size (by repeat (first | (with_reducible first | exact HB.out | apply below_alloc | apply pw_below_drewN | apply below_drew1) | exact HB.out)))); have n2_ := Aside0.mk (below_step (by repeat (first | (with_reducible first | exact HB.out | apply below_alloc | apply pw_below_drewN | apply below_drew1) | exact HB.out)) hb); clear HO_1; clear HB; clear HO357; clear HO360; clear HO363; clear HO366; clear HO369; clear HO372; clear HO375; have HO_1 := n0_; have HO378 := n1_; have HB := n2_; clear n0_ n1_ n2_; clear hb ho43))
        go_loopg [5] kj1 (fun kq v5 w' => ∃ (x5_2 : Int), v5 = .int .i64 x5_2 ∧ Aside0 (threshinglaw04_LratKnown.l0 kq y350 y376 x5_2 = some r) ∧ Aside0 (kq ≤ kj1) ∧ Aside0 (Kd.N k43 43 w' w.heap.size (fun k_ => some k_ ≠ (v377 : Value).ownBlock) (.slice Ao17 y350.length co17) y350) ∧ Aside0 (Kd.N k43 43 w' w.heap.size (fun k_ => some k_ ≠ ((.slice Ao17 y350.length co17) : Value).ownBlock) v377 y376) ∧ Aside0 (Below w.heap.size w w'))
        case atStart => exact ⟨(0), (by first | rfl | (simp; done) | (simp [*]; done)), H', ⟨Nat.le_refl _⟩, ⟨by (with_reducible repeat (first | apply Kd.N_alloc | apply Kd.N_drewN | apply Kd.N_drew)); exact Kd.N_mono HO_1.out (fun _ hk => hk.2)⟩, ⟨by (with_reducible repeat (first | apply Kd.N_alloc | apply Kd.N_drewN | apply Kd.N_drew)); exact HO378.out⟩, ⟨by repeat (first | (with_reducible first | exact HB.out | apply below_alloc | apply pw_below_drewN | apply below_drew1) | exact HB.out)⟩⟩
        case round =>
          clear H'
          try clear c1
          try clear c2
          try clear p2
          try clear c4
          try clear c8
          try clear c12
          try clear c19
          try clear c19b0
          try clear c19b1
          try clear c20
          try clear p2
          obtain ⟨x5_2, rfl, HA, HK2, HO_1, HO_4, HB⟩ := hrel
          cases gk with
          | zero => exact absurd HA.out (by simp [threshinglaw04_LratKnown.l0])
          | succ k2 =>
            have H := HA.out
            clear HA
            simp only [threshinglaw04_LratKnown.l0] at H
            by_cases c44 : x5_2 < (y376.length : Int)
            · rw [if_pos c44] at H
              have c44b0 : decide (x5_2 < (y376.length : Int)) = true := decide_eq_true c44
              clear c44
              by_cases c45 : 0 < (y350.length : Int)
              · rw [if_pos c45] at H
                have c45b0 : decide (0 < (y350.length : Int)) = true := decide_eq_true c45
                have c45b1 : decide (0 < y350.length) = true := decide_eq_true (by omega)
                clear c45
                by_cases c46 : 0 ≤ x5_2
                · rw [if_pos c46] at H
                  have c46b0 : decide (0 ≤ x5_2) = true := decide_eq_true c46
                  clear c46
                  obtain ⟨y381, hy381⟩ : ∃ y_ : List (S43), y_ = (([(⟨(rd_T43 y350 0).f0, (rd_T43 y350 0).f1, (rd_T43 y350 0).f2, (rd_T43 y350 0).f3⟩ : S43), (⟨(rd_T43 y376 x5_2).f0, (rd_T43 y376 x5_2).f1, (rd_T43 y376 x5_2).f2, (rd_T43 y376 x5_2).f3⟩ : S43)] : List (S43))) := ⟨_, rfl⟩
                  replace H : ((lrat_Write.f k2 y381).bind fun bt384 => (if bt384.1.toList = ([] : List UInt8) then (if bt384.2 = 40 then (threshinglaw04_LratKnown.l0 k2 y350 y376 (wrap64 (x5_2 + 1))) else (some false)) else (some false))) = some r := by first | (rw [hy381]; with_reducible exact H) | (have H2_ := (Option.bind_some _ _).symm.trans H; rw [hy381]; with_reducible exact H2_) | (have H2_ := (Option.bind_some _ _).symm.trans H; with_reducible exact H2_) | with_reducible exact H | (rw [hy381]; exact H) | exact H
                  have Ny381 := Aside0.mk hy381
                  clear hy381
                  replace H := Option.bind_eq_some_iff.mp H
                  obtain ⟨⟨t384, t385⟩, A470, H⟩ := H
                  replace H : (if t384.toList = ([] : List UInt8) then (if t385 = 40 then (threshinglaw04_LratKnown.l0 k2 y350 y376 (wrap64 (x5_2 + 1))) else (some false)) else (some false)) = some r := H
                  have A47 := Aside0.mk A470
                  clear A470
                  by_cases c48 : t384.toList = ([] : List UInt8)
                  · rw [if_pos c48] at H
                    have c48b0 : (t384.toList == ([] : List UInt8)) = true := beq_iff_eq.mpr c48
                    have c48b1 : (t384.toList != ([] : List UInt8)) = false := bne_eq_false_iff_eq.mpr c48
                    clear c48
                    by_cases c49 : t385 = 40
                    · rw [if_pos c49] at H
                      have c49b0 : (t385 == 40) = true := beq_iff_eq.mpr c49
                      have c49b1 : (t385 != 40) = false := bne_eq_false_iff_eq.mpr c49
                      clear c49
                      have H' := Aside0.mk H
                      clear H
                      obtain ⟨Ao50, co50, eo50⟩ := Kd.N_slice HO_4.out
                      subst eo50
                      try go_wp2
                      have n0_ := Aside0.mk (Kd.N_drew HO_1.out)
                      have n1_ := Aside0.mk (Kd.N_drew HO_4.out)
                      have n2_ := Aside0.mk (below_drew1 HB.out)
                      clear HO_1
                      clear HO_4
                      clear HB
                      have HO_1 := n0_
                      have HO_4 := n1_
                      have HB := n2_
                      clear n0_ n1_ n2_
                      have p379 : 0 ≤ (0 : Int) := (by omega)
                      have q379 : 0 < (y350.length : Int) := of_decide_eq_true (by first | (with_reducible assumption) | assumption)
                      obtain ⟨ad379, A379_2, c379_2, A379_3, c379_3, e379, hx379_0, hx379_1, hx379_2, hx379_3, hl379_2, hi379_2, hl379_3, hi379_3⟩ := at_T43 (Kd.N_reads' HO_1.out).2.2 0 p379 q379
                      cases e379
                      obtain ⟨ce379, hce379, hMe379, hcc379⟩ := Kd.N_get HO_1.out z43 0 p379 (by first | exact q379 | exact of_decide_eq_true (by first | (with_reducible assumption) | assumption) | (have e_ := (Kd.N_reads' HO_1.out).1; omega))
                      obtain ⟨ua379_2, uc379_2, ua379_3, uc379_3, rfl, ul379_2, ge379_2, ul379_3, ge379_3⟩ := k43_openF hMe379
                      have hv379_2 := hcc379 2 _ rfl
                      rw [add_field _ _ 2 (by omega)] at hv379_2
                      replace hv379_2 := Option.some.inj (hv379_2.symm.trans hx379_2)
                      injection hv379_2 with hva_ hvn_ hvc_
                      rw [hva_] at ge379_2
                      rw [hvc_] at ul379_2
                      have HL379_2 := Aside0.mk (show Kd.V (Kd.int .i32) 44 _ w.heap.size _ _ ((rd_T43 y350 0).f2) from Kd.V_mk ul379_2 ge379_2)
                      clear hva_ hvn_ hvc_ ge379_2 ul379_2
                      have hv379_3 := hcc379 3 _ rfl
                      rw [add_field _ _ 3 (by omega)] at hv379_3
                      replace hv379_3 := Option.some.inj (hv379_3.symm.trans hx379_3)
                      injection hv379_3 with hva_ hvn_ hvc_
                      rw [hva_] at ge379_3
                      rw [hvc_] at ul379_3
                      have HL379_3 := Aside0.mk (show Kd.V (Kd.int .i64) 2 _ w.heap.size _ _ ((rd_T43 y350 0).f3) from Kd.V_mk ul379_3 ge379_3)
                      clear hva_ hvn_ hvc_ ge379_3 ul379_3
                      clear hcc379 hce379
                      have qi379 : (0 < y350.length) = True := eq_true (by omega)
                      (try rw [show ((0 : Int)).toNat = 0 from rfl] at hx379_0)
                      (try rw [show 0 * 4 = 0 from rfl] at hx379_0)
                      (try rw [Addr.add_zero'] at hx379_0)
                      (try rw [show ((0 : Int)).toNat = 0 from rfl] at hx379_1)
                      (try rw [show 0 * 4 = 0 from rfl] at hx379_1)
                      (try rw [Addr.add_zero'] at hx379_1)
                      (try rw [show ((0 : Int)).toNat = 0 from rfl] at hx379_2)
                      (try rw [show 0 * 4 = 0 from rfl] at hx379_2)
                      (try rw [Addr.add_zero'] at hx379_2)
                      (try rw [show ((0 : Int)).toNat = 0 from rfl] at hx379_3)
                      (try rw [show 0 * 4 = 0 from rfl] at hx379_3)
                      (try rw [Addr.add_zero'] at hx379_3)
                      have HR379_2 := Aside0.mk hi379_2
                      have HC379_2 := Aside0.mk hl379_2
                      clear hi379_2 hl379_2
                      have HR379_3 := Aside0.mk hi379_3
                      have HC379_3 := Aside0.mk hl379_3
                      clear hi379_3 hl379_3
                      replace p379 := eq_true p379
                      replace q379 := eq_true q379
                      have p380 : 0 ≤ (x5_2 : Int) := of_decide_eq_true (by first | (with_reducible assumption) | assumption)
                      have q380 : x5_2 < (y376.length : Int) := of_decide_eq_true (by first | (with_reducible assumption) | assumption)
                      obtain ⟨ad380, A380_2, c380_2, A380_3, c380_3, e380, hx380_0, hx380_1, hx380_2, hx380_3, hl380_2, hi380_2, hl380_3, hi380_3⟩ := at_T43 (Kd.N_reads' HO_4.out).2.2 x5_2 p380 q380
                      cases e380
                      obtain ⟨ce380, hce380, hMe380, hcc380⟩ := Kd.N_get HO_4.out z43 x5_2 p380 (by first | exact q380 | exact of_decide_eq_true (by first | (with_reducible assumption) | assumption) | (have e_ := (Kd.N_reads' HO_4.out).1; omega))
                      obtain ⟨ua380_2, uc380_2, ua380_3, uc380_3, rfl, ul380_2, ge380_2, ul380_3, ge380_3⟩ := k43_openF hMe380
                      have hv380_2 := hcc380 2 _ rfl
                      rw [add_field _ _ 2 (by omega)] at hv380_2
                      replace hv380_2 := Option.some.inj (hv380_2.symm.trans hx380_2)
                      injection hv380_2 with hva_ hvn_ hvc_
                      rw [hva_] at ge380_2
                      rw [hvc_] at ul380_2
                      have HL380_2 := Aside0.mk (show Kd.V (Kd.int .i32) 44 _ w.heap.size _ _ ((rd_T43 y376 x5_2).f2) from Kd.V_mk ul380_2 ge380_2)
                      clear hva_ hvn_ hvc_ ge380_2 ul380_2
                      have hv380_3 := hcc380 3 _ rfl
                      rw [add_field _ _ 3 (by omega)] at hv380_3
                      replace hv380_3 := Option.some.inj (hv380_3.symm.trans hx380_3)
                      injection hv380_3 with hva_ hvn_ hvc_
                      rw [hva_] at ge380_3
                      rw [hvc_] at ul380_3
                      have HL380_3 := Aside0.mk (show Kd.V (Kd.int .i64) 2 _ w.heap.size _ _ ((rd_T43 y376 x5_2).f3) from Kd.V_mk ul380_3 ge380_3)
                      clear hva_ hvn_ hvc_ ge380_3 ul380_3
                      clear hcc380 hce380
                      have HR380_2 := Aside0.mk hi380_2
                      have HC380_2 := Aside0.mk hl380_2
                      clear hi380_2 hl380_2
                      have HR380_3 := Aside0.mk hi380_3
                      have HC380_3 := Aside0.mk hl380_3
                      clear hi380_3 hl380_3
                      replace p380 := eq_true p380
                      replace q380 := eq_true q380
                      refine start_ (n := 14) (S := fun w' => w'.cell? ad379 = some (.int .u8 ((rd_T43 y350 0).f0)) ∧ w'.cell? ⟨ad379.block, ad379.off + 1, none⟩ = some (.int .i64 ((rd_T43 y350 0).f1)) ∧ w'.cell? ⟨ad379.block, ad379.off + 2, none⟩ = some (.slice A379_2 ((rd_T43 y350 0).f2).length c379_2) ∧ w'.cell? ⟨ad379.block, ad379.off + 3, none⟩ = some (.slice A379_3 ((rd_T43 y350 0).f3).length c379_3) ∧ w'.cell? (ad380.add ((x5_2).toNat * 4)) = some (.int .u8 ((rd_T43 y376 x5_2).f0)) ∧ w'.cell? ⟨(ad380.add ((x5_2).toNat * 4)).block, (ad380.add ((x5_2).toNat * 4)).off + 1, none⟩ = some (.int .i64 ((rd_T43 y376 x5_2).f1)) ∧ w'.cell? ⟨(ad380.add ((x5_2).toNat * 4)).block, (ad380.add ((x5_2).toNat * 4)).off + 2, none⟩ = some (.slice A380_2 ((rd_T43 y376 x5_2).f2).length c380_2) ∧ w'.cell? ⟨(ad380.add ((x5_2).toNat * 4)).block, (ad380.add ((x5_2).toNat * 4)).off + 3, none⟩ = some (.slice A380_3 ((rd_T43 y376 x5_2).f3).length c380_3)) (ds := []) #[false, false, false, false, false, false, false, false, false, false, false, false, false, false] (by kernel_rfl) rfl rfl ⟨hx379_0, hx379_1, hx379_2, hx379_3, hx380_0, hx380_1, hx380_2, hx380_3⟩ (fun hHeld => ?_); refine with_tabW threshinglaw04_LratKnown.tab9 threshinglaw04_LratKnown.bits9 (fun HT_ HW_ => ?_)
                      generalize wr.drew = w51 at HO_1 HO_4 HB HL379_2 HL379_3 HL380_2 HL380_3 HR379_2 HR379_3 HR380_2 HR380_3 hx379_0 hx379_1 hx379_2 hx379_3 hx380_0 hx380_1 hx380_2 hx380_3 hHeld ⊢
                      refine pure_ (i := 0) (N := some 68) (v := ?_) (a' := ?_) #[true, false, false, false, false, false, false, false, false, false, false, false, false, false] rfl rfl (any_of HT_.out (by kernel_rfl)) (fun _ _ _ h => h) (Or.inl ⟨by rfl, ?_⟩) ?_ ?_
                      rotate_left
                      · intro w'
                        go_simp
                        with_reducible rfl
                      rotate_left
                      · simp only [Act.put, List.setIfInBounds_toArray, List.set_cons_zero, List.set_cons_succ, i64_w, i32_w]
                        rfl
                      refine pure_ (i := 1) (N := some 69) (v := ?_) (a' := ?_) #[true, true, false, false, false, false, false, false, false, false, false, false, false, false] rfl rfl (any_of HT_.out (by kernel_rfl)) (fun _ _ _ h => h) (Or.inl ⟨by rfl, ?_⟩) ?_ ?_
                      rotate_left
                      · intro w'
                        go_simp
                        with_reducible rfl
                      rotate_left
                      · simp only [Act.put, List.setIfInBounds_toArray, List.set_cons_zero, List.set_cons_succ, i64_w, i32_w]
                        rfl
                      refine pure_ (i := 3) (N := some 71) (v := ?_) (a' := ?_) #[true, true, false, true, false, false, false, false, false, false, false, false, false, false] rfl rfl (any_of HT_.out (by kernel_rfl)) (fun _ _ _ h => h) (Or.inl ⟨by rfl, ?_⟩) ?_ ?_
                      rotate_left
                      · intro w'
                        go_simp
                        with_reducible rfl
                      rotate_left
                      · simp only [Act.put, List.setIfInBounds_toArray, List.set_cons_zero, List.set_cons_succ, i64_w, i32_w]
                        rfl
                      refine pure_ (i := 4) (N := some 72) (v := ?_) (a' := ?_) #[true, true, false, true, true, false, false, false, false, false, false, false, false, false] rfl rfl (any_of HT_.out (by kernel_rfl)) (fun _ _ _ h => h) (Or.inl ⟨by rfl, ?_⟩) ?_ ?_
                      rotate_left
                      · intro w'
                        go_simp
                        with_reducible rfl
                      rotate_left
                      · simp only [Act.put, List.setIfInBounds_toArray, List.set_cons_zero, List.set_cons_succ, i64_w, i32_w]
                        rfl
                      refine pure_ (i := 5) (N := some 73) (v := ?_) (a' := ?_) #[true, true, false, true, true, true, false, false, false, false, false, false, false, false] rfl rfl (any_of HT_.out (by kernel_rfl)) (fun _ _ _ h => h) (Or.inl ⟨by rfl, ?_⟩) ?_ ?_
                      rotate_left
                      · intro w'
                        go_simp
                        with_reducible rfl
                      rotate_left
                      · simp only [Act.put, List.setIfInBounds_toArray, List.set_cons_zero, List.set_cons_succ, i64_w, i32_w]
                        rfl
                      refine take_ (i := 2) (N := some 70) (v := ?_) (a' := ?_) #[true, true, true, true, true, true, false, false, false, false, false, false, false, false] rfl rfl (take_ofW HT_.out HW_.out (by kernel_rfl)) (fun _ _ _ h => h) (Or.inl ⟨by rfl, ?_⟩) hHeld ?_ ?_
                      rotate_left
                      · rintro w' ⟨s0, s1, s2, s3, s4, s5, s6, s7⟩
                        go_simp
                        with_reducible rfl
                      rotate_left
                      · simp only [Act.put, List.setIfInBounds_toArray, List.set_cons_zero, List.set_cons_succ, i64_w, i32_w]
                        rfl
                      refine take_ (i := 6) (N := some 74) (v := ?_) (a' := ?_) #[true, true, true, true, true, true, true, false, false, false, false, false, false, false] rfl rfl (take_ofW HT_.out HW_.out (by kernel_rfl)) (fun _ _ _ h => h) (Or.inl ⟨by rfl, ?_⟩) hHeld ?_ ?_
                      rotate_left
                      · rintro w' ⟨s0, s1, s2, s3, s4, s5, s6, s7⟩
                        go_simp
                        with_reducible rfl
                      rotate_left
                      · simp only [Act.put, List.setIfInBounds_toArray, List.set_cons_zero, List.set_cons_succ, i64_w, i32_w]
                        rfl
                      refine one_ (i := 7) (N := some 75) #[true, true, true, true, true, true, true, true, false, false, false, false, false, false] rfl rfl (one_of HT_.out (by kernel_rfl)) (by decide) (fun K hK => ?_)
                      refine Kd.N_lit_step k43 _ 43 ?hg (N' := 75) ?hd (xs := ([(⟨(rd_T43 y350 0).f0, (rd_T43 y350 0).f1, (rd_T43 y350 0).f2, (rd_T43 y350 0).f3⟩ : S43), (⟨(rd_T43 y376 x5_2).f0, (rd_T43 y376 x5_2).f1, (rd_T43 y376 x5_2).f2, (rd_T43 y376 x5_2).f3⟩ : S43)] : List (S43))) (inner := [.int .u8 ((rd_T43 y350 0).f0), .int .i64 ((rd_T43 y350 0).f1), .slice A379_2 ((rd_T43 y350 0).f2).length c379_2, .slice A379_3 ((rd_T43 y350 0).f3).length c379_3, .int .u8 ((rd_T43 y376 x5_2).f0), .int .i64 ((rd_T43 y376 x5_2).f1), .slice A380_2 ((rd_T43 y376 x5_2).f2).length c380_2, .slice A380_3 ((rd_T43 y376 x5_2).f3).length c380_3]) (ok := (fun k_ => some k_ ≠ (.slice (some ad379) y350.length co17 : Value).ownBlock ∧ some k_ ≠ (.slice (some ad380) y376.length co50 : Value).ownBlock)) (okp := (fun k_ => some k_ ≠ (.slice (some ad379) y350.length co17 : Value).ownBlock ∧ some k_ ≠ (.slice (some ad380) y376.length co50 : Value).ownBlock)) ?hr ?hp (fun _ hk => hk) ((show ∀ k_, w51.heap.size ≤ k_ → (fun k_ => some k_ ≠ (.slice (some ad379) y350.length co17 : Value).ownBlock ∧ some k_ ≠ (.slice (some ad380) y376.length co50 : Value).ownBlock) k_ from fun k_ hk => ⟨Kd.fresh' (Kd.N_lt (by (with_reducible repeat (first | apply Kd.N_alloc | apply Kd.N_drewN | apply Kd.N_drew)); exact HO_1.out)) k_ hk, Kd.fresh' (Kd.N_lt (by (with_reducible repeat (first | apply Kd.N_alloc | apply Kd.N_drewN | apply Kd.N_drew)); exact HO_4.out)) k_ hk⟩) _ (Nat.le_refl _)) (Below.refl _ _) (Nat.le_refl _) (by simp) ?_; (case hd => rfl); (case hg => rfl); (case hr => first | (go_simp; done) | (go_simp; rfl)); (case hp => exact (Reps.c4 (show Kd.FK k43 _ _ (⟨(rd_T43 y350 0).f0, (rd_T43 y350 0).f1, (rd_T43 y350 0).f2, (rd_T43 y350 0).f3⟩ : S43) [.int .u8 ((rd_T43 y350 0).f0), .int .i64 ((rd_T43 y350 0).f1), .slice A379_2 ((rd_T43 y350 0).f2).length c379_2, .slice A379_3 ((rd_T43 y350 0).f3).length c379_3] from (k43_mkF _ _ (⟨(rd_T43 y350 0).f0, (rd_T43 y350 0).f1, (rd_T43 y350 0).f2, (rd_T43 y350 0).f3⟩ : S43) (Kd.V_reads' (Kd.V_mono (ok' := (fun k_ => some k_ ≠ (.slice (some ad379) y350.length co17 : Value).ownBlock ∧ some k_ ≠ (.slice (some ad380) y376.length co50 : Value).ownBlock)) (HL379_2.out) (fun k_ hk => ⟨hk.2, hk.1⟩))).2.1 (Kd.V_F (Kd.V_mono (ok' := (fun k_ => some k_ ≠ (.slice (some ad379) y350.length co17 : Value).ownBlock ∧ some k_ ≠ (.slice (some ad380) y376.length co50 : Value).ownBlock)) (HL379_2.out) (fun k_ hk => ⟨hk.2, hk.1⟩))) (Kd.V_reads' (Kd.V_mono (ok' := (fun k_ => some k_ ≠ (.slice (some ad379) y350.length co17 : Value).ownBlock ∧ some k_ ≠ (.slice (some ad380) y376.length co50 : Value).ownBlock)) (HL379_3.out) (fun k_ hk => ⟨hk.2, hk.1⟩))).2.1 (Kd.V_F (Kd.V_mono (ok' := (fun k_ => some k_ ≠ (.slice (some ad379) y350.length co17 : Value).ownBlock ∧ some k_ ≠ (.slice (some ad380) y376.length co50 : Value).ownBlock)) (HL379_3.out) (fun k_ hk => ⟨hk.2, hk.1⟩))))) (Reps.c4 (show Kd.FK k43 _ _ (⟨(rd_T43 y376 x5_2).f0, (rd_T43 y376 x5_2).f1, (rd_T43 y376 x5_2).f2, (rd_T43 y376 x5_2).f3⟩ : S43) [.int .u8 ((rd_T43 y376 x5_2).f0), .int .i64 ((rd_T43 y376 x5_2).f1), .slice A380_2 ((rd_T43 y376 x5_2).f2).length c380_2, .slice A380_3 ((rd_T43 y376 x5_2).f3).length c380_3] from (k43_mkF _ _ (⟨(rd_T43 y376 x5_2).f0, (rd_T43 y376 x5_2).f1, (rd_T43 y376 x5_2).f2, (rd_T43 y376 x5_2).f3⟩ : S43) (Kd.V_reads' (Kd.V_mono (ok' := (fun k_ => some k_ ≠ (.slice (some ad379) y350.length co17 : Value).ownBlock ∧ some k_ ≠ (.slice (some ad380) y376.length co50 : Value).ownBlock)) (HL380_2.out) (fun k_ hk => ⟨hk.1, hk.2⟩))).2.1 (Kd.V_F (Kd.V_mono (ok' := (fun k_ => some k_ ≠ (.slice (some ad379) y350.length co17 : Value).ownBlock ∧ some k_ ≠ (.slice (some ad380) y376.length co50 : Value).ownBlock)) (HL380_2.out) (fun k_ hk => ⟨hk.1, hk.2⟩))) (Kd.V_reads' (Kd.V_mono (ok' := (fun k_ => some k_ ≠ (.slice (some ad379) y350.length co17 : Value).ownBlock ∧ some k_ ≠ (.slice (some ad380) y376.length co50 : Value).ownBlock)) (HL380_3.out) (fun k_ hk => ⟨hk.1, hk.2⟩))).2.1 (Kd.V_F (Kd.V_mono (ok' := (fun k_ => some k_ ≠ (.slice (some ad379) y350.length co17 : Value).ownBlock ∧ some k_ ≠ (.slice (some ad380) y376.length co50 : Value).ownBlock)) (HL380_3.out) (fun k_ hk => ⟨hk.1, hk.2⟩))))) (Reps.none _ _))))
                      intro v382 w52 ho53 hb hg_ hnew_
                      have HS0_ := (hb.cell (World.block_lt_of_cell? _ _ (hHeld.1))).trans (hHeld.1)
                      have HS1_ := (hb.cell (World.block_lt_of_cell? _ _ (hHeld.2.1))).trans (hHeld.2.1)
                      have HS2_ := (hb.cell (World.block_lt_of_cell? _ _ (hHeld.2.2.1))).trans (hHeld.2.2.1)
                      have HS3_ := (hb.cell (World.block_lt_of_cell? _ _ (hHeld.2.2.2.1))).trans (hHeld.2.2.2.1)
                      have HS4_ := (hb.cell (World.block_lt_of_cell? _ _ (hHeld.2.2.2.2.1))).trans (hHeld.2.2.2.2.1)
                      have HS5_ := (hb.cell (World.block_lt_of_cell? _ _ (hHeld.2.2.2.2.2.1))).trans (hHeld.2.2.2.2.2.1)
                      have HS6_ := (hb.cell (World.block_lt_of_cell? _ _ (hHeld.2.2.2.2.2.2.1))).trans (hHeld.2.2.2.2.2.2.1)
                      have HS7_ := (hb.cell (World.block_lt_of_cell? _ _ (hHeld.2.2.2.2.2.2.2))).trans (hHeld.2.2.2.2.2.2.2)
                      clear hg_ hnew_
                      (first | rw [← Ny381.out] at ho53 | (simp only [Int.reduceToNat] at ho53; rw [← Ny381.out] at ho53))
                      have n0_ := Aside0.mk (Kd.N_elder' (by (with_reducible repeat (first | apply Kd.N_alloc | apply Kd.N_drewN | apply Kd.N_drew)); exact HO_1.out) (by first | exact Kd.N_base ho53 | exact Kd.S_base ho53) hb)
                      have n1_ := Aside0.mk (Kd.N_elder' (by (with_reducible repeat (first | apply Kd.N_alloc | apply Kd.N_drewN | apply Kd.N_drew)); exact HO_4.out) (by first | exact Kd.N_base ho53 | exact Kd.S_base ho53) hb)
                      have n2_ := Aside0.mk (Kd.V_elder' (by (with_reducible repeat (first | apply Kd.V_alloc | apply Kd.V_drewN | apply Kd.V_drew)); exact HL379_2.out) (by first | exact Kd.N_base ho53 | exact Kd.S_base ho53) hb)
                      have n3_ := Aside0.mk (Kd.V_elder' (by (with_reducible repeat (first | apply Kd.V_alloc | apply Kd.V_drewN | apply Kd.V_drew)); exact HL379_3.out) (by first | exact Kd.N_base ho53 | exact Kd.S_base ho53) hb)
                      have n4_ := Aside0.mk (Kd.V_elder' (by (with_reducible repeat (first | apply Kd.V_alloc | apply Kd.V_drewN | apply Kd.V_drew)); exact HL380_2.out) (by first | exact Kd.N_base ho53 | exact Kd.S_base ho53) hb)
                      have n5_ := Aside0.mk (Kd.V_elder' (by (with_reducible repeat (first | apply Kd.V_alloc | apply Kd.V_drewN | apply Kd.V_drew)); exact HL380_3.out) (by first | exact Kd.N_base ho53 | exact Kd.S_base ho53) hb)
                      have n6_ := Aside0.mk (Kd.N_lower ho53 (below_size (by repeat (first | (with_reducible first | exact HB.out | apply below_alloc | apply pw_below_drewN | apply below_drew1) | exact HB.out))))
                      have n7_ := Aside0.mk (Kd.C_below (by repeat (first | (with_reducible exact HR379_2.out) | (with_reducible refine Kd.C_alloc ?_ _) | (with_reducible refine Kd.C_drewN ?_ _) | (with_reducible refine Kd.C_drew ?_) | exact HR379_2.out)) hb)
                      have n8_ := Aside0.mk (Kd.C_below (by repeat (first | (with_reducible exact HR379_3.out) | (with_reducible refine Kd.C_alloc ?_ _) | (with_reducible refine Kd.C_drewN ?_ _) | (with_reducible refine Kd.C_drew ?_) | exact HR379_3.out)) hb)
                      have n9_ := Aside0.mk (Kd.C_below (by repeat (first | (with_reducible exact HR380_2.out) | (with_reducible refine Kd.C_alloc ?_ _) | (with_reducible refine Kd.C_drewN ?_ _) | (with_reducible refine Kd.C_drew ?_) | exact HR380_2.out)) hb)
                      have n10_ := Aside0.mk (Kd.C_below (by repeat (first | (with_reducible exact HR380_3.out) | (with_reducible refine Kd.C_alloc ?_ _) | (with_reducible refine Kd.C_drewN ?_ _) | (with_reducible refine Kd.C_drew ?_) | exact HR380_3.out)) hb)
                      have n11_ := Aside0.mk (below_step (by repeat (first | (with_reducible first | exact HB.out | apply below_alloc | apply pw_below_drewN | apply below_drew1) | exact HB.out)) hb)
                      clear HO_1
                      clear HO_4
                      clear HL379_2
                      clear HL379_3
                      clear HL380_2
                      clear HL380_3
                      clear HR379_2
                      clear HR379_3
                      clear HR380_2
                      clear HR380_3
                      clear HB
                      have HO_1 := n0_
                      have HO_4 := n1_
                      have HL379_2 := n2_
                      have HL379_3 := n3_
                      have HL380_2 := n4_
                      have HL380_3 := n5_
                      have HO383 := n6_
                      have HR379_2 := n7_
                      have HR379_3 := n8_
                      have HR380_2 := n9_
                      have HR380_3 := n10_
                      have HB := n11_
                      clear n0_ n1_ n2_ n3_ n4_ n5_ n6_ n7_ n8_ n9_ n10_ n11_
                      clear hb ho53
                      obtain ⟨Ao54, co54, eo54⟩ := Kd.N_slice HO383.out
                      (first | subst eo54 | (injection eo54 with f1_ f2_ f3_; have f4_ := f1_.symm; have f5_ := f3_.symm; clear f1_ f2_ f3_; subst f4_; subst f5_))
                      refine hK.out _ _ ⟨HS0_, HS1_, HS2_, HS3_, HS4_, HS5_, HS6_, HS7_⟩ (fun hHeld => ?_)
                      clear hK K
                      refine norm_ (a' := ?_) ?_ ?_
                      rotate_left
                      · show Act.put _ (some 75) _ = _
                        simp only [Act.put, List.setIfInBounds_toArray, List.set_cons_zero, List.set_cons_succ, i64_w, i32_w]
                        rfl
                      refine one_ (i := 8) (N := some 76) #[true, true, true, true, true, true, true, true, true, false, false, false, false, false] rfl rfl (one_of HT_.out (by kernel_rfl)) (by decide) (fun K hK => ?_)
                      refine goes_ Tryd.func12 (by kernel_rfl) rfl #[.slice Ao54 y381.length co54] (by rfl) rfl rfl (by (try simp only [List.map_toArray, List.map_cons, List.map_nil]); first | done | rfl | (simp only [List.length_drop, List.length_take]; rfl)) ?_
                      with_reducible refine (lrat_Write.calls k2 _ _ y381 t384 t385 _ ?side1 ?side2 A47.out ?sideT).mono ?_
                      (case sideT => exact LT.pay HLT.out (by repeat (first | (with_reducible first | exact HB.out | apply below_alloc | apply pw_below_drewN | apply below_drew1) | exact HB.out)))
                      (case side1 => repeat (first | exact (Kd.N_reads' HO383.out).2.2 | (with_reducible refine Kd.C_alloc ?_ _) | (with_reducible refine Kd.C_drewN ?_ _) | (with_reducible refine Kd.C_drew ?_)))
                      (case side2 => exact (Kd.N_reads' HO383.out).2.1)
                      rintro e w55 ⟨rfl, hb⟩
                      have HS0_ := (hb.cell (World.block_lt_of_cell? _ _ (hHeld.1))).trans (hHeld.1)
                      have HS1_ := (hb.cell (World.block_lt_of_cell? _ _ (hHeld.2.1))).trans (hHeld.2.1)
                      have HS2_ := (hb.cell (World.block_lt_of_cell? _ _ (hHeld.2.2.1))).trans (hHeld.2.2.1)
                      have HS3_ := (hb.cell (World.block_lt_of_cell? _ _ (hHeld.2.2.2.1))).trans (hHeld.2.2.2.1)
                      have HS4_ := (hb.cell (World.block_lt_of_cell? _ _ (hHeld.2.2.2.2.1))).trans (hHeld.2.2.2.2.1)
                      have HS5_ := (hb.cell (World.block_lt_of_cell? _ _ (hHeld.2.2.2.2.2.1))).trans (hHeld.2.2.2.2.2.1)
                      have HS6_ := (hb.cell (World.block_lt_of_cell? _ _ (hHeld.2.2.2.2.2.2.1))).trans (hHeld.2.2.2.2.2.2.1)
                      have HS7_ := (hb.cell (World.block_lt_of_cell? _ _ (hHeld.2.2.2.2.2.2.2))).trans (hHeld.2.2.2.2.2.2.2)
                      refine ⟨_, rfl, ?_⟩
                      have n0_ := Aside0.mk (Kd.N_below (by (with_reducible repeat (first | apply Kd.N_alloc | apply Kd.N_drewN | apply Kd.N_drew)); exact HO_1.out) hb)
                      have n1_ := Aside0.mk (Kd.N_below (by (with_reducible repeat (first | apply Kd.N_alloc | apply Kd.N_drewN | apply Kd.N_drew)); exact HO_4.out) hb)
                      have n2_ := Aside0.mk (Kd.V_below (by (with_reducible repeat (first | apply Kd.V_alloc | apply Kd.V_drewN | apply Kd.V_drew)); exact HL379_2.out) hb)
                      have n3_ := Aside0.mk (Kd.V_below (by (with_reducible repeat (first | apply Kd.V_alloc | apply Kd.V_drewN | apply Kd.V_drew)); exact HL379_3.out) hb)
                      have n4_ := Aside0.mk (Kd.V_below (by (with_reducible repeat (first | apply Kd.V_alloc | apply Kd.V_drewN | apply Kd.V_drew)); exact HL380_2.out) hb)
                      have n5_ := Aside0.mk (Kd.V_below (by (with_reducible repeat (first | apply Kd.V_alloc | apply Kd.V_drewN | apply Kd.V_drew)); exact HL380_3.out) hb)
                      have n6_ := Aside0.mk (Kd.N_below (by (with_reducible repeat (first | apply Kd.N_alloc | apply Kd.N_drewN | apply Kd.N_drew)); exact HO383.out) hb)
                      have n7_ := Aside0.mk (Kd.C_below (by repeat (first | (with_reducible exact HR379_2.out) | (with_reducible refine Kd.C_alloc ?_ _) | (with_reducible refine Kd.C_drewN ?_ _) | (with_reducible refine Kd.C_drew ?_) | exact HR379_2.out)) hb)
                      have n8_ := Aside0.mk (Kd.C_below (by repeat (first | (with_reducible exact HR379_3.out) | (with_reducible refine Kd.C_alloc ?_ _) | (with_reducible refine Kd.C_drewN ?_ _) | (with_reducible refine Kd.C_drew ?_) | exact HR379_3.out)) hb)
                      have n9_ := Aside0.mk (Kd.C_below (by repeat (first | (with_reducible exact HR380_2.out) | (with_reducible refine Kd.C_alloc ?_ _) | (with_reducible refine Kd.C_drewN ?_ _) | (with_reducible refine Kd.C_drew ?_) | exact HR380_2.out)) hb)
                      have n10_ := Aside0.mk (Kd.C_below (by repeat (first | (with_reducible exact HR380_3.out) | (with_reducible refine Kd.C_alloc ?_ _) | (with_reducible refine Kd.C_drewN ?_ _) | (with_reducible refine Kd.C_drew ?_) | exact HR380_3.out)) hb)
                      have n11_ := Aside0.mk (below_step (by repeat (first | (with_reducible first | exact HB.out | apply below_alloc | apply pw_below_drewN | apply below_drew1) | exact HB.out)) hb)
                      clear HO_1
                      clear HO_4
                      clear HL379_2
                      clear HL379_3
                      clear HL380_2
                      clear HL380_3
                      clear HO383
                      clear HR379_2
                      clear HR379_3
                      clear HR380_2
                      clear HR380_3
                      clear HB
                      have HO_1 := n0_
                      have HO_4 := n1_
                      have HL379_2 := n2_
                      have HL379_3 := n3_
                      have HL380_2 := n4_
                      have HL380_3 := n5_
                      have HO383 := n6_
                      have HR379_2 := n7_
                      have HR379_3 := n8_
                      have HR380_2 := n9_
                      have HR380_3 := n10_
                      have HB := n11_
                      clear n0_ n1_ n2_ n3_ n4_ n5_ n6_ n7_ n8_ n9_ n10_ n11_
                      (try clear hb)
                      (try clear hb2)
                      (try clear hk)
                      (try clear hi)
                      refine hK.out _ _ ⟨HS0_, HS1_, HS2_, HS3_, HS4_, HS5_, HS6_, HS7_⟩ (fun hHeld => ?_)
                      clear hK K
                      refine norm_ (a' := ?_) ?_ ?_
                      rotate_left
                      · show Act.put _ (some 76) _ = _
                        simp only [Act.put, List.setIfInBounds_toArray, List.set_cons_zero, List.set_cons_succ, i64_w, i32_w]
                        rfl
                      refine pure_ (i := 9) (N := some 67) (v := ?_) (a' := ?_) #[true, true, true, true, true, true, true, true, true, true, false, false, false, false] rfl rfl (any_of HT_.out (by kernel_rfl)) (fun _ _ _ h => h) (Or.inl ⟨by rfl, ?_⟩) ?_ ?_
                      rotate_left
                      · intro w'
                        go_simp
                        with_reducible rfl
                      rotate_left
                      · simp only [Act.put, List.setIfInBounds_toArray, List.set_cons_zero, List.set_cons_succ, i64_w, i32_w]
                        rfl
                      refine pure_ (i := 10) (N := some 77) (v := ?_) (a' := ?_) #[true, true, true, true, true, true, true, true, true, true, true, false, false, false] rfl rfl (any_of HT_.out (by kernel_rfl)) (fun _ _ _ h => h) (Or.inl ⟨by rfl, ?_⟩) ?_ ?_
                      rotate_left
                      · intro w'
                        go_simp
                        with_reducible rfl
                      rotate_left
                      · simp only [Act.put, List.setIfInBounds_toArray, List.set_cons_zero, List.set_cons_succ, i64_w, i32_w]
                        rfl
                      refine pure_ (i := 11) (N := some 78) (v := ?_) (a' := ?_) #[true, true, true, true, true, true, true, true, true, true, true, true, false, false] rfl rfl (any_of HT_.out (by kernel_rfl)) (fun _ _ _ h => h) (Or.inl ⟨by rfl, ?_⟩) ?_ ?_
                      rotate_left
                      · intro w'
                        go_simp
                        with_reducible rfl
                      rotate_left
                      · simp only [Act.put, List.setIfInBounds_toArray, List.set_cons_zero, List.set_cons_succ, i64_w, i32_w]
                        rfl
                      refine pure_ (i := 12) (N := some 6) (v := ?_) (a' := ?_) #[true, true, true, true, true, true, true, true, true, true, true, true, true, false] rfl rfl (any_of HT_.out (by kernel_rfl)) (fun _ _ _ h => h) (Or.inl ⟨by rfl, ?_⟩) ?_ ?_
                      rotate_left
                      · intro w'
                        go_simp
                        with_reducible rfl
                      rotate_left
                      · simp only [Act.put, List.setIfInBounds_toArray, List.set_cons_zero, List.set_cons_succ, i64_w, i32_w]
                        rfl
                      refine pure_ (i := 13) (N := some 7) (v := ?_) (a' := ?_) #[true, true, true, true, true, true, true, true, true, true, true, true, true, true] rfl rfl (any_of HT_.out (by kernel_rfl)) (fun _ _ _ h => h) (Or.inl ⟨by rfl, ?_⟩) ?_ ?_
                      rotate_left
                      · intro w'
                        go_simp
                        with_reducible rfl
                      rotate_left
                      · simp only [Act.put, List.setIfInBounds_toArray, List.set_cons_zero, List.set_cons_succ, i64_w, i32_w]
                        rfl
                      refine done_ (done_of HT_.out (by kernel_rfl)) ?_
                      try go_wp2
                      go_roundg k2
                      case measure => have := HJ1.out; have := HK2.out; omega
                      case rel => exact ⟨(wrap64 (x5_2 + 1)), (by first | rfl | (simp; done) | (simp [*]; done)), H', ⟨by have := HJ1.out; have := HK2.out; omega⟩, ⟨by (with_reducible repeat (first | apply Kd.N_alloc | apply Kd.N_drewN | apply Kd.N_drew)); exact Kd.N_mono HO_1.out (fun _ hk => hk.1)⟩, ⟨by (with_reducible repeat (first | apply Kd.N_alloc | apply Kd.N_drewN | apply Kd.N_drew)); exact Kd.N_mono HO_4.out (fun _ hk => hk.1)⟩, ⟨by repeat (first | (with_reducible first | exact HB.out | apply below_alloc | apply pw_below_drewN | apply below_drew1) | exact HB.out)⟩⟩
                    · rw [if_neg c49] at H
                      have c49b0 : (t385 == 40) = false := beq_eq_false_iff_ne.mpr c49
                      have c49b1 : (t385 != 40) = true := bne_iff_ne.mpr c49
                      exact absurd ((Option.some.inj H).trans hr) (by decide)
                  · rw [if_neg c48] at H
                    have c48b0 : (t384.toList == ([] : List UInt8)) = false := beq_eq_false_iff_ne.mpr c48
                    have c48b1 : (t384.toList != ([] : List UInt8)) = true := bne_iff_ne.mpr c48
                    exact absurd ((Option.some.inj H).trans hr) (by decide)
                · rw [if_neg c46] at H
                  exact absurd H (by simp)
              · rw [if_neg c45] at H
                exact absurd H (by simp)
            · rw [if_neg c44] at H
              have c44b0 : decide (x5_2 < (y376.length : Int)) = false := decide_eq_false c44
              clear c44
              obtain ⟨y386, hy386⟩ : ∃ y_ : List ByteArray, y_ = (([(⟨#[57, 32, 49, 32, 48, 32, 51, 32, 48]⟩ : ByteArray), (⟨#[57, 32, 49, 32, 48, 32, 51, 10]⟩ : ByteArray), (⟨#[48, 57, 32, 49, 32, 48, 32, 48, 10]⟩ : ByteArray), (⟨#[57, 32, 48, 49, 32, 48, 32, 48, 10]⟩ : ByteArray), (⟨#[57, 32, 32, 49, 32, 48, 32, 48, 10]⟩ : ByteArray), (⟨#[57, 32, 49, 32, 48, 32, 48, 32, 48, 10]⟩ : ByteArray), (⟨#[10]⟩ : ByteArray), (⟨#[32, 10]⟩ : ByteArray), (⟨#[57, 10]⟩ : ByteArray), (⟨#[57, 32, 48, 10]⟩ : ByteArray), (⟨#[57, 32, 100, 10]⟩ : ByteArray), (⟨#[57, 32, 100, 32, 48, 32, 48, 10]⟩ : ByteArray), (⟨#[57, 32, 100, 32, 49, 10]⟩ : ByteArray), (⟨#[57, 32, 100, 32, 45, 49, 32, 48, 10]⟩ : ByteArray), (⟨#[45, 57, 32, 48, 32, 48, 10]⟩ : ByteArray), (⟨#[48, 32, 48, 32, 48, 10]⟩ : ByteArray), (⟨#[57, 32, 45, 48, 32, 48, 32, 48, 10]⟩ : ByteArray), (⟨#[57, 32, 43, 49, 32, 48, 32, 48, 10]⟩ : ByteArray), (⟨#[57, 32, 49, 48, 52, 56, 53, 55, 55, 32, 48, 32, 48, 10]⟩ : ByteArray), (⟨#[57, 32, 48, 32, 52, 54, 49, 49, 54, 56, 54, 48, 49, 56, 52, 50, 55, 51, 56, 55, 57, 48, 52, 32, 48, 10]⟩ : ByteArray), (⟨#[57, 32, 48, 32, 57, 57, 57, 57, 57, 57, 57, 57, 57, 57, 57, 57, 57, 57, 57, 57, 57, 57, 57, 57, 32, 48, 10]⟩ : ByteArray), (⟨#[57, 32, 49, 32, 48, 32, 49, 32, 48, 32, 10]⟩ : ByteArray), (⟨#[32, 57, 32, 48, 32, 48, 10]⟩ : ByteArray), (⟨#[57, 32, 48, 32, 48, 13, 10]⟩ : ByteArray), (⟨#[99, 32, 120, 10]⟩ : ByteArray), (⟨#[57, 32, 100, 32, 100, 32, 48, 10]⟩ : ByteArray), (⟨#[57, 32, 49, 32, 100, 32, 48, 10]⟩ : ByteArray)] : List ByteArray)) := ⟨_, rfl⟩
              replace H : (threshinglaw04_LratKnown.l1 k2 y386 0) = some r := by first | (rw [hy386]; with_reducible exact H) | (have H2_ := (Option.bind_some _ _).symm.trans H; rw [hy386]; with_reducible exact H2_) | (have H2_ := (Option.bind_some _ _).symm.trans H; with_reducible exact H2_) | with_reducible exact H | (rw [hy386]; exact H) | exact H
              have Ny386 := Aside0.mk hy386
              clear hy386
              have H' := Aside0.mk H
              clear H
              obtain ⟨Ao68, co68, eo68⟩ := Kd.N_slice HO_4.out
              subst eo68
              go_wp2_with (first | ((with_reducible refine gate_dst (N := 85) rfl ?_); refine Kd.R_lit Kd.string _ 9 ?hg (N := 85) ?hd (xs := ([(⟨#[57, 32, 49, 32, 48, 32, 51, 32, 48]⟩ : ByteArray), (⟨#[57, 32, 49, 32, 48, 32, 51, 10]⟩ : ByteArray), (⟨#[48, 57, 32, 49, 32, 48, 32, 48, 10]⟩ : ByteArray), (⟨#[57, 32, 48, 49, 32, 48, 32, 48, 10]⟩ : ByteArray), (⟨#[57, 32, 32, 49, 32, 48, 32, 48, 10]⟩ : ByteArray), (⟨#[57, 32, 49, 32, 48, 32, 48, 32, 48, 10]⟩ : ByteArray), (⟨#[10]⟩ : ByteArray), (⟨#[32, 10]⟩ : ByteArray), (⟨#[57, 10]⟩ : ByteArray), (⟨#[57, 32, 48, 10]⟩ : ByteArray), (⟨#[57, 32, 100, 10]⟩ : ByteArray), (⟨#[57, 32, 100, 32, 48, 32, 48, 10]⟩ : ByteArray), (⟨#[57, 32, 100, 32, 49, 10]⟩ : ByteArray), (⟨#[57, 32, 100, 32, 45, 49, 32, 48, 10]⟩ : ByteArray), (⟨#[45, 57, 32, 48, 32, 48, 10]⟩ : ByteArray), (⟨#[48, 32, 48, 32, 48, 10]⟩ : ByteArray), (⟨#[57, 32, 45, 48, 32, 48, 32, 48, 10]⟩ : ByteArray), (⟨#[57, 32, 43, 49, 32, 48, 32, 48, 10]⟩ : ByteArray), (⟨#[57, 32, 49, 48, 52, 56, 53, 55, 55, 32, 48, 32, 48, 10]⟩ : ByteArray), (⟨#[57, 32, 48, 32, 52, 54, 49, 49, 54, 56, 54, 48, 49, 56, 52, 50, 55, 51, 56, 55, 57, 48, 52, 32, 48, 10]⟩ : ByteArray), (⟨#[57, 32, 48, 32, 57, 57, 57, 57, 57, 57, 57, 57, 57, 57, 57, 57, 57, 57, 57, 57, 57, 57, 57, 57, 32, 48, 10]⟩ : ByteArray), (⟨#[57, 32, 49, 32, 48, 32, 49, 32, 48, 32, 10]⟩ : ByteArray), (⟨#[32, 57, 32, 48, 32, 48, 10]⟩ : ByteArray), (⟨#[57, 32, 48, 32, 48, 13, 10]⟩ : ByteArray), (⟨#[99, 32, 120, 10]⟩ : ByteArray), (⟨#[57, 32, 100, 32, 100, 32, 48, 10]⟩ : ByteArray), (⟨#[57, 32, 49, 32, 100, 32, 48, 10]⟩ : ByteArray)] : List ByteArray)) (inner := [.string (⟨#[57, 32, 49, 32, 48, 32, 51, 32, 48]⟩ : ByteArray), .string (⟨#[57, 32, 49, 32, 48, 32, 51, 10]⟩ : ByteArray), .string (⟨#[48, 57, 32, 49, 32, 48, 32, 48, 10]⟩ : ByteArray), .string (⟨#[57, 32, 48, 49, 32, 48, 32, 48, 10]⟩ : ByteArray), .string (⟨#[57, 32, 32, 49, 32, 48, 32, 48, 10]⟩ : ByteArray), .string (⟨#[57, 32, 49, 32, 48, 32, 48, 32, 48, 10]⟩ : ByteArray), .string (⟨#[10]⟩ : ByteArray), .string (⟨#[32, 10]⟩ : ByteArray), .string (⟨#[57, 10]⟩ : ByteArray), .string (⟨#[57, 32, 48, 10]⟩ : ByteArray), .string (⟨#[57, 32, 100, 10]⟩ : ByteArray), .string (⟨#[57, 32, 100, 32, 48, 32, 48, 10]⟩ : ByteArray), .string (⟨#[57, 32, 100, 32, 49, 10]⟩ : ByteArray), .string (⟨#[57, 32, 100, 32, 45, 49, 32, 48, 10]⟩ : ByteArray), .string (⟨#[45, 57, 32, 48, 32, 48, 10]⟩ : ByteArray), .string (⟨#[48, 32, 48, 32, 48, 10]⟩ : ByteArray), .string (⟨#[57, 32, 45, 48, 32, 48, 32, 48, 10]⟩ : ByteArray), .string (⟨#[57, 32, 43, 49, 32, 48, 32, 48, 10]⟩ : ByteArray), .string (⟨#[57, 32, 49, 48, 52, 56, 53, 55, 55, 32, 48, 32, 48, 10]⟩ : ByteArray), .string (⟨#[57, 32, 48, 32, 52, 54, 49, 49, 54, 56, 54, 48, 49, 56, 52, 50, 55, 51, 56, 55, 57, 48, 52, 32, 48, 10]⟩ : ByteArray), .string (⟨#[57, 32, 48, 32, 57, 57, 57, 57, 57, 57, 57, 57, 57, 57, 57, 57, 57, 57, 57, 57, 57, 57, 57, 57, 32, 48, 10]⟩ : ByteArray), .string (⟨#[57, 32, 49, 32, 48, 32, 49, 32, 48, 32, 10]⟩ : ByteArray), .string (⟨#[32, 57, 32, 48, 32, 48, 10]⟩ : ByteArray), .string (⟨#[57, 32, 48, 32, 48, 13, 10]⟩ : ByteArray), .string (⟨#[99, 32, 120, 10]⟩ : ByteArray), .string (⟨#[57, 32, 100, 32, 100, 32, 48, 10]⟩ : ByteArray), .string (⟨#[57, 32, 49, 32, 100, 32, 48, 10]⟩ : ByteArray)]) (ok := fun _ => True) (okp := fun _ => True) ?hr ?hp (fun _ hk => hk) trivial (Below.refl _ _) (Nat.le_refl _) (by simp) ?_; (case hd => rfl); (case hg => rfl); (case hr => first | (go_simp; done) | (go_simp; rfl)); (case hp => exact (Reps.one (show Kd.M Kd.string _ _ _ (⟨#[57, 32, 49, 32, 48, 32, 51, 32, 48]⟩ : ByteArray) [.string (⟨#[57, 32, 49, 32, 48, 32, 51, 32, 48]⟩ : ByteArray)] from rfl) (Reps.one (show Kd.M Kd.string _ _ _ (⟨#[57, 32, 49, 32, 48, 32, 51, 10]⟩ : ByteArray) [.string (⟨#[57, 32, 49, 32, 48, 32, 51, 10]⟩ : ByteArray)] from rfl) (Reps.one (show Kd.M Kd.string _ _ _ (⟨#[48, 57, 32, 49, 32, 48, 32, 48, 10]⟩ : ByteArray) [.string (⟨#[48, 57, 32, 49, 32, 48, 32, 48, 10]⟩ : ByteArray)] from rfl) (Reps.one (show Kd.M Kd.string _ _ _ (⟨#[57, 32, 48, 49, 32, 48, 32, 48, 10]⟩ : ByteArray) [.string (⟨#[57, 32, 48, 49, 32, 48, 32, 48, 10]⟩ : ByteArray)] from rfl) (Reps.one (show Kd.M Kd.string _ _ _ (⟨#[57, 32, 32, 49, 32, 48, 32, 48, 10]⟩ : ByteArray) [.string (⟨#[57, 32, 32, 49, 32, 48, 32, 48, 10]⟩ : ByteArray)] from rfl) (Reps.one (show Kd.M Kd.string _ _ _ (⟨#[57, 32, 49, 32, 48, 32, 48, 32, 48, 10]⟩ : ByteArray) [.string (⟨#[57, 32, 49, 32, 48, 32, 48, 32, 48, 10]⟩ : ByteArray)] from rfl) (Reps.one (show Kd.M Kd.string _ _ _ (⟨#[10]⟩ : ByteArray) [.string (⟨#[10]⟩ : ByteArray)] from rfl) (Reps.one (show Kd.M Kd.string _ _ _ (⟨#[32, 10]⟩ : ByteArray) [.string (⟨#[32, 10]⟩ : ByteArray)] from rfl) (Reps.one (show Kd.M Kd.string _ _ _ (⟨#[57, 10]⟩ : ByteArray) [.string (⟨#[57, 10]⟩ : ByteArray)] from rfl) (Reps.one (show Kd.M Kd.string _ _ _ (⟨#[57, 32, 48, 10]⟩ : ByteArray) [.string (⟨#[57, 32, 48, 10]⟩ : ByteArray)] from rfl) (Reps.one (show Kd.M Kd.string _ _ _ (⟨#[57, 32, 100, 10]⟩ : ByteArray) [.string (⟨#[57, 32, 100, 10]⟩ : ByteArray)] from rfl) (Reps.one (show Kd.M Kd.string _ _ _ (⟨#[57, 32, 100, 32, 48, 32, 48, 10]⟩ : ByteArray) [.string (⟨#[57, 32, 100, 32, 48, 32, 48, 10]⟩ : ByteArray)] from rfl) (Reps.one (show Kd.M Kd.string _ _ _ (⟨#[57, 32, 100, 32, 49, 10]⟩ : ByteArray) [.string (⟨#[57, 32, 100, 32, 49, 10]⟩ : ByteArray)] from rfl) (Reps.one (show Kd.M Kd.string _ _ _ (⟨#[57, 32, 100, 32, 45, 49, 32, 48, 10]⟩ : ByteArray) [.string (⟨#[57, 32, 100, 32, 45, 49, 32, 48, 10]⟩ : ByteArray)] from rfl) (Reps.one (show Kd.M Kd.string _ _ _ (⟨#[45, 57, 32, 48, 32, 48, 10]⟩ : ByteArray) [.string (⟨#[45, 57, 32, 48, 32, 48, 10]⟩ : ByteArray)] from rfl) (Reps.one (show Kd.M Kd.string _ _ _ (⟨#[48, 32, 48, 32, 48, 10]⟩ : ByteArray) [.string (⟨#[48, 32, 48, 32, 48, 10]⟩ : ByteArray)] from rfl) (Reps.one (show Kd.M Kd.string _ _ _ (⟨#[57, 32, 45, 48, 32, 48, 32, 48, 10]⟩ : ByteArray) [.string (⟨#[57, 32, 45, 48, 32, 48, 32, 48, 10]⟩ : ByteArray)] from rfl) (Reps.one (show Kd.M Kd.string _ _ _ (⟨#[57, 32, 43, 49, 32, 48, 32, 48, 10]⟩ : ByteArray) [.string (⟨#[57, 32, 43, 49, 32, 48, 32, 48, 10]⟩ : ByteArray)] from rfl) (Reps.one (show Kd.M Kd.string _ _ _ (⟨#[57, 32, 49, 48, 52, 56, 53, 55, 55, 32, 48, 32, 48, 10]⟩ : ByteArray) [.string (⟨#[57, 32, 49, 48, 52, 56, 53, 55, 55, 32, 48, 32, 48, 10]⟩ : ByteArray)] from rfl) (Reps.one (show Kd.M Kd.string _ _ _ (⟨#[57, 32, 48, 32, 52, 54, 49, 49, 54, 56, 54, 48, 49, 56, 52, 50, 55, 51, 56, 55, 57, 48, 52, 32, 48, 10]⟩ : ByteArray) [.string (⟨#[57, 32, 48, 32, 52, 54, 49, 49, 54, 56, 54, 48, 49, 56, 52, 50, 55, 51, 56, 55, 57, 48, 52, 32, 48, 10]⟩ : ByteArray)] from rfl) (Reps.one (show Kd.M Kd.string _ _ _ (⟨#[57, 32, 48, 32, 57, 57, 57, 57, 57, 57, 57, 57, 57, 57, 57, 57, 57, 57, 57, 57, 57, 57, 57, 57, 32, 48, 10]⟩ : ByteArray) [.string (⟨#[57, 32, 48, 32, 57, 57, 57, 57, 57, 57, 57, 57, 57, 57, 57, 57, 57, 57, 57, 57, 57, 57, 57, 57, 32, 48, 10]⟩ : ByteArray)] from rfl) (Reps.one (show Kd.M Kd.string _ _ _ (⟨#[57, 32, 49, 32, 48, 32, 49, 32, 48, 32, 10]⟩ : ByteArray) [.string (⟨#[57, 32, 49, 32, 48, 32, 49, 32, 48, 32, 10]⟩ : ByteArray)] from rfl) (Reps.one (show Kd.M Kd.string _ _ _ (⟨#[32, 57, 32, 48, 32, 48, 10]⟩ : ByteArray) [.string (⟨#[32, 57, 32, 48, 32, 48, 10]⟩ : ByteArray)] from rfl) (Reps.one (show Kd.M Kd.string _ _ _ (⟨#[57, 32, 48, 32, 48, 13, 10]⟩ : ByteArray) [.string (⟨#[57, 32, 48, 32, 48, 13, 10]⟩ : ByteArray)] from rfl) (Reps.one (show Kd.M Kd.string _ _ _ (⟨#[99, 32, 120, 10]⟩ : ByteArray) [.string (⟨#[99, 32, 120, 10]⟩ : ByteArray)] from rfl) (Reps.one (show Kd.M Kd.string _ _ _ (⟨#[57, 32, 100, 32, 100, 32, 48, 10]⟩ : ByteArray) [.string (⟨#[57, 32, 100, 32, 100, 32, 48, 10]⟩ : ByteArray)] from rfl) (Reps.one (show Kd.M Kd.string _ _ _ (⟨#[57, 32, 49, 32, 100, 32, 48, 10]⟩ : ByteArray) [.string (⟨#[57, 32, 49, 32, 100, 32, 48, 10]⟩ : ByteArray)] from rfl) (Reps.none _ _))))))))))))))))))))))))))))); intro v387 w69 ho70 hb hg_ hnew_; clear hg_ hnew_; (first | rw [← Ny386.out] at ho70 | (simp only [Int.reduceToNat] at ho70; rw [← Ny386.out] at ho70)); have n0_ := Aside0.mk (Kd.N_elder' (by (with_reducible repeat (first | apply Kd.N_alloc | apply Kd.N_drewN | apply Kd.N_drew)); exact HO_1.out) (Kd.R_base ho70) hb); have n1_ := Aside0.mk (Kd.N_elder' (by (with_reducible repeat (first | apply Kd.N_alloc | apply Kd.N_drewN | apply Kd.N_drew)); exact HO_4.out) (Kd.R_base ho70) hb); have n2_ := Aside0.mk (Kd.R_lower ho70 (below_size (by repeat (first | (with_reducible first | exact HB.out | apply below_alloc | apply pw_below_drewN | apply below_drew1) | exact HB.out)))); have n3_ := Aside0.mk (below_step (by repeat (first | (with_reducible first | exact HB.out | apply below_alloc | apply pw_below_drewN | apply below_drew1) | exact HB.out)) hb); clear HO_1; clear HO_4; clear HB; have HO_1 := n0_; have HO_4 := n1_; have HO388 := n2_; have HB := n3_; clear n0_ n1_ n2_ n3_; clear hb ho70))
              go_loopg [9] k2 (fun kq v9 w' => ∃ (x9_3 : Int), v9 = .int .i64 x9_3 ∧ Aside0 (threshinglaw04_LratKnown.l1 kq y386 x9_3 = some r) ∧ Aside0 (kq ≤ k2) ∧ Aside0 (Kd.R Kd.string 9 w' w.heap.size (fun _ => True) v387 y386) ∧ Aside0 (Below w.heap.size w w'))
              case atStart => exact ⟨(0), (by first | rfl | (simp; done) | (simp [*]; done)), H', ⟨Nat.le_refl _⟩, ⟨by (with_reducible repeat (first | apply Kd.R_alloc | apply Kd.R_drewN | apply Kd.R_drew)); exact HO388.out⟩, ⟨by repeat (first | (with_reducible first | exact HB.out | apply below_alloc | apply pw_below_drewN | apply below_drew1) | exact HB.out)⟩⟩
              case round =>
                clear H'
                try clear c1
                try clear p2
                try clear c3
                try clear p3
                try clear q3
                try clear hx3
                try clear qi3
                try clear c4
                try clear c12
                try clear c37
                try clear p37
                try clear q37
                try clear hx37
                try clear qi37
                try clear c38
                try clear p38
                try clear q38
                try clear hx38
                try clear c44
                try clear c44b0
                try clear c45
                try clear c46
                try clear c48
                try clear c48b0
                try clear c48b1
                try clear hx379_0
                try clear hx379_1
                try clear hx379_2
                try clear hx379_3
                try clear hx380_0
                try clear hx380_1
                try clear hx380_2
                try clear hx380_3
                try clear p379
                try clear p380
                try clear q379
                try clear q380
                obtain ⟨x9_3, rfl, HA, HK3, HO_8, HB⟩ := hrel
                cases gk with
                | zero => exact absurd HA.out (by simp [threshinglaw04_LratKnown.l1])
                | succ k3 =>
                  have H := HA.out
                  clear HA
                  simp only [threshinglaw04_LratKnown.l1] at H
                  by_cases c71 : x9_3 < (y386.length : Int)
                  · rw [if_pos c71] at H
                    have c71b0 : decide (x9_3 < (y386.length : Int)) = true := decide_eq_true c71
                    clear c71
                    by_cases c72 : 0 ≤ x9_3
                    · rw [if_pos c72] at H
                      have c72b0 : decide (0 ≤ x9_3) = true := decide_eq_true c72
                      clear c72
                      by_cases c73 : 8 + (rdOf ByteArray.empty y386 x9_3).size ≤ 9223372036854775807
                      · rw [if_pos c73] at H
                        have c73b0 := eq_true c73
                        have c73b1 : decide (8 + (rdOf ByteArray.empty y386 x9_3).size ≤ 9223372036854775807) = true := decide_eq_true c73
                        try have c73b2 : (9223372036854775807 < 8 + (rdOf ByteArray.empty y386 x9_3).size) = False := eq_false (Nat.not_lt.2 c73)
                        replace H := Option.bind_eq_some_iff.mp H
                        obtain ⟨⟨t390, t391, t392⟩, A740, H⟩ := H
                        replace H : (if (t390.length : Int) = 0 then (if t391 = 40 then (if t392 = 2 then (threshinglaw04_LratKnown.l1 k3 y386 (wrap64 (x9_3 + 1))) else (some false)) else (some false)) else (some false)) = some r := H
                        have A74 := Aside0.mk A740
                        clear A740
                        by_cases c75 : (t390.length : Int) = 0
                        · rw [if_pos c75] at H
                          have c75b0 : ((t390.length : Int) == 0) = true := beq_iff_eq.mpr c75
                          have c75b1 : ((t390.length : Int) != 0) = false := bne_eq_false_iff_eq.mpr c75
                          clear c75
                          by_cases c76 : t391 = 40
                          · rw [if_pos c76] at H
                            have c76b0 : (t391 == 40) = true := beq_iff_eq.mpr c76
                            have c76b1 : (t391 != 40) = false := bne_eq_false_iff_eq.mpr c76
                            clear c76
                            by_cases c77 : t392 = 2
                            · rw [if_pos c77] at H
                              have c77b0 : (t392 == 2) = true := beq_iff_eq.mpr c77
                              have c77b1 : (t392 != 2) = false := bne_eq_false_iff_eq.mpr c77
                              clear c77
                              have H' := Aside0.mk H
                              clear H
                              obtain ⟨Ao78, co78, eo78⟩ := Kd.R_slice HO_8.out
                              subst eo78
                              have p389 : 0 ≤ (x9_3 : Int) := of_decide_eq_true (by first | (with_reducible assumption) | assumption)
                              have q389 : x9_3 < (y386.length : Int) := of_decide_eq_true (by first | (with_reducible assumption) | assumption)
                              obtain ⟨ad389, e389, hx389_0⟩ := Kd.at_string (Kd.R_reads' HO_8.out).2.2 x9_3 p389 q389
                              cases e389
                              replace p389 := eq_true p389
                              replace q389 := eq_true q389
                              go_wp2_with (first | ((with_reducible refine gate_callee (f := 15) rfl ?_); refine goesL_ (some 98) rfl rfl Tryd.func15 (by kernel_rfl) rfl #[.string ((⟨#[57, 32, 100, 32, 51, 32, 48, 10]⟩ : ByteArray) ++ (rdOf ByteArray.empty y386 x9_3))] rfl (by (try simp only [List.map_toArray, List.map_cons, List.map_nil]); first | done | rfl | (simp only [List.length_drop, List.length_take]; rfl)) ?_; (with_reducible refine (lrat_Parse.calls k3 ((⟨#[57, 32, 100, 32, 51, 32, 48, 10]⟩ : ByteArray) ++ (rdOf ByteArray.empty y386 x9_3)) t390 t391 t392 _ A74.out ?sideT).mono ?_); (case sideT => exact LT.pay HLT.out (by repeat (first | (with_reducible first | exact HB.out | apply below_alloc | apply pw_below_drewN | apply below_drew1) | exact HB.out))); rintro e w79 ⟨v393, rfl, ho0, hb⟩; refine ⟨_, rfl, ?_⟩; have n0_ := Aside0.mk (Kd.R_below (by (with_reducible repeat (first | apply Kd.R_alloc | apply Kd.R_drewN | apply Kd.R_drew)); exact HO_8.out) hb); have n1_ := Aside0.mk (Kd.N_lower (Kd.N_mono (ok' := fun k_ => some k_ ≠ (.slice (some ad389) y386.length co78 : Value).ownBlock) (Kd.S_N (Kd.S_bound ho0)) (fun k_ hk_ => (Kd.fresh' (Kd.R_lt (by (with_reducible repeat (first | apply Kd.R_alloc | apply Kd.R_drewN | apply Kd.R_drew)); exact HO_8.out)) k_ hk_.2.1))) (below_size (by repeat (first | (with_reducible first | exact HB.out | apply below_alloc | apply pw_below_drewN | apply below_drew1) | exact HB.out)))); have n2_ := Aside0.mk (below_step (by repeat (first | (with_reducible first | exact HB.out | apply below_alloc | apply pw_below_drewN | apply below_drew1) | exact HB.out)) hb); clear HO_8; clear HB; have HO_8 := n0_; have HO394 := n1_; have HB := n2_; clear n0_ n1_ n2_; (try clear hb); (try clear hb2); (try clear hk); (try clear hi); (try clear ho0); obtain ⟨Ao80, co80, eo80⟩ := Kd.N_slice HO394.out; subst eo80))
                              go_roundg k3
                              case measure => have := HJ1.out; have := HK2.out; have := HK3.out; omega
                              case rel => exact ⟨(wrap64 (x9_3 + 1)), (by first | rfl | (simp; done) | (simp [*]; done)), H', ⟨by have := HJ1.out; have := HK2.out; have := HK3.out; omega⟩, ⟨by (with_reducible repeat (first | apply Kd.R_alloc | apply Kd.R_drewN | apply Kd.R_drew)); exact HO_8.out⟩, ⟨by repeat (first | (with_reducible first | exact HB.out | apply below_alloc | apply pw_below_drewN | apply below_drew1) | exact HB.out)⟩⟩
                            · rw [if_neg c77] at H
                              have c77b0 : (t392 == 2) = false := beq_eq_false_iff_ne.mpr c77
                              have c77b1 : (t392 != 2) = true := bne_iff_ne.mpr c77
                              exact absurd ((Option.some.inj H).trans hr) (by decide)
                          · rw [if_neg c76] at H
                            have c76b0 : (t391 == 40) = false := beq_eq_false_iff_ne.mpr c76
                            have c76b1 : (t391 != 40) = true := bne_iff_ne.mpr c76
                            exact absurd ((Option.some.inj H).trans hr) (by decide)
                        · rw [if_neg c75] at H
                          have c75b0 : ((t390.length : Int) == 0) = false := beq_eq_false_iff_ne.mpr c75
                          have c75b1 : ((t390.length : Int) != 0) = true := bne_iff_ne.mpr c75
                          have c75b2 : ¬ (t390 = []) := fun h_ => c75 (by rw [h_]; rfl)
                          exact absurd ((Option.some.inj H).trans hr) (by decide)
                      · rw [if_neg c73] at H
                        exact absurd H (by simp)
                    · rw [if_neg c72] at H
                      exact absurd H (by simp)
                  · rw [if_neg c71] at H
                    have c71b0 : decide (x9_3 < (y386.length : Int)) = false := decide_eq_false c71
                    clear c71
                    replace H := Option.bind_eq_some_iff.mp H
                    obtain ⟨⟨t395, t396, t397⟩, A900, H⟩ := H
                    replace H : (if 4194305 ≤ 4398046511104 then ((lrat_Write.f k3 (List.replicate 4194305 z43)).bind fun bt403 => (if 16777217 ≤ 35184372088832 then ((lrat_Write.f k3 (([(⟨0, 0, ([] : List Int), (List.replicate 16777217 0)⟩ : S43)] : List (S43)))).bind fun bt411 => (if (t395.length : Int) = 0 then (if t396 = 0 then (if t397 = 0 then (if bt403.2 = 3 then (if bt411.2 = 3 then ((threshinglaw04_works.f k3).bind fun t413 => (some t413)) else (some false)) else (some false)) else (some false)) else (some false)) else (some false))) else (none))) else (none)) = some r := H
                    have A90 := Aside0.mk A900
                    clear A900
                    by_cases c91 : 4194305 ≤ 4398046511104
                    · rw [if_pos c91] at H
                      have c91b0 := eq_true c91
                      have c91b1 : decide (4194305 ≤ 4398046511104) = true := decide_eq_true c91
                      clear c91
                      obtain ⟨y400, hy400⟩ : ∃ y_ : List (S43), y_ = (List.replicate 4194305 z43) := ⟨_, rfl⟩
                      replace H : ((lrat_Write.f k3 y400).bind fun bt403 => (if 16777217 ≤ 35184372088832 then ((lrat_Write.f k3 (([(⟨0, 0, ([] : List Int), (List.replicate 16777217 0)⟩ : S43)] : List (S43)))).bind fun bt411 => (if (t395.length : Int) = 0 then (if t396 = 0 then (if t397 = 0 then (if bt403.2 = 3 then (if bt411.2 = 3 then ((threshinglaw04_works.f k3).bind fun t413 => (some t413)) else (some false)) else (some false)) else (some false)) else (some false)) else (some false))) else (none))) = some r := by first | (rw [hy400]; with_reducible exact H) | (have H2_ := (Option.bind_some _ _).symm.trans H; rw [hy400]; with_reducible exact H2_) | (have H2_ := (Option.bind_some _ _).symm.trans H; with_reducible exact H2_) | with_reducible exact H | (rw [hy400]; exact H) | exact H
                      have Ny400 := Aside0.mk hy400
                      clear hy400
                      replace H := Option.bind_eq_some_iff.mp H
                      obtain ⟨⟨t403, t404⟩, A920, H⟩ := H
                      replace H : (if 16777217 ≤ 35184372088832 then ((lrat_Write.f k3 (([(⟨0, 0, ([] : List Int), (List.replicate 16777217 0)⟩ : S43)] : List (S43)))).bind fun bt411 => (if (t395.length : Int) = 0 then (if t396 = 0 then (if t397 = 0 then (if t404 = 3 then (if bt411.2 = 3 then ((threshinglaw04_works.f k3).bind fun t413 => (some t413)) else (some false)) else (some false)) else (some false)) else (some false)) else (some false))) else (none)) = some r := H
                      have A92 := Aside0.mk A920
                      clear A920
                      by_cases c93 : 16777217 ≤ 35184372088832
                      · rw [if_pos c93] at H
                        have c93b0 := eq_true c93
                        have c93b1 : decide (16777217 ≤ 35184372088832) = true := decide_eq_true c93
                        clear c93
                        obtain ⟨y405, hy405⟩ : ∃ y_ : List Int, y_ = (List.replicate 16777217 0) := ⟨_, rfl⟩
                        replace H : ((lrat_Write.f k3 (([(⟨0, 0, ([] : List Int), y405⟩ : S43)] : List (S43)))).bind fun bt411 => (if (t395.length : Int) = 0 then (if t396 = 0 then (if t397 = 0 then (if t404 = 3 then (if bt411.2 = 3 then ((threshinglaw04_works.f k3).bind fun t413 => (some t413)) else (some false)) else (some false)) else (some false)) else (some false)) else (some false))) = some r := by first | (rw [hy405]; with_reducible exact H) | (have H2_ := (Option.bind_some _ _).symm.trans H; rw [hy405]; with_reducible exact H2_) | (have H2_ := (Option.bind_some _ _).symm.trans H; with_reducible exact H2_) | with_reducible exact H | (rw [hy405]; exact H) | exact H
                        have Ny405 := Aside0.mk hy405
                        clear hy405
                        obtain ⟨y408, hy408⟩ : ∃ y_ : List (S43), y_ = (([(⟨0, 0, ([] : List Int), y405⟩ : S43)] : List (S43))) := ⟨_, rfl⟩
                        replace H : ((lrat_Write.f k3 y408).bind fun bt411 => (if (t395.length : Int) = 0 then (if t396 = 0 then (if t397 = 0 then (if t404 = 3 then (if bt411.2 = 3 then ((threshinglaw04_works.f k3).bind fun t413 => (some t413)) else (some false)) else (some false)) else (some false)) else (some false)) else (some false))) = some r := by first | (rw [hy408]; with_reducible exact H) | (have H2_ := (Option.bind_some _ _).symm.trans H; rw [hy408]; with_reducible exact H2_) | (have H2_ := (Option.bind_some _ _).symm.trans H; with_reducible exact H2_) | with_reducible exact H | (rw [hy408]; exact H) | exact H
                        have Ny408 := Aside0.mk hy408
                        clear hy408
                        replace H := Option.bind_eq_some_iff.mp H
                        obtain ⟨⟨t411, t412⟩, A940, H⟩ := H
                        replace H : (if (t395.length : Int) = 0 then (if t396 = 0 then (if t397 = 0 then (if t404 = 3 then (if t412 = 3 then ((threshinglaw04_works.f k3).bind fun t413 => (some t413)) else (some false)) else (some false)) else (some false)) else (some false)) else (some false)) = some r := H
                        have A94 := Aside0.mk A940
                        clear A940
                        by_cases c95 : (t395.length : Int) = 0
                        · rw [if_pos c95] at H
                          have c95b0 : ((t395.length : Int) == 0) = true := beq_iff_eq.mpr c95
                          have c95b1 : ((t395.length : Int) != 0) = false := bne_eq_false_iff_eq.mpr c95
                          clear c95
                          by_cases c96 : t396 = 0
                          · rw [if_pos c96] at H
                            have c96b0 : (t396 == 0) = true := beq_iff_eq.mpr c96
                            have c96b1 : (t396 != 0) = false := bne_eq_false_iff_eq.mpr c96
                            clear c96
                            by_cases c97 : t397 = 0
                            · rw [if_pos c97] at H
                              have c97b0 : (t397 == 0) = true := beq_iff_eq.mpr c97
                              have c97b1 : (t397 != 0) = false := bne_eq_false_iff_eq.mpr c97
                              clear c97
                              by_cases c98 : t404 = 3
                              · rw [if_pos c98] at H
                                have c98b0 : (t404 == 3) = true := beq_iff_eq.mpr c98
                                have c98b1 : (t404 != 3) = false := bne_eq_false_iff_eq.mpr c98
                                clear c98
                                by_cases c99 : t412 = 3
                                · rw [if_pos c99] at H
                                  have c99b0 : (t412 == 3) = true := beq_iff_eq.mpr c99
                                  have c99b1 : (t412 != 3) = false := bne_eq_false_iff_eq.mpr c99
                                  clear c99
                                  replace H := Option.bind_eq_some_iff.mp H
                                  obtain ⟨t413, A1000, H⟩ := H
                                  replace H : (some t413) = some r := H
                                  have A100 := Aside0.mk A1000
                                  clear A1000
                                  obtain rfl := Option.some.inj H
                                  obtain ⟨Ao101, co101, eo101⟩ := Kd.R_slice HO_8.out
                                  subst eo101
                                  go_wp2_with (first | ((with_reducible refine gate_callee (f := 15) rfl ?_); refine goesL_ (some 114) rfl rfl Tryd.func15 (by kernel_rfl) rfl #[.string (⟨#[]⟩ : ByteArray)] rfl (by (try simp only [List.map_toArray, List.map_cons, List.map_nil]); first | done | rfl | (simp only [List.length_drop, List.length_take]; rfl)) ?_; (with_reducible refine (lrat_Parse.calls k3 (⟨#[]⟩ : ByteArray) t395 t396 t397 _ A90.out ?sideT).mono ?_); (case sideT => exact LT.pay HLT.out (by repeat (first | (with_reducible first | exact HB.out | apply below_alloc | apply pw_below_drewN | apply below_drew1) | exact HB.out))); rintro e w102 ⟨v398, rfl, ho0, hb⟩; refine ⟨_, rfl, ?_⟩; have n0_ := Aside0.mk (Kd.R_below (by (with_reducible repeat (first | apply Kd.R_alloc | apply Kd.R_drewN | apply Kd.R_drew)); exact HO_8.out) hb); have n1_ := Aside0.mk (Kd.N_lower (Kd.N_mono (ok' := fun k_ => some k_ ≠ (.slice Ao101 y386.length co101 : Value).ownBlock) (Kd.S_N (Kd.S_bound ho0)) (fun k_ hk_ => (Kd.fresh' (Kd.R_lt (by (with_reducible repeat (first | apply Kd.R_alloc | apply Kd.R_drewN | apply Kd.R_drew)); exact HO_8.out)) k_ hk_.2.1))) (below_size (by repeat (first | (with_reducible first | exact HB.out | apply below_alloc | apply pw_below_drewN | apply below_drew1) | exact HB.out)))); have n2_ := Aside0.mk (below_step (by repeat (first | (with_reducible first | exact HB.out | apply below_alloc | apply pw_below_drewN | apply below_drew1) | exact HB.out)) hb); clear HO_8; clear HB; have HO_8 := n0_; have HO399 := n1_; have HB := n2_; clear n0_ n1_ n2_; (try clear hb); (try clear hb2); (try clear hk); (try clear hi); (try clear ho0)) | ((with_reducible refine gate_dst (N := 119) rfl ?_); refine Kd.N_make k43 _ 43 rfl (N' := 119) rfl 22 _ _ rfl 4194305 rfl rfl Tryd.underlying22 (.agg #[(.int .u8 0), (.int .i64 0), (.slice none 0 0), (.slice none 0 0)]) 64 info43 rfl (by decide) (by omega) z43 (ok := fun k_ => w102.heap.size ≤ k_) (okp := fun _ => False) (k43_mkF _ _ z43 (Nat.le_refl _) (Kd.F_nil _ _ _) (Nat.le_refl _) (Kd.F_nil _ _ _)) (fun _ hk => hk.elim) (Nat.le_refl _) (by omega) (by omega) (Below.refl _ _) (Nat.le_refl _) ?_; intro v401 w103 ho104 hb hg_ hnew_; clear hg_ hnew_; (first | rw [← Ny400.out] at ho104 | (simp only [Int.reduceToNat] at ho104; rw [← Ny400.out] at ho104)); have n0_ := Aside0.mk (Kd.R_below (by (with_reducible repeat (first | apply Kd.R_alloc | apply Kd.R_drewN | apply Kd.R_drew)); exact HO_8.out) hb); have n1_ := Aside0.mk (Kd.N_elder' (by (with_reducible repeat (first | apply Kd.N_alloc | apply Kd.N_drewN | apply Kd.N_drew)); exact HO399.out) (by first | exact Kd.N_base ho104 | exact Kd.S_base ho104) hb); have n2_ := Aside0.mk (Kd.N_lower (Kd.N_mono (ok' := fun k_ => some k_ ≠ (.slice Ao101 y386.length co101 : Value).ownBlock ∧ some k_ ≠ (v398 : Value).ownBlock) ho104 (fun k_ hk_ => ⟨(Kd.fresh' (Kd.R_lt (by (with_reducible repeat (first | apply Kd.R_alloc | apply Kd.R_drewN | apply Kd.R_drew)); exact HO_8.out)) k_ hk_), (Kd.fresh' (Kd.N_lt (by (with_reducible repeat (first | apply Kd.N_alloc | apply Kd.N_drewN | apply Kd.N_drew)); exact HO399.out)) k_ hk_)⟩)) (below_size (by repeat (first | (with_reducible first | exact HB.out | apply below_alloc | apply pw_below_drewN | apply below_drew1) | exact HB.out)))); have n3_ := Aside0.mk (below_step (by repeat (first | (with_reducible first | exact HB.out | apply below_alloc | apply pw_below_drewN | apply below_drew1) | exact HB.out)) hb); clear HO_8; clear HO399; clear HB; have HO_8 := n0_; have HO399 := n1_; have HO402 := n2_; have HB := n3_; clear n0_ n1_ n2_ n3_; clear hb ho104; obtain ⟨Ao105, co105, eo105⟩ := Kd.N_slice HO402.out; subst eo105) | ((with_reducible refine gate_callee (f := 12) rfl ?_); refine goesL_ (some 120) rfl rfl Tryd.func12 (by kernel_rfl) rfl #[.slice Ao105 y400.length co105] rfl (by (try simp only [List.map_toArray, List.map_cons, List.map_nil]); first | done | rfl | (simp only [List.length_drop, List.length_take]; rfl)) ?_; (with_reducible refine (lrat_Write.calls k3 _ _ y400 t403 t404 _ ?side1 ?side2 A92.out ?sideT).mono ?_); (case sideT => exact LT.pay HLT.out (by repeat (first | (with_reducible first | exact HB.out | apply below_alloc | apply pw_below_drewN | apply below_drew1) | exact HB.out))); (case side1 => repeat (first | exact (Kd.N_reads' HO402.out).2.2 | (with_reducible refine Kd.C_alloc ?_ _) | (with_reducible refine Kd.C_drewN ?_ _) | (with_reducible refine Kd.C_drew ?_))); (case side2 => exact (Kd.N_reads' HO402.out).2.1); rintro e w106 ⟨rfl, hb⟩; refine ⟨_, rfl, ?_⟩; have n0_ := Aside0.mk (Kd.R_below (by (with_reducible repeat (first | apply Kd.R_alloc | apply Kd.R_drewN | apply Kd.R_drew)); exact HO_8.out) hb); have n1_ := Aside0.mk (Kd.N_below (by (with_reducible repeat (first | apply Kd.N_alloc | apply Kd.N_drewN | apply Kd.N_drew)); exact HO399.out) hb); have n2_ := Aside0.mk (Kd.N_below (by (with_reducible repeat (first | apply Kd.N_alloc | apply Kd.N_drewN | apply Kd.N_drew)); exact HO402.out) hb); have n3_ := Aside0.mk (below_step (by repeat (first | (with_reducible first | exact HB.out | apply below_alloc | apply pw_below_drewN | apply below_drew1) | exact HB.out)) hb); clear HO_8; clear HO399; clear HO402; clear HB; have HO_8 := n0_; have HO399 := n1_; have HO402 := n2_; have HB := n3_; clear n0_ n1_ n2_ n3_; (try clear hb); (try clear hb2); (try clear hk); (try clear hi)) | ((with_reducible refine gate_dst (N := 124) rfl ?_); refine Kd.R_make (Kd.int .i64) _ 2 rfl (N := 124) rfl 41 _ _ rfl 16777217 rfl rfl Tryd.underlying41 (.int .i64 0) 8 info2 rfl (by decide) (by omega) 0 (ok := fun _ => True) (okp := fun _ => True) rfl (fun _ hk => hk) trivial (by omega) (by omega) (Below.refl _ _) (Nat.le_refl _) ?_; intro v406 w107 ho108 hb hg_ hnew_; clear hg_ hnew_; (first | rw [← Ny405.out] at ho108 | (simp only [Int.reduceToNat] at ho108; rw [← Ny405.out] at ho108)); have n0_ := Aside0.mk (Kd.R_below (by (with_reducible repeat (first | apply Kd.R_alloc | apply Kd.R_drewN | apply Kd.R_drew)); exact HO_8.out) hb); have n1_ := Aside0.mk (Kd.N_elder' (by (with_reducible repeat (first | apply Kd.N_alloc | apply Kd.N_drewN | apply Kd.N_drew)); exact HO399.out) (Kd.R_base ho108) hb); have n2_ := Aside0.mk (Kd.N_elder' (by (with_reducible repeat (first | apply Kd.N_alloc | apply Kd.N_drewN | apply Kd.N_drew)); exact HO402.out) (Kd.R_base ho108) hb); have n3_ := Aside0.mk (Kd.R_lower ho108 (below_size (by repeat (first | (with_reducible first | exact HB.out | apply below_alloc | apply pw_below_drewN | apply below_drew1) | exact HB.out)))); have n4_ := Aside0.mk (below_step (by repeat (first | (with_reducible first | exact HB.out | apply below_alloc | apply pw_below_drewN | apply below_drew1) | exact HB.out)) hb); clear HO_8; clear HO399; clear HO402; clear HB; have HO_8 := n0_; have HO399 := n1_; have HO402 := n2_; have HO407 := n3_; have HB := n4_; clear n0_ n1_ n2_ n3_ n4_; clear hb ho108; obtain ⟨Ao109, co109, eo109⟩ := Kd.R_slice HO407.out; subst eo109) | ((with_reducible refine gate_dst (N := 126) rfl ?_); refine Kd.N_lit k43 _ 43 ?hg (N' := 126) ?hd (xs := ([(⟨0, 0, ([] : List Int), y405⟩ : S43)] : List (S43))) (inner := [.int .u8 0, .int .i64 0, .slice none 0 0, .slice Ao109 y405.length co109]) (ok := (fun k_ => some k_ ≠ (.slice Ao101 y386.length co101 : Value).ownBlock ∧ some k_ ≠ (v398 : Value).ownBlock ∧ some k_ ≠ (.slice Ao105 y400.length co105 : Value).ownBlock)) (okp := (fun k_ => some k_ ≠ (.slice Ao101 y386.length co101 : Value).ownBlock ∧ some k_ ≠ (v398 : Value).ownBlock ∧ some k_ ≠ (.slice Ao105 y400.length co105 : Value).ownBlock)) ?hr ?hp (fun _ hk => hk) ((show ∀ k_, w107.heap.size ≤ k_ → (fun k_ => some k_ ≠ (.slice Ao101 y386.length co101 : Value).ownBlock ∧ some k_ ≠ (v398 : Value).ownBlock ∧ some k_ ≠ (.slice Ao105 y400.length co105 : Value).ownBlock) k_ from fun k_ hk => ⟨Kd.fresh' (Kd.R_lt (by (with_reducible repeat (first | apply Kd.R_alloc | apply Kd.R_drewN | apply Kd.R_drew)); exact HO_8.out)) k_ hk, Kd.fresh' (Kd.N_lt (by (with_reducible repeat (first | apply Kd.N_alloc | apply Kd.N_drewN | apply Kd.N_drew)); exact HO399.out)) k_ hk, Kd.fresh' (Kd.N_lt (by (with_reducible repeat (first | apply Kd.N_alloc | apply Kd.N_drewN | apply Kd.N_drew)); exact HO402.out)) k_ hk⟩) _ (Nat.le_refl _)) (Below.refl _ _) (Nat.le_refl _) (by simp) ?_; (case hd => rfl); (case hg => rfl); (case hr => first | (go_simp; done) | (go_simp; rfl)); (case hp => exact (Reps.c4 (show Kd.FK k43 _ _ (⟨0, 0, ([] : List Int), y405⟩ : S43) [.int .u8 0, .int .i64 0, .slice none 0 0, .slice Ao109 y405.length co109] from (k43_mkF _ _ (⟨0, 0, ([] : List Int), y405⟩ : S43) (Nat.le_refl _) (Kd.F_nil _ _ _) (Kd.R_reads' (Kd.R_mono (ok' := (fun k_ => some k_ ≠ (.slice Ao101 y386.length co101 : Value).ownBlock ∧ some k_ ≠ (v398 : Value).ownBlock ∧ some k_ ≠ (.slice Ao105 y400.length co105 : Value).ownBlock)) (Kd.R_apart' (Kd.R_apart' (Kd.R_apart' (HO407.out) (Kd.R_typed HO_8.out) (by decide)) (Kd.N_typed HO399.out) (by decide)) (Kd.N_typed HO402.out) (by decide)) (fun k_ hk => ⟨hk.1.1.2, ⟨hk.1.2, hk.2⟩⟩))).2.1 (Kd.R_F (Kd.R_mono (ok' := (fun k_ => some k_ ≠ (.slice Ao101 y386.length co101 : Value).ownBlock ∧ some k_ ≠ (v398 : Value).ownBlock ∧ some k_ ≠ (.slice Ao105 y400.length co105 : Value).ownBlock)) (Kd.R_apart' (Kd.R_apart' (Kd.R_apart' (HO407.out) (Kd.R_typed HO_8.out) (by decide)) (Kd.N_typed HO399.out) (by decide)) (Kd.N_typed HO402.out) (by decide)) (fun k_ hk => ⟨hk.1.1.2, ⟨hk.1.2, hk.2⟩⟩))))) (Reps.none _ _))); intro v409 w110 ho111 hb hg_ hnew_; clear hg_ hnew_; (first | rw [← Ny408.out] at ho111 | (simp only [Int.reduceToNat] at ho111; rw [← Ny408.out] at ho111)); have n0_ := Aside0.mk (Kd.R_below (by (with_reducible repeat (first | apply Kd.R_alloc | apply Kd.R_drewN | apply Kd.R_drew)); exact HO_8.out) hb); have n1_ := Aside0.mk (Kd.N_elder' (by (with_reducible repeat (first | apply Kd.N_alloc | apply Kd.N_drewN | apply Kd.N_drew)); exact HO399.out) (by first | exact Kd.N_base ho111 | exact Kd.S_base ho111) hb); have n2_ := Aside0.mk (Kd.N_elder' (by (with_reducible repeat (first | apply Kd.N_alloc | apply Kd.N_drewN | apply Kd.N_drew)); exact HO402.out) (by first | exact Kd.N_base ho111 | exact Kd.S_base ho111) hb); have n3_ := Aside0.mk (Kd.N_lower ho111 (below_size (by repeat (first | (with_reducible first | exact HB.out | apply below_alloc | apply pw_below_drewN | apply below_drew1) | exact HB.out)))); have n4_ := Aside0.mk (below_step (by repeat (first | (with_reducible first | exact HB.out | apply below_alloc | apply pw_below_drewN | apply below_drew1) | exact HB.out)) hb); clear HO_8; clear HO399; clear HO402; clear HB; clear HO407; have HO_8 := n0_; have HO399 := n1_; have HO402 := n2_; have HO410 := n3_; have HB := n4_; clear n0_ n1_ n2_ n3_ n4_; clear hb ho111; obtain ⟨Ao112, co112, eo112⟩ := Kd.N_slice HO410.out; subst eo112) | ((with_reducible refine gate_callee (f := 12) rfl ?_); refine goesL_ (some 127) rfl rfl Tryd.func12 (by kernel_rfl) rfl #[.slice Ao112 y408.length co112] rfl (by (try simp only [List.map_toArray, List.map_cons, List.map_nil]); first | done | rfl | (simp only [List.length_drop, List.length_take]; rfl)) ?_; (with_reducible refine (lrat_Write.calls k3 _ _ y408 t411 t412 _ ?side1 ?side2 A94.out ?sideT).mono ?_); (case sideT => exact LT.pay HLT.out (by repeat (first | (with_reducible first | exact HB.out | apply below_alloc | apply pw_below_drewN | apply below_drew1) | exact HB.out))); (case side1 => repeat (first | exact (Kd.N_reads' HO410.out).2.2 | (with_reducible refine Kd.C_alloc ?_ _) | (with_reducible refine Kd.C_drewN ?_ _) | (with_reducible refine Kd.C_drew ?_))); (case side2 => exact (Kd.N_reads' HO410.out).2.1); rintro e w113 ⟨rfl, hb⟩; refine ⟨_, rfl, ?_⟩; have n0_ := Aside0.mk (Kd.R_below (by (with_reducible repeat (first | apply Kd.R_alloc | apply Kd.R_drewN | apply Kd.R_drew)); exact HO_8.out) hb); have n1_ := Aside0.mk (Kd.N_below (by (with_reducible repeat (first | apply Kd.N_alloc | apply Kd.N_drewN | apply Kd.N_drew)); exact HO399.out) hb); have n2_ := Aside0.mk (Kd.N_below (by (with_reducible repeat (first | apply Kd.N_alloc | apply Kd.N_drewN | apply Kd.N_drew)); exact HO402.out) hb); have n3_ := Aside0.mk (Kd.N_below (by (with_reducible repeat (first | apply Kd.N_alloc | apply Kd.N_drewN | apply Kd.N_drew)); exact HO410.out) hb); have n4_ := Aside0.mk (below_step (by repeat (first | (with_reducible first | exact HB.out | apply below_alloc | apply pw_below_drewN | apply below_drew1) | exact HB.out)) hb); clear HO_8; clear HO399; clear HO402; clear HO410; clear HB; have HO_8 := n0_; have HO399 := n1_; have HO402 := n2_; have HO410 := n3_; have HB := n4_; clear n0_ n1_ n2_ n3_ n4_; (try clear hb); (try clear hb2); (try clear hk); (try clear hi); obtain ⟨Ao114, co114, eo114⟩ := Kd.N_slice HO399.out; subst eo114) | (go_at_call 10; (with_reducible refine (threshinglaw04_works.calls k3  t413 _ A100.out ?sideT).mono ?_); (case sideT => exact LT.pay HLT.out (by repeat (first | (with_reducible first | exact HB.out | apply below_alloc | apply pw_below_drewN | apply below_drew1) | exact HB.out))); rintro e w115 ⟨rfl, hb⟩; have n0_ := Aside0.mk (Kd.R_below (by (with_reducible repeat (first | apply Kd.R_alloc | apply Kd.R_drewN | apply Kd.R_drew)); exact HO_8.out) hb); have n1_ := Aside0.mk (Kd.N_below (by (with_reducible repeat (first | apply Kd.N_alloc | apply Kd.N_drewN | apply Kd.N_drew)); exact HO399.out) hb); have n2_ := Aside0.mk (Kd.N_below (by (with_reducible repeat (first | apply Kd.N_alloc | apply Kd.N_drewN | apply Kd.N_drew)); exact HO402.out) hb); have n3_ := Aside0.mk (Kd.N_below (by (with_reducible repeat (first | apply Kd.N_alloc | apply Kd.N_drewN | apply Kd.N_drew)); exact HO410.out) hb); have n4_ := Aside0.mk (below_step (by repeat (first | (with_reducible first | exact HB.out | apply below_alloc | apply pw_below_drewN | apply below_drew1) | exact HB.out)) hb); clear HO_8; clear HO399; clear HO402; clear HO410; clear HB; have HO_8 := n0_; have HO399 := n1_; have HO402 := n2_; have HO410 := n3_; have HB := n4_; clear n0_ n1_ n2_ n3_ n4_; (try clear hb); (try clear hb2); (try clear hk); (try clear hi)))
                                  go_ret
                                  exact ⟨by first | rfl | (simp [errW_none, errW_some] <;> rfl) | (simp [*, errW_none, errW_some] <;> rfl), by repeat (first | (with_reducible first | exact HB.out | apply below_alloc | apply pw_below_drewN | apply below_drew1) | exact HB.out)⟩
                                · rw [if_neg c99] at H
                                  have c99b0 : (t412 == 3) = false := beq_eq_false_iff_ne.mpr c99
                                  have c99b1 : (t412 != 3) = true := bne_iff_ne.mpr c99
                                  exact absurd ((Option.some.inj H).trans hr) (by decide)
                              · rw [if_neg c98] at H
                                have c98b0 : (t404 == 3) = false := beq_eq_false_iff_ne.mpr c98
                                have c98b1 : (t404 != 3) = true := bne_iff_ne.mpr c98
                                exact absurd ((Option.some.inj H).trans hr) (by decide)
                            · rw [if_neg c97] at H
                              have c97b0 : (t397 == 0) = false := beq_eq_false_iff_ne.mpr c97
                              have c97b1 : (t397 != 0) = true := bne_iff_ne.mpr c97
                              exact absurd ((Option.some.inj H).trans hr) (by decide)
                          · rw [if_neg c96] at H
                            have c96b0 : (t396 == 0) = false := beq_eq_false_iff_ne.mpr c96
                            have c96b1 : (t396 != 0) = true := bne_iff_ne.mpr c96
                            exact absurd ((Option.some.inj H).trans hr) (by decide)
                        · rw [if_neg c95] at H
                          have c95b0 : ((t395.length : Int) == 0) = false := beq_eq_false_iff_ne.mpr c95
                          have c95b1 : ((t395.length : Int) != 0) = true := bne_iff_ne.mpr c95
                          have c95b2 : ¬ (t395 = []) := fun h_ => c95 (by rw [h_]; rfl)
                          exact absurd ((Option.some.inj H).trans hr) (by decide)
                      · rw [if_neg c93] at H
                        exact absurd H (by simp)
                    · rw [if_neg c91] at H
                      exact absurd H (by simp)

/-- THE ONE PURE STATEMENT of threshinglaw04_LratKnown: yours. -/
def threshinglaw04_LratKnown.Pure : Prop := ∃ k, threshinglaw04_LratKnown.f k  = some true
theorem threshinglaw04_LratKnown.walk (P : threshinglaw04_LratKnown.Pure)  (w : World)  (hlt : LT w.heap.size w) :
    Calls Tryd.prog 8 #[] w fun e w' => e = .returned (.bool true) ∧ Below w.heap.size w w' := by
  obtain ⟨k, h⟩ := P  
  refine (threshinglaw04_LratKnown.calls k  true w rfl h hlt).mono ?_
  rintro e w' ⟨rfl, hd⟩
  exact ⟨rfl, hd⟩

end Go.Proofs.YtfjnkbkcoakooaaDoor.PB
