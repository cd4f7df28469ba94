import Derived.Test.YtfjnkbkcoakooaaDoorHLib
namespace Go.Proofs.YtfjnkbkcoakooaaDoor.PB
open Go.RowKit Go.Proofs.YtfjnkbkcoakooaaDoorW.PrintWords Go.Proofs.YtfjnkbkcoakooaaDoorW.PrintLast Go.Proofs.YtfjnkbkcoakooaaDoorW.PrintMore
set_option linter.unusedVariables false
set_option linter.unusedSimpArgs false
/-- How many literals and hints. -/
def Btot : List S43 → Nat
  | [] => 0
  | s :: l => s.f2.length + s.f3.length + Btot l
def Bmay (s : S43) : Bool :=
  (decide (s.f0 = 1) && decide (1 ≤ s.f1) || decide (s.f0 = 2) && decide (0 ≤ s.f1) && decide (s.f2.length = 0)) && decide (s.f1 ≤ 4611686018427387903) &&
  (s.f2.all fun x => !decide (x = 0) && decide (-1048576 ≤ x) && decide (x ≤ 1048576)) &&
  (s.f3.all fun h => !decide (h = 0) && decide (-4611686018427387903 ≤ h) && decide (h ≤ 4611686018427387903) && (decide (0 < h) || !decide (s.f0 = 2)))
theorem Btot_append (l m : List S43) : Btot (l ++ m) = Btot l + Btot m := by
  induction l with
  | nil => simp [Btot]
  | cons s l ih => simp only [List.cons_append, Btot, ih]; omega
theorem Btot_take_le (l : List S43) (i : Nat) : Btot (l.take i) ≤ Btot l := by
  have h := Btot_append (l.take i) (l.drop i)
  rw [List.take_append_drop] at h
  omega
theorem rd43_nat (l : List S43) (x : Int) (h0 : 0 ≤ x) (h : x < l.length) : l.take (x + 1).toNat = l.take x.toNat ++ [rd_T43 l x] := by
  obtain ⟨i, rfl⟩ := Int.eq_ofNat_of_zero_le h0
  have hi : i < l.length := by omega
  have e : ((i : Int) + 1).toNat = i + 1 := by omega
  rw [e, Int.toNat_natCast, List.take_succ_eq_append_getElem hi]
  simp [rd_T43, List.getElem?_eq_getElem hi]
theorem rd43_mem (l : List S43) (x : Int) (h0 : 0 ≤ x) (h : x < l.length) : rd_T43 l x ∈ l := by
  obtain ⟨i, rfl⟩ := Int.eq_ofNat_of_zero_le h0
  have hi : i < l.length := by omega
  simp [rd_T43, List.getElem?_eq_getElem hi]
theorem rdi_nat (l : List Int) (x : Int) (h0 : 0 ≤ x) (h : x < l.length) : l.take (x + 1).toNat = l.take x.toNat ++ [rd l x] := by
  obtain ⟨i, rfl⟩ := Int.eq_ofNat_of_zero_le h0
  have hi : i < l.length := by omega
  have e : ((i : Int) + 1).toNat = i + 1 := by omega
  rw [e, Int.toNat_natCast, List.take_succ_eq_append_getElem hi]
  simp [rd, List.getElem?_eq_getElem hi]
end Go.Proofs.YtfjnkbkcoakooaaDoor.PB
