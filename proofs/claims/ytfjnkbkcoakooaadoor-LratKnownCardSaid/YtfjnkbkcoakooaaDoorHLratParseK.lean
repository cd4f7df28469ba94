import Derived.Test.YtfjnkbkcoakooaaDoorHNumb
import Derived.Test.YtfjnkbkcoakooaaDoorHParse
import Derived.Test.YtfjnkbkcoakooaaDoorHLimit
section
namespace Go.Proofs.YtfjnkbkcoakooaaDoor.PB
open Go.RowKit Go.Proofs.YtfjnkbkcoakooaaDoorW.PrintWords Go.Proofs.YtfjnkbkcoakooaaDoorW.PrintLast Go.Proofs.YtfjnkbkcoakooaaDoorW.PrintMore
set_option linter.unusedVariables false
set_option linter.unusedSimpArgs false
theorem LT.pay {w w' : World} (h : LT w.heap.size w) (hb : Below w.heap.size w w') : LT w'.heap.size w' := (h.on hb).up hb.size
theorem strOf_bytes (s : ByteArray) : strOfNums (bytesOf s) = s := by
  unfold strOfNums bytesOf
  rw [List.map_map]
  have : (s.data.toList.map ((fun n : Int => UInt8.ofNat n.toNat) ∘ fun b => (b.toNat : Int))) = s.data.toList := by
    conv => rhs; rw [← List.map_id s.data.toList]
    refine List.map_congr_left fun b _ => ?_
    simp
  rw [this]
/-- The answer of few steps, or of steps past a limit (each with not too many literals and hints). -/
def Lover (l0 : List S43) : Bool := (l0.all fun s => decide (s.f2.length ≤ 70368744177664) && decide (s.f3.length ≤ 70368744177664)) && (decide (4194304 < l0.length) || decide (16777216 < Btot l0))
def lrat_Write.f (k : Nat) (l0 : List S43) : Option (ByteArray × Int) := if l0.length + Btot l0 ≤ 6000 then some (strOfNums (Lwrite l0).1, (Lwrite l0).2) else if Lover l0 = true then some (⟨#[]⟩, 3) else none
theorem lrat_Write.mono : ∀ a0 k, LeO (lrat_Write.f k a0) (lrat_Write.f (k + 1) a0) := fun _ _ => LeO.refl _
theorem lrat_Write.calls (k : Nat) (A0 : Option Addr) (c0 : Nat) (l0 : List S43) (r1 : ByteArray) (r2 : Int) (w : World) (hr0 : Kd.C k43 w A0 l0.length l0) (hc0 : l0.length ≤ c0) (h : lrat_Write.f k l0 = some (r1, r2)) (hlt : LT w.heap.size w) :
    Calls Tryd.prog 12 #[.slice A0 l0.length c0] w fun e w' => e = .returned (.tuple #[.string r1, .int .i64 r2]) ∧ Below w.heap.size w w' := by
  unfold lrat_Write.f at h
  split at h
  · rename_i hl
    cases h
    refine (lwrite_calls A0 c0 l0 w hr0 hc0 hl hlt.pow).mono ?_
    rintro e w' ⟨s, rfl, hs, hb⟩
    refine ⟨?_, hb⟩
    rw [← hs, strOf_bytes]
  · split at h
    · rename_i ho
      cases h
      unfold Lover at ho
      rw [Bool.and_eq_true, List.all_eq_true] at ho
      obtain ⟨h1, h2⟩ := ho
      refine lwrite_limit A0 c0 l0 w hr0 hc0 (fun s hs => ?_) ?_
      · have := h1 s hs
        simpa using this
      · simpa using h2
    · cases h
end Go.Proofs.YtfjnkbkcoakooaaDoor.PB
end

section
namespace Go.Proofs.YtfjnkbkcoakooaaDoor.PB
open Go.RowKit Go.Proofs.YtfjnkbkcoakooaaDoorW.PrintWords Go.Proofs.YtfjnkbkcoakooaaDoorW.PrintLast Go.Proofs.YtfjnkbkcoakooaaDoorW.PrintMore
set_option linter.unusedVariables false
set_option linter.unusedSimpArgs false
def lrat_Parse.f (k : Nat) (a0 : ByteArray) : Option (List S43 × Int × Int) := if a0.size ≤ 400000 then some (Lparse a0) else none
theorem lrat_Parse.mono : ∀ a0 k, LeO (lrat_Parse.f k a0) (lrat_Parse.f (k + 1) a0) := fun _ _ => LeO.refl _
theorem lrat_Parse.calls (k : Nat) (a0 : ByteArray) (r1 : List S43) (r2 : Int) (r3 : Int) (w : World) (h : lrat_Parse.f k a0 = some (r1, r2, r3)) (hlt : LT w.heap.size w) :
    Calls Tryd.prog 15 #[.string a0] w fun e w' => ∃ v0_ : Value, e = .returned (.tuple #[v0_, .int .i64 r2, .int .i64 r3]) ∧ Kd.S k43 43 w' w.heap.size (fun _ => True) v0_ r1 ∧ Below w.heap.size w w' := by
  unfold lrat_Parse.f at h
  split at h
  · rename_i hl
    have hp := Option.some.inj h
    have := parse_calls a0 w hl hlt
    rw [hp] at this
    exact this
  · cases h
end Go.Proofs.YtfjnkbkcoakooaaDoor.PB
end
