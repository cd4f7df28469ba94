import Derived.Test.YtmknpchmpgkdbaaDoorHLib
import Derived.Test.YtmknpchmpgkdbaaDoorShelf
import Derived.Lib.AppendIntMem
import Derived.Lib.ItoaLen
import Derived.Lib.LaidTab
namespace Go.Proofs.YtmknpchmpgkdbaaDoor.PB
open Go.RowKit Go.Proofs.YtmknpchmpgkdbaaDoorW.PrintWords Go.Proofs.YtmknpchmpgkdbaaDoorW.PrintLast Go.Proofs.YtmknpchmpgkdbaaDoorW.PrintMore
set_option linter.unusedVariables false
set_option linter.unusedSimpArgs false
/-! ### The options, as plain data -/
structure OE where
  name : List UInt8
  d : Int
  lo : Int
  hi : Int
deriving DecidableEq
def oTab : List OE := [⟨[115, 101, 101, 100], 1, 0, 4611686018427387904⟩, ⟨[112, 104, 97, 115, 101], 1, 0, 1⟩, ⟨[100, 101, 99, 105, 100, 101], 2, 0, 2⟩, ⟨[114, 101, 115, 116, 97, 114, 116], 2, 1, 1000000⟩, ⟨[109, 97, 114, 103, 105, 110], 110, 100, 10000⟩, ⟨[102, 97, 115, 116], 5, 0, 30⟩, ⟨[115, 108, 111, 119], 14, 0, 30⟩, ⟨[114, 101, 100, 117, 99, 101], 300, 10, 1000000⟩, ⟨[103, 108, 117, 101], 2, 0, 100⟩, ⟨[114, 101, 112, 104, 97, 115, 101], 1000, 1, 1000000⟩, ⟨[99, 111, 110, 102, 108, 105, 99, 116, 115], 0, 0, 1099511627776⟩, ⟨[116, 105, 99, 107, 115], 0, 0, 1099511627776⟩, ⟨[101, 118, 101, 114, 121], 2000, 1, 1000000000⟩, ⟨[101, 102, 102, 111, 114, 116], 10000, 0, 1000000000⟩, ⟨[111, 99, 99, 117, 114, 115], 20, 0, 1000⟩, ⟨[114, 111, 117, 110, 100, 115], 3, 0, 100⟩, ⟨[109, 105, 110, 105, 109, 105, 115, 101], 1, 0, 1⟩, ⟨[115, 104, 114, 105, 110, 107], 1, 0, 1⟩, ⟨[112, 114, 111, 98, 101], 1, 0, 1⟩, ⟨[101, 113, 117, 97, 108], 1, 0, 1⟩, ⟨[116, 114, 97, 110, 115, 114, 101, 100], 1, 0, 1⟩, ⟨[115, 117, 98, 115, 117, 109, 101], 1, 0, 1⟩, ⟨[118, 105, 118, 105, 102, 121], 1, 0, 1⟩, ⟨[101, 108, 105, 109], 1, 0, 1⟩, ⟨[103, 97, 116, 101, 115], 1, 0, 1⟩, ⟨[98, 108, 111, 99, 107, 101, 100], 1, 0, 1⟩, ⟨[99, 111, 110, 100, 105, 116, 105, 111, 110], 1, 0, 1⟩, ⟨[112, 114, 111, 111, 102], 1, 0, 1⟩]
def oVals (e : OE) : List Value := [.string ⟨e.name.toArray⟩, .int .i64 e.d, .int .i64 e.lo, .int .i64 e.hi]
def tabCells : Array Value := (oTab.flatMap oVals).toArray
def oz : OE := ⟨[], 0, 0, 0⟩
def oAt (k : Nat) : OE := oTab.getD k oz
theorem oTab_len : oTab.length = 28 := rfl
theorem tabCells_size : tabCells.size = 112 := by kernel_rfl
/-- An option's place; -1: there is none. -/
def oFindN (s : List UInt8) : Option Nat := oTab.findIdx? fun e => e.name == s
def oFind (s : List UInt8) : Int := match oFindN s with | some i => (i : Int) | none => -1
def oClamp (e : OE) (n : Int) : Int := min (max n e.lo) e.hi
/-- What is set. -/
def oSet (xs : List Int) (s : List UInt8) (n : Int) : List Int × Int × Int := match oFindN s with | none => (xs, 0, 5) | some i => (xs.set i (oClamp (oAt i) n), oClamp (oAt i) n, 0)
def oGet (xs : List Int) (s : List UInt8) : Int × Bool := match oFindN s with | none => (0, false) | some i => (xs.getD i 0, true)
def oNew : List Int := oTab.map (·.d)
/-- A word's number. -/
def oNum (s : List UInt8) : Option Int := match Lib.parseIntB 64 s with | .ok v => if Lib.itoa v = s then some v else none | _ => none
/-- What a word sets; none: it is no word. -/
def oWord (s : List UInt8) : Option (List UInt8 × Int) :=
  if Lib.hasPrefix s [45, 45] = false then none else
  let c := Lib.cut (s.drop 2) [61]
  let no := Lib.hasPrefix c.1 [110, 111, 45]
  if c.2.2 then (if no then none else (oNum c.2.1).map fun k => (c.1, k))
  else if no then some (c.1.drop 3, 0) else some (c.1, 1)
def oParse (xs : List Int) (s : List UInt8) : List Int × Int := match oWord s with | none => (xs, 2) | some (nm, n) => ((oSet xs nm n).1, (oSet xs nm n).2.2)
def oText (e : OE) (x : Int) : List (List UInt8) :=
  if x = e.d then [] else if e.lo = 0 ∧ e.hi = 1 ∧ x = 0 then [[45, 45, 110, 111, 45] ++ e.name] else [[45, 45] ++ e.name ++ [61] ++ Lib.itoa x]
/-- The words of those that have not their default, from place i on. -/
def oWordsTo (xs : List Int) (i : Nat) : List (List UInt8) := (List.range i).flatMap fun k => oText (oAt k) (xs.getD k 0)
def oWords (xs : List Int) : List (List UInt8) := oWordsTo xs 28
theorem oWordsTo_succ (xs : List Int) (i : Nat) : oWordsTo xs (i + 1) = oWordsTo xs i ++ oText (oAt i) (xs.getD i 0) := by
  unfold oWordsTo
  rw [List.range_succ, List.flatMap_append]
  simp
/-! ### What the table's cells are -/
theorem tab_at (k : Nat) (h : k < 28) : tabCells.extract (k * 4) (k * 4 + 4) = (oVals (oAt k)).toArray := by
  have : k = 0 ∨ k = 1 ∨ k = 2 ∨ k = 3 ∨ k = 4 ∨ k = 5 ∨ k = 6 ∨ k = 7 ∨ k = 8 ∨ k = 9 ∨ k = 10 ∨ k = 11 ∨ k = 12 ∨ k = 13 ∨ k = 14 ∨ k = 15 ∨ k = 16 ∨ k = 17 ∨ k = 18 ∨ k = 19 ∨ k = 20 ∨ k = 21 ∨ k = 22 ∨ k = 23 ∨ k = 24 ∨ k = 25 ∨ k = 26 ∨ k = 27 := by omega
  rcases this with rfl | rfl | rfl | rfl | rfl | rfl | rfl | rfl | rfl | rfl | rfl | rfl | rfl | rfl | rfl | rfl | rfl | rfl | rfl | rfl | rfl | rfl | rfl | rfl | rfl | rfl | rfl | rfl <;> (clear h; rfl)
theorem sz42 : (Tryd.prog.info? 42).map (·.size) = some 4 := by kernel_rfl
theorem run_tab (k : Nat) (h : k < 28) (w : World) : (Instr.index 55 (.agg tabCells) (.int .i64 (k : Int))).run Tryd.prog w = .ok (.agg #[.string ⟨(oAt k).name.toArray⟩, .int .i64 (oAt k).d, .int .i64 (oAt k).lo, .int .i64 (oAt k).hi]) w := by
  have h1 : (isAgg 42).run Tryd.prog w = .ok true w := by
    unfold isAgg
    rw [Sem.run_bind, run_underlying Tryd.underlying42 w]
    rfl
  obtain ⟨j, hj, hjs⟩ := Option.map_eq_some_iff.1 sz42
  have h2 : (sizeOf 42).run Tryd.prog w = .ok 4 w := by simp [sizeOf, typeInfo, hj, hjs]
  have hlt : 0 ≤ (k : Int) ∧ (k : Int) < ((28 : Nat) : Int) := by omega
  simp only [Instr.index, asIntOf, Sem.run_bind, Sem.run_pure, Result.andThen_ok, run_underlying Tryd.underlying55 w]
  rw [if_pos hlt]
  simp only [Sem.run_bind, h2, Result.andThen_ok, part, h1, if_true, Sem.run_pure, Int.toNat_natCast]
  rw [tab_at k h]
  rfl
end Go.Proofs.YtmknpchmpgkdbaaDoor.PB
