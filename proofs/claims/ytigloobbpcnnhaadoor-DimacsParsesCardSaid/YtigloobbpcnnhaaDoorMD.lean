import Derived.Test.YtigloobbpcnnhaaDoorCards
import Derived.Test.YtigloobbpcnnhaaDoorTie
import Derived.Deep.DeepHandedRow
import Derived.Deep.DeepWitnessRowRef
import Derived.Lib.LaidTab
import Derived.LaidMore
import Derived.Stop.LaidErr
import Derived.Test.YtigloobbpcnnhaaDoorM1
section
namespace Go.Proofs.YtigloobbpcnnhaaDoor.PB
open Go.RowKit Go.Shelf Go.Proofs.YtigloobbpcnnhaaDoorW.PrintWords
set_option linter.unusedVariables false
set_option linter.unusedSimpArgs false
theorem gTab : Tryd.prog.globalNamed "internal/strconv.uint64pow10" = some 1 := by kernel_rfl
theorem gTabType : (Tryd.prog.globals[1]?).map (·.type) = some 133 := by kernel_rfl
theorem gRng : Tryd.prog.globalNamed "strconv.ErrRange" = some 3 := by kernel_rfl
theorem gRngType : (Tryd.prog.globals[3]?).map (·.type) = some 76 := by kernel_rfl
theorem pow10_tab : Lib.pow10Tab = [1, 10, 100, 1000, 10000, 100000, 1000000, 10000000, 100000000, 1000000000, 10000000000, 100000000000, 1000000000000, 10000000000000, 100000000000000, 1000000000000000, 10000000000000000, 100000000000000000, 1000000000000000000, 10000000000000000000] := by decide
theorem errStar : "*" ++ "errors.errorString" = "*errors.errorString" := by decide
theorem err_named (u : TypeId) (h : Tryd.prog.typeName? 3 u = some "*errors.errorString") : u = 152 :=
  typeName_ptr_named (nm := "errors.errorString") (by rw [errStar]; kernel_rfl) (by kernel_rfl) (by decide) u (by rw [errStar]; exact h)
/-- What the listed variables hold when the call begins. -/
theorem lt_of {W : World} (h0 : laidMetH Tryd.prog Rows.dimacsParsesRow.laid W) (hsh : W.ShapedOpen Tryd.prog) : LT W.heap.size W := by
  have h : laidMet Tryd.prog Rows.dimacsParsesRow.laid W := h0
  have ht : Lib.TabIs Tryd.prog W "internal/strconv.uint64pow10" .u64 Lib.pow10Tab := by
    rw [pow10_tab]
    exact Lib.tabIs_of_head gTab gTabType Tryd.underlying133 Tryd.underlying98 (by kernel_rfl) (by kernel_rfl) (laidMet.tail (laidMet.tail h))
  have hm : ∃ m : Int, W.cell? ⟨0, 0, none⟩ = some (.int .i64 m) := Go.Proofs.cell_of_shapedOpen_int (zero := #[.int .i64 0]) (t := 3) hsh (of_decide_eq_true (by kernel_rfl)) (by kernel_rfl) rfl (by kernel_rfl) (by kernel_rfl) Tryd.underlying3
  obtain ⟨m, hm⟩ := hm
  obtain ⟨a4, s4, h4, _⟩ := laid_sentinel (tp := 152) (te := 154) (laidMet.tail (laidMet.tail (laidMet.tail (laidMet.tail h)))) gRng gRngType Tryd.underlying76 err_named Tryd.underlying152 Tryd.underlying154 rfl rfl Tryd.underlying9 (by kernel_rfl) (by kernel_rfl)
  have c5 : W.cell? ⟨3, 0, none⟩ = some (.iface 152 (.pointer (some a4))) := by simpa using World.var?_cell gRng h4 0
  intro w' hb
  exact ⟨Lib.tabBelow_of_tabIs ht w' hb, ⟨m, (hb.cell (World.block_lt_of_cell? W _ hm)).trans hm⟩, ⟨_, _, (hb.cell (World.block_lt_of_cell? W _ c5)).trans c5⟩⟩
/-- A WORLD FOR THE WITNESS: what the door's own run leaves, the table that is pinned by name laid too. -/
noncomputable def laidWorld (os : Os) : World :=
  { World.doorLaid Tryd.prog 600 os with heap := (World.doorLaid Tryd.prog 600 os).heap.modify 4 fun
      | .cells _ t frozen => .cells (Pinned.utf8FirstZ.map fun z : Nat => Value.int .u8 (z : Int)).toArray t frozen
      | o => o }
theorem laid_met (os : Os) (args : Array Value) : laidMetH Tryd.prog Rows.dimacsParsesRow.laid ((laidWorld os).forCall (fun _ _ => 0) ⟨#[], args, []⟩).memory := by
  exact laidMet_of_run' 12 (by kernel_rfl) (by kernel_rfl)
end Go.Proofs.YtigloobbpcnnhaaDoor.PB
end
