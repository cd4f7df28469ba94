/-
  DERIVED. GIVEN WITH THE SEED: THE CARDS: each row of YtlimaebaagabaaaDoorRows.lean that lists a variable, with what it lists TIED to the program's text (the seventh form; the later family's looks); each row that meets fmt, with fmt's text TOLD by the authors' own Lean function (tested against real Go, not proved from fmt's source: count such statements apart). THE CARD IS WHAT COUNTS. Prove the row's statement (the work); the ties are given (YtlimaebaagabaaaDoorTie.lean); close each card by the builder's one call (the guide's Derived/Test/ToyasCard.lean, 'card_holds'). Laid BY PROGRAM, IN A SANDBOX (cutbox-door.mjs). By AI agents, Wed Nov 11 2026. No macro, syntax, notation, axiom, sorry.
-/
import Derived.Test.YtlimaebaagabaaaDoorRows
import GoSem.ClaimSeven
namespace Go.Proofs.YtlimaebaagabaaaDoor
namespace Rows

/-- THE TIED CARD OF 'threshinglaw05.BinaryBack'. -/
def binaryBackCard : Claim7 := { stood := { row := binaryBackRow, standIns := [], harness := (true, "ee385a24efc61da188e71e849ccd12665564d79fe8b0fa9d778b1eee06bec196"), looks := false }, kinds := [], alts := [], laidByText := true, laidKinds := [.data, .data, .data], laidTests := true, laidLooks := .later }
def BinaryBackCardSaid : Prop := Claim7.holds Tryd.pinned (.plain (OpenSpec.ofChange binaryBackSpec)) binaryBackCard

/-- THE SECOND FORM's CARD OF 'threshinglaw05.BinaryBack'. -/
def binaryBackUptoCard : Claim7 := { stood := { row := binaryBackUptoRow, standIns := [], harness := (true, "ee385a24efc61da188e71e849ccd12665564d79fe8b0fa9d778b1eee06bec196"), looks := false }, kinds := [], alts := [], laidByText := true, laidKinds := [.data, .data, .data], laidTests := true, laidLooks := .later }
def BinaryBackUptoCardSaid : Prop := Claim7.holds Tryd.pinned (.plain (OpenSpec.upto binaryBackSpec)) binaryBackUptoCard
end Rows
end Go.Proofs.YtlimaebaagabaaaDoor
