/-
  DERIVED. GIVEN WITH THE SEED: THE CARDS: each row of YtigloobbpcnnhaaGreatDoorRows.lean that lists a variable, with what it lists TIED to the program's text (the seventh form; the later family's looks); each row that meets fmt, with fmt's text TOLD by the authors' own Lean function (tested against real Go, not proved from fmt's source: count such statements apart). THE CARD IS WHAT COUNTS. Prove the row's statement (the work); the ties are given (YtigloobbpcnnhaaGreatDoorTie.lean); close each card by the builder's one call (the guide's Derived/Test/ToyasCard.lean, 'card_holds'). Laid BY PROGRAM, IN A SANDBOX (cutbox-door.mjs). By AI agents, Wed Nov 11 2026. No macro, syntax, notation, axiom, sorry.
-/
import Derived.Test.YtigloobbpcnnhaaGreatDoorRows
import GoSem.ClaimSeven
namespace Go.Proofs.YtigloobbpcnnhaaGreatDoor
namespace Rows

/-- THE TIED CARD OF 'threshinglaw02.DimacsModels'. -/
def dimacsModelsCard : Claim7 := { stood := { row := dimacsModelsRow, standIns := [], harness := (true, "bca9e54c4e81004e4bc359a9114058f2f3d47066383f1e4d4dc78b429efbdffe"), looks := true }, kinds := [], alts := [], laidByText := true, laidKinds := [.data, .data, .data, .data, .sentinel, .sentinel, .pinned], laidTests := true, laidLooks := .later }
def DimacsModelsCardSaid : Prop := Claim7.holds Tryz.pinned (.plain (OpenSpec.ofChange dimacsModelsSpec)) dimacsModelsCard

/-- THE TIED CARD OF 'threshinglaw02.DimacsKnown'. -/
def dimacsKnownCard : Claim7 := { stood := { row := dimacsKnownRow, standIns := [], harness := (true, "bca9e54c4e81004e4bc359a9114058f2f3d47066383f1e4d4dc78b429efbdffe"), looks := true }, kinds := [], alts := [], laidByText := true, laidKinds := [.data, .data, .data, .data, .sentinel, .sentinel, .pinned], laidTests := true, laidLooks := .later }
def DimacsKnownCardSaid : Prop := Claim7.holds Tryz.pinned (.plain (OpenSpec.ofChange dimacsKnownSpec)) dimacsKnownCard

/-- THE SECOND FORM's CARD OF 'threshinglaw02.DimacsModels'. -/
def dimacsModelsUptoCard : Claim7 := { stood := { row := dimacsModelsUptoRow, standIns := [], harness := (true, "bca9e54c4e81004e4bc359a9114058f2f3d47066383f1e4d4dc78b429efbdffe"), looks := true }, kinds := [], alts := [], laidByText := true, laidKinds := [.data, .data, .data, .data, .sentinel, .sentinel, .pinned], laidTests := true, laidLooks := .later }
def DimacsModelsUptoCardSaid : Prop := Claim7.holds Tryz.pinned (.plain (OpenSpec.upto dimacsModelsSpec)) dimacsModelsUptoCard

/-- THE SECOND FORM's CARD OF 'threshinglaw02.DimacsKnown'. -/
def dimacsKnownUptoCard : Claim7 := { stood := { row := dimacsKnownUptoRow, standIns := [], harness := (true, "bca9e54c4e81004e4bc359a9114058f2f3d47066383f1e4d4dc78b429efbdffe"), looks := true }, kinds := [], alts := [], laidByText := true, laidKinds := [.data, .data, .data, .data, .sentinel, .sentinel, .pinned], laidTests := true, laidLooks := .later }
def DimacsKnownUptoCardSaid : Prop := Claim7.holds Tryz.pinned (.plain (OpenSpec.upto dimacsKnownSpec)) dimacsKnownUptoCard
end Rows
end Go.Proofs.YtigloobbpcnnhaaGreatDoor
