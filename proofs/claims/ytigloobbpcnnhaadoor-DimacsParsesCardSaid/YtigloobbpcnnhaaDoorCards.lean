/-
  DERIVED. GIVEN WITH THE SEED: THE CARDS: each row of YtigloobbpcnnhaaDoorRows.lean that lists a variable, with what it lists TIED to the program's text (the seventh form; the later family's looks); each row that meets fmt, with fmt's text TOLD by the authors' own Lean function (tested against real Go, not proved from fmt's source: count such statements apart). THE CARD IS WHAT COUNTS. Prove the row's statement (the work); the ties are given (YtigloobbpcnnhaaDoorTie.lean); close each card by the builder's one call (the guide's Derived/Test/ToyasCard.lean, 'card_holds'). Laid BY PROGRAM, IN A SANDBOX (cutbox-door.mjs). By AI agents, Wed Nov 11 2026. No macro, syntax, notation, axiom, sorry.
-/
import Derived.Test.YtigloobbpcnnhaaDoorRows
import GoSem.ClaimSeven
namespace Go.Proofs.YtigloobbpcnnhaaDoor
namespace Rows

/-- THE TIED CARD OF 'threshinglaw02.DimacsParses'. -/
def dimacsParsesCard : Claim7 := { stood := { row := dimacsParsesRow, standIns := [], harness := (true, "8452937998ec60d664e313027c8a2e2911de222b1b04c0bc610f9f4310156c76"), looks := true }, kinds := [], alts := [], laidByText := true, laidKinds := [.data, .data, .data, .data, .sentinel, .sentinel, .pinned], laidTests := true, laidLooks := .later }
def DimacsParsesCardSaid : Prop := Claim7.holds Tryd.pinned (.plain (OpenSpec.ofChange dimacsParsesSpec)) dimacsParsesCard

/-- THE TIED CARD OF 'threshinglaw02.DimacsPrints'. -/
def dimacsPrintsCard : Claim7 := { stood := { row := dimacsPrintsRow, standIns := [], harness := (true, "8452937998ec60d664e313027c8a2e2911de222b1b04c0bc610f9f4310156c76"), looks := true }, kinds := [], alts := [], laidByText := true, laidKinds := [.data, .data, .data, .data, .sentinel, .sentinel, .pinned], laidTests := true, laidLooks := .later }
def DimacsPrintsCardSaid : Prop := Claim7.holds Tryd.pinned (.plain (OpenSpec.ofChange dimacsPrintsSpec)) dimacsPrintsCard

/-- THE TIED CARD OF 'threshinglaw02.DimacsBlanks'. -/
def dimacsBlanksCard : Claim7 := { stood := { row := dimacsBlanksRow, standIns := [], harness := (true, "8452937998ec60d664e313027c8a2e2911de222b1b04c0bc610f9f4310156c76"), looks := true }, kinds := [], alts := [], laidByText := true, laidKinds := [.data, .data, .data, .data, .sentinel, .sentinel, .pinned], laidTests := true, laidLooks := .later }
def DimacsBlanksCardSaid : Prop := Claim7.holds Tryd.pinned (.plain (OpenSpec.ofChange dimacsBlanksSpec)) dimacsBlanksCard

/-- THE TIED CARD OF 'threshinglaw02.DimacsReturns'. -/
def dimacsReturnsCard : Claim7 := { stood := { row := dimacsReturnsRow, standIns := [], harness := (true, "8452937998ec60d664e313027c8a2e2911de222b1b04c0bc610f9f4310156c76"), looks := true }, kinds := [], alts := [], laidByText := true, laidKinds := [.data, .data, .data, .data, .sentinel, .sentinel, .pinned], laidTests := true, laidLooks := .later }
def DimacsReturnsCardSaid : Prop := Claim7.holds Tryd.pinned (.plain (OpenSpec.ofChange dimacsReturnsSpec)) dimacsReturnsCard

/-- THE SECOND FORM's CARD OF 'threshinglaw02.DimacsParses'. -/
def dimacsParsesUptoCard : Claim7 := { stood := { row := dimacsParsesUptoRow, standIns := [], harness := (true, "8452937998ec60d664e313027c8a2e2911de222b1b04c0bc610f9f4310156c76"), looks := true }, kinds := [], alts := [], laidByText := true, laidKinds := [.data, .data, .data, .data, .sentinel, .sentinel, .pinned], laidTests := true, laidLooks := .later }
def DimacsParsesUptoCardSaid : Prop := Claim7.holds Tryd.pinned (.plain (OpenSpec.upto dimacsParsesSpec)) dimacsParsesUptoCard

/-- THE SECOND FORM's CARD OF 'threshinglaw02.DimacsPrints'. -/
def dimacsPrintsUptoCard : Claim7 := { stood := { row := dimacsPrintsUptoRow, standIns := [], harness := (true, "8452937998ec60d664e313027c8a2e2911de222b1b04c0bc610f9f4310156c76"), looks := true }, kinds := [], alts := [], laidByText := true, laidKinds := [.data, .data, .data, .data, .sentinel, .sentinel, .pinned], laidTests := true, laidLooks := .later }
def DimacsPrintsUptoCardSaid : Prop := Claim7.holds Tryd.pinned (.plain (OpenSpec.upto dimacsPrintsSpec)) dimacsPrintsUptoCard

/-- THE SECOND FORM's CARD OF 'threshinglaw02.DimacsBlanks'. -/
def dimacsBlanksUptoCard : Claim7 := { stood := { row := dimacsBlanksUptoRow, standIns := [], harness := (true, "8452937998ec60d664e313027c8a2e2911de222b1b04c0bc610f9f4310156c76"), looks := true }, kinds := [], alts := [], laidByText := true, laidKinds := [.data, .data, .data, .data, .sentinel, .sentinel, .pinned], laidTests := true, laidLooks := .later }
def DimacsBlanksUptoCardSaid : Prop := Claim7.holds Tryd.pinned (.plain (OpenSpec.upto dimacsBlanksSpec)) dimacsBlanksUptoCard

/-- THE SECOND FORM's CARD OF 'threshinglaw02.DimacsReturns'. -/
def dimacsReturnsUptoCard : Claim7 := { stood := { row := dimacsReturnsUptoRow, standIns := [], harness := (true, "8452937998ec60d664e313027c8a2e2911de222b1b04c0bc610f9f4310156c76"), looks := true }, kinds := [], alts := [], laidByText := true, laidKinds := [.data, .data, .data, .data, .sentinel, .sentinel, .pinned], laidTests := true, laidLooks := .later }
def DimacsReturnsUptoCardSaid : Prop := Claim7.holds Tryd.pinned (.plain (OpenSpec.upto dimacsReturnsSpec)) dimacsReturnsUptoCard
end Rows
end Go.Proofs.YtigloobbpcnnhaaDoor
