/-
  DERIVED. GIVEN WITH THE SEED: THE CARDS: each row of YtmknpchmpgkdbaaDoorRows.lean that lists a variable, with what it lists TIED to the program's text (the seventh form; the later family's looks); each row that meets fmt, with fmt's text TOLD by the authors' own Lean function (tested against real Go, not proved from fmt's source: count such statements apart). THE CARD IS WHAT COUNTS. Prove the row's statement (the work); the ties are given (YtmknpchmpgkdbaaDoorTie.lean); close each card by the builder's one call (the guide's Derived/Test/ToyasCard.lean, 'card_holds'). Laid BY PROGRAM, IN A SANDBOX (cutbox-door.mjs). By AI agents, Wed Nov 11 2026. No macro, syntax, notation, axiom, sorry.
-/
import Derived.Test.YtmknpchmpgkdbaaDoorRows
import GoSem.ClaimSeven
namespace Go.Proofs.YtmknpchmpgkdbaaDoor
namespace Rows

/-- THE TIED CARD OF 'threshinglaw30.OptionsOrder'. -/
def optionsOrderCard : Claim7 := { stood := { row := optionsOrderRow, standIns := [], harness := (true, "720532e07c397f25c069675d19aca78ae582fdc13e67a972766146a7be842a0c"), looks := true }, kinds := [], alts := [], laidByText := true, laidKinds := [.data, .data, .data, .sentinel, .sentinel, .wider], laidTests := true, laidLooks := .later }
def OptionsOrderCardSaid : Prop := Claim7.holds Tryd.pinned (.plain (OpenSpec.ofChange optionsOrderSpec)) optionsOrderCard

/-- THE TIED CARD OF 'threshinglaw30.OptionsBack'. -/
def optionsBackCard : Claim7 := { stood := { row := optionsBackRow, standIns := [], harness := (true, "720532e07c397f25c069675d19aca78ae582fdc13e67a972766146a7be842a0c"), looks := true }, kinds := [], alts := [], laidByText := true, laidKinds := [.data, .data, .data, .sentinel, .sentinel, .wider], laidTests := true, laidLooks := .later }
def OptionsBackCardSaid : Prop := Claim7.holds Tryd.pinned (.plain (OpenSpec.ofChange optionsBackSpec)) optionsBackCard

/-- THE TIED CARD OF 'threshinglaw30.OptionsPlay'. -/
def optionsPlayCard : Claim7 := { stood := { row := optionsPlayRow, standIns := [], harness := (true, "720532e07c397f25c069675d19aca78ae582fdc13e67a972766146a7be842a0c"), looks := true }, kinds := [], alts := [], laidByText := true, laidKinds := [.data, .data, .data, .sentinel, .sentinel, .wider], laidTests := true, laidLooks := .later }
def OptionsPlayCardSaid : Prop := Claim7.holds Tryd.pinned (.plain (OpenSpec.ofChange optionsPlaySpec)) optionsPlayCard

/-- THE TIED CARD OF 'threshinglaw30.OptionsKnown'. -/
def optionsKnownCard : Claim7 := { stood := { row := optionsKnownRow, standIns := [], harness := (true, "720532e07c397f25c069675d19aca78ae582fdc13e67a972766146a7be842a0c"), looks := true }, kinds := [], alts := [], laidByText := true, laidKinds := [.data, .data, .data, .sentinel, .sentinel, .wider], laidTests := true, laidLooks := .later }
def OptionsKnownCardSaid : Prop := Claim7.holds Tryd.pinned (.plain (OpenSpec.ofChange optionsKnownSpec)) optionsKnownCard

/-- THE SECOND FORM's CARD OF 'threshinglaw30.OptionsOrder'. -/
def optionsOrderUptoCard : Claim7 := { stood := { row := optionsOrderUptoRow, standIns := [], harness := (true, "720532e07c397f25c069675d19aca78ae582fdc13e67a972766146a7be842a0c"), looks := true }, kinds := [], alts := [], laidByText := true, laidKinds := [.data, .data, .data, .sentinel, .sentinel, .wider], laidTests := true, laidLooks := .later }
def OptionsOrderUptoCardSaid : Prop := Claim7.holds Tryd.pinned (.plain (OpenSpec.upto optionsOrderSpec)) optionsOrderUptoCard

/-- THE SECOND FORM's CARD OF 'threshinglaw30.OptionsBack'. -/
def optionsBackUptoCard : Claim7 := { stood := { row := optionsBackUptoRow, standIns := [], harness := (true, "720532e07c397f25c069675d19aca78ae582fdc13e67a972766146a7be842a0c"), looks := true }, kinds := [], alts := [], laidByText := true, laidKinds := [.data, .data, .data, .sentinel, .sentinel, .wider], laidTests := true, laidLooks := .later }
def OptionsBackUptoCardSaid : Prop := Claim7.holds Tryd.pinned (.plain (OpenSpec.upto optionsBackSpec)) optionsBackUptoCard

/-- THE SECOND FORM's CARD OF 'threshinglaw30.OptionsPlay'. -/
def optionsPlayUptoCard : Claim7 := { stood := { row := optionsPlayUptoRow, standIns := [], harness := (true, "720532e07c397f25c069675d19aca78ae582fdc13e67a972766146a7be842a0c"), looks := true }, kinds := [], alts := [], laidByText := true, laidKinds := [.data, .data, .data, .sentinel, .sentinel, .wider], laidTests := true, laidLooks := .later }
def OptionsPlayUptoCardSaid : Prop := Claim7.holds Tryd.pinned (.plain (OpenSpec.upto optionsPlaySpec)) optionsPlayUptoCard

/-- THE SECOND FORM's CARD OF 'threshinglaw30.OptionsKnown'. -/
def optionsKnownUptoCard : Claim7 := { stood := { row := optionsKnownUptoRow, standIns := [], harness := (true, "720532e07c397f25c069675d19aca78ae582fdc13e67a972766146a7be842a0c"), looks := true }, kinds := [], alts := [], laidByText := true, laidKinds := [.data, .data, .data, .sentinel, .sentinel, .wider], laidTests := true, laidLooks := .later }
def OptionsKnownUptoCardSaid : Prop := Claim7.holds Tryd.pinned (.plain (OpenSpec.upto optionsKnownSpec)) optionsKnownUptoCard
end Rows
end Go.Proofs.YtmknpchmpgkdbaaDoor
