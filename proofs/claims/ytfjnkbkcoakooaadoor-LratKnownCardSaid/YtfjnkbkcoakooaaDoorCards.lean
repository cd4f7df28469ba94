/-
  DERIVED. GIVEN WITH THE SEED: THE CARDS: each row of YtfjnkbkcoakooaaDoorRows.lean that lists a variable, with what it lists TIED to the program's text (the seventh form; the later family's looks); each row that meets fmt, with fmt's text TOLD by the authors' own Lean function (tested against real Go, not proved from fmt's source: count such statements apart). THE CARD IS WHAT COUNTS. Prove the row's statement (the work); the ties are given (YtfjnkbkcoakooaaDoorTie.lean); close each card by the builder's one call (the guide's Derived/Test/ToyasCard.lean, 'card_holds'). Laid BY PROGRAM, IN A SANDBOX (cutbox-door.mjs). By AI agents, Wed Nov 11 2026. No macro, syntax, notation, axiom, sorry.
-/
import Derived.Test.YtfjnkbkcoakooaaDoorRows
import GoSem.ClaimSeven
namespace Go.Proofs.YtfjnkbkcoakooaaDoor
namespace Rows

/-- THE TIED CARD OF 'threshinglaw04.LratWrites'. -/
def lratWritesCard : Claim7 := { stood := { row := lratWritesRow, standIns := [], harness := (true, "58905d203779b025cdb7c2f38a99a25c83d64fe6e3b839f3d8915280f0549fa1"), looks := true }, kinds := [], alts := [], laidByText := true, laidKinds := [.data, .data, .data, .data, .sentinel, .sentinel, .pinned], laidTests := true, laidLooks := .later }
def LratWritesCardSaid : Prop := Claim7.holds Tryd.pinned (.plain (OpenSpec.ofChange lratWritesSpec)) lratWritesCard

/-- THE TIED CARD OF 'threshinglaw04.LratReads'. -/
def lratReadsCard : Claim7 := { stood := { row := lratReadsRow, standIns := [], harness := (true, "58905d203779b025cdb7c2f38a99a25c83d64fe6e3b839f3d8915280f0549fa1"), looks := true }, kinds := [], alts := [], laidByText := true, laidKinds := [.data, .data, .data, .data, .sentinel, .sentinel, .pinned], laidTests := true, laidLooks := .later }
def LratReadsCardSaid : Prop := Claim7.holds Tryd.pinned (.plain (OpenSpec.ofChange lratReadsSpec)) lratReadsCard

/-- THE TIED CARD OF 'threshinglaw04.LratBack'. -/
def lratBackCard : Claim7 := { stood := { row := lratBackRow, standIns := [], harness := (true, "58905d203779b025cdb7c2f38a99a25c83d64fe6e3b839f3d8915280f0549fa1"), looks := true }, kinds := [], alts := [], laidByText := true, laidKinds := [.data, .data, .data, .data, .sentinel, .sentinel, .pinned], laidTests := true, laidLooks := .later }
def LratBackCardSaid : Prop := Claim7.holds Tryd.pinned (.plain (OpenSpec.ofChange lratBackSpec)) lratBackCard

/-- THE TIED CARD OF 'threshinglaw04.LratRows'. -/
def lratRowsCard : Claim7 := { stood := { row := lratRowsRow, standIns := [], harness := (true, "58905d203779b025cdb7c2f38a99a25c83d64fe6e3b839f3d8915280f0549fa1"), looks := true }, kinds := [], alts := [], laidByText := true, laidKinds := [.data, .data, .data, .data, .sentinel, .sentinel, .pinned], laidTests := true, laidLooks := .later }
def LratRowsCardSaid : Prop := Claim7.holds Tryd.pinned (.plain (OpenSpec.ofChange lratRowsSpec)) lratRowsCard

/-- THE TIED CARD OF 'threshinglaw04.LratLines'. -/
def lratLinesCard : Claim7 := { stood := { row := lratLinesRow, standIns := [], harness := (true, "58905d203779b025cdb7c2f38a99a25c83d64fe6e3b839f3d8915280f0549fa1"), looks := true }, kinds := [], alts := [], laidByText := true, laidKinds := [.data, .data, .data, .data, .sentinel, .sentinel, .pinned], laidTests := true, laidLooks := .later }
def LratLinesCardSaid : Prop := Claim7.holds Tryd.pinned (.plain (OpenSpec.ofChange lratLinesSpec)) lratLinesCard

/-- THE TIED CARD OF 'threshinglaw04.LratKnown'. -/
def lratKnownCard : Claim7 := { stood := { row := lratKnownRow, standIns := [], harness := (true, "58905d203779b025cdb7c2f38a99a25c83d64fe6e3b839f3d8915280f0549fa1"), looks := true }, kinds := [], alts := [], laidByText := true, laidKinds := [.data, .data, .data, .data, .sentinel, .sentinel, .pinned], laidTests := true, laidLooks := .later }
def LratKnownCardSaid : Prop := Claim7.holds Tryd.pinned (.plain (OpenSpec.ofChange lratKnownSpec)) lratKnownCard

/-- THE SECOND FORM's CARD OF 'threshinglaw04.LratWrites'. -/
def lratWritesUptoCard : Claim7 := { stood := { row := lratWritesUptoRow, standIns := [], harness := (true, "58905d203779b025cdb7c2f38a99a25c83d64fe6e3b839f3d8915280f0549fa1"), looks := true }, kinds := [], alts := [], laidByText := true, laidKinds := [.data, .data, .data, .data, .sentinel, .sentinel, .pinned], laidTests := true, laidLooks := .later }
def LratWritesUptoCardSaid : Prop := Claim7.holds Tryd.pinned (.plain (OpenSpec.upto lratWritesSpec)) lratWritesUptoCard

/-- THE SECOND FORM's CARD OF 'threshinglaw04.LratReads'. -/
def lratReadsUptoCard : Claim7 := { stood := { row := lratReadsUptoRow, standIns := [], harness := (true, "58905d203779b025cdb7c2f38a99a25c83d64fe6e3b839f3d8915280f0549fa1"), looks := true }, kinds := [], alts := [], laidByText := true, laidKinds := [.data, .data, .data, .data, .sentinel, .sentinel, .pinned], laidTests := true, laidLooks := .later }
def LratReadsUptoCardSaid : Prop := Claim7.holds Tryd.pinned (.plain (OpenSpec.upto lratReadsSpec)) lratReadsUptoCard

/-- THE SECOND FORM's CARD OF 'threshinglaw04.LratBack'. -/
def lratBackUptoCard : Claim7 := { stood := { row := lratBackUptoRow, standIns := [], harness := (true, "58905d203779b025cdb7c2f38a99a25c83d64fe6e3b839f3d8915280f0549fa1"), looks := true }, kinds := [], alts := [], laidByText := true, laidKinds := [.data, .data, .data, .data, .sentinel, .sentinel, .pinned], laidTests := true, laidLooks := .later }
def LratBackUptoCardSaid : Prop := Claim7.holds Tryd.pinned (.plain (OpenSpec.upto lratBackSpec)) lratBackUptoCard

/-- THE SECOND FORM's CARD OF 'threshinglaw04.LratRows'. -/
def lratRowsUptoCard : Claim7 := { stood := { row := lratRowsUptoRow, standIns := [], harness := (true, "58905d203779b025cdb7c2f38a99a25c83d64fe6e3b839f3d8915280f0549fa1"), looks := true }, kinds := [], alts := [], laidByText := true, laidKinds := [.data, .data, .data, .data, .sentinel, .sentinel, .pinned], laidTests := true, laidLooks := .later }
def LratRowsUptoCardSaid : Prop := Claim7.holds Tryd.pinned (.plain (OpenSpec.upto lratRowsSpec)) lratRowsUptoCard

/-- THE SECOND FORM's CARD OF 'threshinglaw04.LratLines'. -/
def lratLinesUptoCard : Claim7 := { stood := { row := lratLinesUptoRow, standIns := [], harness := (true, "58905d203779b025cdb7c2f38a99a25c83d64fe6e3b839f3d8915280f0549fa1"), looks := true }, kinds := [], alts := [], laidByText := true, laidKinds := [.data, .data, .data, .data, .sentinel, .sentinel, .pinned], laidTests := true, laidLooks := .later }
def LratLinesUptoCardSaid : Prop := Claim7.holds Tryd.pinned (.plain (OpenSpec.upto lratLinesSpec)) lratLinesUptoCard

/-- THE SECOND FORM's CARD OF 'threshinglaw04.LratKnown'. -/
def lratKnownUptoCard : Claim7 := { stood := { row := lratKnownUptoRow, standIns := [], harness := (true, "58905d203779b025cdb7c2f38a99a25c83d64fe6e3b839f3d8915280f0549fa1"), looks := true }, kinds := [], alts := [], laidByText := true, laidKinds := [.data, .data, .data, .data, .sentinel, .sentinel, .pinned], laidTests := true, laidLooks := .later }
def LratKnownUptoCardSaid : Prop := Claim7.holds Tryd.pinned (.plain (OpenSpec.upto lratKnownSpec)) lratKnownUptoCard
end Rows
end Go.Proofs.YtfjnkbkcoakooaaDoor
