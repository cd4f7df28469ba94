/-
  No cell of these rows narrows 'for every input' (looked for: loops, veiled, ifaces, maps, wideKeys, modest, calm, conditions, laid).
  DERIVED. THE GIVEN ROWS OF THIS SEAT. 5 by the template 'for every input the law returns true; each argument reads behind the call as it read before'; 0 by the template 'total and deterministic' (their statements: YtlimaebaagabaaaTotals.lean).
  GIVEN WITH THE SEED: the statements are not yours to turn. If you find one false, say at which input.
  Laid BY PROGRAM, IN A SANDBOX (cutbox-rows.mjs): the forced cells as the released guide's own fill.sh prints them over the translation f56dc65954fb367c… (all of the seat's roots in one cut). By AI agents, Wed Nov 11 2026. No macro, syntax, notation, axiom, sorry.
-/
import Derived.Test.YtlimaebaagabaaaChecked
import GoSem.Claim
import GoSem.ClaimJoined
import GoSem.ClaimMapViews
import Derived.JoinedTies
import Derived.KernelRfl
namespace Go.Proofs.Ytlimaebaagabaaa
/- THE CELL 'sum', in the pinned program and in every row, IS THE sha256 OF THE DUMP (.gsa) THAT YtlimaebaagabaaaProg.lean LOADS. Nothing in Lean hashes anything: it is a label: what it is worth is what the hold of that sum in a sandbox is worth. -/
noncomputable def Try.pinned : Pinned := { name := "ytlimaebaagabaaa", sum := "f56dc65954fb367c57e91389107b461873ea5dc013919c3385797d84eaad5672", checked := Try.checked }
namespace Rows
def none {H : Type} : Left H := { results := [], args := [] }

/-- 'threshinglaw05.BinaryWrites': WHATEVER THE INPUT: true; the input reads as it did. -/
def binaryWritesSpec : ChangeSpec := { name := "binaryWrites", fn := fun _ => fun
  | [d] => { results := [.lit (.bool true)], args := [d] }
  | _ => none }
def binaryWritesRow : OpenClaim := { program := "ytlimaebaagabaaa", sum := "f56dc65954fb367c57e91389107b461873ea5dc013919c3385797d84eaad5672", func := "threshing/threshinglaw05.BinaryWrites", spec := "binaryWrites", unfollowed := true, recurses := true, apart := false }
def BinaryWritesSaid : Prop := binaryWritesRow.holds Try.pinned (OpenSpec.ofChange binaryWritesSpec)

/-- ITS FALSE NEIGHBOUR: 'it returns false'. Refute it at one input. -/
def binaryWritesWrong : ChangeSpec := { name := "binaryWrites", fn := fun _ => fun
  | [d] => { results := [.lit (.bool false)], args := [d] }
  | _ => none }
def BinaryWritesWrongFalsely : Prop := binaryWritesRow.holds Try.pinned (OpenSpec.ofChange binaryWritesWrong)

/-- 'threshinglaw05.BinaryReads': WHATEVER THE INPUT: true; the input reads as it did. -/
def binaryReadsSpec : ChangeSpec := { name := "binaryReads", fn := fun _ => fun
  | [d] => { results := [.lit (.bool true)], args := [d] }
  | _ => none }
def binaryReadsRow : OpenClaim := { program := "ytlimaebaagabaaa", sum := "f56dc65954fb367c57e91389107b461873ea5dc013919c3385797d84eaad5672", func := "threshing/threshinglaw05.BinaryReads", spec := "binaryReads", unfollowed := true, recurses := true, apart := false }
def BinaryReadsSaid : Prop := binaryReadsRow.holds Try.pinned (OpenSpec.ofChange binaryReadsSpec)

/-- ITS FALSE NEIGHBOUR: 'it returns false'. Refute it at one input. -/
def binaryReadsWrong : ChangeSpec := { name := "binaryReads", fn := fun _ => fun
  | [d] => { results := [.lit (.bool false)], args := [d] }
  | _ => none }
def BinaryReadsWrongFalsely : Prop := binaryReadsRow.holds Try.pinned (OpenSpec.ofChange binaryReadsWrong)

/-- 'threshinglaw05.BinaryRows': WHATEVER THE INPUT: true; the input reads as it did. -/
def binaryRowsSpec : ChangeSpec := { name := "binaryRows", fn := fun _ => fun
  | [d1, d2] => { results := [.lit (.bool true)], args := [d1, d2] }
  | _ => none }
def binaryRowsRow : OpenClaim := { program := "ytlimaebaagabaaa", sum := "f56dc65954fb367c57e91389107b461873ea5dc013919c3385797d84eaad5672", func := "threshing/threshinglaw05.BinaryRows", spec := "binaryRows", unfollowed := true, recurses := true, apart := false }
def BinaryRowsSaid : Prop := binaryRowsRow.holds Try.pinned (OpenSpec.ofChange binaryRowsSpec)

/-- ITS FALSE NEIGHBOUR: 'it returns false'. Refute it at one input. -/
def binaryRowsWrong : ChangeSpec := { name := "binaryRows", fn := fun _ => fun
  | [d1, d2] => { results := [.lit (.bool false)], args := [d1, d2] }
  | _ => none }
def BinaryRowsWrongFalsely : Prop := binaryRowsRow.holds Try.pinned (OpenSpec.ofChange binaryRowsWrong)

/-- 'threshinglaw05.BinaryCuts': WHATEVER THE INPUT: true; the input reads as it did. -/
def binaryCutsSpec : ChangeSpec := { name := "binaryCuts", fn := fun _ => fun
  | [d1, d2] => { results := [.lit (.bool true)], args := [d1, d2] }
  | _ => none }
def binaryCutsRow : OpenClaim := { program := "ytlimaebaagabaaa", sum := "f56dc65954fb367c57e91389107b461873ea5dc013919c3385797d84eaad5672", func := "threshing/threshinglaw05.BinaryCuts", spec := "binaryCuts", unfollowed := true, recurses := true, apart := false }
def BinaryCutsSaid : Prop := binaryCutsRow.holds Try.pinned (OpenSpec.ofChange binaryCutsSpec)

/-- ITS FALSE NEIGHBOUR: 'it returns false'. Refute it at one input. -/
def binaryCutsWrong : ChangeSpec := { name := "binaryCuts", fn := fun _ => fun
  | [d1, d2] => { results := [.lit (.bool false)], args := [d1, d2] }
  | _ => none }
def BinaryCutsWrongFalsely : Prop := binaryCutsRow.holds Try.pinned (OpenSpec.ofChange binaryCutsWrong)

/-- 'threshinglaw05.BinaryKnown': WHATEVER THE INPUT: true; the input reads as it did. -/
def binaryKnownSpec : ChangeSpec := { name := "binaryKnown", fn := fun _ => fun
  | [] => { results := [.lit (.bool true)], args := [] }
  | _ => none }
def binaryKnownRow : OpenClaim := { program := "ytlimaebaagabaaa", sum := "f56dc65954fb367c57e91389107b461873ea5dc013919c3385797d84eaad5672", func := "threshing/threshinglaw05.BinaryKnown", spec := "binaryKnown", unfollowed := true, recurses := true, apart := false }
def BinaryKnownSaid : Prop := binaryKnownRow.holds Try.pinned (OpenSpec.ofChange binaryKnownSpec)

/-- ITS FALSE NEIGHBOUR: 'it returns false'. Refute it at one input. -/
def binaryKnownWrong : ChangeSpec := { name := "binaryKnown", fn := fun _ => fun
  | [] => { results := [.lit (.bool false)], args := [] }
  | _ => none }
def BinaryKnownWrongFalsely : Prop := binaryKnownRow.holds Try.pinned (OpenSpec.ofChange binaryKnownWrong)

/- THE SECOND FORM. 'bulk': how many values and letters a reading holds, each counted each time it is reached (what is shared counts as often as it is met; a slice's spare places count too). A statement '..UptoSaid' is the law's where the arguments, and the package variables that the reading takes, are together of bulk at most 1048576: NARROWER than '..Said'. Prove '..Said' where nothing that the law and all that it calls make is longer than what came in: it says more and counts as full. Else prove '..UptoSaid'. A law counts once. -/
mutual
def uptoBulk {H : Type} : DataW H → Nat
  | .lit (.string bytes) => bytes.length + 1
  | .lit _ => 1
  | .nil => 1
  | .ptr d => uptoBulk d + 1
  | .slice elems spare => uptoBulkAll elems + uptoBulkAll spare + 1
  | .agg parts => uptoBulkAll parts + 1
  | .iface _ d => uptoBulk d + 1
  | .map entries => uptoBulkEntries entries + 1
  | .held _ => 1
def uptoBulkAll {H : Type} : List (DataW H) → Nat
  | [] => 0
  | d :: r => uptoBulk d + uptoBulkAll r
def uptoBulkEntries {H : Type} : List (Lit × DataW H) → Nat
  | [] => 0
  | x :: r => uptoBulkEntry x + uptoBulkEntries r
def uptoBulkEntry {H : Type} : Lit × DataW H → Nat
  | (.string bytes, d) => bytes.length + uptoBulk d + 1
  | (_, d) => uptoBulk d + 1
 end
def uptoSmall : (H : Type) → List (DataW H) → Bool := fun _ ds => decide (uptoBulkAll ds ≤ 1048576)
def OpenSpec.upto (s : _root_.Go.ChangeSpec) : _root_.Go.OpenSpec := { _root_.Go.OpenSpec.ofChange s with cond := some uptoSmall }

/-- 'threshinglaw05.BinaryWrites', WHERE WHAT IT READS IS OF BULK AT MOST 1048576: true; the input reads as it did. -/
def binaryWritesUptoRow : OpenClaim := { program := "ytlimaebaagabaaa", sum := "f56dc65954fb367c57e91389107b461873ea5dc013919c3385797d84eaad5672", func := "threshing/threshinglaw05.BinaryWrites", spec := "binaryWrites", unfollowed := true, recurses := true, apart := false, narrowed := true }
def BinaryWritesUptoSaid : Prop := binaryWritesUptoRow.holds Try.pinned (OpenSpec.upto binaryWritesSpec)

/-- 'threshinglaw05.BinaryReads', WHERE WHAT IT READS IS OF BULK AT MOST 1048576: true; the input reads as it did. -/
def binaryReadsUptoRow : OpenClaim := { program := "ytlimaebaagabaaa", sum := "f56dc65954fb367c57e91389107b461873ea5dc013919c3385797d84eaad5672", func := "threshing/threshinglaw05.BinaryReads", spec := "binaryReads", unfollowed := true, recurses := true, apart := false, narrowed := true }
def BinaryReadsUptoSaid : Prop := binaryReadsUptoRow.holds Try.pinned (OpenSpec.upto binaryReadsSpec)

/-- 'threshinglaw05.BinaryRows', WHERE WHAT IT READS IS OF BULK AT MOST 1048576: true; the input reads as it did. -/
def binaryRowsUptoRow : OpenClaim := { program := "ytlimaebaagabaaa", sum := "f56dc65954fb367c57e91389107b461873ea5dc013919c3385797d84eaad5672", func := "threshing/threshinglaw05.BinaryRows", spec := "binaryRows", unfollowed := true, recurses := true, apart := false, narrowed := true }
def BinaryRowsUptoSaid : Prop := binaryRowsUptoRow.holds Try.pinned (OpenSpec.upto binaryRowsSpec)

/-- 'threshinglaw05.BinaryCuts', WHERE WHAT IT READS IS OF BULK AT MOST 1048576: true; the input reads as it did. -/
def binaryCutsUptoRow : OpenClaim := { program := "ytlimaebaagabaaa", sum := "f56dc65954fb367c57e91389107b461873ea5dc013919c3385797d84eaad5672", func := "threshing/threshinglaw05.BinaryCuts", spec := "binaryCuts", unfollowed := true, recurses := true, apart := false, narrowed := true }
def BinaryCutsUptoSaid : Prop := binaryCutsUptoRow.holds Try.pinned (OpenSpec.upto binaryCutsSpec)

/-- 'threshinglaw05.BinaryKnown', WHERE WHAT IT READS IS OF BULK AT MOST 1048576: true; the input reads as it did. -/
def binaryKnownUptoRow : OpenClaim := { program := "ytlimaebaagabaaa", sum := "f56dc65954fb367c57e91389107b461873ea5dc013919c3385797d84eaad5672", func := "threshing/threshinglaw05.BinaryKnown", spec := "binaryKnown", unfollowed := true, recurses := true, apart := false, narrowed := true }
def BinaryKnownUptoSaid : Prop := binaryKnownUptoRow.holds Try.pinned (OpenSpec.upto binaryKnownSpec)

end Rows
end Go.Proofs.Ytlimaebaagabaaa
