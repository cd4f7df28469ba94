/-
  NARROWER THAN 'FOR EVERY INPUT', by the rows' own cells (each row's printed sentence says how): OptionsOrder: laid · OptionsBack: laid · OptionsPlay: laid · OptionsKnown: laid.
  DERIVED. THE GIVEN ROWS OF THIS SEAT. 4 by the template 'for every input the law returns true; each argument reads behind the call as it read before'; 0 by the template 'total and deterministic' (their statements: YtmknpchmpgkdbaaDoorTotals.lean).
  GIVEN WITH THE SEED: the statements are not yours to turn. If you find one false, say at which input.
  Laid BY PROGRAM, IN A SANDBOX (cutbox-rows.mjs): the forced cells as the released guide's own fill.sh prints them over the translation 9cbc1dae71e9d106… (all of the seat's roots in one cut). By AI agents, Wed Nov 11 2026. No macro, syntax, notation, axiom, sorry.
-/
import Derived.Test.YtmknpchmpgkdbaaDoorChecked
import GoSem.Claim
import GoSem.ClaimJoined
import GoSem.ClaimMapViews
import Derived.JoinedTies
import Derived.KernelRfl
namespace Go.Proofs.YtmknpchmpgkdbaaDoor
/- THE CELL 'sum', in the pinned program and in every row, IS THE sha256 OF THE DUMP (.gsa) THAT YtmknpchmpgkdbaaDoorProg.lean LOADS. Nothing in Lean hashes anything: it is a label: what it is worth is what the hold of that sum in a sandbox is worth. -/
noncomputable def Tryd.pinned : Pinned := { name := "ytmknpchmpgkdbaadoor", sum := "9cbc1dae71e9d1063ad008052c1304de43dfc33df9fca10d5e17705d1399e8af", checked := Tryd.checked }
namespace Rows
def none {H : Type} : Left H := { results := [], args := [] }

/- WHAT THE LISTED PACKAGE-LEVEL VARIABLES READ AS WHEN THE CALL BEGINS. Each datum BY PROGRAM (the guide's laid-datum.mjs) off the statement by which the dump's own 'gosem.cut.vars' lays the variable. In a bare row this is a premise. The card (YtmknpchmpgkdbaaDoorCards.lean) ties it to the program's text. -/
def laid_math_bits_deBruijn32tab {H : Type} : DataW H := .agg [.lit (.int .u8 0), .lit (.int .u8 1), .lit (.int .u8 28), .lit (.int .u8 2), .lit (.int .u8 29), .lit (.int .u8 14), .lit (.int .u8 24), .lit (.int .u8 3), .lit (.int .u8 30), .lit (.int .u8 22), .lit (.int .u8 20), .lit (.int .u8 15), .lit (.int .u8 25), .lit (.int .u8 17), .lit (.int .u8 4), .lit (.int .u8 8), .lit (.int .u8 31), .lit (.int .u8 27), .lit (.int .u8 13), .lit (.int .u8 23), .lit (.int .u8 21), .lit (.int .u8 19), .lit (.int .u8 16), .lit (.int .u8 7), .lit (.int .u8 26), .lit (.int .u8 12), .lit (.int .u8 18), .lit (.int .u8 6), .lit (.int .u8 11), .lit (.int .u8 5), .lit (.int .u8 10), .lit (.int .u8 9)]
def laid_math_bits_deBruijn64tab {H : Type} : DataW H := .agg [.lit (.int .u8 0), .lit (.int .u8 1), .lit (.int .u8 56), .lit (.int .u8 2), .lit (.int .u8 57), .lit (.int .u8 49), .lit (.int .u8 28), .lit (.int .u8 3), .lit (.int .u8 61), .lit (.int .u8 58), .lit (.int .u8 42), .lit (.int .u8 50), .lit (.int .u8 38), .lit (.int .u8 29), .lit (.int .u8 17), .lit (.int .u8 4), .lit (.int .u8 62), .lit (.int .u8 47), .lit (.int .u8 59), .lit (.int .u8 36), .lit (.int .u8 45), .lit (.int .u8 43), .lit (.int .u8 51), .lit (.int .u8 22), .lit (.int .u8 53), .lit (.int .u8 39), .lit (.int .u8 33), .lit (.int .u8 30), .lit (.int .u8 24), .lit (.int .u8 18), .lit (.int .u8 12), .lit (.int .u8 5), .lit (.int .u8 63), .lit (.int .u8 55), .lit (.int .u8 48), .lit (.int .u8 27), .lit (.int .u8 60), .lit (.int .u8 41), .lit (.int .u8 37), .lit (.int .u8 16), .lit (.int .u8 46), .lit (.int .u8 35), .lit (.int .u8 44), .lit (.int .u8 21), .lit (.int .u8 52), .lit (.int .u8 32), .lit (.int .u8 23), .lit (.int .u8 11), .lit (.int .u8 54), .lit (.int .u8 26), .lit (.int .u8 40), .lit (.int .u8 15), .lit (.int .u8 34), .lit (.int .u8 20), .lit (.int .u8 31), .lit (.int .u8 10), .lit (.int .u8 25), .lit (.int .u8 14), .lit (.int .u8 19), .lit (.int .u8 9), .lit (.int .u8 13), .lit (.int .u8 8), .lit (.int .u8 7), .lit (.int .u8 6)]
def laid_internal_strconv_uint64pow10 {H : Type} : DataW H := .agg [.lit (.int .u64 1), .lit (.int .u64 10), .lit (.int .u64 100), .lit (.int .u64 1000), .lit (.int .u64 10000), .lit (.int .u64 100000), .lit (.int .u64 1000000), .lit (.int .u64 10000000), .lit (.int .u64 100000000), .lit (.int .u64 1000000000), .lit (.int .u64 10000000000), .lit (.int .u64 100000000000), .lit (.int .u64 1000000000000), .lit (.int .u64 10000000000000), .lit (.int .u64 100000000000000), .lit (.int .u64 1000000000000000), .lit (.int .u64 10000000000000000), .lit (.int .u64 100000000000000000), .lit (.int .u64 1000000000000000000), .lit (.int .u64 10000000000000000000)]
def laid_strconv_ErrRange {H : Type} : DataW H := .iface "*errors.errorString" (.ptr (.agg [.lit (.string [118, 97, 108, 117, 101, 32, 111, 117, 116, 32, 111, 102, 32, 114, 97, 110, 103, 101])]))
def laid_strconv_ErrSyntax {H : Type} : DataW H := .iface "*errors.errorString" (.ptr (.agg [.lit (.string [105, 110, 118, 97, 108, 105, 100, 32, 115, 121, 110, 116, 97, 120])]))
def laid_threshing_options_table {H : Type} : DataW H := .agg [.agg [.lit (.string [115, 101, 101, 100]), .lit (.int .i64 1), .lit (.int .i64 0), .lit (.int .i64 4611686018427387904)], .agg [.lit (.string [112, 104, 97, 115, 101]), .lit (.int .i64 1), .lit (.int .i64 0), .lit (.int .i64 1)], .agg [.lit (.string [100, 101, 99, 105, 100, 101]), .lit (.int .i64 2), .lit (.int .i64 0), .lit (.int .i64 2)], .agg [.lit (.string [114, 101, 115, 116, 97, 114, 116]), .lit (.int .i64 2), .lit (.int .i64 1), .lit (.int .i64 1000000)], .agg [.lit (.string [109, 97, 114, 103, 105, 110]), .lit (.int .i64 110), .lit (.int .i64 100), .lit (.int .i64 10000)], .agg [.lit (.string [102, 97, 115, 116]), .lit (.int .i64 5), .lit (.int .i64 0), .lit (.int .i64 30)], .agg [.lit (.string [115, 108, 111, 119]), .lit (.int .i64 14), .lit (.int .i64 0), .lit (.int .i64 30)], .agg [.lit (.string [114, 101, 100, 117, 99, 101]), .lit (.int .i64 300), .lit (.int .i64 10), .lit (.int .i64 1000000)], .agg [.lit (.string [103, 108, 117, 101]), .lit (.int .i64 2), .lit (.int .i64 0), .lit (.int .i64 100)], .agg [.lit (.string [114, 101, 112, 104, 97, 115, 101]), .lit (.int .i64 1000), .lit (.int .i64 1), .lit (.int .i64 1000000)], .agg [.lit (.string [99, 111, 110, 102, 108, 105, 99, 116, 115]), .lit (.int .i64 0), .lit (.int .i64 0), .lit (.int .i64 1099511627776)], .agg [.lit (.string [116, 105, 99, 107, 115]), .lit (.int .i64 0), .lit (.int .i64 0), .lit (.int .i64 1099511627776)], .agg [.lit (.string [101, 118, 101, 114, 121]), .lit (.int .i64 2000), .lit (.int .i64 1), .lit (.int .i64 1000000000)], .agg [.lit (.string [101, 102, 102, 111, 114, 116]), .lit (.int .i64 10000), .lit (.int .i64 0), .lit (.int .i64 1000000000)], .agg [.lit (.string [111, 99, 99, 117, 114, 115]), .lit (.int .i64 20), .lit (.int .i64 0), .lit (.int .i64 1000)], .agg [.lit (.string [114, 111, 117, 110, 100, 115]), .lit (.int .i64 3), .lit (.int .i64 0), .lit (.int .i64 100)], .agg [.lit (.string [109, 105, 110, 105, 109, 105, 115, 101]), .lit (.int .i64 1), .lit (.int .i64 0), .lit (.int .i64 1)], .agg [.lit (.string [115, 104, 114, 105, 110, 107]), .lit (.int .i64 1), .lit (.int .i64 0), .lit (.int .i64 1)], .agg [.lit (.string [112, 114, 111, 98, 101]), .lit (.int .i64 1), .lit (.int .i64 0), .lit (.int .i64 1)], .agg [.lit (.string [101, 113, 117, 97, 108]), .lit (.int .i64 1), .lit (.int .i64 0), .lit (.int .i64 1)], .agg [.lit (.string [116, 114, 97, 110, 115, 114, 101, 100]), .lit (.int .i64 1), .lit (.int .i64 0), .lit (.int .i64 1)], .agg [.lit (.string [115, 117, 98, 115, 117, 109, 101]), .lit (.int .i64 1), .lit (.int .i64 0), .lit (.int .i64 1)], .agg [.lit (.string [118, 105, 118, 105, 102, 121]), .lit (.int .i64 1), .lit (.int .i64 0), .lit (.int .i64 1)], .agg [.lit (.string [101, 108, 105, 109]), .lit (.int .i64 1), .lit (.int .i64 0), .lit (.int .i64 1)], .agg [.lit (.string [103, 97, 116, 101, 115]), .lit (.int .i64 1), .lit (.int .i64 0), .lit (.int .i64 1)], .agg [.lit (.string [98, 108, 111, 99, 107, 101, 100]), .lit (.int .i64 1), .lit (.int .i64 0), .lit (.int .i64 1)], .agg [.lit (.string [99, 111, 110, 100, 105, 116, 105, 111, 110]), .lit (.int .i64 1), .lit (.int .i64 0), .lit (.int .i64 1)], .agg [.lit (.string [112, 114, 111, 111, 102]), .lit (.int .i64 1), .lit (.int .i64 0), .lit (.int .i64 1)]]

/-- 'threshinglaw30.OptionsOrder': WHATEVER THE INPUT: true; the input reads as it did. -/
def optionsOrderSpec : ChangeSpec := { name := "optionsOrder", fn := fun _ => fun
  | [d1, d2, d3, d4] => { results := [.lit (.bool true)], args := [d1, d2, d3, d4] }
  | _ => none }
def optionsOrderRow : OpenClaim := { program := "ytmknpchmpgkdbaadoor", sum := "9cbc1dae71e9d1063ad008052c1304de43dfc33df9fca10d5e17705d1399e8af", func := "threshing/threshinglaw30.OptionsOrder", spec := "optionsOrder", inPlace := ["internal/bytealg.IndexByteString", "internal/bytealg.IndexString"], unfollowed := true, recurses := true, named := ["threshing/options.table", "internal/bytealg.MaxLen", "strconv.ErrSyntax", "strconv.ErrRange", "internal/strconv.uint64pow10", "math/bits.deBruijn32tab", "math/bits.deBruijn64tab"], apart := false, laid := [("math/bits.deBruijn32tab", laid_math_bits_deBruijn32tab), ("math/bits.deBruijn64tab", laid_math_bits_deBruijn64tab), ("internal/strconv.uint64pow10", laid_internal_strconv_uint64pow10), ("strconv.ErrRange", laid_strconv_ErrRange), ("strconv.ErrSyntax", laid_strconv_ErrSyntax), ("threshing/options.table", laid_threshing_options_table)] }
def OptionsOrderSaid : Prop := optionsOrderRow.holds Tryd.pinned (OpenSpec.ofChange optionsOrderSpec)

/-- ITS FALSE NEIGHBOUR: 'it returns false'. Refute it at one input. -/
def optionsOrderWrong : ChangeSpec := { name := "optionsOrder", fn := fun _ => fun
  | [d1, d2, d3, d4] => { results := [.lit (.bool false)], args := [d1, d2, d3, d4] }
  | _ => none }
def OptionsOrderWrongFalsely : Prop := optionsOrderRow.holds Tryd.pinned (OpenSpec.ofChange optionsOrderWrong)

/-- 'threshinglaw30.OptionsBack': WHATEVER THE INPUT: true; the input reads as it did. -/
def optionsBackSpec : ChangeSpec := { name := "optionsBack", fn := fun _ => fun
  | [d1, d2, d3] => { results := [.lit (.bool true)], args := [d1, d2, d3] }
  | _ => none }
def optionsBackRow : OpenClaim := { program := "ytmknpchmpgkdbaadoor", sum := "9cbc1dae71e9d1063ad008052c1304de43dfc33df9fca10d5e17705d1399e8af", func := "threshing/threshinglaw30.OptionsBack", spec := "optionsBack", inPlace := ["internal/bytealg.IndexByteString", "internal/bytealg.IndexString"], unfollowed := true, recurses := true, named := ["threshing/options.table", "internal/bytealg.MaxLen", "strconv.ErrSyntax", "strconv.ErrRange", "internal/strconv.uint64pow10", "math/bits.deBruijn32tab", "math/bits.deBruijn64tab"], apart := false, laid := [("math/bits.deBruijn32tab", laid_math_bits_deBruijn32tab), ("math/bits.deBruijn64tab", laid_math_bits_deBruijn64tab), ("internal/strconv.uint64pow10", laid_internal_strconv_uint64pow10), ("strconv.ErrRange", laid_strconv_ErrRange), ("strconv.ErrSyntax", laid_strconv_ErrSyntax), ("threshing/options.table", laid_threshing_options_table)] }
def OptionsBackSaid : Prop := optionsBackRow.holds Tryd.pinned (OpenSpec.ofChange optionsBackSpec)

/-- ITS FALSE NEIGHBOUR: 'it returns false'. Refute it at one input. -/
def optionsBackWrong : ChangeSpec := { name := "optionsBack", fn := fun _ => fun
  | [d1, d2, d3] => { results := [.lit (.bool false)], args := [d1, d2, d3] }
  | _ => none }
def OptionsBackWrongFalsely : Prop := optionsBackRow.holds Tryd.pinned (OpenSpec.ofChange optionsBackWrong)

/-- 'threshinglaw30.OptionsPlay': WHATEVER THE INPUT: true; the input reads as it did. -/
def optionsPlaySpec : ChangeSpec := { name := "optionsPlay", fn := fun _ => fun
  | [d] => { results := [.lit (.bool true)], args := [d] }
  | _ => none }
def optionsPlayRow : OpenClaim := { program := "ytmknpchmpgkdbaadoor", sum := "9cbc1dae71e9d1063ad008052c1304de43dfc33df9fca10d5e17705d1399e8af", func := "threshing/threshinglaw30.OptionsPlay", spec := "optionsPlay", inPlace := ["internal/bytealg.IndexByteString", "internal/bytealg.IndexString"], unfollowed := true, recurses := true, named := ["threshing/options.table", "internal/bytealg.MaxLen", "strconv.ErrSyntax", "strconv.ErrRange", "internal/strconv.uint64pow10", "math/bits.deBruijn32tab", "math/bits.deBruijn64tab"], apart := false, laid := [("math/bits.deBruijn32tab", laid_math_bits_deBruijn32tab), ("math/bits.deBruijn64tab", laid_math_bits_deBruijn64tab), ("internal/strconv.uint64pow10", laid_internal_strconv_uint64pow10), ("strconv.ErrRange", laid_strconv_ErrRange), ("strconv.ErrSyntax", laid_strconv_ErrSyntax), ("threshing/options.table", laid_threshing_options_table)] }
def OptionsPlaySaid : Prop := optionsPlayRow.holds Tryd.pinned (OpenSpec.ofChange optionsPlaySpec)

/-- ITS FALSE NEIGHBOUR: 'it returns false'. Refute it at one input. -/
def optionsPlayWrong : ChangeSpec := { name := "optionsPlay", fn := fun _ => fun
  | [d] => { results := [.lit (.bool false)], args := [d] }
  | _ => none }
def OptionsPlayWrongFalsely : Prop := optionsPlayRow.holds Tryd.pinned (OpenSpec.ofChange optionsPlayWrong)

/-- 'threshinglaw30.OptionsKnown': WHATEVER THE INPUT: true; the input reads as it did. -/
def optionsKnownSpec : ChangeSpec := { name := "optionsKnown", fn := fun _ => fun
  | [] => { results := [.lit (.bool true)], args := [] }
  | _ => none }
def optionsKnownRow : OpenClaim := { program := "ytmknpchmpgkdbaadoor", sum := "9cbc1dae71e9d1063ad008052c1304de43dfc33df9fca10d5e17705d1399e8af", func := "threshing/threshinglaw30.OptionsKnown", spec := "optionsKnown", inPlace := ["internal/bytealg.IndexByteString", "internal/bytealg.IndexString"], unfollowed := true, recurses := true, named := ["threshing/options.table", "internal/bytealg.MaxLen", "strconv.ErrSyntax", "strconv.ErrRange", "internal/strconv.uint64pow10", "math/bits.deBruijn32tab", "math/bits.deBruijn64tab"], apart := false, laid := [("math/bits.deBruijn32tab", laid_math_bits_deBruijn32tab), ("math/bits.deBruijn64tab", laid_math_bits_deBruijn64tab), ("internal/strconv.uint64pow10", laid_internal_strconv_uint64pow10), ("strconv.ErrRange", laid_strconv_ErrRange), ("strconv.ErrSyntax", laid_strconv_ErrSyntax), ("threshing/options.table", laid_threshing_options_table)] }
def OptionsKnownSaid : Prop := optionsKnownRow.holds Tryd.pinned (OpenSpec.ofChange optionsKnownSpec)

/-- ITS FALSE NEIGHBOUR: 'it returns false'. Refute it at one input. -/
def optionsKnownWrong : ChangeSpec := { name := "optionsKnown", fn := fun _ => fun
  | [] => { results := [.lit (.bool false)], args := [] }
  | _ => none }
def OptionsKnownWrongFalsely : Prop := optionsKnownRow.holds Tryd.pinned (OpenSpec.ofChange optionsKnownWrong)

/- THE SECOND FORM. 'bulk': how many values and letters a reading holds, each counted each time it is reached (what is shared counts as often as it is met; a slice's spare places count too). A statement '..UptoSaid' is the law's where the arguments, and the package variables that the reading takes, are together of bulk at most 1048576: NARROWER than '..Said'. Prove '..Said' where nothing that the law and all that it calls make is longer than what came in: it says more and counts as full. Else prove '..UptoSaid'. A law counts once. -/
mutual
def uptoBulk {H : Type} : DataW H → Nat
  | .lit (.string bytes) => bytes.length + 1
  | .lit _ => 1
  | .nil => 1
  | .ptr d => uptoBulk d + 1
  | .slice elems spare => uptoBulkAll elems + uptoBulkAll spare + 1
  | .agg parts => uptoBulkAll parts + 1
  | .iface _ d => uptoBulk d + 1
  | .map entries => uptoBulkEntries entries + 1
  | .held _ => 1
def uptoBulkAll {H : Type} : List (DataW H) → Nat
  | [] => 0
  | d :: r => uptoBulk d + uptoBulkAll r
def uptoBulkEntries {H : Type} : List (Lit × DataW H) → Nat
  | [] => 0
  | x :: r => uptoBulkEntry x + uptoBulkEntries r
def uptoBulkEntry {H : Type} : Lit × DataW H → Nat
  | (.string bytes, d) => bytes.length + uptoBulk d + 1
  | (_, d) => uptoBulk d + 1
 end
def uptoSmall : (H : Type) → List (DataW H) → Bool := fun _ ds => decide (uptoBulkAll ds ≤ 1048576)
def OpenSpec.upto (s : _root_.Go.ChangeSpec) : _root_.Go.OpenSpec := { _root_.Go.OpenSpec.ofChange s with cond := some uptoSmall }

/-- 'threshinglaw30.OptionsOrder', WHERE WHAT IT READS IS OF BULK AT MOST 1048576: true; the input reads as it did. -/
def optionsOrderUptoRow : OpenClaim := { program := "ytmknpchmpgkdbaadoor", sum := "9cbc1dae71e9d1063ad008052c1304de43dfc33df9fca10d5e17705d1399e8af", func := "threshing/threshinglaw30.OptionsOrder", spec := "optionsOrder", inPlace := ["internal/bytealg.IndexByteString", "internal/bytealg.IndexString"], unfollowed := true, recurses := true, named := ["threshing/options.table", "internal/bytealg.MaxLen", "strconv.ErrSyntax", "strconv.ErrRange", "internal/strconv.uint64pow10", "math/bits.deBruijn32tab", "math/bits.deBruijn64tab"], apart := false, laid := [("math/bits.deBruijn32tab", laid_math_bits_deBruijn32tab), ("math/bits.deBruijn64tab", laid_math_bits_deBruijn64tab), ("internal/strconv.uint64pow10", laid_internal_strconv_uint64pow10), ("strconv.ErrRange", laid_strconv_ErrRange), ("strconv.ErrSyntax", laid_strconv_ErrSyntax), ("threshing/options.table", laid_threshing_options_table)], narrowed := true }
def OptionsOrderUptoSaid : Prop := optionsOrderUptoRow.holds Tryd.pinned (OpenSpec.upto optionsOrderSpec)

/-- 'threshinglaw30.OptionsBack', WHERE WHAT IT READS IS OF BULK AT MOST 1048576: true; the input reads as it did. -/
def optionsBackUptoRow : OpenClaim := { program := "ytmknpchmpgkdbaadoor", sum := "9cbc1dae71e9d1063ad008052c1304de43dfc33df9fca10d5e17705d1399e8af", func := "threshing/threshinglaw30.OptionsBack", spec := "optionsBack", inPlace := ["internal/bytealg.IndexByteString", "internal/bytealg.IndexString"], unfollowed := true, recurses := true, named := ["threshing/options.table", "internal/bytealg.MaxLen", "strconv.ErrSyntax", "strconv.ErrRange", "internal/strconv.uint64pow10", "math/bits.deBruijn32tab", "math/bits.deBruijn64tab"], apart := false, laid := [("math/bits.deBruijn32tab", laid_math_bits_deBruijn32tab), ("math/bits.deBruijn64tab", laid_math_bits_deBruijn64tab), ("internal/strconv.uint64pow10", laid_internal_strconv_uint64pow10), ("strconv.ErrRange", laid_strconv_ErrRange), ("strconv.ErrSyntax", laid_strconv_ErrSyntax), ("threshing/options.table", laid_threshing_options_table)], narrowed := true }
def OptionsBackUptoSaid : Prop := optionsBackUptoRow.holds Tryd.pinned (OpenSpec.upto optionsBackSpec)

/-- 'threshinglaw30.OptionsPlay', WHERE WHAT IT READS IS OF BULK AT MOST 1048576: true; the input reads as it did. -/
def optionsPlayUptoRow : OpenClaim := { program := "ytmknpchmpgkdbaadoor", sum := "9cbc1dae71e9d1063ad008052c1304de43dfc33df9fca10d5e17705d1399e8af", func := "threshing/threshinglaw30.OptionsPlay", spec := "optionsPlay", inPlace := ["internal/bytealg.IndexByteString", "internal/bytealg.IndexString"], unfollowed := true, recurses := true, named := ["threshing/options.table", "internal/bytealg.MaxLen", "strconv.ErrSyntax", "strconv.ErrRange", "internal/strconv.uint64pow10", "math/bits.deBruijn32tab", "math/bits.deBruijn64tab"], apart := false, laid := [("math/bits.deBruijn32tab", laid_math_bits_deBruijn32tab), ("math/bits.deBruijn64tab", laid_math_bits_deBruijn64tab), ("internal/strconv.uint64pow10", laid_internal_strconv_uint64pow10), ("strconv.ErrRange", laid_strconv_ErrRange), ("strconv.ErrSyntax", laid_strconv_ErrSyntax), ("threshing/options.table", laid_threshing_options_table)], narrowed := true }
def OptionsPlayUptoSaid : Prop := optionsPlayUptoRow.holds Tryd.pinned (OpenSpec.upto optionsPlaySpec)

/-- 'threshinglaw30.OptionsKnown', WHERE WHAT IT READS IS OF BULK AT MOST 1048576: true; the input reads as it did. -/
def optionsKnownUptoRow : OpenClaim := { program := "ytmknpchmpgkdbaadoor", sum := "9cbc1dae71e9d1063ad008052c1304de43dfc33df9fca10d5e17705d1399e8af", func := "threshing/threshinglaw30.OptionsKnown", spec := "optionsKnown", inPlace := ["internal/bytealg.IndexByteString", "internal/bytealg.IndexString"], unfollowed := true, recurses := true, named := ["threshing/options.table", "internal/bytealg.MaxLen", "strconv.ErrSyntax", "strconv.ErrRange", "internal/strconv.uint64pow10", "math/bits.deBruijn32tab", "math/bits.deBruijn64tab"], apart := false, laid := [("math/bits.deBruijn32tab", laid_math_bits_deBruijn32tab), ("math/bits.deBruijn64tab", laid_math_bits_deBruijn64tab), ("internal/strconv.uint64pow10", laid_internal_strconv_uint64pow10), ("strconv.ErrRange", laid_strconv_ErrRange), ("strconv.ErrSyntax", laid_strconv_ErrSyntax), ("threshing/options.table", laid_threshing_options_table)], narrowed := true }
def OptionsKnownUptoSaid : Prop := optionsKnownUptoRow.holds Tryd.pinned (OpenSpec.upto optionsKnownSpec)

end Rows
end Go.Proofs.YtmknpchmpgkdbaaDoor
