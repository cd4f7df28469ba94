import Derived.Test.YtmknpchmpgkdbaaDoorHOback
namespace Go.Proofs.YtmknpchmpgkdbaaDoor.PB
open Go.RowKit Go.Proofs.YtmknpchmpgkdbaaDoorW.PrintWords
theorem optionsBack_walk {w : World} (A0 : Option Addr) (c0 : Nat) (l0 : List S37) (hr0 : Kd.C k37 w A0 l0.length l0) (hc0 : l0.length ≤ c0) (hg : GoodOps l0) (b : ByteArray) (_ : b.size ≤ maxLen) (n : Int) (_ : (Lit.int .i64 n).wf = true) (w' : World) (hlt : LT w'.heap.size w') (hw : w' = w := by rfl) :
    Calls Tryd.prog 4 #[.slice A0 l0.length c0, .string b, .int .i64 n] w' fun e w'' => e = .returned (.bool true) ∧ Below w'.heap.size w' w'' := by
  subst hw
  exact back_calls A0 c0 l0 b n _ hr0 hc0 hg hlt
end Go.Proofs.YtmknpchmpgkdbaaDoor.PB
