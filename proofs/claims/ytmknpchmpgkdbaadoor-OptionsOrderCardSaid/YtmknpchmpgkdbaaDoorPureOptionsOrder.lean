import Derived.Test.YtmknpchmpgkdbaaDoorHOorder
namespace Go.Proofs.YtmknpchmpgkdbaaDoor.PB
open Go.RowKit Go.Proofs.YtmknpchmpgkdbaaDoorW.PrintWords
theorem optionsOrder_walk (a : ByteArray) (_ : a.size ≤ maxLen) (b : ByteArray) (_ : b.size ≤ maxLen) (m : Int) (_ : (Lit.int .i64 m).wf = true) (n : Int) (_ : (Lit.int .i64 n).wf = true) (w : World) (hlt : LT w.heap.size w) :
    Calls Tryd.prog 3 #[.string a, .string b, .int .i64 m, .int .i64 n] w fun e w' => e = .returned (.bool true) ∧ Below w.heap.size w w' := order_calls a b m n w hlt
end Go.Proofs.YtmknpchmpgkdbaaDoor.PB
