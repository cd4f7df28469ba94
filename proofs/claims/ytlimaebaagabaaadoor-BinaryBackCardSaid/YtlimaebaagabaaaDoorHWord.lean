import Derived.Test.YtlimaebaagabaaaDoorHSpend
import Derived.Lib.AppendIntMem
namespace Go.Proofs.YtlimaebaagabaaaDoor.PB
open Go.RowKit Go.Proofs.YtlimaebaagabaaaDoorW.PrintWords Go.Proofs.YtlimaebaagabaaaDoorW.PrintLast Go.Proofs.YtlimaebaagabaaaDoorW.PrintMore
set_option linter.unusedVariables false
set_option linter.unusedSimpArgs false
abbrev Pow10 (B : Nat) (w : World) : Prop := Lib.TabBelow Tryd.prog B w "internal/strconv.uint64pow10" .u64 Lib.pow10Tab
/-- FormatInt at base 10, with the frame. -/
theorem fi_calls (n : Int) (w : World) (h0 : -9223372036854775808 ≤ n) (h1 : n ≤ 9223372036854775807) {B : Nat} (htab : Pow10 B w) :
    Calls Tryd.prog 15 #[.int .i64 n, .int .i64 10] w fun e w' => e = .returned (.string ⟨(Lib.itoa n).toArray⟩) ∧ Below w.heap.size w w' := by
  refine (Tryd.strconv_FormatInt_10 n h0 h1 w htab.here).mono ?_
  rintro e w' ⟨he, k, os, rfl⟩
  exact ⟨he, Lib.below_grow _ w (Nat.le_refl _) k os⟩
set_option maxHeartbeats 1000000 in
set_option maxRecDepth 100000 in
theorem word_calls (base g : Nat) (bs : List Int) (n : Int) (w : World) (h : BD base g bs w) (h0 : -9223372036854775808 ≤ n) (h1 : n ≤ 9223372036854775807) (htab : Pow10 base w) (hl : bs.length + (1 + (Lib.itoa n).length) ≤ 140737488355328) (hi : (Lib.itoa n).length ≤ 1000) :
    Calls Tryd.prog 13 #[.int .i64 n, .pointer (some ⟨g, 0, none⟩)] w fun e w' => e = .returned (.tuple #[]) ∧ BD base g (bs ++ bytesOf (⟨#[32]⟩ ++ ⟨(Lib.itoa n).toArray⟩)) w' ∧ Below base w w' ∧ KT [51, 5] w w' := by
  have hlt : base ≤ w.heap.size := by obtain ⟨p, v, hg, _⟩ := h.ex; have := blk_lt hg; have := h.lt; omega
  have HH := Aside0.mk h
  have HL := Aside0.mk hl
  have HI := Aside0.mk hi
  have HLT := Aside0.mk hlt
  have HSZ := Aside0.mk (show (⟨(Lib.itoa n).toArray⟩ : ByteArray).size = (Lib.itoa n).length from rfl)
  clear h hl
  go_enter Tryd.func13, Tryd.ntmps13
  go_wp2_with (first | (go_at_call 15; refine (fi_calls n w h0 h1 htab).mono ?_; rintro e w1 ⟨rfl, hb⟩; have HB1 := Aside0.mk hb; have H1 := Aside0.mk (HH.out.below hb); have HK1 := Aside0.mk ((KT.refl [51, 5] w).below hb); clear hb) | (go_at_call 14; refine (ws_calls base g bs _ _ H1.out ?_).mono ?_; (rw [ByteArray.size_append, HSZ.out]; exact HL.out); rintro e w2 ⟨rfl, h2, hb, hk⟩; have H2 := Aside0.mk h2; have HB2 := Aside0.mk ((HB1.out.mono HLT.out).trans hb); have HK2 := Aside0.mk (HK1.out.trans hk); clear h2 hb hk))
  go_end0
  exact ⟨rfl, H2.out, HB2.out, HK2.out⟩
end Go.Proofs.YtlimaebaagabaaaDoor.PB
