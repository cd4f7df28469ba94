import Derived.Test.YtfjnkbkcoakooaaDoorHSpend
import Derived.Lib.AppendIntMem
import Derived.Lib.ItoaLen
section
namespace Go.Proofs.YtfjnkbkcoakooaaDoor.PB
open Go.RowKit Go.Proofs.YtfjnkbkcoakooaaDoorW.PrintWords Go.Proofs.YtfjnkbkcoakooaaDoorW.PrintLast Go.Proofs.YtfjnkbkcoakooaaDoorW.PrintMore
set_option linter.unusedVariables false
set_option linter.unusedSimpArgs false
abbrev Pow10 (B : Nat) (w : World) : Prop := Lib.TabBelow Tryd.prog B w "internal/strconv.uint64pow10" .u64 Lib.pow10Tab
/-- FormatInt at base 10, with the frame. -/
theorem fi_calls (n : Int) (w : World) (h0 : -9223372036854775808 ≤ n) (h1 : n ≤ 9223372036854775807) {B : Nat} (htab : Pow10 B w) :
    Calls Tryd.prog 22 #[.int .i64 n, .int .i64 10] w fun e w' => e = .returned (.string ⟨(Lib.itoa n).toArray⟩) ∧ Below w.heap.size w w' := by
  refine (Tryd.strconv_FormatInt_10 n h0 h1 w htab.here).mono ?_
  rintro e w' ⟨he, k, os, rfl⟩
  exact ⟨he, Lib.below_grow _ w (Nat.le_refl _) k os⟩
set_option maxHeartbeats 1000000 in
set_option maxRecDepth 100000 in
theorem word_calls (base g : Nat) (bs : List Int) (n : Int) (w : World) (h : BD base g bs w) (h0 : -9223372036854775808 ≤ n) (h1 : n ≤ 9223372036854775807) (htab : Pow10 base w) (hl : bs.length + (1 + (Lib.itoa n).length) ≤ 140737488355328) (hi : (Lib.itoa n).length ≤ 1000) :
    Calls Tryd.prog 20 #[.int .i64 n, .pointer (some ⟨g, 0, none⟩)] w fun e w' => e = .returned (.tuple #[]) ∧ BD base g (bs ++ bytesOf (⟨#[32]⟩ ++ ⟨(Lib.itoa n).toArray⟩)) w' ∧ Below base w w' ∧ KT [53, 5] w w' := by
  have hlt : base ≤ w.heap.size := by obtain ⟨p, v, hg, _⟩ := h.ex; have := blk_lt hg; have := h.lt; omega
  have HH := Aside0.mk h
  have HL := Aside0.mk hl
  have HI := Aside0.mk hi
  have HLT := Aside0.mk hlt
  have HSZ := Aside0.mk (show (⟨(Lib.itoa n).toArray⟩ : ByteArray).size = (Lib.itoa n).length from rfl)
  clear h hl
  go_enter Tryd.func20, Tryd.ntmps20
  go_wp2_with (first | (go_at_call 22; refine (fi_calls n w h0 h1 htab).mono ?_; rintro e w1 ⟨rfl, hb⟩; have HB1 := Aside0.mk hb; have H1 := Aside0.mk (HH.out.below hb); have HK1 := Aside0.mk ((KT.refl [53, 5] w).below hb); clear hb) | (go_at_call 21; refine (ws_calls base g bs _ _ H1.out ?_).mono ?_; (rw [ByteArray.size_append, HSZ.out]; exact HL.out); rintro e w2 ⟨rfl, h2, hb, hk⟩; have H2 := Aside0.mk h2; have HB2 := Aside0.mk ((HB1.out.mono HLT.out).trans hb); have HK2 := Aside0.mk (HK1.out.trans hk); clear h2 hb hk))
  go_end0
  exact ⟨rfl, H2.out, HB2.out, HK2.out⟩
end Go.Proofs.YtfjnkbkcoakooaaDoor.PB
end

section
namespace Go.Proofs.YtfjnkbkcoakooaaDoor.PB
open Go.RowKit Go.Proofs.YtfjnkbkcoakooaaDoorW.PrintWords Go.Proofs.YtfjnkbkcoakooaaDoorW.PrintLast Go.Proofs.YtfjnkbkcoakooaaDoorW.PrintMore
set_option linter.unusedVariables false
set_option linter.unusedSimpArgs false
/-! ### Proofs' texts, as bytes -/
theorem bytesOf_append (a b : ByteArray) : bytesOf (a ++ b) = bytesOf a ++ bytesOf b := by
  simp [bytesOf]
def Lnum (n : Int) : List Int := bytesOf ⟨(Lib.itoa n).toArray⟩
def Lword (n : Int) : List Int := bytesOf (⟨#[32]⟩ ++ ⟨(Lib.itoa n).toArray⟩)
def Lwords (l : List Int) : List Int := l.flatMap Lword
def Lhead (s : S43) : List Int := Lnum s.f1 ++ if s.f0 = 2 then [32, 100] else []
def Lmid (s : S43) : List Int := Lhead s ++ (Lwords s.f2 ++ if s.f0 = 1 then Lword 0 else [])
def Lline (s : S43) : List Int := Lmid s ++ (Lwords s.f3 ++ [32, 48, 10])
def Llines (l : List S43) : List Int := l.flatMap Lline
theorem Lword_eq (n : Int) : Lword n = 32 :: Lnum n := by
  unfold Lword Lnum
  rw [bytesOf_append]
  rfl
theorem Lnum_length (n : Int) (h : -9223372036854775808 ≤ n ∧ n ≤ 9223372036854775807) : (Lnum n).length ≤ 21 := by
  unfold Lnum
  rw [bytesOf_length]
  exact Lib.itoa_length_le n h.1 h.2
theorem Lword_length (n : Int) (h : -9223372036854775808 ≤ n ∧ n ≤ 9223372036854775807) : (Lword n).length ≤ 22 := by
  rw [Lword_eq]
  have := Lnum_length n h
  simp only [List.length_cons]
  omega
theorem Lwords_length (l : List Int) (h : ∀ n ∈ l, -9223372036854775808 ≤ n ∧ n ≤ 9223372036854775807) : (Lwords l).length ≤ 22 * l.length := by
  induction l with
  | nil => simp [Lwords]
  | cons x l ih =>
    have h1 := Lword_length x (h x List.mem_cons_self)
    have h2 := ih (fun n hn => h n (List.mem_cons_of_mem _ hn))
    unfold Lwords at h2 ⊢
    simp only [List.flatMap_cons, List.length_append, List.length_cons]
    omega
/-- What may be is within an int64. -/
structure Lfit (s : S43) : Prop where
  k : s.f0 = 1 ∨ s.f0 = 2
  id : -9223372036854775808 ≤ s.f1 ∧ s.f1 ≤ 9223372036854775807
  lits : ∀ n ∈ s.f2, -1048576 ≤ n ∧ n ≤ 1048576
  hints : ∀ n ∈ s.f3, -9223372036854775808 ≤ n ∧ n ≤ 9223372036854775807
theorem Lfit_of (s : S43) (h : Bmay s = true) : Lfit s := by
  unfold Bmay at h
  simp only [Bool.and_eq_true, Bool.or_eq_true, decide_eq_true_eq, List.all_eq_true, Bool.not_eq_true', decide_eq_false_iff_not] at h
  obtain ⟨⟨⟨h1, h2⟩, h3⟩, h4⟩ := h
  refine ⟨?_, ⟨?_, by omega⟩, fun x hx => ?_, fun x hx => ?_⟩
  · omega
  · omega
  · have := h3 x hx; omega
  · have := h4 x hx; omega
theorem Lfit.lits' {s : S43} (h : Lfit s) : ∀ n ∈ s.f2, -9223372036854775808 ≤ n ∧ n ≤ 9223372036854775807 := fun n hn => by have := h.lits n hn; omega
theorem Lhead_length (s : S43) (h : Lfit s) : (Lhead s).length ≤ 23 := by
  unfold Lhead
  have h1 := Lnum_length s.f1 h.id
  split <;> simp <;> omega
theorem Lmid_length (s : S43) (h : Lfit s) : (Lmid s).length ≤ 45 + 22 * s.f2.length := by
  unfold Lmid
  have h1 := Lhead_length s h
  have h2 := Lwords_length s.f2 h.lits'
  have h3 := Lword_length 0 (by omega)
  split <;> simp <;> omega
theorem Lline_length (s : S43) (h : Lfit s) : (Lline s).length ≤ 48 + 22 * (s.f2.length + s.f3.length) := by
  unfold Lline
  have h1 := Lmid_length s h
  have h2 := Lwords_length s.f3 h.hints
  simp
  omega
theorem Llines_length (l : List S43) (h : l.all Bmay = true) : (Llines l).length ≤ 48 * (l.length + Btot l) := by
  induction l with
  | nil => simp [Llines]
  | cons s l ih =>
    rw [List.all_cons, Bool.and_eq_true] at h
    have h1 := Lline_length s (Lfit_of s h.1)
    have h2 := ih h.2
    unfold Llines at h2 ⊢
    simp only [List.flatMap_cons, List.length_append, List.length_cons, Btot]
    omega
theorem Llines_snoc (l : List S43) (s : S43) : Llines (l ++ [s]) = Llines l ++ Lline s := by simp [Llines]
theorem Lwords_snoc (l : List Int) (n : Int) : Lwords (l ++ [n]) = Lwords l ++ Lword n := by simp [Lwords]
/-- Of few steps (at most 6000 with their literals and hints): the text, the error. -/
def Lwrite (l : List S43) : List Int × Int := if l.all Bmay then (Llines l, 0) else ([], 40)
theorem bytes_back (l : List Int) (t : ByteArray) (h : bytesOf t = l) : Lib.byteCells t.data.toList = l.map (Value.int .u8) := by
  rw [← h]
  unfold bytesOf Lib.byteCells
  rw [List.map_map]
  rfl
end Go.Proofs.YtfjnkbkcoakooaaDoor.PB
end
