import Derived.Test.YtfjnkbkcoakooaaDoorHLrat
namespace Go.Proofs.YtfjnkbkcoakooaaDoor.PB
open Go.RowKit Go.Proofs.YtfjnkbkcoakooaaDoorW.PrintWords Go.Proofs.YtfjnkbkcoakooaaDoorW.PrintLast Go.Proofs.YtfjnkbkcoakooaaDoorW.PrintMore
set_option linter.unusedVariables false
set_option linter.unusedSimpArgs false
/-! ### What the listed variables hold -/
structure LF (w : World) : Prop where
  tab : Lib.TabIs Tryd.prog w "internal/strconv.uint64pow10" .u64 Lib.pow10Tab
  m : ∃ m : Int, w.cell? ⟨1, 0, none⟩ = some (.int .i64 m)
  es : ∃ te pe, w.cell? ⟨4, 0, none⟩ = some (.iface te pe)
  er : ∃ te pe, w.cell? ⟨5, 0, none⟩ = some (.iface te pe)
/-- .. and go on holding whatever is done from block B on. -/
def LT (B : Nat) (w : World) : Prop := ∀ w', Below B w w' → LF w'
theorem LT.here {B : Nat} {w : World} (h : LT B w) : LF w := h w (Below.refl _ _)
theorem LT.on {B : Nat} {w w' : World} (h : LT B w) (hb : Below B w w') : LT B w' := fun w2 h2 => h w2 (hb.trans h2)
theorem LT.up {B B' : Nat} {w : World} (h : LT B w) (hb : B ≤ B') : LT B' w := fun w2 h2 => h w2 (h2.mono hb)
theorem LT.step {B : Nat} {w w' : World} (h : LT B w) (hb : Below w.heap.size w w') (hB : B ≤ w.heap.size) : LT B w' := h.on (hb.mono hB)
theorem LT.pow {B : Nat} {w : World} (h : LT B w) : Pow10 B w := fun w' hb => (h w' hb).tab
theorem LT.drewN {B : Nat} {w : World} (h : LT B w) (n : Nat) : LT B (w.drewN n) := fun w2 h2 => h w2 ⟨h2.os, h2.tape, h2.output, h2.size, h2.block⟩
theorem LT.drew {B : Nat} {w : World} (h : LT B w) : LT B w.drew := fun w2 h2 => h w2 ⟨h2.os, h2.tape, h2.output, h2.size, h2.block⟩
theorem LT.alloc {B : Nat} {w : World} (h : LT B w) (hB : B ≤ w.heap.size) (o : Obj) : LT B (w.alloc o) := h.on ((below_alloc (Below.refl _ _) o).mono hB)

/-! ### lrat.number -/
def Lnumber (s : ByteArray) : Int × Bool :=
  match Lib.parseIntB 64 s.data.toList with
  | .ok v => (v, decide (Lib.itoa v = s.data.toList))
  | .range => (Lib.intSat 64 s.data.toList, false)
  | _ => (0, false)
theorem bel_parse {w w' : World} (h : w' = w ∨ ∃ t, w' = Lib.bytesWorld w 5 t) : Below w.heap.size w w' := by
  rcases h with rfl | ⟨t, rfl⟩
  · exact Below.refl _ _
  · exact bytes_below (Below.refl _ _) (Nat.le_refl _) _ _
set_option maxHeartbeats 1000000 in
set_option maxRecDepth 100000 in
theorem number_calls (B : Nat) (s : ByteArray) (w : World) (hs : s.size ≤ 1000000) (hlt : LT B w) (hB : B ≤ w.heap.size) :
    Calls Tryd.prog 44 #[.string s] w fun e w' => e = .returned (.tuple #[.int .i64 (Lnumber s).1, .bool (Lnumber s).2]) ∧ Below w.heap.size w w' := by
  have HLT := Aside0.mk hlt
  clear hlt
  cases hp : Lib.parseIntB 64 s.data.toList
  · rename_i v
    have hv := Lib.parseIntB_bounds hp
    have hv0 : -9223372036854775808 ≤ v := by have := hv.1; omega
    have hv1 : v ≤ 9223372036854775807 := by have := hv.2; omega
    clear hv
    have hn := Aside0.mk (show Lnumber s = (v, decide (Lib.itoa v = s.data.toList)) by unfold Lnumber; rw [hp])
    have HP := Aside0.mk hp
    clear hp
    go_enter Tryd.func44, Tryd.ntmps44
    go_wp2_with (first | (go_at_call 60; refine (Tryd.strconv_ParseInt_10_at64_ok s (by omega) v HP.out w).mono ?_; rintro e w2 ⟨rfl, hb⟩; have HB2 := Aside0.mk (bel_parse hb); clear hb) | (go_at_call 22; refine (fi_calls v _ hv0 hv1 (HLT.out.step HB2.out hB).pow).mono ?_; rintro e w3 ⟨rfl, hb⟩; have HB3 := Aside0.mk (below_step HB2.out hb); clear hb))
    go_ret2
    refine ⟨?_, HB3.out⟩
    have he : (Lib.itoa v == s.toList) = decide (Lib.itoa v = s.data.toList) := by rw [Lib.toList_data, Bool.eq_iff_iff]; simp
    rw [hn.out, ← he]
    rfl
  · have hn := Aside0.mk (show Lnumber s = (0, false) by unfold Lnumber; rw [hp])
    have HP := Aside0.mk hp
    clear hp
    obtain ⟨te, pe, hE⟩ := HLT.out.here.es
    have HE := Aside0.mk hE
    clear hE
    go_enter Tryd.func44, Tryd.ntmps44
    go_wp2_with (first | (go_at_call 60; refine (Tryd.strconv_ParseInt_10_at64_syntax s (by omega) HP.out _ w HE.out (.inr ⟨te, pe, rfl⟩)).mono ?_; rintro e w2 ⟨N, rfl, _, _, hb⟩; have HB2 := Aside0.mk hb; clear hb))
    go_ret2
    exact ⟨by rw [hn.out]; rfl, HB2.out⟩
  · have hn := Aside0.mk (show Lnumber s = (Lib.intSat 64 s.data.toList, false) by unfold Lnumber; rw [hp])
    have HP := Aside0.mk hp
    clear hp
    obtain ⟨te, pe, hE⟩ := HLT.out.here.er
    have HE := Aside0.mk hE
    clear hE
    go_enter Tryd.func44, Tryd.ntmps44
    go_wp2_with (first | (go_at_call 60; refine (Tryd.strconv_ParseInt_10_at64_range s (by omega) HP.out _ w HE.out (.inr ⟨te, pe, rfl⟩)).mono ?_; rintro e w2 ⟨N, rfl, _, _, hb⟩; have HB2 := Aside0.mk hb; clear hb))
    go_ret2
    exact ⟨by rw [hn.out]; rfl, HB2.out⟩
end Go.Proofs.YtfjnkbkcoakooaaDoor.PB
