import Derived.Test.YtmknpchmpgkdbaaDoorHOspec
import Derived.Outline
namespace Go.Proofs.YtmknpchmpgkdbaaDoor.PB
open Go.RowKit Go.Proofs.YtmknpchmpgkdbaaDoorW.PrintWords Go.Proofs.YtmknpchmpgkdbaaDoorW.PrintLast Go.Proofs.YtmknpchmpgkdbaaDoorW.PrintMore
set_option linter.unusedVariables false
set_option linter.unusedSimpArgs false
/-! ### What the listed variables hold -/
structure LF (w : World) : Prop where
  opts : ∃ t, w.heap[0]? = some (.cells tabCells t (0, 0))
  tab : Lib.TabIs Tryd.prog w "internal/strconv.uint64pow10" .u64 Lib.pow10Tab
  m : ∃ m : Int, w.cell? ⟨2, 0, none⟩ = some (.int .i64 m)
  es : ∃ te pe, w.cell? ⟨3, 0, none⟩ = some (.iface te pe)
  er : ∃ te pe, w.cell? ⟨4, 0, none⟩ = some (.iface te pe)
/-- .. and go on holding whatever is done from block B on. -/
def LT (B : Nat) (w : World) : Prop := ∀ w', Below B w w' → LF w'
theorem LT.here {B : Nat} {w : World} (h : LT B w) : LF w := h w (Below.refl _ _)
theorem LT.on {B : Nat} {w w' : World} (h : LT B w) (hb : Below B w w') : LT B w' := fun w2 h2 => h w2 (hb.trans h2)
theorem LT.up {B B' : Nat} {w : World} (h : LT B w) (hb : B ≤ B') : LT B' w := fun w2 h2 => h w2 (h2.mono hb)
theorem LT.step {B : Nat} {w w' : World} (h : LT B w) (hb : Below w.heap.size w w') (hB : B ≤ w.heap.size) : LT B w' := h.on (hb.mono hB)
theorem LT.pow {B : Nat} {w : World} (h : LT B w) : Lib.TabBelow Tryd.prog B w "internal/strconv.uint64pow10" .u64 Lib.pow10Tab := fun w' hb => (h w' hb).tab
theorem LT.drewN {B : Nat} {w : World} (h : LT B w) (n : Nat) : LT B (w.drewN n) := fun w2 h2 => h w2 ⟨h2.os, h2.tape, h2.output, h2.size, h2.block⟩
theorem LT.drew {B : Nat} {w : World} (h : LT B w) : LT B w.drew := fun w2 h2 => h w2 ⟨h2.os, h2.tape, h2.output, h2.size, h2.block⟩
theorem LT.alloc {B : Nat} {w : World} (h : LT B w) (hB : B ≤ w.heap.size) (o : Obj) : LT B (w.alloc o) := h.on ((below_alloc (Below.refl _ _) o).mono hB)
theorem LT.pay {w w' : World} (h : LT w.heap.size w) (hb : Below w.heap.size w w') : LT w'.heap.size w' := (h.on hb).up hb.size
/-- FormatInt at base 10, with the frame. -/
theorem fi_calls (n : Int) (w : World) (h0 : -9223372036854775808 ≤ n) (h1 : n ≤ 9223372036854775807) {B : Nat} (htab : Lib.TabBelow Tryd.prog B w "internal/strconv.uint64pow10" .u64 Lib.pow10Tab) :
    Calls Tryd.prog 23 #[.int .i64 n, .int .i64 10] w fun e w' => e = .returned (.string ⟨(Lib.itoa n).toArray⟩) ∧ Below w.heap.size w w' := by
  refine (Tryd.strconv_FormatInt_10 n h0 h1 w htab.here).mono ?_
  rintro e w' ⟨he, k, os, rfl⟩
  exact ⟨he, Lib.below_grow _ w (Nat.le_refl _) k os⟩
theorem bel_parse {w w' : World} (h : w' = w ∨ ∃ t, w' = Lib.bytesWorld w 5 t) : Below w.heap.size w w' := by
  rcases h with rfl | ⟨t, rfl⟩
  · exact Below.refl _ _
  · exact bytes_below (Below.refl _ _) (Nat.le_refl _) _ _
/-! ### options.find -/
theorem oFind_lt {s : List UInt8} {i : Nat} (h : oFindN s = some i) : i < 28 ∧ (oAt i).name = s ∧ ∀ j, j < i → ((oAt j).name == s) = false := by
  unfold oFindN at h
  rw [List.findIdx?_eq_some_iff_getElem] at h
  obtain ⟨h1, h2, h3⟩ := h
  refine ⟨h1, ?_, fun j hj => ?_⟩
  · have : oAt i = oTab[i] := by unfold oAt; rw [List.getD_eq_getElem?_getD, List.getElem?_eq_getElem h1]; rfl
    rw [this]
    exact eq_of_beq h2
  · have hj' : j < oTab.length := by omega
    have : oAt j = oTab[j] := by unfold oAt; rw [List.getD_eq_getElem?_getD, List.getElem?_eq_getElem hj']; rfl
    rw [this]
    have := h3 j hj
    simpa using this
theorem oFind_none {s : List UInt8} (h : oFindN s = none) : ∀ j, j < 28 → ((oAt j).name == s) = false := by
  unfold oFindN at h
  rw [List.findIdx?_eq_none_iff] at h
  intro j hj
  have hj' : j < oTab.length := hj
  have : oAt j = oTab[j] := by unfold oAt; rw [List.getD_eq_getElem?_getD, List.getElem?_eq_getElem hj']; rfl
  rw [this]
  exact h _ (List.getElem_mem hj')
theorem oFind_at {s : List UInt8} {k : Nat} (hk : k < 28) (h : ∀ i, i < k → ((oAt i).name == s) = false) (he : ((oAt k).name == s) = true) : oFind s = (k : Int) := by
  have : oFindN s = some k := by
    unfold oFindN
    rw [List.findIdx?_eq_some_iff_getElem]
    have hk' : k < oTab.length := hk
    refine ⟨hk', ?_, fun j hj => ?_⟩
    · have e : oAt k = oTab[k] := by unfold oAt; rw [List.getD_eq_getElem?_getD, List.getElem?_eq_getElem hk']; rfl
      rw [← e]; exact he
    · have hj' : j < oTab.length := by omega
      have e : oAt j = oTab[j] := by unfold oAt; rw [List.getD_eq_getElem?_getD, List.getElem?_eq_getElem hj']; rfl
      have := h j hj
      rw [e] at this
      simpa using this
  unfold oFind
  rw [this]
theorem oFind_past {s : List UInt8} (h : ∀ i, i < 28 → ((oAt i).name == s) = false) : oFind s = -1 := by
  have : oFindN s = none := by
    unfold oFindN
    rw [List.findIdx?_eq_none_iff]
    intro x hx
    obtain ⟨j, hj, rfl⟩ := List.mem_iff_getElem.1 hx
    have e : oAt j = oTab[j] := by unfold oAt; rw [List.getD_eq_getElem?_getD, List.getElem?_eq_getElem hj]; rfl
    rw [← e]
    exact h j hj
  unfold oFind
  rw [this]
theorem ld55 : (Tryd.prog.info? 55).map (·.size) = some tabCells.size := by rw [tabCells_size]; kernel_rfl
set_option maxHeartbeats 1000000 in
set_option maxRecDepth 100000 in
theorem find_calls (s : ByteArray) (w : World) (hlt : LT w.heap.size w) :
    Calls Tryd.prog 21 #[.string s] w fun e w' => e = .returned (.int .i64 (oFind s.data.toList)) ∧ Below w.heap.size w w' := by
  obtain ⟨tt, hO⟩ := hlt.here.opts
  have HO := Aside0.mk hO
  have HLT := Aside0.mk hlt
  clear hlt hO
  obtain ⟨f, hf⟩ : ∃ f, f = oFindN s.data.toList := ⟨_, rfl⟩
  have HF := Aside0.mk hf
  clear hf
  have hst : s.toList = s.data.toList := Lib.toList_data s
  have HST := Aside0.mk hst
  clear hst
  go_enter Tryd.func21, Tryd.ntmps21
  go_wp2_with (first | ((with_reducible refine gate_dst (N := 5) rfl ?_); refine wpList_load_row rfl 55 (.global 0) rfl 0 rfl tt tabCells (0, 0) _ HO.out Tryd.underlying55 rfl ld55 ?_))
  go_loopg [6] 28 (fun j v6 wr => ∃ k : Nat, v6 = .int .i64 (k : Int) ∧ k + j = 28 ∧ (∀ i, i < k → ((oAt i).name == s.data.toList) = false) ∧ Aside0 (Below w.heap.size w wr))
  case atStart => exact ⟨0, rfl, rfl, fun i h => absurd h (Nat.not_lt_zero i), ⟨Below.refl _ _⟩⟩
  case round =>
    obtain ⟨k, rfl, hkj, hno, HB⟩ := hrel
    have HNO := Aside0.mk hno
    clear hno
    by_cases hlt : k < 28
    · have hix := run_tab k hlt
      obtain ⟨e, he⟩ : ∃ e, e = oAt k := ⟨_, rfl⟩
      rw [← he] at hix
      have HE := Aside0.mk he
      clear he
      obtain ⟨nm, hnm⟩ : ∃ nm : ByteArray, nm = ⟨e.name.toArray⟩ := ⟨_, rfl⟩
      rw [← hnm] at hix
      have HNM := Aside0.mk (show nm.toList = e.name by rw [hnm, Lib.toList_data])
      clear hnm
      cases hq : (nm.toList == s.toList) with
      | true =>
        go_wp2_with (first | ((with_reducible refine gate_dst (N := 4) rfl ?_); refine box_event ?hg (N := 4) ?hd (cs := #[.string ⟨#[]⟩, .int .i64 0, .int .i64 0, .int .i64 0]) (t := 42) ?hr ?_; (case hd => rfl); (case hg => rfl); (case hr => first | (go_simp; done) | (go_simp; rfl)); intro gc hgb w3 hbox hb; have HX := Aside0.mk hbox; have HB3 := Aside0.mk (below_step HB.out hb); have HLC := Aside0.mk (show w.heap.size ≤ gc by rw [hgb]; exact HB.out.size); clear hbox hb hgb) | ((with_reducible refine gate_store (t := 42) (p := 4) rfl ?_); refine store_four 42 4 (.tmp 9) rfl rfl rfl (.string nm) (.int .i64 e.d) (.int .i64 e.lo) (.int .i64 e.hi) #[.string nm, .int .i64 e.d, .int .i64 e.lo, .int .i64 e.hi] rfl rfl HX.out sz42 (Nat.le_refl 4) rfl rfl rfl rfl rfl ?_; intro w4 hw4 hsb; have HX4 := Aside0.mk hw4; have HB4 := Aside0.mk (hsb.below HB3.out HLC.out); clear hw4 hsb; have hcz0 := (blk_cell HX4.out 0).trans (show _ = some (Value.string nm) from rfl)))
        go_ret
        have hnk : oAt k = e := HE.out.symm
        exact ⟨by rw [oFind_at hlt HNO.out (by rw [hnk, ← HNM.out, ← HST.out]; exact hq)]; rfl, HB4.out⟩
      | false =>
        go_wp2_with (first | ((with_reducible refine gate_dst (N := 4) rfl ?_); refine box_event ?hg (N := 4) ?hd (cs := #[.string ⟨#[]⟩, .int .i64 0, .int .i64 0, .int .i64 0]) (t := 42) ?hr ?_; (case hd => rfl); (case hg => rfl); (case hr => first | (go_simp; done) | (go_simp; rfl)); intro gc hgb w3 hbox hb; have HX := Aside0.mk hbox; have HB3 := Aside0.mk (below_step HB.out hb); have HLC := Aside0.mk (show w.heap.size ≤ gc by rw [hgb]; exact HB.out.size); clear hbox hb hgb) | ((with_reducible refine gate_store (t := 42) (p := 4) rfl ?_); refine store_four 42 4 (.tmp 9) rfl rfl rfl (.string nm) (.int .i64 e.d) (.int .i64 e.lo) (.int .i64 e.hi) #[.string nm, .int .i64 e.d, .int .i64 e.lo, .int .i64 e.hi] rfl rfl HX.out sz42 (Nat.le_refl 4) rfl rfl rfl rfl rfl ?_; intro w4 hw4 hsb; have HX4 := Aside0.mk hw4; have HB4 := Aside0.mk (hsb.below HB3.out HLC.out); clear hw4 hsb; have hcz0 := (blk_cell HX4.out 0).trans (show _ = some (Value.string nm) from rfl)))
        have hnk : oAt k = e := HE.out.symm
        go_roundg (gk - 1)
        case rel => exact ⟨k + 1, by go_num, by omega, fun i hi => (by
          rcases Nat.lt_succ_iff_lt_or_eq.1 hi with h | rfl
          · exact HNO.out i h
          · rw [hnk, ← HNM.out, ← HST.out]; exact hq), HB4⟩
        case measure => omega
    · obtain rfl : k = 28 := by omega
      go_wp2
      go_ret
      exact ⟨by rw [oFind_past HNO.out]; rfl, HB.out⟩
end Go.Proofs.YtmknpchmpgkdbaaDoor.PB
