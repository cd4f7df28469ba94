import Derived.Test.YtmknpchmpgkdbaaDoorHOnew
import Derived.Outline
import Derived.Test.YtmknpchmpgkdbaaDoorFOptionsOptionWithin
import Derived.Deep.RegionHeld3
namespace Go.Proofs.YtmknpchmpgkdbaaDoor.PB
open Go.RowKit Go.Proofs.YtmknpchmpgkdbaaDoorW.PrintWords Go.Proofs.YtmknpchmpgkdbaaDoorW.PrintLast Go.Proofs.YtmknpchmpgkdbaaDoorW.PrintMore
set_option linter.unusedVariables false
set_option linter.unusedSimpArgs false
/-! ### Set, Get -/
/-- Nothing but block g of what was there has been written. -/
structure GB (g : Nat) (w w' : World) : Prop where
  os : w'.os = w.os
  tape : w'.tape = w.tape
  output : w'.output = w.output
  size : w.heap.size ≤ w'.heap.size
  blk : ∀ q, q < w.heap.size → q ≠ g → w'.heap[q]? = w.heap[q]?
theorem GB.refl (g : Nat) (w : World) : GB g w w := ⟨rfl, rfl, rfl, Nat.le_refl _, fun _ _ _ => rfl⟩
theorem GB.of {g : Nat} {w w' : World} (h : Below w.heap.size w w') : GB g w w' := ⟨h.os, h.tape, h.output, h.size, fun q hq _ => h.block q hq⟩
theorem GB.trans {g : Nat} {a b c : World} (h : GB g a b) (k : GB g b c) : GB g a c :=
  ⟨k.os.trans h.os, k.tape.trans h.tape, k.output.trans h.output, Nat.le_trans h.size k.size, fun q hq hne => (k.blk q (Nat.lt_of_lt_of_le hq h.size) hne).trans (h.blk q hq hne)⟩
theorem GB.below {g B : Nat} {w w' : World} (h : GB g w w') (hB : B ≤ g) (hw : B ≤ w.heap.size) : Below B w w' := ⟨h.os, h.tape, h.output, h.size, fun q hq => h.blk q (by omega) (by omega)⟩
theorem GB.other {g g' : Nat} {w w' : World} {xs : List Int} (h : GB g w w') (hO : OB w g' xs) (hne : g' ≠ g) : OB w' g' xs := ⟨(h.blk g' (blk_lt hO.blk) hne).trans hO.blk, hO.len⟩
theorem GB.drew {g : Nat} {w w' : World} (h : GB g w w') : GB g w w'.drew := ⟨h.os, h.tape, h.output, h.size, h.blk⟩
theorem GB.drewN {g : Nat} {w w' : World} (h : GB g w w') (n : Nat) : GB g w (w'.drewN n) := ⟨h.os, h.tape, h.output, h.size, h.blk⟩
theorem GB.set {g : Nat} {w w' : World} (h : GB g w w') (k : Nat) (v : Value) : GB g w (w'.setCell ⟨g, k, none⟩ v) :=
  ⟨h.os, h.tape, h.output, by simpa [World.setCell] using h.size, fun q hq hne => (Below.heap_setCell w' ⟨g, k, none⟩ v q hne).trans (h.blk q hq hne)⟩
theorem tab_cell {w : World} {tt : TypeId} (h : w.heap[0]? = some (.cells tabCells tt (0, 0))) (k : Nat) (hk : k < 28) (j : Nat) (hj : j < 4) : w.cell? ⟨0, k * 4 + j, none⟩ = (oVals (oAt k))[j]? := by
  rw [blk_cell h (k * 4 + j)]
  have e := congrArg (fun a : Array Value => a[j]?) (tab_at k hk)
  simp only [Array.getElem?_extract] at e
  rw [if_pos (by rw [tabCells_size]; omega)] at e
  rw [e]
  simp
theorem cell_put {w : World} {g k j : Nat} {v u : Value} (hne : g ≠ 0) (h : w.cell? ⟨0, j, none⟩ = some u) : (w.setCell ⟨g, k, none⟩ v).cell? ⟨0, j, none⟩ = some u :=
  (World.cell?_of_block (Below.heap_setCell w ⟨g, k, none⟩ v 0 (Ne.symm hne))).trans h
theorem OB.ne0 {w : World} {g : Nat} {xs : List Int} {tt : TypeId} (h : OB w g xs) (ht : w.heap[0]? = some (.cells tabCells tt (0, 0))) : g ≠ 0 := by
  intro e
  subst e
  have h1 := h.blk
  rw [ht] at h1
  injection h1 with h1
  injection h1 with h1 _ _
  have h2 := congrArg Array.size h1
  rw [tabCells_size] at h2
  simp [h.len] at h2
theorem oFind_of_none {s : List UInt8} (h : oFindN s = none) : oFind s = -1 := by unfold oFind; rw [h]
theorem oFind_of_some {s : List UInt8} {k : Nat} (h : oFindN s = some k) : oFind s = (k : Int) := by unfold oFind; rw [h]
theorem mnmx (e : OE) (n : Int) : mn (mx n e.lo) e.hi = oClamp e n := by
  unfold mn mx oClamp
  split <;> split <;> omega
theorem within_calls (e : OE) (nm : ByteArray) (n : Int) (w : World) :
    Calls Tryd.prog 22 #[.agg #[.string nm, .int .i64 e.d, .int .i64 e.lo, .int .i64 e.hi], .int .i64 n] w fun r w' => r = .returned (.int .i64 (oClamp e n)) ∧ Below w.heap.size w w' :=
  options_Option_within.calls nm e.d e.lo e.hi n (oClamp e n) w (by unfold options_Option_within.f; rw [mnmx])
theorem ld54' : (Tryd.prog.info? 54).map (·.size) = some 28 := by kernel_rfl
theorem ld54 {xs : List Int} (h : xs.length = 28) : (Tryd.prog.info? 54).map (·.size) = some (xs.map (Value.int .i64)).toArray.size := by
  have e : (xs.map (Value.int .i64)).toArray.size = 28 := by simp [h]
  rw [e]
  exact ld54'
set_option maxHeartbeats 1000000 in
set_option maxRecDepth 100000 in
theorem set_calls (g : Nat) (xs : List Int) (s : ByteArray) (n : Int) (w : World) {B : Nat} (hlt : LT B w) (hB : B ≤ g) (hO : OB w g xs) :
    Calls Tryd.prog 9 #[.pointer (some ⟨g, 0, none⟩), .string s, .int .i64 n] w fun e w' => e = .returned (.tuple #[.int .i64 (oSet xs s.data.toList n).2.1, .int .i64 (oSet xs s.data.toList n).2.2]) ∧ OB w' g (oSet xs s.data.toList n).1 ∧ GB g w w' := by
  have hgw : g < w.heap.size := blk_lt hO.blk
  have HLT := Aside0.mk (hlt.up (Nat.le_trans hB (Nat.le_of_lt hgw)))
  have HO := Aside0.mk hO
  clear hlt hO
  cases hf : oFindN s.data.toList with
  | none =>
    have hr := Aside0.mk (show oSet xs s.data.toList n = (xs, 0, 5) by unfold oSet; rw [hf])
    have hfi := Aside0.mk (oFind_of_none hf)
    clear hf
    go_enter Tryd.func9, Tryd.ntmps9
    go_wp2_with (go_at_call 21; refine (find_calls s w HLT.out).mono ?_; rw [hfi.out]; rintro e w2 ⟨rfl, hb⟩; have HB2 := Aside0.mk hb; clear hb)
    go_ret2
    exact ⟨by rw [hr.out]; rfl, by rw [hr.out]; exact HO.out.below (B := 0) HB2.out, GB.of HB2.out⟩
  | some k =>
    have hk : k < 28 := (oFind_lt hf).1
    have hfi := Aside0.mk (oFind_of_some hf)
    obtain ⟨e, he⟩ : ∃ e, e = oAt k := ⟨_, rfl⟩
    have hr := Aside0.mk (show oSet xs s.data.toList n = (xs.set k (oClamp e n), oClamp e n, 0) by unfold oSet; rw [hf, he])
    have HE := Aside0.mk he
    clear hf he
    obtain ⟨nm, hnm⟩ : ∃ nm : ByteArray, nm = ⟨e.name.toArray⟩ := ⟨_, rfl⟩
    have HNM := Aside0.mk hnm
    clear hnm
    have hk0 : (0 : Int) ≤ (k : Int) := by omega
    have hk28 : (k : Int) < 28 := by omega
    go_enter Tryd.func9, Tryd.ntmps9
    go_upto_region 6 with (go_at_call 21; refine (find_calls s w HLT.out).mono ?_; rw [hfi.out]; rintro e1 w2 ⟨rfl, hb⟩; have HB2 := Aside0.mk hb; clear hb; have HO2 := Aside0.mk (HO.out.below (B := 0) HB2.out); obtain ⟨tt, ht⟩ := (HLT.out.on HB2.out).here.opts; have HT := Aside0.mk ht; clear ht)
    have hne := HO2.out.ne0 HT.out
    have hc0 : w2.cell? ⟨0, k * 4, none⟩ = some (.string nm) := by rw [HNM.out, HE.out]; exact tab_cell HT.out k hk 0 (by omega)
    have hc1 : w2.cell? ⟨0, k * 4 + 1, none⟩ = some (.int .i64 e.d) := by rw [HE.out]; exact tab_cell HT.out k hk 1 (by omega)
    have hc2 : w2.cell? ⟨0, k * 4 + 2, none⟩ = some (.int .i64 e.lo) := by rw [HE.out]; exact tab_cell HT.out k hk 2 (by omega)
    have hc3 : w2.cell? ⟨0, k * 4 + 3, none⟩ = some (.int .i64 e.hi) := by rw [HE.out]; exact tab_cell HT.out k hk 3 (by omega)
    go_region_held3 (fun w' => w'.cell? ⟨0, k * 4, none⟩ = some (.string nm) ∧ w'.cell? ⟨0, k * 4 + 1, none⟩ = some (.int .i64 e.d) ∧ w'.cell? ⟨0, k * 4 + 2, none⟩ = some (.int .i64 e.lo) ∧ w'.cell? ⟨0, k * 4 + 3, none⟩ = some (.int .i64 e.hi)) (first | go_keep | exact ⟨hc0, hc1, hc2, hc3⟩ | exact ⟨hd0, hd1, hd2, hd3⟩ | exact ⟨cell_put hne hd0, cell_put hne hd1, cell_put hne hd2, cell_put hne hd3⟩ | (trace_state; fail)) (first | (go_at_call 22; refine (within_calls e nm n _).mono ?_; rintro e2 w5 ⟨rfl, hb⟩; have HB5 := Aside0.mk (show Below w2.heap.size w2 w5 from ⟨hb.os, hb.tape, hb.output, hb.size, hb.block⟩); clear hb; have hd0 : w5.cell? ⟨0, k * 4, none⟩ = some (.string nm) := (HB5.out.cell (World.block_lt_of_cell? _ _ hc0)).trans hc0; have hd1 : w5.cell? ⟨0, k * 4 + 1, none⟩ = some (.int .i64 e.d) := (HB5.out.cell (World.block_lt_of_cell? _ _ hc1)).trans hc1; have hd2 : w5.cell? ⟨0, k * 4 + 2, none⟩ = some (.int .i64 e.lo) := (HB5.out.cell (World.block_lt_of_cell? _ _ hc2)).trans hc2; have hd3 : w5.cell? ⟨0, k * 4 + 3, none⟩ = some (.int .i64 e.hi) := (HB5.out.cell (World.block_lt_of_cell? _ _ hc3)).trans hc3; have HO5 := Aside0.mk (HO2.out.below (B := 0) HB5.out); have hk5 := HO5.out.cell k hk; have hf5 := HO5.out.frozen k))
    have hx : (0 : Int) ≤ k := by omega
    go_wp2
    go_ret2
    refine ⟨by rw [hr.out]; rfl, by rw [hr.out]; exact OB.set HO5.out k _, ?_⟩
    exact ((GB.of HB2.out).trans (GB.of HB5.out)).set k _
set_option maxHeartbeats 1000000 in
set_option maxRecDepth 100000 in
theorem get_calls (g : Nat) (xs : List Int) (s : ByteArray) (w : World) {B : Nat} (hlt : LT B w) (hB : B ≤ g) (hO : OB w g xs) :
    Calls Tryd.prog 12 #[.pointer (some ⟨g, 0, none⟩), .string s] w fun e w' => e = .returned (.tuple #[.int .i64 (oGet xs s.data.toList).1, .bool (oGet xs s.data.toList).2]) ∧ Below w.heap.size w w' := by
  have hgw : g < w.heap.size := blk_lt hO.blk
  have HLT := Aside0.mk (hlt.up (Nat.le_trans hB (Nat.le_of_lt hgw)))
  have HO := Aside0.mk hO
  clear hlt hO
  cases hf : oFindN s.data.toList with
  | none =>
    have hr := Aside0.mk (show oGet xs s.data.toList = (0, false) by unfold oGet; rw [hf])
    have hfi := Aside0.mk (oFind_of_none hf)
    clear hf
    go_enter Tryd.func12, Tryd.ntmps12
    go_wp2_with (go_at_call 21; refine (find_calls s w HLT.out).mono ?_; rw [hfi.out]; rintro e w2 ⟨rfl, hb⟩; have HB2 := Aside0.mk hb; clear hb)
    go_ret2
    exact ⟨by rw [hr.out]; rfl, HB2.out⟩
  | some k =>
    have hk : k < 28 := (oFind_lt hf).1
    have hfi := Aside0.mk (oFind_of_some hf)
    have hr := Aside0.mk (show oGet xs s.data.toList = (xs.getD k 0, true) by unfold oGet; rw [hf])
    clear hf
    have hk0 : (0 : Int) ≤ (k : Int) := by omega
    have hk28 : (k : Int) < 28 := by omega
    have hkn : decide ((k : Int) < 0) = false := decide_eq_false (by omega)
    go_enter Tryd.func12, Tryd.ntmps12
    go_wp2_with (go_at_call 21; refine (find_calls s w HLT.out).mono ?_; rw [hfi.out]; rintro e w2 ⟨rfl, hb⟩; have HB2 := Aside0.mk hb; clear hb; have hck := (HO.out.below (B := 0) HB2.out).cell k hk)
    go_ret2
    exact ⟨by rw [hr.out]; rfl, HB2.out⟩
/-! ### Table, Copy -/
theorem setSeg_list : ∀ (seg pre rest : List Value), rest.length = seg.length → setSeg (pre ++ rest).toArray pre.length seg = (pre ++ seg).toArray := by
  intro seg
  induction seg with
  | nil =>
    intro pre rest h
    have : rest = [] := List.length_eq_zero_iff.1 h
    subst this
    rfl
  | cons v r ih =>
    intro pre rest h
    cases rest with
    | nil => cases h
    | cons u rest =>
      have e : (pre ++ u :: rest).toArray.setIfInBounds pre.length v = ((pre ++ [v]) ++ rest).toArray := by
        rw [List.setIfInBounds_toArray]
        simp
      rw [setSeg, e]
      have := ih (pre ++ [v]) rest (by simpa using h)
      rw [List.length_append] at this
      simpa using this
theorem setSeg_all (seg : List Value) (cur : Array Value) (h : cur.size = seg.length) : setSeg cur 0 seg = seg.toArray := by
  have := setSeg_list seg [] cur.toList (by simpa using h)
  simpa using this
set_option maxHeartbeats 1000000 in
set_option maxRecDepth 100000 in
theorem copy_calls (g : Nat) (xs : List Int) (w : World) (hO : OB w g xs) :
    Calls Tryd.prog 17 #[.pointer (some ⟨g, 0, none⟩)] w fun e w' => ∃ g', e = .returned (.pointer (some ⟨g', 0, none⟩)) ∧ w.heap.size ≤ g' ∧ OB w' g' xs ∧ Below w.heap.size w w' := by
  have HO := Aside0.mk hO
  clear hO
  go_enter Tryd.func17, Tryd.ntmps17
  go_wp2_with (first | ((with_reducible refine gate_dst (N := 3) rfl ?_); refine box_event ?hg (N := 3) ?hd (cs := ((List.replicate 28 (0 : Int)).map (Value.int .i64)).toArray) (t := 54) ?hr ?_; (case hd => rfl); (case hg => rfl); (case hr => first | (go_simp; done) | (go_simp; rfl)); intro g1 hgb w1 hbox hb; have HG1 := Aside0.mk hbox; have HB1 := Aside0.mk hb; have HL1 := Aside0.mk (show w.heap.size ≤ g1 by rw [hgb]; exact Nat.le_refl _); clear hbox hb hgb) | ((with_reducible refine gate_dst (N := 8) rfl ?_); refine wpList_load_row rfl 54 (.tmp 7) rfl g rfl 54 (xs.map (Value.int .i64)).toArray (0, 0) _ HO.out.blk Tryd.underlying54 rfl (ld54 HO.out.len) ?_) | ((with_reducible refine gate_store (t := 54) (p := 3) rfl ?_); refine store_block 54 3 (.tmp 8) rfl rfl rfl (.agg (xs.map (Value.int .i64)).toArray) (xs.map (Value.int .i64)) (xs.map (Value.int .i64)).toArray rfl rfl HG1.out rfl (by rw [ld54', List.length_map, HO.out.len]) (by simp [HO.out.len]) (by intro q hq; obtain ⟨z, _, rfl⟩ := List.mem_map.1 hq; rfl) (setSeg_all _ _ (by simp [HO.out.len])) ?_; intro w2 hw2 hsb; have HG2 := Aside0.mk (show OB w2 g1 xs from ⟨hw2, HO.out.len⟩); have HB2 := Aside0.mk (hsb.below HB1.out HL1.out); clear hw2 hsb))
  go_ret
  exact ⟨g1, rfl, HL1.out, HG2.out, HB2.out⟩
end Go.Proofs.YtmknpchmpgkdbaaDoor.PB
