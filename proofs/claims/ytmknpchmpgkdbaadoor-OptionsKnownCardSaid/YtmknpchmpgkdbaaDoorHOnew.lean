import Derived.Test.YtmknpchmpgkdbaaDoorHOfind
import Derived.Outline
import Derived.StillTailTactics
namespace Go.Proofs.YtmknpchmpgkdbaaDoor.PB
open Go.RowKit Go.Proofs.YtmknpchmpgkdbaaDoorW.PrintWords Go.Proofs.YtmknpchmpgkdbaaDoorW.PrintLast Go.Proofs.YtmknpchmpgkdbaaDoorW.PrintMore
set_option linter.unusedVariables false
set_option linter.unusedSimpArgs false
/-! ### The options' block; options.New -/
structure OB (w : World) (g : Nat) (xs : List Int) : Prop where
  blk : w.heap[g]? = some (.cells (xs.map (Value.int .i64)).toArray 54 (0, 0))
  len : xs.length = 28
theorem OB.cell {w : World} {g : Nat} {xs : List Int} (h : OB w g xs) (k : Nat) (hk : k < 28) : w.cell? ⟨g, k, none⟩ = some (.int .i64 (xs.getD k 0)) := by
  rw [blk_cell h.blk k]
  have : k < xs.length := by rw [h.len]; exact hk
  simp [List.getElem?_eq_getElem this]
theorem OB.frozen {w : World} {g : Nat} {xs : List Int} (h : OB w g xs) (k : Nat) : w.frozen? ⟨g, k, none⟩ = false := blk_frozen h.blk k
theorem OB.set {w : World} {g : Nat} {xs : List Int} (h : OB w g xs) (k : Nat) (n : Int) : OB (w.setCell ⟨g, k, none⟩ (.int .i64 n)) g (xs.set k n) :=
  ⟨by rw [blk_set h.blk k (.int .i64 n)]; simp [List.map_set], by rw [List.length_set]; exact h.len⟩
theorem OB.below {B : Nat} {w w' : World} {g : Nat} {xs : List Int} (h : OB w g xs) (hb : Below w.heap.size w w') : OB w' g xs := ⟨blk_below h.blk hb, h.len⟩
theorem OB.drew {w : World} {g : Nat} {xs : List Int} (h : OB w g xs) : OB w.drew g xs := ⟨h.blk, h.len⟩
theorem OB.drewN {w : World} {g : Nat} {xs : List Int} (h : OB w g xs) (n : Nat) : OB (w.drewN n) g xs := ⟨h.blk, h.len⟩
theorem OB.same {w w' : World} {g k : Nat} {xs : List Int} (h : OB w g xs) (hs : SameBut k w w') (hne : g ≠ k) : OB w' g xs := ⟨hs.other h.blk hne, h.len⟩
set_option maxHeartbeats 1000000 in
set_option maxRecDepth 100000 in
theorem new_calls (w : World) (hlt : LT w.heap.size w) :
    Calls Tryd.prog 8 #[] w fun e w' => ∃ g, e = .returned (.pointer (some ⟨g, 0, none⟩)) ∧ w.heap.size ≤ g ∧ OB w' g oNew ∧ Below w.heap.size w w' := by
  obtain ⟨tt, hO⟩ := hlt.here.opts
  have HO := Aside0.mk hO
  have HLT := Aside0.mk hlt
  clear hlt hO
  go_enter Tryd.func8, Tryd.ntmps8
  go_wp2_with (first | ((with_reducible refine gate_dst (N := 4) rfl ?_); refine box_event ?hg (N := 4) ?hd (cs := ((List.replicate 28 (0 : Int)).map (Value.int .i64)).toArray) (t := 54) ?hr ?_; (case hd => rfl); (case hg => rfl); (case hr => first | (go_simp; done) | (go_simp; rfl)); intro g1 hgb w1 hbox hb; have HG1 := Aside0.mk (show OB w1 g1 (List.replicate 28 0) from ⟨hbox, List.length_replicate⟩); have HB1 := Aside0.mk hb; have HL1 := Aside0.mk (show w.heap.size ≤ g1 by rw [hgb]; exact Nat.le_refl _); clear hbox hb hgb) | ((with_reducible refine gate_dst (N := 5) rfl ?_); refine wpList_load_row rfl 55 (.global 0) rfl 0 rfl tt tabCells (0, 0) _ (blk_below HO.out HB1.out) Tryd.underlying55 rfl ld55 ?_))
  go_loopg [6] 28 (fun j v6 wr => ∃ (k : Nat) (xs : List Int), v6 = .int .i64 (k : Int) ∧ k + j = 28 ∧ (∀ i, i < k → xs.getD i 0 = (oAt i).d) ∧ Aside0 (OB wr g1 xs) ∧ Aside0 (Below w.heap.size w wr))
  case atStart => exact ⟨0, _, rfl, rfl, fun i h => absurd h (Nat.not_lt_zero i), HG1, HB1⟩
  case round =>
    obtain ⟨k, xs, rfl, hkj, hno, HG, HB⟩ := hrel
    have HNO := Aside0.mk hno
    clear hno
    by_cases hlt : k < 28
    · have hix := run_tab k hlt
      obtain ⟨e, he⟩ : ∃ e, e = oAt k := ⟨_, rfl⟩
      rw [← he] at hix
      have HE := Aside0.mk he
      clear he
      obtain ⟨nm, hnm⟩ : ∃ nm : ByteArray, nm = ⟨e.name.toArray⟩ := ⟨_, rfl⟩
      rw [← hnm] at hix
      clear hnm
      go_upto_region 5 with (first | ((with_reducible refine gate_dst (N := 3) rfl ?_); refine box_event ?hg (N := 3) ?hd (cs := #[.string ⟨#[]⟩, .int .i64 0, .int .i64 0, .int .i64 0]) (t := 42) ?hr ?_; (case hd => rfl); (case hg => rfl); (case hr => first | (go_simp; done) | (go_simp; rfl)); intro gc hgb w3 hbox hb; have HX := Aside0.mk hbox; have HB3 := Aside0.mk (below_step HB.out hb); have HG3 := Aside0.mk (HG.out.below (B := 0) hb); have HLC := Aside0.mk (show w.heap.size ≤ gc by rw [hgb]; exact HB.out.size); have HNE := Aside0.mk (show gc ≠ g1 by rw [hgb]; exact Nat.ne_of_gt (blk_lt HG.out.blk)); clear hbox hb hgb) | ((with_reducible refine gate_store (t := 42) (p := 3) rfl ?_); refine store_four 42 3 (.tmp 9) rfl rfl rfl (.string nm) (.int .i64 e.d) (.int .i64 e.lo) (.int .i64 e.hi) #[.string nm, .int .i64 e.d, .int .i64 e.lo, .int .i64 e.hi] rfl rfl HX.out sz42 (Nat.le_refl 4) rfl rfl rfl rfl rfl ?_; intro w4 hw4 hsb; have HX4 := Aside0.mk hw4; have HB4 := Aside0.mk (hsb.below HB3.out HLC.out); have HG4 := Aside0.mk (HG3.out.same hsb (Ne.symm HNE.out)); clear hw4 hsb; have hcz1 := (blk_cell HX4.out 1).trans (show _ = some (Value.int .i64 e.d) from rfl); have hck := HG4.out.cell k hlt; have hfk := HG4.out.frozen k))
      go_still_tail 7, (by kernel_rfl)
      go_wp2
      have hne : e = oAt k := HE.out
      go_roundg (gk - 1)
      case rel =>
        refine ⟨k + 1, xs.set k e.d, by go_num, by omega, fun i hi => ?_, ⟨?_⟩, ⟨?_⟩⟩
        · rw [List.getD_eq_getElem?_getD, List.getElem?_set]
          by_cases hik : k = i
          · subst hik
            rw [if_pos rfl, if_pos (by rw [HG.out.len]; exact hlt), hne]
            rfl
          · rw [if_neg hik, ← List.getD_eq_getElem?_getD]
            exact HNO.out i (by omega)
        · (with_reducible repeat (first | apply OB.drew | apply OB.drewN)); (with_reducible refine OB.set ?_ k e.d); (with_reducible repeat (first | apply OB.drew | apply OB.drewN)); exact HG4.out
        · (with_reducible repeat (first | apply below_drew1 | apply pw_below_drewN)); refine Below.setCell ?_ HL1.out _; (with_reducible repeat (first | apply below_drew1 | apply pw_below_drewN)); exact HB4.out
      case measure => omega
    · obtain rfl : k = 28 := by omega
      go_wp2
      go_ret
      have hx : xs = oNew := by
        apply List.ext_getElem?
        intro i
        by_cases hi : i < 28
        · have h1 := HNO.out i hi
          rw [List.getD_eq_getElem?_getD] at h1
          have h2 : i < xs.length := by rw [HG.out.len]; exact hi
          rw [List.getElem?_eq_getElem h2] at h1 ⊢
          have h3 : i < oTab.length := hi
          have e1 : oAt i = oTab[i] := by unfold oAt; rw [List.getD_eq_getElem?_getD, List.getElem?_eq_getElem h3]; rfl
          unfold oNew
          rw [List.getElem?_map, List.getElem?_eq_getElem h3]
          rw [e1] at h1
          exact congrArg some h1
        · rw [List.getElem?_eq_none (by rw [HG.out.len]; omega), List.getElem?_eq_none (by unfold oNew; rw [List.length_map, oTab_len]; omega)]
      exact ⟨g1, rfl, HL1.out, hx ▸ HG.out, HB.out⟩
end Go.Proofs.YtmknpchmpgkdbaaDoor.PB
