import Derived.Test.YtfjnkbkcoakooaaDoorHLib
import Derived.Lib.Builder
import Derived.Laws.Externs
import Derived.Lib.UnsafeStr
namespace Go.Proofs.YtfjnkbkcoakooaaDoor.PB
open Go.RowKit Go.Proofs.YtfjnkbkcoakooaaDoorW.PrintWords Go.Proofs.YtfjnkbkcoakooaaDoorW.PrintLast Go.Proofs.YtfjnkbkcoakooaaDoorW.PrintMore
set_option linter.unusedVariables false
set_option linter.unusedSimpArgs false
theorem bsz49 : (Tryd.prog.info? 50).map (·.size) = some 1 := by kernel_rfl
theorem bsz23 : (Tryd.prog.info? 51).map (·.size) = some 1 := by kernel_rfl
theorem bsz51 : (Tryd.prog.info? 53).map (·.size) = some 2 := by kernel_rfl
theorem blies51 : liesAt Tryd.prog Tryd.prog.depth 53 (2 / Tryd.prog.cellsOf 53) 0 53 1 = true := by kernel_rfl
/-- Types and number of cells of a block. -/
theorem shape_blk {w : World} {g t : Nat} {cs : Array Value} (h : w.heap[g]? = some (.cells cs t (0, 0))) : w.shape? g = some (t, cs.size) := by
  simp [World.shape?, h]
set_option maxHeartbeats 1000000 in
set_option maxRecDepth 100000 in
theorem cc_calls (g : Nat) (p : Option Addr) (v : Value) (w : World) (hg : w.heap[g]? = some (.cells #[.pointer p, v] 53 (0, 0))) (hp : p = none ∨ p = some ⟨g, 0, none⟩) :
    Calls Tryd.prog 31 #[.pointer (some ⟨g, 0, none⟩)] w fun e w' => e = .returned (.tuple #[]) ∧ w'.heap[g]? = some (.cells #[.pointer (some ⟨g, 0, none⟩), v] 53 (0, 0)) ∧ SameBut g w w' := by
  have HG := Aside0.mk hg
  have hcell := (blk_cell hg 0).trans (show _ = some (Value.pointer p) from rfl)
  have hfz := blk_frozen hg 0
  have hsh : w.shape? g = some (53, 2) := shape_blk hg
  obtain ⟨j, hj, hjs⟩ := Option.map_eq_some_iff.1 bsz51
  clear hg
  go_enter Tryd.func31, Tryd.ntmps31
  rcases hp with rfl | rfl
  · go_wp2
    rw [Lib.run_to_unsafe w ⟨g, 0, none⟩ Tryd.underlying50 Tryd.underlying85 hj (by rw [hjs]; decide) hsh (Nat.zero_lt_succ 1)]
    simp only [Result.andThen]
    rw [Oper.upon_value]
    go_wp2
    rw [run_callFunc_extern Tryd.func50 (by kernel_rfl) (by kernel_rfl) (by kernel_rfl) (e := Extern.AbiNoEscape.same) (by kernel_rfl)]
    rw [Lib.run_noEscape]
    simp only [Result.andThen]
    rw [Oper.upon_value]
    go_wp2
    rw [Lib.run_from_unsafe w ⟨g, 0, none⟩ Tryd.underlying85 Tryd.underlying50 hj hsh blies51]
    simp only [Result.andThen]
    rw [Oper.upon_value]
    go_wp2
    go_end0
    exact ⟨rfl, blk_put HG.out 0 _ rfl, ⟨rfl, rfl, rfl, by simp [World.setCell], fun k hk => Below.heap_setCell w ⟨g, 0, none⟩ _ k hk⟩⟩
  · go_wp2
    rw [Lib.run_neq_ptr_same w _ Tryd.underlying50 hj]
    go_wp2
    go_end0
    exact ⟨rfl, HG.out, SameBut.refl _ _⟩

/-- A builder (block g, one of the own blocks from base on) that holds bs. -/
structure BD (base g : Nat) (bs : List Int) (w : World) : Prop where
  ex : ∃ (p : Option Addr) (v : Value), w.heap[g]? = some (.cells #[.pointer p, v] 53 (0, 0)) ∧ (p = none ∨ p = some ⟨g, 0, none⟩) ∧ Kd.R (Kd.int .u8) 5 w base (fun _ => True) v bs
  lt : base ≤ g
theorem info5r : (Tryd.prog.info? 5).map (fun i => (i.zero, i.size, i.bytes)) = some (some (.int .u8 0), 1, 1) := by kernel_rfl
set_option maxHeartbeats 1000000 in
set_option maxRecDepth 100000 in
theorem ws_calls (base g : Nat) (bs : List Int) (s : ByteArray) (w : World) (h : BD base g bs w) (hl : bs.length + s.size ≤ 140737488355328) :
    Calls Tryd.prog 21 #[.pointer (some ⟨g, 0, none⟩), .string s] w fun e w' => e = .returned (.tuple #[.int .i64 s.size, .nilIface]) ∧ BD base g (bs ++ bytesOf s) w' ∧ Below base w w' ∧ KT [53, 5] w w' := by
  obtain ⟨p, v, hg, hp, hR⟩ := h.ex
  have hlt := h.lt
  obtain ⟨A, c, rfl⟩ := Kd.R_slice hR
  have hb0 := Aside0.mk (show base ≤ w.heap.size by have := blk_lt hg; omega)
  have HG := Aside0.mk hg
  have HR := Aside0.mk hR
  have HL := Aside0.mk hl
  have HP := Aside0.mk hp
  clear hg hR hl hp h
  go_enter Tryd.func21, Tryd.ntmps21
  go_wp2_with (first | (go_at_call 31; refine (cc_calls g p _ w HG.out HP.out).mono ?_; rintro e w1 ⟨rfl, h1, hs⟩; have HG1 := Aside0.mk h1; have HS1 := Aside0.mk hs; have HR1 := Aside0.mk (hs.Rt HR.out HG.out (by decide)); have hcell := (blk_cell h1 1).trans (show _ = some (Value.slice A bs.length c) from rfl); have hfz := blk_frozen h1 1; clear h1 hs) | ((with_reducible refine gate_builtin (b := .append) (xs := #[.tmp 12, .tmp 13]) rfl ?_); at_builtin; refine print_append_str (w0 := w1) base rfl (.tmp 12) (.tmp 13) 51 9 5 rfl Tryd.underlying51 Tryd.underlying9 info5r (.slice A bs.length c) bs s rfl rfl (Kd.own_of_R HR1.out) (Below.refl _ _) (by rw [HS1.out.size]; exact hb0.out) HL.out ?_; intro v2 w2 ho hb hg2; have HO2 := Aside0.mk ho; have HB2 := Aside0.mk hb; have HG2 := Aside0.mk (blk_grown HG1.out hg2 (Kd.R_ne HR1.out HG1.out (by decide))); have HK2 := Aside0.mk (((HS1.out.kt (KT.refl [53, 5] w) HG.out (by decide)).grown hg2 (R_row HR1.out (by decide)))); clear ho hb hg2 hcell hfz; have hcell := (blk_cell HG2.out 1).trans (show _ = some (Value.slice A bs.length c) from rfl); have hfz := blk_frozen HG2.out 1) | ((with_reducible refine gate_store (t := 51) (p := 16) rfl ?_); refine store_one 51 16 (.tmp 14) rfl rfl rfl v2 #[.pointer (some ⟨g, 0, none⟩), v2] rfl rfl HG2.out (Kd.R_val (Kd.R_of_own (h1 := fun _ => rfl) (ok := fun _ => True) HO2.out (fun _ _ => trivial))).1 bsz23 (show 1 + 1 ≤ 2 by omega) (Kd.R_val (Kd.R_of_own (h1 := fun _ => rfl) (ok := fun _ => True) HO2.out (fun _ _ => trivial))).2 rfl ?_; intro w8 hw8 hsb; have HW8 := Aside0.mk hw8; have HS8 := Aside0.mk hsb; clear hw8 hsb))
  go_ret2
  exact ⟨rfl, ⟨⟨some ⟨g, 0, none⟩, v2, HW8.out, .inr rfl, HS8.out.Rt (Kd.R_of_own (h1 := fun _ => rfl) (ok := fun _ => True) HO2.out (fun _ _ => trivial)) HG2.out (by decide)⟩, hlt⟩, HS8.out.below ((HS1.out.below (Below.refl base w) hlt).trans HB2.out) hlt, HS8.out.kt HK2.out HG2.out (by decide)⟩
/-- A builder that nothing has been written into. -/
theorem BD.fresh (w : World) : BD w.heap.size w.heap.size [] (w.alloc (.cells #[.pointer none, .slice none 0 0] 53 (0, 0))) := ⟨⟨none, .slice none 0 0, blk_new w _, .inl rfl, Kd.R_nil _ _ _ _ _⟩, Nat.le_refl _⟩
theorem BD.below {base g : Nat} {bs : List Int} {w w' : World} (h : BD base g bs w) (hb : Below w.heap.size w w') : BD base g bs w' := by
  obtain ⟨p, v, hg, hp, hR⟩ := h.ex
  exact ⟨⟨p, v, blk_below hg hb, hp, Kd.R_below hR hb⟩, h.lt⟩
theorem BD.same {base g k t : Nat} {bs : List Int} {w w' : World} {cs : Array Value} (h : BD base g bs w) (hs : SameBut k w w') (hk : w.heap[k]? = some (.cells cs t (0, 0))) (h1 : t ≠ 53) (h5 : t ≠ 5) : BD base g bs w' := by
  obtain ⟨p, v, hg, hp, hR⟩ := h.ex
  exact ⟨⟨p, v, hs.other hg (blk_ne hg hk (Ne.symm h1)), hp, hs.Rt hR hk (fun q hq => by
    rcases List.mem_cons.1 hq with rfl | hq
    · exact Ne.symm h5
    · exact absurd hq (by simp [Kd.E, Kd.int, Kd.scalar]))⟩, h.lt⟩
end Go.Proofs.YtfjnkbkcoakooaaDoor.PB
