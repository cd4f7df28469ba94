import Derived.Test.YtigloobbpcnnhaaDoorM5
import Derived.Lib.AppendStr
import Derived.Shelf.Strconv.AppendUint10
import Derived.Lib.ItoaMem
section
namespace Go.Proofs.YtigloobbpcnnhaaDoor.PB
open Go.RowKit Go.Proofs.YtigloobbpcnnhaaDoorW.PrintWords Go.Proofs.YtigloobbpcnnhaaDoorW.PrintLast Go.Proofs.YtigloobbpcnnhaaDoorW.PrintMore
set_option linter.unusedVariables false
set_option linter.unusedSimpArgs false
/-! ### Bytes in a row of the call's own whose mark, if there is one, lies behind its end ([]byte(s), appended to) -/
theorem byteCells_append (a b : List UInt8) : Lib.byteCells (a ++ b) = Lib.byteCells a ++ Lib.byteCells b := by unfold Lib.byteCells; rw [List.map_append]
theorem byteCells_one (l : List UInt8) : ∀ u ∈ Lib.byteCells l, u.oneCell' = true := by
  intro u hu
  obtain ⟨b, _, rfl⟩ := List.mem_map.1 hu
  rfl
theorem strCells_baOf (l : List UInt8) : Lib.strCells (baOf l) = Lib.byteCells l := by
  unfold Lib.strCells Lib.byteCells baOf
  simp
/-- The mark is none, or behind the cells. -/
def Clear (n : Nat) (fz : Nat × Nat) : Prop := fz.2 = 0 ∨ n ≤ fz.1
theorem store_clear (P : Program) (g o : Nat) (t : TypeId) (fz : Nat × Nat) : ∀ (vs : List Value) (i : Nat) (cur : Array Value) (w : World), w.heap[g]? = some (.cells cur t fz) → Clear cur.size fz → o + i + vs.length ≤ cur.size → (∀ v ∈ vs, v.oneCell' = true) →
    (storeCells ⟨g, o, none⟩ vs i).run P w = .ok () (w.setRow g (cur.toList.take (o + i) ++ vs ++ cur.toList.drop (o + i + vs.length)).toArray)
  | [], i, cur, w, hg, _, _, _ => by
    simp only [storeCells, List.append_nil, List.length_nil, Nat.add_zero, List.take_append_drop, Array.toArray_toList]
    rw [setRow_self w g cur t fz hg]
    rfl
  | v :: rest, i, cur, w, hg, hfz, hl, h1 => by
    have hlt : o + i < cur.size := by simp only [List.length_cons] at hl; omega
    have hat : (⟨g, o, none⟩ : Addr).add i = ⟨g, o + i, none⟩ := by unfold Addr.add; split <;> simp_all
    have hfree : w.frozen? ⟨g, o + i, none⟩ = false := by
      obtain ⟨lo, hi⟩ := fz
      unfold Clear at hfz
      simp only at hfz
      simp only [World.frozen?, hg, Bool.and_eq_false_iff, decide_eq_false_iff_not]
      rcases hfz with h | h
      · right; omega
      · left; omega
    have hst : (store ((⟨g, o, none⟩ : Addr).add i) v).run P w = .ok () (w.setRow g (cur.setIfInBounds (o + i) v)) := by
      rw [hat, run_store P w _ v _ (h1 v List.mem_cons_self), show w.cell? ⟨g, o + i, none⟩ = some cur[o + i] by simp [World.cell?, hg, hlt]]
      simp [hfree, setCell_eq_setRow w g (o + i) cur t fz v hg]
    have next := store_clear P g o t fz rest (i + 1) (cur.setIfInBounds (o + i) v) _ (setRow_heap w g cur _ t _ hg) (by rw [Array.size_setIfInBounds]; exact hfz) (by rw [Array.size_setIfInBounds]; simp only [List.length_cons] at hl; omega) (fun x hx => h1 x (List.mem_cons_of_mem _ hx))
    simp only [storeCells, Sem.run_bind, hst, Result.andThen_ok, next, setRow_setRow]
    congr 3
    have e := list_seg_step cur.toList (o + i) v rest (by simp only [List.length_cons] at hl; simp only [Array.length_toList]; omega)
    simpa [Array.toList_setIfInBounds, Nat.add_assoc] using e
/-- A value that owns the bytes l. -/
def EM (w : World) (base : Nat) (v : Value) (l : List UInt8) : Prop :=
  ∃ g cap cur fz, v = .slice (some ⟨g, 0, none⟩) l.length cap ∧ base ≤ g ∧ w.heap[g]? = some (.cells cur 5 fz) ∧ Clear cur.size fz ∧ l.length ≤ cap ∧ cap ≤ maxLen ∧ cur.size = cap ∧ cur.toList.take l.length = Lib.byteCells l
theorem EM.below {w w' : World} {base : Nat} {v : Value} {l : List UInt8} (h : EM w base v l) (hb : Below w.heap.size w w') : EM w' base v l := by
  obtain ⟨g, cap, cur, fz, rfl, h1, h2, h3⟩ := h
  exact ⟨g, cap, cur, fz, rfl, h1, blk_below h2 hb, h3⟩
theorem EM.same {w w' : World} {base : Nat} {v : Value} {l : List UInt8} {g t : Nat} {cs : Array Value} (h : EM w base v l) (hs : SameBut g w w') (hg : w.heap[g]? = some (.cells cs t (0, 0))) (ht : t ≠ 5) : EM w' base v l := by
  obtain ⟨g2, cap, cur, fz, rfl, h1, h2, h3⟩ := h
  refine ⟨g2, cap, cur, fz, rfl, h1, (hs.blk g2 (fun e => ?_)).trans h2, h3⟩
  subst e
  rw [hg] at h2
  injection h2 with h2
  injection h2 with _ h2 _
  exact ht h2
theorem EM.lt {w : World} {base : Nat} {v : Value} {l : List UInt8} (h : EM w base v l) : ∀ k, v.ownBlock = some k → base ≤ k ∧ k < w.heap.size := by
  obtain ⟨g, cap, cur, fz, rfl, h1, h2, _⟩ := h
  intro k hk
  simp only [Value.ownBlock, Option.some.injEq] at hk
  subst hk
  exact ⟨h1, blk_lt h2⟩
theorem EM.slice {w : World} {base : Nat} {v : Value} {l : List UInt8} (h : EM w base v l) : ∃ g c, v = .slice (some ⟨g, 0, none⟩) l.length c ∧ base ≤ g ∧ g < w.heap.size ∧ l.length ≤ c := by
  obtain ⟨g, cap, cur, fz, rfl, h1, h2, _, h4, _⟩ := h
  exact ⟨g, cap, rfl, h1, blk_lt h2, h4⟩
theorem EM.cells {w : World} {base g c : Nat} {l : List UInt8} (h : EM w base (.slice (some ⟨g, 0, none⟩) l.length c) l) : ∀ j u, (Lib.byteCells l)[j]? = some u → w.cell? ((⟨g, 0, none⟩ : Addr).add j) = some u := by
  obtain ⟨g', cap, cur, fz, e, h1, h2, _, h4, _, h5, h6⟩ := h
  injection e with e _ _
  injection e with e
  injection e with e
  subst e
  intro j u hu
  rw [add_plain, cell_of_row w g j cur 5 fz h2]
  rw [← h6, List.getElem?_take] at hu
  split at hu
  · simpa using hu
  · cases hu
theorem EM.C {w : World} {base g c : Nat} {l : List UInt8} (h : EM w base (.slice (some ⟨g, 0, none⟩) l.length c) l) : (Kd.int .u8).C w (some ⟨g, 0, none⟩) l.length (bI l) := by
  have hm : l.length ≤ 9223372036854775807 := by
    obtain ⟨_, cap, _, _, _, _, _, _, h4, h5, _⟩ := h
    simp only [maxLen] at h5
    omega
  refine Kd.C_of_reads (d := (0 : Int)) (h1 := fun _ => rfl) ⟨bI_length l, hm, fun hp => ⟨_, rfl, fun j hj => ?_⟩⟩
  refine h.cells j _ ?_
  unfold Lib.byteCells bI
  rw [List.getElem?_map, List.getElem?_eq_getElem hj, List.getD_eq_getElem?_getD, List.getElem?_map, List.getElem?_eq_getElem hj]
  rfl
theorem em_new (w : World) (base : Nat) (hb : base ≤ w.heap.size) (l r : List UInt8) (old : Nat) (h63 : l.length + r.length ≤ maxLen) :
    EM (w.drew.alloc (.cells ((Lib.byteCells l).toArray ++ (Lib.byteCells r).toArray ++ Builtin.zeroCells (Value.int .u8 0).cells (grownCap w (l.length + r.length) old 5 - (l.length + r.length))) 5)) base (.slice (some ⟨w.heap.size, 0, none⟩) (l.length + r.length) (grownCap w (l.length + r.length) old 5)) (l ++ r) := by
  have hge := grownCap_ge w (l.length + r.length) old 5
  have hcm := grownCap_le_maxLen w (l.length + r.length) old 5 h63
  have hz1 : (Value.int IntKind.u8 0).cells.size = 1 := rfl
  refine ⟨w.heap.size, _, _, (0, 0), by rw [List.length_append], hb, heap_alloc_new w.drew _, .inl rfl, by rw [List.length_append]; exact hge, hcm, ?_, ?_⟩
  · simp only [Array.size_append, List.size_toArray, size_zeroCells, hz1, Lib.byteCells_length]
    omega
  · simp only [Array.toList_append, List.append_assoc]
    rw [← List.append_assoc, byteCells_append, ← Lib.byteCells_length (l ++ r), byteCells_append]
    exact List.take_left
theorem em_run_cells {P : Program} {w : World} {base : Nat} {v : Value} {l : List UInt8} (h : EM w base v l) (t ty : TypeId) (i : TypeInfo) (ht : P.underlying t = some (.slice 5)) (hi : P.info? 5 = some i) (hz : i.zero = some (.int .u8 0)) (hs : i.size = 1) (hby : i.bytes = 1)
    (a : Addr) (c : Nat) (r : List UInt8) (hr : ∀ j u, (Lib.byteCells r)[j]? = some u → w.cell? (a.add j) = some u) (hl : l.length + r.length ≤ 140737488355328) (hb : base ≤ w.heap.size) :
    ∃ v' w', (Builtin.append_ #[t, t] ty #[v, .slice (some a) r.length c]).run P w = .ok v' w' ∧ EM w' base v' (l ++ r) ∧ w.grownBy w' v.ownBlock := by
  have h' := h
  obtain ⟨g, cap, cur, fz, rfl, h1, h2, h3, h4, h5, h6, h7⟩ := h'
  have hm : l.length + r.length ≤ maxLen := by simp only [maxLen]; omega
  have hn : (Lib.byteCells r).length = r.length * i.size := by rw [hs, Nat.mul_one, Lib.byteCells_length]
  by_cases hroom : l.length + r.length ≤ cap
  · have hf := run_firstCells_some (P := P) w i.size r.length a r.length c (Lib.byteCells r) hn hr
    have hst := store_clear P g (l.length * i.size) 5 fz (Lib.byteCells r) 0 cur w h2 h3 (by rw [hs, Lib.byteCells_length]; omega) (byteCells_one r)
    simp only [Nat.add_zero] at hst
    have hrun : (Builtin.append_ #[t, t] ty #[.slice (some ⟨g, 0, none⟩) l.length cap, .slice (some a) r.length c]).run P w = .ok (.slice (some ⟨g, 0, none⟩) (l.length + r.length) cap) (w.setRow g (cur.toList.take (l.length * i.size) ++ Lib.byteCells r ++ cur.toList.drop (l.length * i.size + (Lib.byteCells r).length)).toArray) := by
      simp [Builtin.append_, run_underlying ht, sizeOf, typeInfo, hi, Builtin.lenOf, hroom, hf, Addr.add_lit, hst]
    refine ⟨_, _, hrun, ⟨g, cap, _, fz, by rw [List.length_append], h1, setRow_heap w g cur _ 5 _ h2, ?_, by rw [List.length_append]; exact hroom, h5, ?_, ?_⟩, ⟨rfl, rfl, rfl, by simp, fun k _ hk => setRow_other w g k _ (fun e => hk (by simp [Value.ownBlock, e]))⟩⟩
    · refine h3.imp id (fun h => ?_)
      simp only [List.size_toArray, List.length_append, List.length_take, List.length_drop, Array.length_toList, hs, Nat.mul_one, Lib.byteCells_length]
      omega
    · simp only [List.size_toArray, List.length_append, List.length_take, List.length_drop, Array.length_toList, hs, Nat.mul_one, Lib.byteCells_length]
      omega
    · rw [hs, Nat.mul_one, h7, byteCells_append, ← Lib.byteCells_length (l ++ r), byteCells_append]
      exact List.take_left
  · have hrun := run_append_grow (P := P) w t ty 5 i (.int .u8 0) ht hi hz ⟨g, 0, none⟩ l.length cap (Lib.byteCells l) (by rw [hs, Nat.mul_one, Lib.byteCells_length]) h.cells a r.length c (Lib.byteCells r) hn hr (by omega) (by simp only [maxLen] at hm; omega) (by rw [hby]; exact growslice_fits (by omega) (by omega))
    exact ⟨_, _, hrun, em_new w base hb l r cap hm, ⟨rfl, rfl, rfl, by simp, fun k hk _ => Below.heap_alloc w.drew _ k hk⟩⟩
theorem em_run_string {P : Program} {w : World} {base : Nat} {v : Value} {l : List UInt8} (h : EM w base v l) (t u ty : TypeId) (i : TypeInfo) (ht : P.underlying t = some (.slice 5)) (hu : P.underlying u = some .string) (hi : P.info? 5 = some i) (hz : i.zero = some (.int .u8 0)) (hs : i.size = 1) (hby : i.bytes = 1)
    (r : List UInt8) (hl : l.length + r.length ≤ 140737488355328) (hb : base ≤ w.heap.size) :
    ∃ v' w', (Builtin.append_ #[t, u] ty #[v, .string (baOf r)]).run P w = .ok v' w' ∧ EM w' base v' (l ++ r) ∧ w.grownBy w' v.ownBlock := by
  have h' := h
  obtain ⟨g, cap, cur, fz, rfl, h1, h2, h3, h4, h5, h6, h7⟩ := h'
  have hm : l.length + r.length ≤ maxLen := by simp only [maxLen]; omega
  have hsz : (baOf r).size = r.length := rfl
  by_cases hroom : l.length + r.length ≤ cap
  · have hf := Lib.run_firstCells_string (P := P) w 1 (baOf r)
    rw [strCells_baOf, hsz] at hf
    have hst := store_clear P g l.length 5 fz (Lib.byteCells r) 0 cur w h2 h3 (by rw [Lib.byteCells_length]; omega) (byteCells_one r)
    simp only [Nat.add_zero] at hst
    have hrun : (Builtin.append_ #[t, u] ty #[.slice (some ⟨g, 0, none⟩) l.length cap, .string (baOf r)]).run P w = .ok (.slice (some ⟨g, 0, none⟩) (l.length + r.length) cap) (w.setRow g (cur.toList.take l.length ++ Lib.byteCells r ++ cur.toList.drop (l.length + (Lib.byteCells r).length)).toArray) := by
      simp [Builtin.append_, run_underlying ht, run_underlying hu, sizeOf, typeInfo, hi, hs, Builtin.lenOf, hsz, hroom, hf, Addr.add_lit, hst]
    refine ⟨_, _, hrun, ⟨g, cap, _, fz, by rw [List.length_append], h1, setRow_heap w g cur _ 5 _ h2, ?_, by rw [List.length_append]; exact hroom, h5, ?_, ?_⟩, ⟨rfl, rfl, rfl, by simp, fun k _ hk => setRow_other w g k _ (fun e => hk (by simp [Value.ownBlock, e]))⟩⟩
    · refine h3.imp id (fun h => ?_)
      simp only [List.size_toArray, List.length_append, List.length_take, List.length_drop, Array.length_toList, Lib.byteCells_length]
      omega
    · simp only [List.size_toArray, List.length_append, List.length_take, List.length_drop, Array.length_toList, Lib.byteCells_length]
      omega
    · rw [h7, byteCells_append, ← Lib.byteCells_length (l ++ r), byteCells_append]
      exact List.take_left
  · have hrun := Lib.run_append_grow_string (P := P) w t u ty 5 i (.int .u8 0) ht hu hi hz ⟨g, 0, none⟩ l.length cap (Lib.byteCells l) (by rw [hs, Nat.mul_one, Lib.byteCells_length]) h.cells (baOf r) (by rw [hsz]; omega) (by simp only [maxLen] at hm; rw [hsz]; omega) (by rw [hby, hsz]; exact growslice_fits (by omega) (by omega))
    rw [strCells_baOf, hsz] at hrun
    exact ⟨_, _, hrun, em_new w base hb l r cap hm, ⟨rfl, rfl, rfl, by simp, fun k hk _ => Below.heap_alloc w.drew _ k hk⟩⟩
section
variable {P : Program} {ops : Array Oper} {rest : List Oper} {o : Oper} {a : Act} {Q : Exit → Act → World → Prop}
theorem em_cells {w : World} (hgd : o.guard = none) (s x : Operand) (t : TypeId) (ho : o.op = .call { callee := .builtin .append, args := #[s, x], argTypes := #[t, t] })
    (ht : P.underlying t = some (.slice 5)) (hinfo : (P.info? 5).map (fun i => (i.zero, i.size, i.bytes)) = some (some (.int .u8 0), 1, 1)) {base : Nat} {v : Value} {l : List UInt8} (hs : a.eval s = v) (h : EM w base v l)
    (ad : Addr) (c : Nat) (r : List UInt8) (hx : a.eval x = .slice (some ad) r.length c) (hr : ∀ j u, (Lib.byteCells r)[j]? = some u → w.cell? (ad.add j) = some u) (hl : l.length + r.length ≤ 140737488355328) (hb : base ≤ w.heap.size)
    (hk : ∀ v' w', EM w' base v' (l ++ r) → Below base w w' → w.grownBy w' v.ownBlock → wpList P ops Q rest (a.put o.dst v') w') : wpList P ops Q (o :: rest) a w := by
  obtain ⟨i, hi, hzz⟩ := Option.map_eq_some_iff.1 hinfo
  simp only [Prod.mk.injEq] at hzz
  obtain ⟨hz0, hz1, hz2⟩ := hzz
  obtain ⟨v', w', hrun, h1, h2⟩ := em_run_cells (P := P) h t o.type i ht hi hz0 hz1 hz2 ad c r hr hl hb
  refine wpList_plain hgd fun K hK => ?_
  unfold Oper.wp execOp
  simp only [ho, resolve, invoke, builtin, Sem.run_bind, Sem.run_pure, Result.andThen_ok, List.map_toArray, List.map_cons, List.map_nil, hs, hx, hrun]
  exact hK _ _ (hk v' w' h1 ((Below.refl base w).grown h2 hb (fun k hk => (h.lt k hk).1)) h2)
theorem em_string {w : World} (hgd : o.guard = none) (s x : Operand) (t u : TypeId) (ho : o.op = .call { callee := .builtin .append, args := #[s, x], argTypes := #[t, u] })
    (ht : P.underlying t = some (.slice 5)) (hu : P.underlying u = some .string) (hinfo : (P.info? 5).map (fun i => (i.zero, i.size, i.bytes)) = some (some (.int .u8 0), 1, 1)) {base : Nat} {v : Value} {l : List UInt8} (hs : a.eval s = v) (h : EM w base v l)
    (r : List UInt8) (hx : a.eval x = .string (baOf r)) (hl : l.length + r.length ≤ 140737488355328) (hb : base ≤ w.heap.size)
    (hk : ∀ v' w', EM w' base v' (l ++ r) → Below base w w' → w.grownBy w' v.ownBlock → wpList P ops Q rest (a.put o.dst v') w') : wpList P ops Q (o :: rest) a w := by
  obtain ⟨i, hi, hzz⟩ := Option.map_eq_some_iff.1 hinfo
  simp only [Prod.mk.injEq] at hzz
  obtain ⟨hz0, hz1, hz2⟩ := hzz
  obtain ⟨v', w', hrun, h1, h2⟩ := em_run_string (P := P) h t u o.type i ht hu hi hz0 hz1 hz2 r hl hb
  refine wpList_plain hgd fun K hK => ?_
  unfold Oper.wp execOp
  simp only [ho, resolve, invoke, builtin, Sem.run_bind, Sem.run_pure, Result.andThen_ok, List.map_toArray, List.map_cons, List.map_nil, hs, hx, hrun]
  exact hK _ _ (hk v' w' h1 ((Below.refl base w).grown h2 hb (fun k hk => (h.lt k hk).1)) h2)
end
/-- []byte(s): such a row. -/
theorem em_bytes (w : World) (l : List UInt8) (hl : l.length ≤ 9223372036854775807) : EM (Lib.bytesWorld w 5 (baOf l)) w.heap.size (.slice (some ⟨w.heap.size, 0, none⟩) l.length (grownCap w l.length 0 5)) l := by
  have hm : l.length ≤ maxLen := by simp only [maxLen]; omega
  have hge := grownCap_ge w l.length 0 5
  have hcm := grownCap_le_maxLen w l.length 0 5 hm
  have hsz : (baOf l).size = l.length := rfl
  have hcs : (Lib.bytesCells w 5 (baOf l)).size = grownCap w l.length 0 5 := by
    unfold Lib.bytesCells
    rw [hsz]
    simp only [Array.size_append, Array.size_map, Array.size_replicate]
    show (baOf l).size + _ = _
    rw [hsz]
    omega
  refine ⟨w.heap.size, _, _, _, rfl, Nat.le_refl _, Lib.bytesWorld_at_new w 5 (baOf l), .inr (Nat.le_refl _), hge, hcm, hcs, ?_⟩
  unfold Lib.bytesCells Lib.byteCells
  rw [Array.toList_append, Array.toList_map, List.take_left' (by rw [List.length_map]; rfl)]
  rfl
end Go.Proofs.YtigloobbpcnnhaaDoor.PB
end

section
namespace Go.Proofs.YtigloobbpcnnhaaDoor.PB
open Go.RowKit Go.Sort Go.Lib Go.Proofs.YtigloobbpcnnhaaDoorW.PrintWords Go.Proofs.YtigloobbpcnnhaaDoorW.PrintLast Go.Proofs.YtigloobbpcnnhaaDoorW.PrintMore
set_option linter.unusedVariables false
set_option linter.unusedSimpArgs false
/-! ### strconv.AppendInt onto such a row -/
theorem small_calls (u : Nat) (hu : u < 100) (w : World) : Calls Tryd.prog 73 #[.int .i64 (u : Int)] w fun e w' => e = .returned (.string (baOf (Lib.decDigits u))) ∧ w' = w :=
  Any.internal_strconv_small (ρ := Tryd.laysM176_ren) { Tryd.laysM176 with } u hu w
theorem ndig_calls (u : Nat) (h1 : 1 ≤ u) (h2 : u < 18446744073709551616) (w : World) (hlt : LF w) : Calls Tryd.prog 74 #[.int .u64 (u : Int)] w fun e w' => e = .returned (.int .i64 (Lib.nDigits u : Int)) ∧ w' = w :=
  Any.internal_strconv_numDigits (ρ := Tryd.laysM176_ren) { Tryd.laysM176 with } u h1 h2 w hlt.tab
/-- The digits laid: a new world, all that was there as it was, the digits at the array's beginning. -/
theorem fmt_calls (u : Nat) (h1 : 1 ≤ u) (hu64 : u < 18446744073709551616) (w : World) :
    Calls Tryd.prog 75 #[.slice (some ⟨w.heap.size, 0, none⟩) (Lib.nDigits u) 24, .int .u64 (u : Int)] (w.alloc (.cells Lib.zeros24 114)) fun e w' => e = .returned (.tuple #[]) ∧ Below w.heap.size w w' ∧ w.heap.size < w'.heap.size ∧ ∀ j x, (Lib.byteCells (Lib.decDigits u))[j]? = some x → w'.cell? ((⟨w.heap.size, 0, none⟩ : Addr).add j) = some x := by
  have hnd : Lib.nDigits u ≤ 20 := by have := Lib.numDigits_eq u h1 hu64; split at this <;> omega
  have hH := Lib.holds_zero0 w 114 (Lib.nDigits u) (by omega)
  have hf := Any.internal_strconv_formatBase10 (ρ := Tryd.laysM176_ren) { Tryd.laysM176 with } w.heap.size 0 24 u (Array.replicate (Lib.nDigits u) 0) (w.alloc (.cells Lib.zeros24 114)) hH (by rw [Array.size_replicate]; exact Lib.lt_pow_nDigits u) hu64 (by rw [Array.size_replicate]; omega)
  rw [Array.size_replicate] at hf
  refine Calls.mono hf ?_
  rintro e w' ⟨rfl, k, v', dk, rfl, hF⟩
  obtain ⟨os, eo⟩ := Lib.fin_at w (.cells Lib.zeros24 114) dk k 0
  refine ⟨rfl, by rw [eo]; exact Lib.below_grow w.heap.size w (Nat.le_refl _) k os, ?_, ?_⟩
  · have hnp := Lib.nDigits_pos u
    have hc := cell?_putRow (fun (b : UInt8) => Value.int .u8 (b.toNat : Int)) (w.alloc (.cells Lib.zeros24 114)) w.heap.size 0 _ dk hH (by rw [hF.size, Array.size_replicate]) 0 (by rw [hF.size]; omega)
    have := World.block_lt_of_cell? _ _ hc
    exact this
  · intro j x hj
    have hjl : j < (Lib.decDigits u).length := by
      have h5 := (List.getElem?_eq_some_iff.1 hj).1
      rwa [Lib.byteCells_length] at h5
    have e5 : (Lib.byteCells (Lib.decDigits u))[j]? = some (Value.int .u8 ((Lib.decDigits u)[j].toNat : Int)) := by simp [Lib.byteCells, hjl]
    rw [e5] at hj
    cases hj
    rw [Lib.row_is_numeral hF j hjl, Lib.add_plain, World.cell?_drewN]
    exact cell?_putRow (fun (b : UInt8) => Value.int .u8 (b.toNat : Int)) _ w.heap.size 0 _ dk hH (by rw [hF.size, Array.size_replicate]) j (by rw [hF.size]; rw [Lib.decDigits_length] at hjl; exact hjl)
set_option maxHeartbeats 1000000 in
set_option maxRecDepth 100000 in
theorem appendU_calls (base : Nat) (v : Value) (l : List UInt8) (u : Nat) (hu64 : u < 18446744073709551616) (w : World) (h : EM w base v l) (hb : base ≤ w.heap.size) (hl : l.length + 30 ≤ 140737488355328) (hlt : LT base w) :
    Calls Tryd.prog 55 #[v, .int .u64 (u : Int), .int .i64 10] w fun e w' => ∃ v', e = .returned v' ∧ EM w' base v' (l ++ Lib.decDigits u) ∧ Below base w w' := by
  have H := Aside0.mk h
  have HB := Aside0.mk hb
  have HLT := Aside0.mk hlt
  by_cases hu : u < 100
  · have hn : (Lib.decDigits u).length ≤ 20 := by
      rw [Lib.decDigits_length]
      by_cases h10 : u < 10
      · rw [Lib.nDigits_small h10]; omega
      · rw [Lib.nDigits_big h10, Lib.nDigits_small (show u / 10 < 10 by omega)]; omega
    have t1 : decide ((u : Int) < 100) = true := decide_eq_true (by omega)
    have hu0 : (0 : Int) ≤ (u : Int) := Int.natCast_nonneg _
    have hu1 : (u : Int) < 100 := by omega
    clear h hlt hb
    go_enter Tryd.func55, Tryd.ntmps55
    go_wp2_with (first | (go_at_call 73; refine (small_calls u hu w).mono ?_; rintro e w2 ⟨rfl, hw⟩; obtain rfl : w = w2 := hw.symm; clear hw) | ((with_reducible refine gate_builtin (b := .append) (xs := #[.tmp 13, .tmp 16]) rfl ?_); refine em_string rfl (.tmp 13) (.tmp 16) 22 9 rfl Tryd.underlying22 Tryd.underlying9 info5 rfl H.out (Lib.decDigits u) rfl (by omega) HB.out ?_; intro v2 w2 he hbw hg; have HE := Aside0.mk he; have HBW := Aside0.mk hbw; clear he hbw hg))
    go_ret
    exact ⟨v2, rfl, HE.out, HBW.out⟩
  · have hu1 : 1 ≤ u := by omega
    have t1 : decide ((u : Int) < 100) = false := decide_eq_false (by omega)
    have hu0 : (0 : Int) ≤ (u : Int) := Int.natCast_nonneg _
    have hu2 : (100 : Int) ≤ (u : Int) := by omega
    have hnd : Lib.nDigits u ≤ 20 := by have := Lib.numDigits_eq u hu1 hu64; split at this <;> omega
    have hlen : (Lib.decDigits u).length = Lib.nDigits u := Lib.decDigits_length u
    have hal : Tryd.prog.arrayLen 114 = 24 := by kernel_rfl
    have hsl : ∀ W, (Instr.sliceAt 114 (.pointer (some ⟨w.heap.size, 0, none⟩)) none (some (.int .i64 (Lib.nDigits u : Int))) none).run Tryd.prog W = .ok (.slice (some ⟨w.heap.size, 0, none⟩) (Lib.nDigits u) 24) W := fun W => by
      rw [run_sliceAt_array_h W 114 ⟨w.heap.size, 0, none⟩ (by kernel_rfl) .i64 (Lib.nDigits u : Int) (by omega) (by rw [hal]; omega)]
      rw [hal]
      go_simp
    have HU64 := Aside0.mk hu64
    have HLEN := Aside0.mk hlen
    clear h hlt hb hal hlen hu64
    go_enter Tryd.func55, Tryd.ntmps55
    go_wp2_with (first | (go_at_call 74; refine (ndig_calls u hu1 HU64.out _ ((HLT.out.on ((Below.refl base w).alloc HB.out _)).here)).mono ?_; rintro e w2 ⟨rfl, hw⟩; subst hw) | (go_at_call 75; refine (fmt_calls u hu1 HU64.out w).mono ?_; rintro e w3 ⟨rfl, hbw, hsz, hcs⟩; have HB3 := Aside0.mk hbw; have HS3 := Aside0.mk (Nat.le_trans HB.out hbw.size); have HC3 := Aside0.mk hcs; have HE3 := Aside0.mk (H.out.below hbw); clear hbw hsz hcs) | ((with_reducible refine gate_builtin (b := .append) (xs := #[.tmp 24, .tmp 26]) rfl ?_); refine em_cells rfl (.tmp 24) (.tmp 26) 22 rfl Tryd.underlying22 info5 rfl HE3.out ⟨w.heap.size, 0, none⟩ 24 (Lib.decDigits u) (by rw [HLEN.out]; rfl) HC3.out (by rw [HLEN.out]; omega) HS3.out ?_; intro v4 w4 he hbw hg; have HE4 := Aside0.mk he; have HB4 := Aside0.mk hbw; clear he hbw hg))
    go_ret
    exact ⟨v4, rfl, HE4.out, (HB3.out.mono HB.out).trans HB4.out⟩
set_option maxHeartbeats 1000000 in
set_option maxRecDepth 100000 in
theorem appendI0_calls (base : Nat) (v : Value) (l : List UInt8) (n : Int) (h0 : -9223372036854775808 < n) (h1 : n ≤ 9223372036854775807) (w : World) (h : EM w base v l) (hb : base ≤ w.heap.size) (hl : l.length + 31 ≤ 140737488355328) (hlt : LT base w) :
    Calls Tryd.prog 44 #[v, .int .i64 n, .int .i64 10] w fun e w' => ∃ v', e = .returned v' ∧ EM w' base v' (l ++ Lib.itoa n) ∧ Below base w w' := by
  have H := Aside0.mk h
  have HB := Aside0.mk hb
  have HLT := Aside0.mk hlt
  by_cases hneg : n < 0
  · obtain ⟨u, rfl⟩ : ∃ u : Nat, n = -(u : Int) := ⟨n.natAbs, by omega⟩
    have hu1 : 1 ≤ u := by omega
    have hu64 : u < 18446744073709551616 := by omega
    have hwr : IntKind.u64.wrap (-IntKind.u64.wrap (-(u : Int))) = (u : Int) := by rw [IntKind.wrap_u64, IntKind.wrap_u64]; omega
    have hi := Aside0.mk (Lib.itoa_neg u hu1)
    have t1 : decide (-(u : Int) < 0) = true := decide_eq_true (by omega)
    have HU := Aside0.mk hu64
    clear h hb hlt hu64
    go_enter Tryd.func44, Tryd.ntmps44
    go_wp2_with (first | ((with_reducible refine gate_builtin (b := .append) (xs := #[.tmp 12, .tmp 13]) rfl ?_); refine em_cells rfl (.tmp 12) (.tmp 13) 22 rfl Tryd.underlying22 info5 rfl (EM.below H.out (below_alloc (Below.refl _ w) (.cells #[.int .u8 45] 5))) ⟨w.heap.size, 0, none⟩ 1 [45] rfl ?hr ?hl2 ?hb2 ?_; (case hr => intro j x hj; match j, hj with | 0, hj => exact (blk_cell (blk_new w (.cells #[.int .u8 45] 5 (0, 0))) 0).trans hj); (case hl2 => show l.length + 1 ≤ _; omega); (case hb2 => exact Nat.le_trans HB.out (below_alloc (Below.refl _ w) (.cells #[.int .u8 45] 5)).size); intro v2 w2 he hbw hg; have HE := Aside0.mk he; have HBW := Aside0.mk (((Below.refl base w).alloc HB.out _).trans hbw); have HS2 := Aside0.mk (Nat.le_trans HB.out (((Below.refl base w).alloc HB.out (.cells #[.int .u8 45] 5)).trans hbw).size); clear he hbw hg) | (go_at_call 55; refine (appendU_calls base v2 (l ++ [45]) u HU.out w2 HE.out HS2.out (by rw [List.length_append]; show l.length + 1 + 30 ≤ _; omega) (HLT.out.on HBW.out)).mono ?_; rintro e w3 ⟨v3, rfl, he, hbw⟩; have HE3 := Aside0.mk he; have HB3 := Aside0.mk hbw; clear he hbw))
    go_ret
    refine ⟨v3, rfl, ?_, HBW.out.trans HB3.out⟩
    rw [hi.out]
    have := HE3.out
    rw [List.append_assoc] at this
    exact this
  · obtain ⟨u, rfl⟩ : ∃ u : Nat, n = (u : Int) := ⟨n.toNat, by omega⟩
    have hu64 : u < 18446744073709551616 := by omega
    have hi := Aside0.mk (Lib.itoa_nonneg u)
    have t1 : decide ((u : Int) < 0) = false := decide_eq_false (by omega)
    have hu0 : (0 : Int) ≤ (u : Int) := Int.natCast_nonneg _
    have HU := Aside0.mk hu64
    clear h hb hlt hu64
    go_enter Tryd.func44, Tryd.ntmps44
    go_wp2_with (go_at_call 55; refine (appendU_calls base v l u HU.out w H.out HB.out (by omega) HLT.out).mono ?_; rintro e w3 ⟨v3, rfl, he, hbw⟩; have HE3 := Aside0.mk he; have HB3 := Aside0.mk hbw; clear he hbw)
    go_ret
    exact ⟨v3, rfl, by rw [hi.out]; exact HE3.out, HB3.out⟩
theorem appendI_calls (base : Nat) (v : Value) (l : List UInt8) (n : Int) (h0 : -9223372036854775808 < n) (h1 : n ≤ 9223372036854775807) (w : World) (h : EM w base v l) (hb : base ≤ w.heap.size) (hl : l.length + 31 ≤ 140737488355328) (hlt : LT base w) :
    Calls Tryd.prog 29 #[v, .int .i64 n, .int .i64 10] w fun e w' => ∃ v', e = .returned v' ∧ EM w' base v' (l ++ Lib.itoa n) ∧ Below base w w' := by
  have H := Aside0.mk (appendI0_calls base v l n h0 h1 w h hb hl hlt)
  clear h hb hl hlt
  go_enter Tryd.func29, Tryd.ntmps29
  go_wp2_with (go_at_call 44; refine H.out.mono ?_; rintro e w3 ⟨v3, rfl, he, hbw⟩; have HE3 := Aside0.mk he; have HB3 := Aside0.mk hbw; clear he hbw)
  go_ret
  exact ⟨v3, rfl, HE3.out, HB3.out⟩
end Go.Proofs.YtigloobbpcnnhaaDoor.PB
end
