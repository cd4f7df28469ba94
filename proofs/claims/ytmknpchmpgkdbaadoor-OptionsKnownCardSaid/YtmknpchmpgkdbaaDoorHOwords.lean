import Derived.Test.YtmknpchmpgkdbaaDoorHOparse
import Derived.Outline
import Derived.Test.YtmknpchmpgkdbaaDoorHOeq
namespace Go.Proofs.YtmknpchmpgkdbaaDoor.PB
open Go.RowKit Go.Proofs.YtmknpchmpgkdbaaDoorW.PrintWords Go.Proofs.YtmknpchmpgkdbaaDoorW.PrintLast Go.Proofs.YtmknpchmpgkdbaaDoorW.PrintMore
set_option linter.unusedVariables false
set_option linter.unusedSimpArgs false
/-! ### Words -/
def words.T1 : Bool × List (List Nat × List Nat) := (true, [([], []), ([0], [0]), ([1], [1]), ([2], [2]), ([3, 2], [2, 3]), ([4, 2], [2, 4]), ([5, 2], [2, 5]), ([2, 2], [2]), ([7, 2], [2, 7]), ([8, 2], [2, 8]), ([9, 2], [2, 9]), ([6, 10, 2], [2, 6, 10]), ([2, 11], [2, 11])])
def words.B1 : List Nat := [0, 1, 3, 7, 15, 31, 63, 7, 135, 391, 903, 2047, 4095]
theorem words.tab1 : rtab .any (opsOf Tryd.f11 1) = words.T1 := by kernel_rfl
theorem words.bits1 : waitsOk words.T1.2 words.B1 = true := by kernel_rfl
def words.T7 : Bool × List (List Nat × List Nat) := (true, [([], []), ([], []), ([1], [1]), ([2], [2]), ([3], [3]), ([], []), ([], []), ([5], [5]), ([7], [7]), ([8, 6], [6, 8]), ([9], [9]), ([10], [10]), ([4, 11], [4, 11]), ([12], [12]), ([0, 13, 11], [0, 13]), ([14, 14, 0, 1, 2, 3, 4, 5, 6, 7, 8, 9, 10, 11, 12, 13, 14], [0, 14])])
def words.B7 : List Nat := [0, 0, 2, 6, 14, 0, 0, 32, 160, 480, 992, 2016, 4094, 8190, 16383, 32767]
theorem words.tab7 : rtab .any (opsOf Tryd.f11 7) = words.T7 := by kernel_rfl
theorem words.bits7 : waitsOk words.T7.2 words.B7 = true := by kernel_rfl
theorem oAt_len : ∀ k, k < 28 → (oAt k).name.length ≤ 20 := by
  have h : (List.range 28).all (fun k => decide ((oAt k).name.length ≤ 20)) = true := by decide
  intro k hk
  simpa using List.all_eq_true.1 h k (List.mem_range.2 hk)
theorem oText_len (e : OE) (x : Int) : (oText e x).length ≤ 1 := by
  unfold oText
  split
  · simp
  · split <;> simp
theorem oWordsTo_len (xs : List Int) (k : Nat) : (oWordsTo xs k).length ≤ k := by
  induction k with
  | zero => simp [oWordsTo]
  | succ k ih => rw [oWordsTo_succ, List.length_append]; have := oText_len (oAt k) (xs.getD k 0); omega
def toBA (l : List UInt8) : ByteArray := ⟨l.toArray⟩
theorem toBA_append (a b : List UInt8) : toBA (a ++ b) = toBA a ++ toBA b := by
  unfold toBA
  apply ByteArray.ext
  simp
theorem oNew_len : oNew.length = 28 := rfl
theorem ld52' : (Tryd.prog.info? 52).map (·.size) = some 28 := by kernel_rfl
theorem ld52 {xs : List Int} (h : xs.length = 28) : (Tryd.prog.info? 52).map (·.size) = some (xs.map (Value.int .i64)).toArray.size := by
  have e : (xs.map (Value.int .i64)).toArray.size = 28 := by simp [h]
  rw [e]
  exact ld52'
theorem exec_load_row {P : Program} {o : Oper} {a : Act} {w : World} {ty : TypeId} {x : Operand} (ho : o.op = .load ty x) (g : Nat) (hx : a.eval x = .pointer (some ⟨g, 0, none⟩)) (t : TypeId) (cs : Array Value) (fr : Nat × Nat) (d : TypeDesc) (hg : w.heap[g]? = some (.cells cs t fr))
    (hu : P.underlying ty = some d) (hd : (match d with | .struct _ | .array _ _ => true | _ => false) = true) (hi : (P.info? ty).map (·.size) = some cs.size) : (execOp a.eval o).run P w = .ok (.value (.agg cs)) w := by
  unfold execOp
  simp only [ho, hx, Instr.loadAt, Instr.sureAddr, Sem.run_bind, Sem.run_pure, Result.andThen_ok, run_loadVar_row w g t ty cs fr d hg hu hd hi]
theorem sz2 : (Tryd.prog.info? 2).map (·.size) = some 1 := by kernel_rfl
theorem exec_eql {o : Oper} {a : Act} {w : World} {x y : Operand} (ho : o.op = .binOp .eql 52 x y 52) (xs ys : List Int) (hxl : xs.length = 28) (hyl : ys.length = 28) (hx : a.eval x = .agg (xs.map (Value.int .i64)).toArray) (hy : a.eval y = .agg (ys.map (Value.int .i64)).toArray) :
    (execOp a.eval o).run Tryd.prog w = .ok (.value (.bool (decide (xs = ys)))) w := by
  unfold execOp
  simp only [ho, hx, hy]
  have h1 := run_equalIn_ints w 9998 52 2 .i64 28 xs ys Tryd.underlying52 Tryd.underlying2 sz2 hxl hyl
  have hm : Tryd.prog.eqGuardType Tryd.prog.depth 52 = false := by kernel_rfl
  simp only [Sem.run_bind, run_eqGuard_agg w _ _ _ _ _ _ hm, Result.andThen_ok, run_eql_struct]
  rw [show (10000 : Nat) = 9998 + 1 + 1 from rfl, h1]
  rfl
set_option maxHeartbeats 2000000 in
set_option maxRecDepth 100000 in
theorem words_calls (g : Nat) (xs : List Int) (w : World) {B : Nat} (hlt : LT B w) (hB : B ≤ g) (hO : OB w g xs) (hx : ∀ k, k < 28 → -9223372036854775808 ≤ xs.getD k 0 ∧ xs.getD k 0 ≤ 9223372036854775807) :
    Calls Tryd.prog 11 #[.pointer (some ⟨g, 0, none⟩)] w fun e w' => ∃ v, e = .returned v ∧ Kd.R Kd.string 9 w' w.heap.size (fun _ => True) v ((oWords xs).map toBA) ∧ Below w.heap.size w w' := by
  have hgw : g < w.heap.size := blk_lt hO.blk
  have HLT := Aside0.mk (hlt.up (Nat.le_trans hB (Nat.le_of_lt hgw)))
  have HO := Aside0.mk hO
  have HX := Aside0.mk hx
  clear hlt hO hx
  have HO1 := Aside0.mk (OB.drew HO.out)
  have HLT1 := Aside0.mk (LT.drew HLT.out)
  have HB1 := Aside0.mk (below_drew1 (Below.refl w.heap.size w))
  go_enter Tryd.func11, Tryd.ntmps11
  go_wp2
  refine start_ (n := 13) (S := fun w' => OB w' g xs) (ds := []) #[false, false, false, false, false, false, false, false, false, false, false, false, false] (by kernel_rfl) rfl rfl (OB.drew HO.out) (fun hHeld => ?_); refine with_tabW words.tab1 words.bits1 (fun HT_ HW_ => ?_)
  generalize w.drew = w1 at HO1 HLT1 HB1 hHeld ⊢
  refine pure_ (i := 0) (N := some 6) (v := ?_) (a' := ?_) #[true, false, false, false, false, false, false, false, false, false, false, false, false] rfl rfl (any_of HT_.out (by kernel_rfl)) (fun _ _ _ h => h) (Or.inl ⟨by rfl, ?_⟩) ?_ ?_
  rotate_left
  · intro w'
    go_simp
    with_reducible rfl
  rotate_left
  · simp only [Act.put, List.setIfInBounds_toArray, List.set_cons_zero, List.set_cons_succ, i64_w, i32_w]
    rfl
  refine pure_ (i := 1) (N := some 7) (v := ?_) (a' := ?_) #[true, true, false, false, false, false, false, false, false, false, false, false, false] rfl rfl (any_of HT_.out (by kernel_rfl)) (fun _ _ _ h => h) (Or.inl ⟨by rfl, ?_⟩) ?_ ?_
  rotate_left
  · intro w'
    go_simp
    with_reducible rfl
  rotate_left
  · simp only [Act.put, List.setIfInBounds_toArray, List.set_cons_zero, List.set_cons_succ, i64_w, i32_w]
    rfl
  refine pure_ (i := 2) (N := some 8) (v := ?_) (a' := ?_) #[true, true, true, false, false, false, false, false, false, false, false, false, false] rfl rfl (any_of HT_.out (by kernel_rfl)) (fun _ _ _ h => h) (Or.inl ⟨by rfl, ?_⟩) ?_ ?_
  rotate_left
  · intro w'
    go_simp
    with_reducible rfl
  rotate_left
  · simp only [Act.put, List.setIfInBounds_toArray, List.set_cons_zero, List.set_cons_succ, i64_w, i32_w]
    rfl
  refine pure_ (i := 3) (N := some 9) (v := ?_) (a' := ?_) #[true, true, true, true, false, false, false, false, false, false, false, false, false] rfl rfl (any_of HT_.out (by kernel_rfl)) (fun _ _ _ h => h) (Or.inl ⟨by rfl, ?_⟩) ?_ ?_
  rotate_left
  · intro w'
    go_simp
    with_reducible rfl
  rotate_left
  · simp only [Act.put, List.setIfInBounds_toArray, List.set_cons_zero, List.set_cons_succ, i64_w, i32_w]
    rfl
  refine pure_ (i := 4) (N := some 10) (v := ?_) (a' := ?_) #[true, true, true, true, true, false, false, false, false, false, false, false, false] rfl rfl (any_of HT_.out (by kernel_rfl)) (fun _ _ _ h => h) (Or.inl ⟨by rfl, ?_⟩) ?_ ?_
  rotate_left
  · intro w'
    go_simp
    with_reducible rfl
  rotate_left
  · simp only [Act.put, List.setIfInBounds_toArray, List.set_cons_zero, List.set_cons_succ, i64_w, i32_w]
    rfl
  refine pure_ (i := 5) (N := some 11) (v := ?_) (a' := ?_) #[true, true, true, true, true, true, false, false, false, false, false, false, false] rfl rfl (any_of HT_.out (by kernel_rfl)) (fun _ _ _ h => h) (Or.inl ⟨by rfl, ?_⟩) ?_ ?_
  rotate_left
  · intro w'
    go_simp
    with_reducible rfl
  rotate_left
  · simp only [Act.put, List.setIfInBounds_toArray, List.set_cons_zero, List.set_cons_succ, i64_w, i32_w]
    rfl
  refine take_ (i := 6) (N := some 12) (v := (.agg (xs.map (Value.int .i64)).toArray)) (a' := ?_) #[true, true, true, true, true, true, true, false, false, false, false, false, false] rfl rfl (take_ofW HT_.out HW_.out (by kernel_rfl)) (fun _ _ _ h => h) (Or.inl ⟨by rfl, ?_⟩) hHeld ?_ ?_
  · rintro w' hS
    exact exec_load_row (ty := 52) (x := .tmp 11) rfl g rfl 54 (xs.map (Value.int .i64)).toArray (0, 0) _ hS.blk Tryd.underlying52 rfl (ld52 hS.len)
  rotate_left
  · simp only [Act.put, List.setIfInBounds_toArray, List.set_cons_zero, List.set_cons_succ, i64_w, i32_w]
    rfl
  refine one_ (i := 7) (N := some 13) #[true, true, true, true, true, true, true, true, false, false, false, false, false] rfl rfl (one_of HT_.out (by kernel_rfl)) (by decide) (fun K hK => ?_)
  refine goes_ Tryd.func8 (by kernel_rfl) rfl #[] (by rfl) rfl rfl (by (try simp only [List.map_toArray, List.map_cons, List.map_nil]); first | done | rfl) ?_
  refine (new_calls _ (HLT1.out.up HB1.out.size)).mono ?_
  rintro e w2 ⟨g2, rfl, hg2, hO2, hb⟩
  refine ⟨_, rfl, ?_⟩
  have HB2 := Aside0.mk (below_step HB1.out hb)
  have HO2 := Aside0.mk (HO1.out.below (B := 0) hb)
  have HN2 := Aside0.mk hO2
  clear hb hO2
  refine hK.out _ _ HO2.out (fun hHeld => ?_)
  clear hK K
  refine norm_ (a' := ?_) ?_ ?_
  rotate_left
  · show Act.put _ (some 13) _ = _
    simp only [Act.put, List.setIfInBounds_toArray, List.set_cons_zero, List.set_cons_succ, i64_w, i32_w]
    rfl
  refine pure_ (i := 8) (N := some 14) (v := ?_) (a' := ?_) #[true, true, true, true, true, true, true, true, true, false, false, false, false] rfl rfl (any_of HT_.out (by kernel_rfl)) (fun _ _ _ h => h) (Or.inl ⟨by rfl, ?_⟩) ?_ ?_
  rotate_left
  · intro w'
    go_simp
    with_reducible rfl
  rotate_left
  · simp only [Act.put, List.setIfInBounds_toArray, List.set_cons_zero, List.set_cons_succ, i64_w, i32_w]
    rfl
  refine pure_ (i := 9) (N := some 15) (v := ?_) (a' := ?_) #[true, true, true, true, true, true, true, true, true, true, false, false, false] rfl rfl (any_of HT_.out (by kernel_rfl)) (fun _ _ _ h => h) (Or.inl ⟨by rfl, ?_⟩) ?_ ?_
  rotate_left
  · intro w'
    go_simp
    with_reducible rfl
  rotate_left
  · simp only [Act.put, List.setIfInBounds_toArray, List.set_cons_zero, List.set_cons_succ, i64_w, i32_w]
    rfl
  refine one_ (i := 10) (N := some 16) #[true, true, true, true, true, true, true, true, true, true, true, false, false] rfl rfl (one_of HT_.out (by kernel_rfl)) (by decide) (fun K hK => ?_)
  refine value_ (w1 := w2) (v := .agg (oNew.map (Value.int .i64)).toArray) (by rfl) rfl ?_ ?_
  · exact exec_load_row (ty := 52) (x := .tmp 15) rfl g2 rfl 54 (oNew.map (Value.int .i64)).toArray (0, 0) _ HN2.out.blk Tryd.underlying52 rfl (ld52 HN2.out.len)
  refine hK.out _ _ HO2.out (fun hHeld => ?_)
  clear hK K
  refine norm_ (a' := ?_) ?_ ?_
  rotate_left
  · show Act.put _ (some 16) _ = _
    simp only [Act.put, List.setIfInBounds_toArray, List.set_cons_zero, List.set_cons_succ, i64_w, i32_w]
    rfl
  refine pure_ (i := 11) (N := some 17) (v := (.bool (decide (xs = oNew)))) (a' := ?_) #[true, true, true, true, true, true, true, true, true, true, true, true, false] rfl rfl (any_of HT_.out (by kernel_rfl)) (fun _ _ _ h => h) (Or.inl ⟨by rfl, ?_⟩) ?_ ?_
  · intro w'
    exact exec_eql (x := .tmp 12) (y := .tmp 16) rfl xs oNew HO.out.len oNew_len rfl rfl
  rotate_left
  · simp only [Act.put, List.setIfInBounds_toArray, List.set_cons_zero, List.set_cons_succ, i64_w, i32_w]
    rfl
  refine pure_ (i := 12) (N := some 18) (v := ?_) (a' := ?_) #[true, true, true, true, true, true, true, true, true, true, true, true, true] rfl rfl (any_of HT_.out (by kernel_rfl)) (fun _ _ _ h => h) (Or.inl ⟨by rfl, ?_⟩) ?_ ?_
  rotate_left
  · intro w'
    go_simp
    with_reducible rfl
  rotate_left
  · simp only [Act.put, List.setIfInBounds_toArray, List.set_cons_zero, List.set_cons_succ, i64_w, i32_w]
    rfl
  refine done_ (done_of HT_.out (by kernel_rfl)) ?_
  have HLT2 := Aside0.mk (HLT.out.on HB2.out)
  clear hHeld HO1 HLT1 HB1 HN2
  by_cases hxn : xs = oNew
  · have hd : decide (xs = oNew) = true := decide_eq_true hxn
    go_wp2
    go_ret
    exact ⟨_, rfl, by rw [hxn]; exact Kd.R_nil _ _ _ _ _, HB2.out⟩
  · have hd : decide (xs = oNew) = false := decide_eq_false hxn
    obtain ⟨tt, ht⟩ := HLT2.out.here.opts
    have HT := Aside0.mk ht
    clear ht
    go_wp2_with (first | ((with_reducible refine gate_dst (N := 19) rfl ?_); refine wpList_load_row rfl 55 (.global 0) rfl 0 rfl tt tabCells (0, 0) _ HT.out Tryd.underlying55 rfl ld55 ?_))
    clear hd
    go_loopg [3, 20] 28 (fun j v3 v20 wr => ∃ k : Nat, v20 = .int .i64 (k : Int) ∧ k + j = 28 ∧ Aside0 (Kd.R Kd.string 9 wr w.heap.size (fun _ => True) v3 ((oWordsTo xs k).map toBA)) ∧ Aside0 (OB wr g xs) ∧ Aside0 (Below w.heap.size w wr))
    case atStart => exact ⟨0, rfl, rfl, ⟨Kd.R_nil _ _ _ _ _⟩, HO2, HB2⟩
    case round =>
      clear HO2 HB2 HT HLT2
      obtain ⟨k, rfl, hkj, HR, HO2, HB⟩ := hrel
      obtain ⟨L, hL⟩ : ∃ L, L = (oWordsTo xs k).map toBA := ⟨_, rfl⟩
      rw [← hL] at HR
      have hLl : L.length ≤ 28 := by rw [hL, List.length_map]; have := oWordsTo_len xs k; omega
      have HL := Aside0.mk hL
      clear hL
      obtain ⟨Ar, cr, er⟩ := Kd.R_slice HR.out
      subst er
      by_cases hlt : k < 28
      · have hix := run_tab k hlt
        obtain ⟨e, he⟩ : ∃ e, e = oAt k := ⟨_, rfl⟩
        rw [← he] at hix
        have HE := Aside0.mk he
        clear he
        obtain ⟨nm, hnm⟩ : ∃ nm : ByteArray, nm = ⟨e.name.toArray⟩ := ⟨_, rfl⟩
        rw [← hnm] at hix
        have HNM := Aside0.mk hnm
        have hnz : nm.size ≤ 20 := by
          have : nm.size = e.name.length := by rw [hnm]; rfl
          rw [this, HE.out]
          exact oAt_len k hlt
        clear hnm
        obtain ⟨x, hxk⟩ : ∃ x, x = xs.getD k 0 := ⟨_, rfl⟩
        have hxb := HX.out k hlt
        rw [← hxk] at hxb
        obtain ⟨hx0, hx1⟩ := hxb
        have HXK := Aside0.mk hxk
        clear hxk
        have hk0 : (0 : Int) ≤ (k : Int) := by omega
        have hk28 : (k : Int) < 28 := by omega
        go_upto_region 8 with (first | ((with_reducible refine gate_dst (N := 5) rfl ?_); refine box_event ?hg (N := 5) ?hd (cs := #[.string ⟨#[]⟩, .int .i64 0, .int .i64 0, .int .i64 0]) (t := 42) ?hr ?_; (case hd => rfl); (case hg => rfl); (case hr => first | (go_simp; done) | (go_simp; rfl)); intro gc hgb w3 hbox hb; have HX3 := Aside0.mk hbox; have HR3 := Aside0.mk (Kd.R_below HR.out hb); have HB3 := Aside0.mk (below_step HB.out hb); have HO3 := Aside0.mk (HO2.out.below (B := 0) hb); have HLC := Aside0.mk (show w.heap.size ≤ gc by rw [hgb]; exact HB.out.size); have HNE := Aside0.mk (show gc ≠ g by rw [hgb]; exact Nat.ne_of_gt (blk_lt HO2.out.blk)); clear hbox hb hgb) | ((with_reducible refine gate_store (t := 42) (p := 5) rfl ?_); refine store_four 42 5 (.tmp 23) rfl rfl rfl (.string nm) (.int .i64 e.d) (.int .i64 e.lo) (.int .i64 e.hi) #[.string nm, .int .i64 e.d, .int .i64 e.lo, .int .i64 e.hi] rfl rfl HX3.out sz42 (Nat.le_refl 4) rfl rfl rfl rfl rfl ?_; intro w4 hw4 hsb; have HX4 := Aside0.mk hw4; have HB4 := Aside0.mk (hsb.below HB3.out HLC.out); have HO4 := Aside0.mk (HO3.out.same hsb (Ne.symm HNE.out)); have HR4 := Aside0.mk (hsb.Rt HR3.out HX3.out (by decide)); clear hw4 hsb; have hcz0 := (blk_cell HX4.out 0).trans (show _ = some (Value.string nm) from rfl); have hcz1 := (blk_cell HX4.out 1).trans (show _ = some (Value.int .i64 e.d) from rfl); have hcz2 := (blk_cell HX4.out 2).trans (show _ = some (Value.int .i64 e.lo) from rfl); have hcz3 := (blk_cell HX4.out 3).trans (show _ = some (Value.int .i64 e.hi) from rfl); have hck := HO4.out.cell k hlt; rw [← HXK.out] at hck))
        by_cases hed : x = e.d
        · have hb1 : (x == e.d) = true := by rw [hed]; simp
          go_region
          go_wp2
          go_roundg (gk - 1)
          case rel =>
            refine ⟨k + 1, by go_num, by omega, ⟨?_⟩, ⟨OB.drew HO4.out⟩, ⟨below_drew1 HB4.out⟩⟩
            rw [oWordsTo_succ, ← HE.out, ← HXK.out, show oText e x = [] by unfold oText; rw [if_pos hed], List.append_nil, ← HL.out]
            exact Kd.R_drew HR4.out
          case measure => omega
        · have hb1 : (x == e.d) = false := by simpa using hed
          have HED := Aside0.mk hed
          clear hed
          go_region
          have HB5 := Aside0.mk (below_drew1 HB4.out)
          have HO5 := Aside0.mk (OB.drew HO4.out)
          have HR5 := Aside0.mk (Kd.R_drew HR4.out)
          have HX5 := Aside0.mk (blk_drew HX4.out)
          clear HB4 HO4 HR4 HX4 HB3 HO3 HR3 HX3 hcz0 hcz1 hcz2 hcz3 hck
          generalize w4.drew = w5 at HB5 HO5 HR5 HX5 ⊢
          have hcz0 := (blk_cell HX5.out 0).trans (show _ = some (Value.string nm) from rfl)
          have hcz2 := (blk_cell HX5.out 2).trans (show _ = some (Value.int .i64 e.lo) from rfl)
          have hcz3 := (blk_cell HX5.out 3).trans (show _ = some (Value.int .i64 e.hi) from rfl)
          have hck := HO5.out.cell k hlt
          rw [← HXK.out] at hck
          go_upto_region 9 with fail
          obtain ⟨bb, hbb⟩ : ∃ bb, bb = decide (e.lo = 0 ∧ e.hi = 1 ∧ x = 0) := ⟨_, rfl⟩
          have HBB := Aside0.mk hbb
          clear hbb
          go_cut [49] (fun v49 wc => v49 = .bool bb ∧ wc = w5)
          case first =>
            by_cases q1 : e.lo = 0
            · have p1 : (e.lo == 0) = true := by simpa using q1
              by_cases q2 : e.hi = 1
              · have p2 : (e.hi == 1) = true := by simpa using q2
                by_cases q3 : x = 0
                · have p3 : (x == 0) = true := by simpa using q3
                  have pb := Aside0.mk (show bb = true by rw [HBB.out]; exact decide_eq_true ⟨q1, q2, q3⟩)
                  clear q1 q2 q3
                  go_wp2
                  go_meet
                  case rel => exact ⟨by rw [pb.out], rfl⟩
                · have p3 : (x == 0) = false := by simpa using q3
                  have pb := Aside0.mk (show bb = false by rw [HBB.out]; exact decide_eq_false (fun h => q3 h.2.2))
                  clear q1 q2 q3
                  go_wp2
                  go_meet
                  case rel => exact ⟨by rw [pb.out], rfl⟩
              · have p2 : (e.hi == 1) = false := by simpa using q2
                have pb := Aside0.mk (show bb = false by rw [HBB.out]; exact decide_eq_false (fun h => q2 h.2.1))
                clear q1 q2
                go_wp2
                go_meet
                case rel => exact ⟨by rw [pb.out], rfl⟩
            · have p1 : (e.lo == 0) = false := by simpa using q1
              have pb := Aside0.mk (show bb = false by rw [HBB.out]; exact decide_eq_false (fun h => q1 h.1))
              clear q1
              go_wp2
              go_meet
              case rel => exact ⟨by rw [pb.out], rfl⟩
          case rest =>
            obtain ⟨rfl, hwc⟩ := hcut
            obtain rfl : w5 = wc := hwc.symm
            cases bb with
            | true =>
              have hcond : e.lo = 0 ∧ e.hi = 1 ∧ x = 0 := of_decide_eq_true HBB.out.symm
              have HC := Aside0.mk hcond
              clear hcond
              have z0 : 5 + nm.size ≤ 9223372036854775807 := by omega
              have z1 : decide (5 + nm.size ≤ 9223372036854775807) = true := decide_eq_true z0
              have z2 : (9223372036854775807 < 5 + nm.size) = False := eq_false (Nat.not_lt.2 z0)
              replace z0 := eq_true z0
              go_wp2_with (first | ((with_reducible refine gate_builtin (b := .append) (xs := #[.tmp 67, .tmp 71]) rfl ?_); at_builtin; refine Kd.R_append Kd.string (w0 := w) w.heap.size rfl (.tmp 67) (.tmp 71) 29 9 (.string ⟨#[]⟩) 16 rfl Tryd.underlying29 info9 rfl (by decide) (by omega) (.slice Ar L.length cr) L ((⟨#[45, 45, 110, 111, 45]⟩ : ByteArray) ++ nm) [.string ((⟨#[45, 45, 110, 111, 45]⟩ : ByteArray) ++ nm)] (fun _ => True) (fun _ => False) rfl (by first | (go_simp; done) | (go_simp; rfl)) ?aP (fun _ hk => hk.elim) ?aF HR5.out HB5.out HB5.out.size ?aL ?_; (case aP => exact rfl); (case aF => exact (fun _ _ => trivial)); (case aL => have := hLl; omega); intro v2 w9 ho hb hg hat; have HR9 := Aside0.mk ho; have HB9 := Aside0.mk hb; have HO9 := Aside0.mk (show OB w9 g xs from ⟨blk_grown HO5.out.blk hg (Kd.R_ne HR5.out HO5.out.blk (by decide)), HO5.out.len⟩); clear ho hb hg hat))
              go_roundg (gk - 1)
              case rel =>
                refine ⟨k + 1, by go_num, by omega, ⟨?_⟩, HO9, HB9⟩
                rw [oWordsTo_succ, ← HE.out, ← HXK.out, show oText e x = [[45, 45, 110, 111, 45] ++ e.name] by unfold oText; rw [if_neg HED.out, if_pos HC.out], List.map_append, ← HL.out, List.map_singleton, toBA_append]
                have hn : toBA e.name = nm := HNM.out.symm
                rw [hn]
                exact HR9.out
              case measure => omega
            | false =>
              have hcond : ¬ (e.lo = 0 ∧ e.hi = 1 ∧ x = 0) := of_decide_eq_false HBB.out.symm
              have HC := Aside0.mk hcond
              clear hcond
              obtain ⟨tx, htx⟩ : ∃ tx : ByteArray, tx = ⟨(Lib.itoa x).toArray⟩ := ⟨_, rfl⟩
              have htz : tx.size ≤ 21 := by rw [htx]; exact Lib.itoa_length_le x hx0 hx1
              have HTX := Aside0.mk htx
              have hfi := Aside0.mk (show ∀ (w' : World) {B : Nat}, Lib.TabBelow Tryd.prog B w' "internal/strconv.uint64pow10" .u64 Lib.pow10Tab → Calls Tryd.prog 23 #[.int .i64 x, .int .i64 10] w' fun e w2 => e = .returned (.string tx) ∧ Below w'.heap.size w' w2 from fun w' B h => by rw [htx]; exact fi_calls x w' hx0 hx1 h)
              clear htx
              have z0 : 2 + nm.size ≤ 9223372036854775807 := by omega
              have z1 : decide (2 + nm.size ≤ 9223372036854775807) = true := decide_eq_true z0
              have z2 : (9223372036854775807 < 2 + nm.size) = False := eq_false (Nat.not_lt.2 z0)
              replace z0 := eq_true z0
              have y0 : 2 + nm.size + 1 ≤ 9223372036854775807 := by omega
              have y1 : decide (2 + nm.size + 1 ≤ 9223372036854775807) = true := decide_eq_true y0
              have y2 : (9223372036854775807 < 2 + nm.size + 1) = False := eq_false (Nat.not_lt.2 y0)
              replace y0 := eq_true y0
              have x_0 : 2 + nm.size + 1 + tx.size ≤ 9223372036854775807 := by omega
              have x_1 : decide (2 + nm.size + 1 + tx.size ≤ 9223372036854775807) = true := decide_eq_true x_0
              have x_2 : (9223372036854775807 < 2 + nm.size + 1 + tx.size) = False := eq_false (Nat.not_lt.2 x_0)
              replace x_0 := eq_true x_0
              go_upto_region 7 with fail
              refine start_ (n := 16) (S := fun w' => OB w' g xs ∧ w'.heap[gc]? = some (.cells #[.string nm, .int .i64 e.d, .int .i64 e.lo, .int .i64 e.hi] 42 (0, 0))) (ds := []) #[false, false, false, false, false, false, false, false, false, false, false, false, false, false, false, false] (by kernel_rfl) rfl rfl ⟨OB.drew HO5.out, blk_drew HX5.out⟩ (fun hHeld => ?_); refine with_tabW words.tab7 words.bits7 (fun HT_ HW_ => ?_)
              have HB6 := Aside0.mk (below_drew1 HB5.out)
              have HO6 := Aside0.mk (OB.drew HO5.out)
              have HR6 := Aside0.mk (Kd.R_drew HR5.out)
              have HX6 := Aside0.mk (blk_drew HX5.out)
              generalize w5.drew = w6 at HB6 HO6 HR6 HX6 hHeld ⊢
              refine pure_ (i := 0) (N := some 24) (v := ?_) (a' := ?_) #[true, false, false, false, false, false, false, false, false, false, false, false, false, false, false, false] rfl rfl (any_of HT_.out (by kernel_rfl)) (fun _ _ _ h => h) (Or.inl ⟨by rfl, ?_⟩) ?_ ?_
              rotate_left
              · intro w'
                go_simp
                with_reducible rfl
              rotate_left
              · simp only [Act.put, List.setIfInBounds_toArray, List.set_cons_zero, List.set_cons_succ, i64_w, i32_w]
                rfl
              refine pure_ (i := 1) (N := some 25) (v := ?_) (a' := ?_) #[true, true, false, false, false, false, false, false, false, false, false, false, false, false, false, false] rfl rfl (any_of HT_.out (by kernel_rfl)) (fun _ _ _ h => h) (Or.inl ⟨by rfl, ?_⟩) ?_ ?_
              rotate_left
              · intro w'
                go_simp
                with_reducible rfl
              rotate_left
              · simp only [Act.put, List.setIfInBounds_toArray, List.set_cons_zero, List.set_cons_succ, i64_w, i32_w]
                rfl
              refine take_ (i := 2) (N := some 26) (v := ?_) (a' := ?_) #[true, true, true, false, false, false, false, false, false, false, false, false, false, false, false, false] rfl rfl (take_ofW HT_.out HW_.out (by kernel_rfl)) (fun _ _ _ h => h) (Or.inl ⟨by rfl, ?_⟩) hHeld ?_ ?_
              rotate_left
              · rintro w' ⟨s1, s2⟩
                have hcz0 := (blk_cell s2 0).trans (show _ = some (Value.string nm) from rfl)
                go_simp
                with_reducible rfl
              rotate_left
              · simp only [Act.put, List.setIfInBounds_toArray, List.set_cons_zero, List.set_cons_succ, i64_w, i32_w]
                rfl
              refine pure_ (i := 3) (N := some 27) (v := ?_) (a' := ?_) #[true, true, true, true, false, false, false, false, false, false, false, false, false, false, false, false] rfl rfl (any_of HT_.out (by kernel_rfl)) (fun _ _ _ h => h) (Or.inl ⟨by rfl, ?_⟩) ?_ ?_
              rotate_left
              · intro w'
                go_simp
                with_reducible rfl
              rotate_left
              · simp only [Act.put, List.setIfInBounds_toArray, List.set_cons_zero, List.set_cons_succ, i64_w, i32_w]
                rfl
              refine pure_ (i := 4) (N := some 28) (v := ?_) (a' := ?_) #[true, true, true, true, true, false, false, false, false, false, false, false, false, false, false, false] rfl rfl (any_of HT_.out (by kernel_rfl)) (fun _ _ _ h => h) (Or.inl ⟨by rfl, ?_⟩) ?_ ?_
              rotate_left
              · intro w'
                go_simp
                with_reducible rfl
              rotate_left
              · simp only [Act.put, List.setIfInBounds_toArray, List.set_cons_zero, List.set_cons_succ, i64_w, i32_w]
                rfl
              refine pure_ (i := 5) (N := some 29) (v := ?_) (a' := ?_) #[true, true, true, true, true, true, false, false, false, false, false, false, false, false, false, false] rfl rfl (any_of HT_.out (by kernel_rfl)) (fun _ _ _ h => h) (Or.inl ⟨by rfl, ?_⟩) ?_ ?_
              rotate_left
              · intro w'
                go_simp
                with_reducible rfl
              rotate_left
              · simp only [Act.put, List.setIfInBounds_toArray, List.set_cons_zero, List.set_cons_succ, i64_w, i32_w]
                rfl
              refine pure_ (i := 6) (N := some 30) (v := ?_) (a' := ?_) #[true, true, true, true, true, true, true, false, false, false, false, false, false, false, false, false] rfl rfl (any_of HT_.out (by kernel_rfl)) (fun _ _ _ h => h) (Or.inl ⟨by rfl, ?_⟩) ?_ ?_
              rotate_left
              · intro w'
                go_simp
                with_reducible rfl
              rotate_left
              · simp only [Act.put, List.setIfInBounds_toArray, List.set_cons_zero, List.set_cons_succ, i64_w, i32_w]
                rfl
              refine pure_ (i := 7) (N := some 31) (v := ?_) (a' := ?_) #[true, true, true, true, true, true, true, true, false, false, false, false, false, false, false, false] rfl rfl (any_of HT_.out (by kernel_rfl)) (fun _ _ _ h => h) (Or.inl ⟨by rfl, ?_⟩) ?_ ?_
              rotate_left
              · intro w'
                go_simp
                with_reducible rfl
              rotate_left
              · simp only [Act.put, List.setIfInBounds_toArray, List.set_cons_zero, List.set_cons_succ, i64_w, i32_w]
                rfl
              refine pure_ (i := 8) (N := some 32) (v := ?_) (a' := ?_) #[true, true, true, true, true, true, true, true, true, false, false, false, false, false, false, false] rfl rfl (any_of HT_.out (by kernel_rfl)) (fun _ _ _ h => h) (Or.inl ⟨by rfl, ?_⟩) ?_ ?_
              rotate_left
              · intro w'
                go_simp
                with_reducible rfl
              rotate_left
              · simp only [Act.put, List.setIfInBounds_toArray, List.set_cons_zero, List.set_cons_succ, i64_w, i32_w]
                rfl
              refine pure_ (i := 9) (N := some 33) (v := ?_) (a' := ?_) #[true, true, true, true, true, true, true, true, true, true, false, false, false, false, false, false] rfl rfl (any_of HT_.out (by kernel_rfl)) (fun _ _ _ h => h) (Or.inl ⟨by rfl, ?_⟩) ?_ ?_
              rotate_left
              · intro w'
                go_simp
                with_reducible rfl
              rotate_left
              · simp only [Act.put, List.setIfInBounds_toArray, List.set_cons_zero, List.set_cons_succ, i64_w, i32_w]
                rfl
              refine take_ (i := 10) (N := some 34) (v := ?_) (a' := ?_) #[true, true, true, true, true, true, true, true, true, true, true, false, false, false, false, false] rfl rfl (take_ofW HT_.out HW_.out (by kernel_rfl)) (fun _ _ _ h => h) (Or.inl ⟨by rfl, ?_⟩) hHeld ?_ ?_
              rotate_left
              · rintro w' ⟨s1, s2⟩
                have hck := s1.cell k hlt
                rw [← HXK.out] at hck
                go_simp
                with_reducible rfl
              rotate_left
              · simp only [Act.put, List.setIfInBounds_toArray, List.set_cons_zero, List.set_cons_succ, i64_w, i32_w]
                rfl
              refine one_ (i := 11) (N := some 35) #[true, true, true, true, true, true, true, true, true, true, true, true, false, false, false, false] rfl rfl (one_of HT_.out (by kernel_rfl)) (by decide) (fun K hK => ?_)
              refine goes_ Tryd.func23 (by kernel_rfl) rfl #[.int .i64 x, .int .i64 10] (by rfl) rfl rfl (by (try simp only [List.map_toArray, List.map_cons, List.map_nil]); first | done | rfl) ?_
              refine (hfi.out _ ((HLT.out.on HB6.out).pow)).mono ?_
              rintro e7 w7 ⟨rfl, hb⟩
              refine ⟨_, rfl, ?_⟩
              have HB7 := Aside0.mk (below_step HB6.out hb)
              have HO7 := Aside0.mk (HO6.out.below (B := 0) hb)
              have HX7 := Aside0.mk (blk_below HX6.out hb)
              have HR7 := Aside0.mk (Kd.R_below HR6.out hb)
              clear hb
              refine hK.out _ _ ⟨HO7.out, HX7.out⟩ (fun hHeld => ?_)
              clear hK K
              refine norm_ (a' := ?_) ?_ ?_
              rotate_left
              · show Act.put _ (some 35) _ = _
                simp only [Act.put, List.setIfInBounds_toArray, List.set_cons_zero, List.set_cons_succ, i64_w, i32_w]
                rfl
              refine pure_ (i := 12) (N := some 36) (v := ?_) (a' := ?_) #[true, true, true, true, true, true, true, true, true, true, true, true, true, false, false, false] rfl rfl (any_of HT_.out (by kernel_rfl)) (fun _ _ _ h => h) (Or.inl ⟨by rfl, ?_⟩) ?_ ?_
              rotate_left
              · intro w'
                go_simp
                with_reducible rfl
              rotate_left
              · simp only [Act.put, List.setIfInBounds_toArray, List.set_cons_zero, List.set_cons_succ, i64_w, i32_w]
                rfl
              refine one_ (i := 13) (N := some 37) #[true, true, true, true, true, true, true, true, true, true, true, true, true, true, false, false] rfl rfl (one_of HT_.out (by kernel_rfl)) (by decide) (fun K hK => ?_)
              refine value_ (w1 := ?_) (v := ?_) (by rfl) rfl ?_ ?_
              rotate_left 2
              · go_simp
                constructor
                · rfl
                · rfl
              refine hK.out _ _ ⟨HO7.out.below (B := 0) (below_alloc (Below.refl _ _) _), blk_alloc HX7.out _⟩ (fun hHeld => ?_)
              clear hK K
              refine norm_ (a' := ?_) ?_ ?_
              rotate_left
              · show Act.put _ (some 37) _ = _
                simp only [Act.put, List.setIfInBounds_toArray, List.set_cons_zero, List.set_cons_succ, i64_w, i32_w]
                rfl
              refine one_ (i := 14) (N := some 38) #[true, true, true, true, true, true, true, true, true, true, true, true, true, true, true, false] rfl rfl (one_of HT_.out (by kernel_rfl)) (by decide) (fun K hK => ?_)
              refine Kd.R_append_step Kd.string (w0 := w) w.heap.size (by rfl) (.tmp 24) (.tmp 37) 29 9 (.string ⟨#[]⟩) 16 rfl Tryd.underlying29 info9 rfl (by decide) (by omega) (.slice Ar L.length cr) L ((((⟨#[45, 45]⟩ : ByteArray) ++ nm) ++ (⟨#[61]⟩ : ByteArray)) ++ tx) [.string ((((⟨#[45, 45]⟩ : ByteArray) ++ nm) ++ (⟨#[61]⟩ : ByteArray)) ++ tx)] (fun _ => True) (fun _ => False) rfl rfl ?aP (fun _ hk => hk.elim) ?aF HR7.out HB7.out HB7.out.size ?aL ?_
              (case aP => exact rfl)
              (case aF => exact (fun _ _ => trivial))
              (case aL => have := hLl; omega)
              intro v9 w9 ho hb hg hat
              have HR9 := Aside0.mk ho
              have HB9 := Aside0.mk hb
              have HO9 := Aside0.mk (show OB w9 g xs from ⟨blk_grown HO7.out.blk hg (Kd.R_ne HR7.out HO7.out.blk (by decide)), HO7.out.len⟩)
              have HX9 := Aside0.mk (blk_grown HX7.out hg (Kd.R_ne HR7.out HX7.out (by decide)))
              clear ho hb hg hat
              refine hK.out _ _ ⟨HO9.out, HX9.out⟩ (fun hHeld => ?_)
              clear hK K
              refine norm_ (a' := ?_) ?_ ?_
              rotate_left
              · show Act.put _ (some 38) _ = _
                simp only [Act.put, List.setIfInBounds_toArray, List.set_cons_zero, List.set_cons_succ, i64_w, i32_w]
                rfl
              refine pure_ (i := 15) (N := some 3) (v := ?_) (a' := ?_) #[true, true, true, true, true, true, true, true, true, true, true, true, true, true, true, true] rfl rfl (any_of HT_.out (by kernel_rfl)) (fun _ _ _ h => h) (Or.inl ⟨by rfl, ?_⟩) ?_ ?_
              rotate_left
              · intro w'
                go_simp
                with_reducible rfl
              rotate_left
              · simp only [Act.put, List.setIfInBounds_toArray, List.set_cons_zero, List.set_cons_succ, i64_w, i32_w]
                rfl
              refine done_ (done_of HT_.out (by kernel_rfl)) ?_
              go_wp2
              go_roundg (gk - 1)
              case rel =>
                refine ⟨k + 1, by go_num, by omega, ⟨?_⟩, HO9, HB9⟩
                rw [oWordsTo_succ, ← HE.out, ← HXK.out, show oText e x = [[45, 45] ++ e.name ++ [61] ++ Lib.itoa x] by unfold oText; rw [if_neg HED.out, if_neg HC.out], List.map_append, ← HL.out, List.map_singleton, toBA_append, toBA_append, toBA_append]
                have hn : toBA e.name = nm := HNM.out.symm
                have ht : toBA (Lib.itoa x) = tx := HTX.out.symm
                rw [hn, ht]
                exact HR9.out
              case measure => omega
      · obtain rfl : k = 28 := by omega
        go_wp2
        go_ret
        have e : (oWords xs).map toBA = L := HL.out.symm
        rw [e]
        exact ⟨.slice Ar L.length cr, rfl, HR.out, HB.out⟩
end Go.Proofs.YtmknpchmpgkdbaaDoor.PB
