import Derived.Test.YtmknpchmpgkdbaaDoorHOworks
import Derived.Test.YtmknpchmpgkdbaaDoorFThreshinglaw30Large
namespace Go.Proofs.YtmknpchmpgkdbaaDoor.PB
open Go.RowKit Go.Proofs.YtmknpchmpgkdbaaDoorW.PrintWords Go.Proofs.YtmknpchmpgkdbaaDoorW.PrintLast Go.Proofs.YtmknpchmpgkdbaaDoorW.PrintMore
set_option linter.unusedVariables false
set_option linter.unusedSimpArgs false
/-! ### Table -/
theorem seg_one : ∀ q ∈ tabCells.toList, q.oneCell' = true := by
  have h : tabCells.toList.all (fun q => q.oneCell') = true := by kernel_rfl
  intro q hq
  exact List.all_eq_true.1 h q hq
theorem zeros_size : ((List.replicate 28 oz).flatMap oVals).toArray.size = 112 := by kernel_rfl
theorem tab_cell_at {w : World} {g : Nat} {tt : TypeId} (h : w.heap[g]? = some (.cells tabCells tt (0, 0))) (k : Nat) (hk : k < 28) (j : Nat) (hj : j < 4) : w.cell? ⟨g, k * 4 + j, none⟩ = (oVals (oAt k))[j]? := by
  rw [blk_cell h (k * 4 + j)]
  have e := congrArg (fun a : Array Value => a[j]?) (tab_at k hk)
  simp only [Array.getElem?_extract] at e
  rw [if_pos (by rw [tabCells_size]; omega)] at e
  rw [e]
  simp
set_option maxHeartbeats 1000000 in
set_option maxRecDepth 100000 in
theorem table_calls (w : World) (hlt : LT w.heap.size w) :
    Calls Tryd.prog 15 #[] w fun e w' => ∃ g, e = .returned (.slice (some ⟨g, 0, none⟩) 28 28) ∧ w.heap.size ≤ g ∧ w'.heap[g]? = some (.cells tabCells 55 (0, 0)) ∧ Below w.heap.size w w' := by
  obtain ⟨tt, hO⟩ := hlt.here.opts
  have HO := Aside0.mk hO
  have hal : Tryd.prog.arrayLen 55 = 28 := by kernel_rfl
  clear hlt hO
  go_enter Tryd.func15, Tryd.ntmps15
  go_wp2_with (first | ((with_reducible refine gate_dst (N := 2) rfl ?_); refine wpList_load_row rfl 55 (.global 0) rfl 0 rfl tt tabCells (0, 0) _ HO.out Tryd.underlying55 rfl ld55 ?_) | ((with_reducible refine gate_dst (N := 1) rfl ?_); refine box_event ?hg (N := 1) ?hd (cs := ((List.replicate 28 oz).flatMap oVals).toArray) (t := 55) ?hr ?_; (case hd => rfl); (case hg => rfl); (case hr => first | (go_simp; done) | (go_simp; rfl)); intro g1 hgb w1 hbox hb; have HG1 := Aside0.mk hbox; have HB1 := Aside0.mk hb; have HL1 := Aside0.mk (show w.heap.size ≤ g1 by rw [hgb]; exact Nat.le_refl _); clear hbox hb hgb) | ((with_reducible refine gate_store (t := 55) (p := 1) rfl ?_); refine store_block 55 1 (.tmp 2) rfl rfl rfl (.agg tabCells) tabCells.toList tabCells rfl rfl HG1.out rfl (by rw [ld55]; simp) (by rw [zeros_size]; simp [tabCells_size]) seg_one (by rw [setSeg_all _ _ (by rw [zeros_size]; simp [tabCells_size])]) ?_; intro w2 hw2 hsb; have HG2 := Aside0.mk hw2; have HB2 := Aside0.mk (hsb.below HB1.out HL1.out); clear hw2 hsb))
  go_ret
  exact ⟨g1, rfl, HL1.out, HG2.out, HB2.out⟩
/-! ### large -/
theorem rdT37_get (l : List S37) (i : Nat) (h : i < l.length) : rd_T37 l (i : Int) = l[i] := by simp [rd_T37, List.getElem?_eq_getElem h]
theorem large_l0 (l : List S37) (hl : l.length ≤ 4611686018427387904) (hs : ∀ s ∈ l, s.f1.size ≤ 140737488355328) (d : Nat) : ∀ (i n : Nat), i + d = l.length → n ≤ 4000 + 140737488355328 → (∀ j (h : j < l.length), j < i → l[j].f1.size ≤ n) →
    ∃ r : Bool, (∀ k, d < k → threshinglaw30_large.l0 k l (n : Int) (i : Int) = some r) ∧ (r = false → l.length ≤ 200 ∧ ∀ s ∈ l, s.f1.size ≤ 4000) := by
  have fin : ∀ (i n : Nat), (∀ j (h : j < l.length), j < i → l[j].f1.size ≤ n) → (i = l.length ∨ 4000 < n) → ((if (l.length : Int) > 200 then true else decide ((n : Int) > 4000)) = false → l.length ≤ 200 ∧ ∀ s ∈ l, s.f1.size ≤ 4000) := by
    intro i n hn hi hr
    by_cases h2 : (l.length : Int) > 200
    · rw [if_pos h2] at hr; cases hr
    · rw [if_neg h2] at hr
      have h3 := of_decide_eq_false hr
      refine ⟨by omega, fun s hs => ?_⟩
      obtain ⟨j, hj, rfl⟩ := List.mem_iff_getElem.1 hs
      have := hn j hj (by omega)
      omega
  have two : ∀ n : Nat, (if (l.length : Int) > 200 then some true else some (decide ((n : Int) > 4000))) = some (if (l.length : Int) > 200 then true else decide ((n : Int) > 4000)) := fun n => by split <;> rfl
  induction d with
  | zero =>
    intro i n hi hn hall
    refine ⟨_, fun k hk => ?_, fin i n hall (.inl (by omega))⟩
    obtain ⟨k, rfl⟩ : ∃ m, k = m + 1 := ⟨k - 1, by omega⟩
    simp only [threshinglaw30_large.l0]
    rw [if_neg (by omega), two]
  | succ d ih =>
    intro i n hi hn hall
    by_cases h4 : n ≤ 4000
    · have hil : i < l.length := by omega
      have hsz := hs _ (List.getElem_mem hil)
      obtain ⟨r, h1, h2⟩ := ih (i + 1) (n + l[i].f1.size) (by omega) (by omega) (fun j h hj => by
        rcases Nat.lt_succ_iff_lt_or_eq.1 hj with h' | rfl
        · have := hall j h h'; omega
        · omega)
      refine ⟨r, fun k hk => ?_, h2⟩
      obtain ⟨k, rfl⟩ : ∃ m, k = m + 1 := ⟨k - 1, by omega⟩
      have hw1 : wrap64 ((n : Int) + (l[i].f1.size : Int)) = ((n + l[i].f1.size : Nat) : Int) := by unfold wrap64; omega
      have hw2 : wrap64 ((i : Int) + 1) = ((i + 1 : Nat) : Int) := by unfold wrap64; omega
      simp only [threshinglaw30_large.l0]
      rw [if_pos (by omega), if_pos (by omega), if_pos (by omega), rdT37_get l i hil, hw1, hw2]
      exact h1 k (by omega)
    · refine ⟨_, fun k hk => ?_, fin i n hall (.inr (by omega))⟩
      obtain ⟨k, rfl⟩ : ∃ m, k = m + 1 := ⟨k - 1, by omega⟩
      simp only [threshinglaw30_large.l0]
      rw [if_pos (by omega), if_neg (by omega), two]
theorem large_f (l : List S37) (hl : l.length ≤ 4611686018427387904) (hs : ∀ s ∈ l, s.f1.size ≤ 140737488355328) : ∃ r : Bool, threshinglaw30_large.f (l.length + 1) l = some r ∧ (r = false → l.length ≤ 200 ∧ ∀ s ∈ l, s.f1.size ≤ 4000) := by
  obtain ⟨r, h1, h2⟩ := large_l0 l hl hs l.length 0 0 (by omega) (by omega) (fun j h hj => absurd hj (Nat.not_lt_zero j))
  exact ⟨r, h1 _ (by omega), h2⟩
end Go.Proofs.YtmknpchmpgkdbaaDoor.PB
