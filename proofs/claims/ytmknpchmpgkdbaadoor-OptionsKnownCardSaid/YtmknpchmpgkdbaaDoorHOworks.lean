import Derived.Test.YtmknpchmpgkdbaaDoorHOwords
namespace Go.Proofs.YtmknpchmpgkdbaaDoor.PB
open Go.RowKit Go.Proofs.YtmknpchmpgkdbaaDoorW.PrintWords Go.Proofs.YtmknpchmpgkdbaaDoorW.PrintLast Go.Proofs.YtmknpchmpgkdbaaDoorW.PrintMore
set_option linter.unusedVariables false
set_option linter.unusedSimpArgs false
/-! ### works -/
/-- Each number is within its option (so within an int64). -/
def OIn (xs : List Int) : Prop := xs.length = 28 ∧ ∀ k, k < 28 → (oAt k).lo ≤ xs.getD k 0 ∧ xs.getD k 0 ≤ (oAt k).hi
theorem oAt_bd : ∀ k, k < 28 → 0 ≤ (oAt k).lo ∧ (oAt k).lo ≤ (oAt k).d ∧ (oAt k).d ≤ (oAt k).hi ∧ (oAt k).hi ≤ 4611686018427387904 := by
  have h : (List.range 28).all (fun k => decide (0 ≤ (oAt k).lo ∧ (oAt k).lo ≤ (oAt k).d ∧ (oAt k).d ≤ (oAt k).hi ∧ (oAt k).hi ≤ 4611686018427387904)) = true := by decide
  intro k hk
  simpa using List.all_eq_true.1 h k (List.mem_range.2 hk)
theorem OIn.int {xs : List Int} (h : OIn xs) : ∀ k, k < 28 → -9223372036854775808 ≤ xs.getD k 0 ∧ xs.getD k 0 ≤ 9223372036854775807 := fun k hk => by
  have h1 := h.2 k hk
  have h2 := oAt_bd k hk
  omega
theorem oNew_at (k : Nat) (hk : k < 28) : oNew.getD k 0 = (oAt k).d := by
  have h3 : k < oTab.length := hk
  unfold oNew oAt
  rw [List.getD_eq_getElem?_getD, List.getElem?_map, List.getElem?_eq_getElem h3, List.getD_eq_getElem?_getD, List.getElem?_eq_getElem h3]
  rfl
theorem OIn.new : OIn oNew := ⟨oNew_len, fun k hk => by rw [oNew_at k hk]; have := oAt_bd k hk; omega⟩
theorem oClamp_in (k : Nat) (hk : k < 28) (n : Int) : (oAt k).lo ≤ oClamp (oAt k) n ∧ oClamp (oAt k) n ≤ (oAt k).hi := by
  have := oAt_bd k hk
  unfold oClamp
  omega
theorem OIn.put {xs : List Int} (h : OIn xs) (k : Nat) (hk : k < 28) (n : Int) : OIn (xs.set k (oClamp (oAt k) n)) := by
  refine ⟨by rw [List.length_set]; exact h.1, fun j hj => ?_⟩
  rw [List.getD_eq_getElem?_getD, List.getElem?_set]
  by_cases e : k = j
  · subst e
    rw [if_pos rfl, if_pos (by rw [h.1]; exact hk)]
    exact oClamp_in k hk n
  · rw [if_neg e, ← List.getD_eq_getElem?_getD]
    exact h.2 j hj
theorem OIn.set {xs : List Int} (h : OIn xs) (s : List UInt8) (n : Int) : OIn (oSet xs s n).1 := by
  unfold oSet
  split
  · exact h
  · rename_i i hi
    exact h.put i (oFind_lt hi).1 n
theorem OIn.parse {xs : List Int} (h : OIn xs) (s : List UInt8) : OIn (oParse xs s).1 := by
  unfold oParse
  split
  · exact h
  · exact h.set _ _
theorem words_calls' (g : Nat) (xs : List Int) (w : World) {B : Nat} (hlt : LT B w) (hB : B ≤ g) (hO : OB w g xs) (hx : OIn xs) :
    Calls Tryd.prog 11 #[.pointer (some ⟨g, 0, none⟩)] w fun e w' => ∃ v, e = .returned v ∧ Kd.R Kd.string 9 w' w.heap.size (fun _ => True) v ((oWords xs).map toBA) ∧ Below w.heap.size w w' := words_calls g xs w hlt hB hO hx.int
def wMargin : ByteArray := ⟨#[109, 97, 114, 103, 105, 110]⟩
def wGlue : ByteArray := ⟨#[45, 45, 103, 108, 117, 101, 61, 51]⟩
def wXs1 : List Int := (oSet oNew wMargin.data.toList 99).1
def wXs2 : List Int := (oParse wXs1 wGlue.data.toList).1
theorem wk1 : (oSet oNew wMargin.data.toList 99).2 = (100, 0) := by kernel_rfl
theorem wk2 : oGet wXs1 wMargin.data.toList = (100, true) := by kernel_rfl
theorem wk3 : (oParse wXs1 wGlue.data.toList).2 = 0 := by kernel_rfl
theorem wk4 : (oWords wXs2).length = 2 := by kernel_rfl
set_option maxHeartbeats 2000000 in
set_option maxRecDepth 100000 in
theorem works_calls (w : World) (hlt : LT w.heap.size w) :
    Calls Tryd.prog 7 #[] w fun e w' => e = .returned (.bool true) ∧ Below w.heap.size w w' := by
  have HLT := Aside0.mk hlt
  clear hlt
  go_enter Tryd.func7, Tryd.ntmps7
  go_wp2_with fail
  refine (new_calls w HLT.out).mono ?_
  rintro e w2 ⟨g, rfl, hg, hO, hb⟩
  have HB2 := Aside0.mk hb
  have HO2 := Aside0.mk hO
  have HG := Aside0.mk hg
  clear hb hO hg
  go_wp2_with fail
  refine (set_calls g oNew wMargin 99 w2 (HLT.out.on HB2.out) HG.out HO2.out).mono ?_
  rw [wk1]
  rintro e w3 ⟨rfl, hO, hg3⟩
  have HB3 := Aside0.mk (HB2.out.trans (hg3.below HG.out HB2.out.size))
  have HO3 := Aside0.mk (show OB w3 g wXs1 from hO)
  clear hO hg3
  go_wp2_with fail
  refine (get_calls g wXs1 wMargin w3 (HLT.out.on HB3.out) HG.out HO3.out).mono ?_
  rw [wk2]
  rintro e w4 ⟨rfl, hb⟩
  have HB4 := Aside0.mk (below_step HB3.out hb)
  have HO4 := Aside0.mk (HO3.out.below (B := 0) hb)
  clear hb
  go_wp2_with fail
  refine (parse_calls g wXs1 wGlue w4 (HLT.out.on HB4.out) HG.out HO4.out (by decide)).mono ?_
  rw [wk3]
  rintro e w5 ⟨rfl, hO, hg5⟩
  have HB5 := Aside0.mk (HB4.out.trans (hg5.below HG.out HB4.out.size))
  have HO5 := Aside0.mk (show OB w5 g wXs2 from hO)
  clear hO hg5
  go_wp2_with fail
  refine (words_calls' g wXs2 w5 (HLT.out.on HB5.out) HG.out HO5.out ((OIn.new.set _ _).parse _)).mono ?_
  rintro e w6 ⟨v, rfl, hR, hb⟩
  have HB6 := Aside0.mk (below_step HB5.out hb)
  obtain ⟨A6, c6, rfl⟩ := Kd.R_slice hR
  have hl : ((oWords wXs2).map toBA).length = 2 := by rw [List.length_map]; exact wk4
  rw [hl]
  clear hb hR hl
  go_wp2_with fail
  go_ret
  exact ⟨rfl, HB6.out⟩
end Go.Proofs.YtmknpchmpgkdbaaDoor.PB
