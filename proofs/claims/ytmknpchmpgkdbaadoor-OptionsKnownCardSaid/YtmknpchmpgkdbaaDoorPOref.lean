import Derived.Test.YtmknpchmpgkdbaaDoorPOnum
import Derived.Test.YtmknpchmpgkdbaaDoorFThreshingref30New
import Derived.Test.YtmknpchmpgkdbaaDoorFThreshingref30Set
import Derived.Test.YtmknpchmpgkdbaaDoorFThreshingref30Words
namespace Go.Proofs.YtmknpchmpgkdbaaDoor.PB
open Go.RowKit Go.Proofs.YtmknpchmpgkdbaaDoorW.PrintWords Go.Proofs.YtmknpchmpgkdbaaDoorW.PrintLast Go.Proofs.YtmknpchmpgkdbaaDoorW.PrintMore
set_option linter.unusedVariables false
set_option linter.unusedSimpArgs false
/-! ### The reference, over what is had -/
def mEnt (k : Nat) (x : Int) : S50 := ⟨toBA (oAt k).name, (oAt k).d, (oAt k).lo, (oAt k).hi, x⟩
def mOf (xs : List Int) : List S50 := (List.range 28).map fun k => mEnt k (xs.getD k 0)
theorem mOf_len (xs : List Int) : (mOf xs).length = 28 := by simp [mOf]
theorem mOf_get (xs : List Int) (i : Nat) (hi : i < 28) : (mOf xs)[i]? = some (mEnt i (xs.getD i 0)) := by
  unfold mOf
  rw [List.getElem?_map, List.getElem?_range hi]
  rfl
theorem mOf_rd (xs : List Int) (i : Nat) (hi : i < 28) : rd_T50 (mOf xs) (i : Int) = mEnt i (xs.getD i 0) := by
  unfold rd_T50
  rw [Int.toNat_natCast, List.getD_eq_getElem?_getD, mOf_get xs i hi]
  rfl
theorem mOf_set {xs : List Int} (h : xs.length = 28) (k : Nat) (hk : k < 28) (v : Int) : (mOf xs).set k (mEnt k v) = mOf (xs.set k v) := by
  apply List.ext_getElem?
  intro i
  rw [List.getElem?_set]
  by_cases hi : i < 28
  · rw [mOf_get _ i hi, mOf_get _ i hi]
    by_cases e : k = i
    · subst e
      rw [if_pos rfl, if_pos (by rw [mOf_len]; exact hk)]
      have : (xs.set k v).getD k 0 = v := by
        rw [List.getD_eq_getElem?_getD, List.getElem?_set, if_pos rfl, if_pos (by omega)]
        rfl
      rw [this]
    · rw [if_neg e]
      have : (xs.set k v).getD i 0 = xs.getD i 0 := by
        rw [List.getD_eq_getElem?_getD, List.getElem?_set, if_neg e, ← List.getD_eq_getElem?_getD]
      rw [this]
  · rw [if_neg (by omega), List.getElem?_eq_none (by rw [mOf_len]; omega), List.getElem?_eq_none (by rw [mOf_len]; omega)]
theorem rnew_f : threshingref30_New.f 30 = some (mOf oNew) := by kernel_rfl
theorem rfind_l0 (xs : List Int) (s : ByteArray) (d : Nat) : ∀ i, i + d = 28 → (∀ j, j < i → ((oAt j).name == s.data.toList) = false) → Ev (fun k => threshingref30_Find.l0 k (mOf xs) s (i : Int)) (oFind s.data.toList) := by
  induction d with
  | zero =>
    intro i hi hno
    refine Ev_succ ?_
    simp only [threshingref30_Find.l0, if_neg (show ¬ ((i : Int) < ((mOf xs).length : Int)) by rw [mOf_len]; omega)]
    rw [oFind_past (by have e : i = 28 := by omega
                       rw [← e]; exact hno)]
    exact Ev.now _
  | succ d ih =>
    intro i hi hno
    refine Ev_succ ?_
    simp only [threshingref30_Find.l0, if_pos (show (i : Int) < ((mOf xs).length : Int) by rw [mOf_len]; omega), if_pos (show 0 ≤ (i : Int) by omega), mOf_rd xs i (by omega), wrap_cast (show i ≤ 9223372036854775806 by omega)]
    have hq : (mEnt i (xs.getD i 0)).f0.toList = s.toList ↔ (oAt i).name = s.data.toList := by rw [Lib.toList_data, Lib.toList_data]; exact Iff.rfl
    by_cases e : (oAt i).name = s.data.toList
    · simp only [if_pos (hq.2 e)]
      rw [oFind_at (by omega) hno (by simpa using e)]
      exact Ev.now _
    · simp only [if_neg (fun h => e (hq.1 h))]
      refine ih (i + 1) (by omega) (fun j hj => ?_)
      rcases Nat.lt_succ_iff_lt_or_eq.1 hj with h | rfl
      · exact hno j h
      · simpa using e
theorem rfind_ev (xs : List Int) (s : ByteArray) : Ev (fun k => threshingref30_Find.f k (mOf xs) s) (oFind s.data.toList) := rfind_l0 xs s 28 0 rfl (fun j hj => absurd hj (Nat.not_lt_zero j))
theorem rset_ev {xs : List Int} (h : xs.length = 28) (s : ByteArray) (n : Int) : Ev (fun k => threshingref30_Set.f k (mOf xs) s n) ((oSet xs s.data.toList n).2.1, (oSet xs s.data.toList n).2.2, mOf (oSet xs s.data.toList n).1) := by
  unfold threshingref30_Set.f
  refine Ev.bind (rfind_ev xs s) ?_
  cases hf : oFindN s.data.toList with
  | none =>
    have e : oSet xs s.data.toList n = (xs, 0, 5) := by unfold oSet; rw [hf]
    simp only [oFind_of_none hf, if_pos (show (-1 : Int) < 0 by omega), e]
    exact Ev.now _
  | some i =>
    have hi := (oFind_lt hf).1
    have e : oSet xs s.data.toList n = (xs.set i (oClamp (oAt i) n), oClamp (oAt i) n, 0) := by unfold oSet; rw [hf]
    simp only [oFind_of_some hf, if_neg (show ¬ ((i : Int) < 0) by omega), if_pos (show 0 ≤ (i : Int) by omega), if_pos (show (i : Int) < ((mOf xs).length : Int) by rw [mOf_len]; omega), mOf_rd xs i hi, e, Int.toNat_natCast]
    have hc : mn (mx n (mEnt i (xs.getD i 0)).f2) (mEnt i (xs.getD i 0)).f3 = oClamp (oAt i) n := mnmx (oAt i) n
    rw [hc]
    have hs : ((mOf xs).set i ⟨(mEnt i (xs.getD i 0)).f0, (mEnt i (xs.getD i 0)).f1, (mEnt i (xs.getD i 0)).f2, (mEnt i (xs.getD i 0)).f3, oClamp (oAt i) n⟩) = mOf (xs.set i (oClamp (oAt i) n)) := mOf_set h i hi _
    rw [hs]
    exact Ev.now _
/-- What the reference sets by the word behind its dashes. -/
def rP (xs : List Int) (T : List UInt8) (no : Bool) : Int × List Int :=
  let c := Lib.cut T [61]
  if c.2.2 = true then (if no = true then (2, xs) else match oNum c.2.1 with | none => (2, xs) | some v => ((oSet xs c.1 v).2.2, (oSet xs c.1 v).1))
  else if no = true then ((oSet xs (T.drop 3) 0).2.2, (oSet xs (T.drop 3) 0).1) else ((oSet xs T 1).2.2, (oSet xs T 1).1)
theorem bt_toBA (t : List UInt8) (i : Nat) (h : i < t.length) : bt (toBA t) (i : Int) = ((t[i]).toNat : Int) := by
  unfold bt
  rw [dif_pos (by rw [Int.toNat_natCast]; exact h)]
  rfl
theorem bt_is (t : List UInt8) (i : Nat) (h : i < t.length) (c : UInt8) : bt (toBA t) (i : Int) = (c.toNat : Int) ↔ t[i] = c := by
  rw [bt_toBA t i h]
  constructor
  · intro e
    apply UInt8.toNat_inj.1
    omega
  · rintro rfl
    rfl
theorem first_of : ∀ T : List UInt8, (61 : UInt8) ∈ T → ∃ a r, T = a ++ 61 :: r ∧ (61 : UInt8) ∉ a := by
  intro T
  induction T with
  | nil => intro h; cases h
  | cons c T ih =>
    intro h
    by_cases e : c = 61
    · exact ⟨[], T, by rw [e]; rfl, by simp⟩
    · have : (61 : UInt8) ∈ T := by
        rcases List.mem_cons.1 h with h | h
        · exact absurd h.symm e
        · exact h
      obtain ⟨a, r, rfl, ha⟩ := ih this
      exact ⟨c :: a, r, rfl, by simp [ha, Ne.symm e]⟩
theorem no_of (a r : List UInt8) : Lib.hasPrefix (a ++ 61 :: r) [110, 111, 45] = Lib.hasPrefix a [110, 111, 45] := by
  unfold Lib.hasPrefix
  match a with
  | [] => rfl
  | [x] => simp [List.isPrefixOf]
  | [x, y] => simp [List.isPrefixOf]
  | x :: y :: z :: a => simp [List.isPrefixOf]
theorem oParse_rP (xs : List Int) (T : List UInt8) : oParse xs (45 :: 45 :: T) = ((rP xs T (Lib.hasPrefix T [110, 111, 45])).2, (rP xs T (Lib.hasPrefix T [110, 111, 45])).1) := by
  have e1 : Lib.hasPrefix (45 :: 45 :: T) [45, 45] = true := by simp [Lib.hasPrefix, List.isPrefixOf]
  have e2 : (45 :: 45 :: T).drop 2 = T := rfl
  have key : oWord (45 :: 45 :: T) = (let c := Lib.cut T [61]; let no := Lib.hasPrefix c.1 [110, 111, 45]; if c.2.2 then (if no then none else (oNum c.2.1).map fun k => (c.1, k)) else if no then some (c.1.drop 3, 0) else some (c.1, 1)) := by
    unfold oWord
    rw [e1, e2]
    rfl
  unfold oParse rP
  rw [key]
  by_cases h : (61 : UInt8) ∈ T
  · obtain ⟨a, r, rfl, ha⟩ := first_of T h
    rw [cut_at r ha]
    dsimp only
    rw [no_of a r]
    cases hp : Lib.hasPrefix a [110, 111, 45] with
    | true => rfl
    | false =>
      simp only [Bool.false_eq_true, if_false, if_true]
      cases oNum r <;> rfl
  · rw [cut_no h]
    dsimp only
    cases hp : Lib.hasPrefix T [110, 111, 45] <;> rfl
end Go.Proofs.YtmknpchmpgkdbaaDoor.PB
