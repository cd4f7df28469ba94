import Derived.Test.YtmknpchmpgkdbaaDoorHOworks
namespace Go.Proofs.YtmknpchmpgkdbaaDoor.PB
open Go.RowKit Go.Proofs.YtmknpchmpgkdbaaDoorW.PrintWords Go.Proofs.YtmknpchmpgkdbaaDoorW.PrintLast Go.Proofs.YtmknpchmpgkdbaaDoorW.PrintMore
set_option linter.unusedVariables false
set_option linter.unusedSimpArgs false
/-! ### Numbers, there and back -/
theorem dec_byte (d : Nat) (h : d < 10) : (UInt8.ofNat (48 + d)).toNat = 48 + d := by
  rw [UInt8.toNat_ofNat']
  omega
theorem dec_parse (u : Nat) (hu : u < 18446744073709551616) (r : List UInt8) : Lib.parseUint10 0 (Lib.decDigits u ++ r) = Lib.parseUint10 u r := by
  induction u using Nat.strongRecOn generalizing r with
  | _ u ih =>
    by_cases h : u < 10
    · rw [Lib.decDigits_one h]
      have e := dec_byte u h
      simp only [List.cons_append, List.nil_append, Lib.parseUint10, e]
      rw [if_pos (by omega), if_neg (by omega), if_neg (by omega)]
      congr 1
      omega
    · rw [Lib.decDigits, dif_neg h, List.append_assoc, ih (u / 10) (by omega) (by omega)]
      have e := dec_byte (u % 10) (by omega)
      simp only [List.cons_append, List.nil_append, Lib.parseUint10, e]
      rw [if_pos (by omega), if_neg (by omega), if_neg (by omega)]
      congr 1
      omega
theorem dec_digits (u : Nat) : ∀ b ∈ Lib.decDigits u, 48 ≤ b.toNat ∧ b.toNat ≤ 57 := by
  induction u using Nat.strongRecOn with
  | _ u ih =>
    by_cases h : u < 10
    · rw [Lib.decDigits_one h]
      intro b hb
      rw [List.mem_singleton.1 hb, dec_byte u h]
      omega
    · rw [Lib.decDigits, dif_neg h]
      intro b hb
      rcases List.mem_append.1 hb with hb | hb
      · exact ih (u / 10) (by omega) b hb
      · rw [List.mem_singleton.1 hb, dec_byte (u % 10) (by omega)]
        omega
theorem dec_ne (u : Nat) : Lib.decDigits u ≠ [] := by
  have := Lib.nDigits_pos u
  rw [← Lib.decDigits_length] at this
  intro h
  rw [h] at this
  exact absurd this (by decide)
theorem dec_mag (u : Nat) (hu : u < 18446744073709551616) : Lib.parseMag (Lib.decDigits u) = .ok u := by
  unfold Lib.parseMag
  rw [if_neg (dec_ne u)]
  have := dec_parse u hu []
  rw [List.append_nil] at this
  exact this
theorem itoa_parse (v : Int) (h0 : -9223372036854775808 ≤ v) (h1 : v ≤ 9223372036854775807) : Lib.parseIntB 64 (Lib.itoa v) = .ok v := by
  rw [Lib.parseIntB_64]
  unfold Lib.itoa
  by_cases h : v < 0
  · rw [if_pos h, Lib.atoiAll_minus, dec_mag _ (by omega)]
    simp only [Lib.signed]
    rw [if_neg (by omega)]
    congr 1
    omega
  · rw [if_neg h]
    cases hd : Lib.decDigits v.toNat with
    | nil => exact absurd hd (dec_ne _)
    | cons c r =>
      have hc := dec_digits v.toNat c (by rw [hd]; exact List.mem_cons_self)
      rw [Lib.atoiAll_plain c r (by omega) (by omega), ← hd, dec_mag _ (by omega)]
      simp only [Lib.signless]
      rw [if_neg (by omega)]
      congr 1
      omega
theorem itoa_bytes (v : Int) : ∀ b ∈ Lib.itoa v, b = 45 ∨ (48 ≤ b.toNat ∧ b.toNat ≤ 57) := by
  unfold Lib.itoa
  split
  · intro b hb
    rcases List.mem_cons.1 hb with rfl | hb
    · exact .inl rfl
    · exact .inr (dec_digits _ b hb)
  · intro b hb
    exact .inr (dec_digits _ b hb)
theorem itoa_no (v : Int) (c : UInt8) (hc : c ≠ 45) (hc2 : c.toNat < 48 ∨ 57 < c.toNat) : c ∉ Lib.itoa v := by
  intro h
  rcases itoa_bytes v c h with h | h
  · exact hc h
  · omega
theorem itoa_zero : Lib.itoa 0 = [48] := by
  unfold Lib.itoa
  rw [if_neg (by omega), show (0 : Int).toNat = 0 from rfl, Lib.decDigits_one (by omega)]
  rfl
/-! ### The words, there and back -/
theorem index_no (c : UInt8) : ∀ a : List UInt8, c ∉ a → Lib.index a [c] = -1 := by
  intro a
  induction a with
  | nil => intro _; rfl
  | cons b l ih =>
    intro h
    have h1 : c ≠ b := fun e => h (by rw [e]; exact List.mem_cons_self)
    have h2 : c ∉ l := fun e => h (List.mem_cons_of_mem _ e)
    have e1 : ([c] : List UInt8).isPrefixOf (b :: l) = false := by simp [List.isPrefixOf, h1]
    rw [Lib.index, e1, ih h2]
    rfl
theorem index_at (c : UInt8) (rest : List UInt8) : ∀ a : List UInt8, c ∉ a → Lib.index (a ++ c :: rest) [c] = a.length := by
  intro a
  induction a with
  | nil =>
    intro _
    have e1 : ([c] : List UInt8).isPrefixOf (c :: rest) = true := by simp [List.isPrefixOf]
    rw [List.nil_append, Lib.index, e1]
    rfl
  | cons b l ih =>
    intro h
    have h1 : c ≠ b := fun e => h (by rw [e]; exact List.mem_cons_self)
    have h2 : c ∉ l := fun e => h (List.mem_cons_of_mem _ e)
    have e1 : ([c] : List UInt8).isPrefixOf (b :: (l ++ c :: rest)) = false := by simp [List.isPrefixOf, h1]
    rw [List.cons_append, Lib.index, e1, ih h2]
    rw [if_neg (by simp), if_neg (by simp)]
    simp
theorem cut_no {c : UInt8} {a : List UInt8} (h : c ∉ a) : Lib.cut a [c] = (a, [], false) := by
  unfold Lib.cut
  rw [index_no c a h]
  rfl
theorem cut_at {c : UInt8} {a : List UInt8} (rest : List UInt8) (h : c ∉ a) : Lib.cut (a ++ c :: rest) [c] = (a, rest, true) := by
  unfold Lib.cut
  rw [index_at c rest a h, if_pos (by omega)]
  simp
theorem oAt_find : ∀ k, k < 28 → oFindN (oAt k).name = some k := by
  have h : (List.range 28).all (fun k => oFindN (oAt k).name == some k) = true := by kernel_rfl
  intro k hk
  exact eq_of_beq (List.all_eq_true.1 h k (List.mem_range.2 hk))
theorem oAt_plain : ∀ k, k < 28 → (61 : UInt8) ∉ (oAt k).name ∧ Lib.hasPrefix (oAt k).name [110, 111, 45] = false := by
  have h : (List.range 28).all (fun k => !(oAt k).name.contains 61 && !Lib.hasPrefix (oAt k).name [110, 111, 45]) = true := by kernel_rfl
  intro k hk
  have := List.all_eq_true.1 h k (List.mem_range.2 hk)
  simpa using this
theorem oWord_no (k : Nat) (hk : k < 28) : oWord ([45, 45, 110, 111, 45] ++ (oAt k).name) = some ((oAt k).name, 0) := by
  have h1 := (oAt_plain k hk).1
  unfold oWord
  have e1 : Lib.hasPrefix ([45, 45, 110, 111, 45] ++ (oAt k).name) [45, 45] = true := by simp [Lib.hasPrefix, List.isPrefixOf]
  rw [e1]
  have e2 : ([45, 45, 110, 111, 45] ++ (oAt k).name).drop 2 = [110, 111, 45] ++ (oAt k).name := rfl
  rw [e2, cut_no (by simp [h1])]
  have e3 : Lib.hasPrefix ([110, 111, 45] ++ (oAt k).name) [110, 111, 45] = true := by simp [Lib.hasPrefix, List.isPrefixOf]
  dsimp only
  rw [e3]
  rfl
theorem oNum_itoa (v : Int) (h0 : -9223372036854775808 ≤ v) (h1 : v ≤ 9223372036854775807) : oNum (Lib.itoa v) = some v := by
  unfold oNum
  rw [itoa_parse v h0 h1]
  simp
theorem oWord_num (k : Nat) (hk : k < 28) (v : Int) (h0 : -9223372036854775808 ≤ v) (h1 : v ≤ 9223372036854775807) : oWord ([45, 45] ++ (oAt k).name ++ [61] ++ Lib.itoa v) = some ((oAt k).name, v) := by
  obtain ⟨p1, p2⟩ := oAt_plain k hk
  unfold oWord
  have e0 : [45, 45] ++ (oAt k).name ++ [61] ++ Lib.itoa v = 45 :: 45 :: ((oAt k).name ++ 61 :: Lib.itoa v) := by simp
  rw [e0]
  have e1 : Lib.hasPrefix (45 :: 45 :: ((oAt k).name ++ 61 :: Lib.itoa v)) [45, 45] = true := by simp [Lib.hasPrefix, List.isPrefixOf]
  rw [e1]
  have e2 : (45 :: 45 :: ((oAt k).name ++ 61 :: Lib.itoa v)).drop 2 = (oAt k).name ++ 61 :: Lib.itoa v := rfl
  rw [e2, cut_at _ p1]
  dsimp only
  rw [p2, oNum_itoa v h0 h1]
  rfl
theorem oSet_at {zs : List Int} (k : Nat) (hk : k < 28) (v : Int) (h : (oAt k).lo ≤ v ∧ v ≤ (oAt k).hi) : oSet zs (oAt k).name v = (zs.set k v, v, 0) := by
  have hc : oClamp (oAt k) v = v := by unfold oClamp; omega
  unfold oSet
  rw [oAt_find k hk]
  dsimp only
  rw [hc]
/-- What is had when the first k options' words have been told. -/
def oDone (xs : List Int) (k : Nat) : List Int := (List.range 28).map fun i => if i < k then xs.getD i 0 else (oAt i).d
theorem oDone_len (xs : List Int) (k : Nat) : (oDone xs k).length = 28 := by simp [oDone]
theorem oDone_get (xs : List Int) (k i : Nat) (hi : i < 28) : (oDone xs k)[i]? = some (if i < k then xs.getD i 0 else (oAt i).d) := by
  unfold oDone
  rw [List.getElem?_map, List.getElem?_range hi]
  rfl
theorem oDone_zero (xs : List Int) : oDone xs 0 = oNew := by
  apply List.ext_getElem?
  intro i
  by_cases hi : i < 28
  · rw [oDone_get xs 0 i hi, if_neg (by omega)]
    have := oNew_at i hi
    rw [List.getD_eq_getElem?_getD, List.getElem?_eq_getElem (show i < oNew.length from hi)] at this
    rw [List.getElem?_eq_getElem (show i < oNew.length from hi)]
    exact congrArg some this.symm
  · rw [List.getElem?_eq_none (by rw [oDone_len]; omega), List.getElem?_eq_none (by rw [oNew_len]; omega)]
theorem oDone_all {xs : List Int} (h : xs.length = 28) : oDone xs 28 = xs := by
  apply List.ext_getElem?
  intro i
  by_cases hi : i < 28
  · rw [oDone_get xs 28 i hi, if_pos hi, List.getD_eq_getElem?_getD, List.getElem?_eq_getElem (by omega)]
    rfl
  · rw [List.getElem?_eq_none (by rw [oDone_len]; omega), List.getElem?_eq_none (by omega)]
theorem oDone_set (xs : List Int) (k : Nat) (hk : k < 28) : (oDone xs k).set k (xs.getD k 0) = oDone xs (k + 1) := by
  apply List.ext_getElem?
  intro i
  rw [List.getElem?_set]
  by_cases hi : i < 28
  · by_cases e : k = i
    · subst e
      rw [if_pos rfl, if_pos (by rw [oDone_len]; exact hk), oDone_get xs (k + 1) k hk, if_pos (by omega)]
    · rw [if_neg e, oDone_get xs k i hi, oDone_get xs (k + 1) i hi]
      by_cases h1 : i < k
      · rw [if_pos h1, if_pos (by omega)]
      · rw [if_neg h1, if_neg (by omega)]
  · rw [if_neg (by omega), List.getElem?_eq_none (by rw [oDone_len]; omega), List.getElem?_eq_none (by rw [oDone_len]; omega)]
theorem oDone_same (xs : List Int) (k : Nat) (hk : k < 28) (h : xs.getD k 0 = (oAt k).d) : oDone xs k = oDone xs (k + 1) := by
  rw [← oDone_set xs k hk]
  apply List.ext_getElem?
  intro i
  rw [List.getElem?_set]
  by_cases e : k = i
  · subst e
    rw [if_pos rfl, if_pos (by rw [oDone_len]; exact hk), oDone_get xs k k hk, if_neg (by omega), h]
  · rw [if_neg e]
/-- Words told one behind the other, all of them right. -/
def oRun : List Int → List (List UInt8) → Option (List Int)
  | s, [] => some s
  | s, t :: ts => if (oParse s t).2 = 0 then oRun (oParse s t).1 ts else none
theorem oRun_append (s s1 : List Int) (a b : List (List UInt8)) (h : oRun s a = some s1) : oRun s (a ++ b) = oRun s1 b := by
  induction a generalizing s with
  | nil => cases h; rfl
  | cons t ts ih =>
    rw [oRun] at h
    split at h
    · rename_i h0
      rw [List.cons_append, oRun, if_pos h0]
      exact ih _ h
    · cases h
theorem oRun_text {xs : List Int} (h : OIn xs) (k : Nat) (hk : k < 28) : oRun (oDone xs k) (oText (oAt k) (xs.getD k 0)) = some (oDone xs (k + 1)) := by
  have hb := h.2 k hk
  have hi := h.int k hk
  unfold oText
  by_cases h1 : xs.getD k 0 = (oAt k).d
  · rw [if_pos h1]
    show some _ = _
    rw [oDone_same xs k hk h1]
  · rw [if_neg h1]
    by_cases h2 : (oAt k).lo = 0 ∧ (oAt k).hi = 1 ∧ xs.getD k 0 = 0
    · rw [if_pos h2]
      have e := oParse_some (xs := oDone xs k) (oWord_no k hk)
      rw [oSet_at k hk 0 (by omega)] at e
      rw [oRun, e, if_pos rfl]
      show some _ = _
      rw [← oDone_set xs k hk, h2.2.2]
    · rw [if_neg h2]
      have e := oParse_some (xs := oDone xs k) (oWord_num k hk _ hi.1 hi.2)
      rw [oSet_at k hk _ hb] at e
      rw [oRun, e, if_pos rfl]
      show some _ = _
      rw [← oDone_set xs k hk]
theorem oRun_to {xs : List Int} (h : OIn xs) : ∀ k, k ≤ 28 → oRun oNew (oWordsTo xs k) = some (oDone xs k) := by
  intro k
  induction k with
  | zero => intro _; show some oNew = _; rw [oDone_zero]
  | succ k ih =>
    intro hk
    rw [oWordsTo_succ, oRun_append _ _ _ _ (ih (by omega))]
    exact oRun_text h k (by omega)
theorem oRun_words {xs : List Int} (h : OIn xs) : oRun oNew (oWords xs) = some xs := by
  unfold oWords
  rw [oRun_to h 28 (by omega), oDone_all h.1]
end Go.Proofs.YtmknpchmpgkdbaaDoor.PB
