import Derived.Test.YtmknpchmpgkdbaaDoorHOworks
import Derived.Outline
import Derived.Test.YtmknpchmpgkdbaaDoorFThreshinglaw30Same
namespace Go.Proofs.YtmknpchmpgkdbaaDoor.PB
open Go.RowKit Go.Proofs.YtmknpchmpgkdbaaDoorW.PrintWords Go.Proofs.YtmknpchmpgkdbaaDoorW.PrintLast Go.Proofs.YtmknpchmpgkdbaaDoorW.PrintMore
set_option linter.unusedVariables false
set_option linter.unusedSimpArgs false
/-! ### Setting in either order -/
theorem oSet_res (xs ys : List Int) (s : List UInt8) (n : Int) : (oSet xs s n).2 = (oSet ys s n).2 := by unfold oSet; split <;> rfl
theorem oFind_inj {a b : List UInt8} {i : Nat} (ha : oFindN a = some i) (hb : oFindN b = some i) : a = b := (oFind_lt ha).2.1.symm.trans (oFind_lt hb).2.1
theorem oSet_comm {xs : List Int} {a b : List UInt8} (m n : Int) (h : a ≠ b) : (oSet (oSet xs a m).1 b n).1 = (oSet (oSet xs b n).1 a m).1 := by
  unfold oSet
  cases ha : oFindN a with
  | none => cases hb : oFindN b <;> rfl
  | some i =>
    cases hb : oFindN b with
    | none => rfl
    | some j =>
      have hij : i ≠ j := fun e => h (oFind_inj ha (e ▸ hb))
      exact List.set_comm _ _ hij
theorem oSet_again (xs : List Int) (a : List UInt8) (m n : Int) : (oSet (oSet xs a m).1 a n).1 = (oSet xs a n).1 := by
  unfold oSet
  cases ha : oFindN a with
  | none => rfl
  | some i => exact List.set_set ..
theorem oGet_set {xs : List Int} (h : xs.length = 28) (s : List UInt8) (n : Int) : oGet (oSet xs s n).1 s = ((oSet xs s n).2.1, decide ((oSet xs s n).2.2 = 0)) := by
  unfold oGet oSet
  cases hs : oFindN s with
  | none => rfl
  | some i =>
    have hi := (oFind_lt hs).1
    show ((xs.set i _).getD i 0, true) = _
    rw [List.getD_eq_getElem?_getD, List.getElem?_set, if_pos rfl, if_pos (by rw [h]; exact hi)]
    rfl
theorem rdOf_eq (xs : List ByteArray) (i : Nat) (h : i < xs.length) : rdOf ByteArray.empty xs (i : Int) = xs[i] := by simp [rdOf, List.getElem?_eq_getElem h]
theorem sameS_l0 (l : List ByteArray) (hl : l.length ≤ 1000000) (n : Nat) : ∀ (k i : Nat), i + n = l.length → n < k → threshinglaw30_same.l0 k l l (i : Int) = some true := by
  induction n with
  | zero =>
    intro k i hi hk
    obtain ⟨k, rfl⟩ : ∃ m, k = m + 1 := ⟨k - 1, by omega⟩
    simp only [threshinglaw30_same.l0]
    rw [if_neg (by omega)]
  | succ n ih =>
    intro k i hi hk
    obtain ⟨k, rfl⟩ : ∃ m, k = m + 1 := ⟨k - 1, by omega⟩
    have hw : wrap64 ((i : Int) + 1) = ((i + 1 : Nat) : Int) := by unfold wrap64; omega
    simp only [threshinglaw30_same.l0]
    rw [if_pos (by omega), if_pos (by omega), if_pos (by omega), if_pos trivial, hw]
    exact ih k (i + 1) (by omega) (by omega)
theorem sameS_f (l : List ByteArray) (hl : l.length ≤ 1000000) : threshinglaw30_same.f 2000000 l l = some true := by
  unfold threshinglaw30_same.f
  rw [if_pos rfl]
  exact sameS_l0 l hl l.length 2000000 0 (by omega) (by omega)
theorem oWords_len (xs : List Int) : ((oWords xs).map toBA).length ≤ 28 := by rw [List.length_map]; exact oWordsTo_len xs 28
/-- same of the words of two that have the same. -/
theorem same_words {w : World} {base1 base2 : Nat} {v1 v2 : Value} {l : List ByteArray} (h1 : Kd.R Kd.string 9 w base1 (fun _ => True) v1 l) (h2 : Kd.R Kd.string 9 w base2 (fun _ => True) v2 l) (hl : l.length ≤ 1000000) :
    Calls Tryd.prog 10 #[v1, v2] w fun e w' => e = .returned (.bool true) ∧ Drawn0 w w' := by
  obtain ⟨A1, c1, rfl⟩ := Kd.R_slice h1
  obtain ⟨A2, c2, rfl⟩ := Kd.R_slice h2
  exact threshinglaw30_same.calls 2000000 A1 c1 l A2 c2 l true w (Kd.R_reads' h1).2.2 (Kd.R_reads' h1).2.1 (Kd.R_reads' h2).2.2 (Kd.R_reads' h2).2.1 (sameS_f l hl)
set_option maxHeartbeats 4000000 in
set_option maxRecDepth 100000 in
theorem order_calls (a b : ByteArray) (m n : Int) (w : World) (hlt : LT w.heap.size w) :
    Calls Tryd.prog 3 #[.string a, .string b, .int .i64 m, .int .i64 n] w fun e w' => e = .returned (.bool true) ∧ Below w.heap.size w w' := by
  have HLT := Aside0.mk hlt
  clear hlt
  by_cases ha : 4000 < a.size
  · have ha' : decide (4000 < a.size) = true := decide_eq_true ha
    have hai : decide ((4000 : Int) < (a.size : Int)) = true := decide_eq_true (by omega)
    go_enter Tryd.func3, Tryd.ntmps3
    go_wp2_with fail
    refine (works_calls _ HLT.out).mono ?_
    rintro e w2 ⟨rfl, hb⟩
    have HB2 := Aside0.mk hb
    clear hb
    go_wp2
    go_ret
    exact ⟨rfl, HB2.out⟩
  by_cases hbz : 4000 < b.size
  · have ha' : decide (4000 < a.size) = false := decide_eq_false ha
    have hai : decide ((4000 : Int) < (a.size : Int)) = false := decide_eq_false (by omega)
    have hb' : decide (4000 < b.size) = true := decide_eq_true hbz
    have hbi : decide ((4000 : Int) < (b.size : Int)) = true := decide_eq_true (by omega)
    go_enter Tryd.func3, Tryd.ntmps3
    go_wp2_with fail
    refine (works_calls _ HLT.out).mono ?_
    rintro e w2 ⟨rfl, hb⟩
    have HB2 := Aside0.mk hb
    clear hb
    go_wp2
    go_ret
    exact ⟨rfl, HB2.out⟩
  have ha' : decide (4000 < a.size) = false := decide_eq_false ha
  have hai : decide ((4000 : Int) < (a.size : Int)) = false := decide_eq_false (by omega)
  have hb' : decide (4000 < b.size) = false := decide_eq_false hbz
  have hbi : decide ((4000 : Int) < (b.size : Int)) = false := decide_eq_false (by omega)
  clear ha hbz
  obtain ⟨xo1, hxo1⟩ : ∃ x, x = (oSet oNew a.data.toList m).1 := ⟨_, rfl⟩
  obtain ⟨xo2, hxo2⟩ : ∃ x, x = (oSet xo1 b.data.toList n).1 := ⟨_, rfl⟩
  obtain ⟨xp1, hxp1⟩ : ∃ x, x = (oSet oNew b.data.toList n).1 := ⟨_, rfl⟩
  obtain ⟨y, hy⟩ : ∃ y, y = (oSet oNew b.data.toList n).2.1 := ⟨_, rfl⟩
  obtain ⟨f, hf⟩ : ∃ y, y = (oSet oNew b.data.toList n).2.2 := ⟨_, rfl⟩
  obtain ⟨za, hza⟩ : ∃ y, y = (oSet oNew a.data.toList m).2 := ⟨_, rfl⟩
  have ha1 := Aside0.mk (show oSet oNew a.data.toList m = (xo1, za.1, za.2) by rw [hxo1, hza])
  have hb1 := Aside0.mk (show oSet oNew b.data.toList n = (xp1, y, f) by rw [hxp1, hy, hf])
  have hb2 := Aside0.mk (show oSet xo1 b.data.toList n = (xo2, y, f) by
    have := oSet_res xo1 oNew b.data.toList n
    rw [hxo2, hy, hf, ← this])
  have i1 : OIn xo1 := by rw [hxo1]; exact OIn.new.set _ _
  have i2 := Aside0.mk (show OIn xo2 by rw [hxo2]; exact i1.set _ _)
  have hg2 := Aside0.mk (show oGet xo2 b.data.toList = (y, decide (f = 0)) by
    have := oGet_set i1.1 b.data.toList n
    rw [hb2.out] at this
    exact this)
  have hf2 : f = 0 ∨ f = 5 := by
    rw [hf]
    unfold oSet
    split
    · exact .inr rfl
    · exact .inl rfl
  have hlast : (a.toList = b.toList → xp1 = xo2) ∧ (a.toList ≠ b.toList → (oSet xp1 a.data.toList m) = (xo2, za.1, za.2)) := by
    constructor
    · intro e
      rw [Lib.toList_data, Lib.toList_data] at e
      rw [hxp1, hxo2, hxo1, ← e, oSet_again]
    · intro e
      rw [Lib.toList_data, Lib.toList_data] at e
      have h1 := oSet_comm (xs := oNew) m n e
      have h2 := oSet_res xp1 oNew a.data.toList m
      have h3 : (oSet xp1 a.data.toList m).1 = xo2 := by rw [hxp1, hxo2, hxo1, h1]
      rw [← hza] at h2
      rw [← h3, ← h2]
  obtain ⟨hl1, hl2⟩ := hlast
  have HL1 := Aside0.mk hl1
  have HL2 := Aside0.mk hl2
  clear hl1 hl2 hxo1 hxo2 hxp1 hy hf hza i1
  have walk : ∀ (hq : (a.toList == b.toList) = true ∨ (a.toList == b.toList) = false), Calls Tryd.prog 3 #[.string a, .string b, .int .i64 m, .int .i64 n] w fun e w' => e = .returned (.bool true) ∧ Below w.heap.size w w' := by
    intro hq
    rcases hf2 with rfl | rfl
    all_goals (rcases hq with hq | hq)
    all_goals have hqn : (a.toList != b.toList) = !(a.toList == b.toList) := rfl
    all_goals rw [hq] at hqn
    all_goals simp only [Bool.not_true, Bool.not_false] at hqn
    all_goals
      go_enter Tryd.func3, Tryd.ntmps3
      go_wp2_with fail
      refine (new_calls w HLT.out).mono ?_
      rintro e w2 ⟨go, rfl, hg, hO, hb⟩
      have HB2 := Aside0.mk hb
      have HO2 := Aside0.mk hO
      have HGO := Aside0.mk hg
      clear hb hO hg
      go_wp2_with fail
      refine (new_calls w2 ((HLT.out.on HB2.out).up HB2.out.size)).mono ?_
      rintro e w3 ⟨gp, rfl, hg, hO, hb⟩
      have HB3 := Aside0.mk (below_step HB2.out hb)
      have HP3 := Aside0.mk hO
      have HO3 := Aside0.mk (HO2.out.below (B := 0) hb)
      have HNE := Aside0.mk (show go ≠ gp from Nat.ne_of_lt (Nat.lt_of_lt_of_le (blk_lt HO2.out.blk) hg))
      have HGP := Aside0.mk (Nat.le_trans HB2.out.size hg)
      clear hb hO hg
      go_wp2_with fail
      refine (set_calls go oNew a m w3 (HLT.out.on HB3.out) HGO.out HO3.out).mono ?_
      rw [ha1.out]
      rintro e w4 ⟨rfl, hO, hg⟩
      have HB4 := Aside0.mk (HB3.out.trans (hg.below HGO.out HB3.out.size))
      have HO4 := Aside0.mk (show OB w4 go xo1 from hO)
      have HP4 := Aside0.mk (hg.other HP3.out (Ne.symm HNE.out))
      clear hO hg
      go_wp2_with fail
      refine (set_calls go xo1 b n w4 (HLT.out.on HB4.out) HGO.out HO4.out).mono ?_
      rw [hb2.out]
      rintro e w5 ⟨rfl, hO, hg⟩
      have HB5 := Aside0.mk (HB4.out.trans (hg.below HGO.out HB4.out.size))
      have HO5 := Aside0.mk (show OB w5 go xo2 from hO)
      have HP5 := Aside0.mk (hg.other HP4.out (Ne.symm HNE.out))
      clear hO hg
      go_wp2_with fail
      refine (set_calls gp oNew b n w5 (HLT.out.on HB5.out) HGP.out HP5.out).mono ?_
      rw [hb1.out]
      rintro e w6 ⟨rfl, hO, hg⟩
      have HB6 := Aside0.mk (HB5.out.trans (hg.below HGP.out HB5.out.size))
      have HP6 := Aside0.mk (show OB w6 gp xp1 from hO)
      have HO6 := Aside0.mk (hg.other HO5.out HNE.out)
      clear hO hg
      go_wp2_with fail
    · have he : xp1 = xo2 := HL1.out (by simpa using hq)
      rw [he] at HP6
      refine (words_calls' go xo2 w6 (HLT.out.on HB6.out) HGO.out HO6.out i2.out).mono ?_
      rintro e w7 ⟨v7, rfl, hR, hb⟩
      have HB7 := Aside0.mk (below_step HB6.out hb)
      have HO7 := Aside0.mk (HO6.out.below (B := 0) hb)
      have HP7 := Aside0.mk (HP6.out.below (B := 0) hb)
      have HR7 := Aside0.mk hR
      clear hb hR
      go_wp2_with fail
      refine (words_calls' gp xo2 w7 (HLT.out.on HB7.out) HGP.out HP7.out i2.out).mono ?_
      rintro e w8 ⟨v8, rfl, hR, hb⟩
      have HB8 := Aside0.mk (below_step HB7.out hb)
      have HO8 := Aside0.mk (HO7.out.below (B := 0) hb)
      have HR8 := Aside0.mk (Kd.R_below HR7.out hb)
      have HS8 := Aside0.mk hR
      clear hb hR
      go_wp2_with fail
      refine (same_words HR8.out HS8.out (by have := oWords_len xo2; omega)).mono ?_
      rintro e w9 ⟨rfl, nd, rfl⟩
      have HB9 := Aside0.mk (pw_below_drewN HB8.out nd)
      have HO9 := Aside0.mk (OB.drewN HO8.out nd)
      go_wp2_with fail
      refine (get_calls go xo2 b _ (HLT.out.on HB9.out) HGO.out HO9.out).mono ?_
      rw [hg2.out]
      rintro e w10 ⟨rfl, hb⟩
      have HB10 := Aside0.mk (below_step HB9.out hb)
      clear hb
      go_wp2_with fail
      refine (works_calls _ ((HLT.out.on HB10.out).up HB10.out.size)).mono ?_
      rintro e w11 ⟨rfl, hb⟩
      have HB11 := Aside0.mk (below_step HB10.out hb)
      clear hb
      go_wp2
      go_ret
      exact ⟨rfl, HB11.out⟩
    · refine (set_calls gp xp1 a m w6 (HLT.out.on HB6.out) HGP.out HP6.out).mono ?_
      rw [HL2.out (by simpa using hq)]
      rintro e w6' ⟨rfl, hO, hg⟩
      have HB6' := Aside0.mk (HB6.out.trans (hg.below HGP.out HB6.out.size))
      have HP6' := Aside0.mk (show OB w6' gp xo2 from hO)
      have HO6' := Aside0.mk (hg.other HO6.out HNE.out)
      clear hO hg
      go_wp2_with fail
      refine (words_calls' go xo2 w6' (HLT.out.on HB6'.out) HGO.out HO6'.out i2.out).mono ?_
      rintro e w7 ⟨v7, rfl, hR, hb⟩
      have HB7 := Aside0.mk (below_step HB6'.out hb)
      have HO7 := Aside0.mk (HO6'.out.below (B := 0) hb)
      have HP7 := Aside0.mk (HP6'.out.below (B := 0) hb)
      have HR7 := Aside0.mk hR
      clear hb hR
      go_wp2_with fail
      refine (words_calls' gp xo2 w7 (HLT.out.on HB7.out) HGP.out HP7.out i2.out).mono ?_
      rintro e w8 ⟨v8, rfl, hR, hb⟩
      have HB8 := Aside0.mk (below_step HB7.out hb)
      have HO8 := Aside0.mk (HO7.out.below (B := 0) hb)
      have HR8 := Aside0.mk (Kd.R_below HR7.out hb)
      have HS8 := Aside0.mk hR
      clear hb hR
      go_wp2_with fail
      refine (same_words HR8.out HS8.out (by have := oWords_len xo2; omega)).mono ?_
      rintro e w9 ⟨rfl, nd, rfl⟩
      have HB9 := Aside0.mk (pw_below_drewN HB8.out nd)
      have HO9 := Aside0.mk (OB.drewN HO8.out nd)
      go_wp2_with fail
      refine (get_calls go xo2 b _ (HLT.out.on HB9.out) HGO.out HO9.out).mono ?_
      rw [hg2.out]
      rintro e w10 ⟨rfl, hb⟩
      have HB10 := Aside0.mk (below_step HB9.out hb)
      clear hb
      go_wp2_with fail
      refine (works_calls _ ((HLT.out.on HB10.out).up HB10.out.size)).mono ?_
      rintro e w11 ⟨rfl, hb⟩
      have HB11 := Aside0.mk (below_step HB10.out hb)
      clear hb
      go_wp2
      go_ret
      exact ⟨rfl, HB11.out⟩
    · have he : xp1 = xo2 := HL1.out (by simpa using hq)
      rw [he] at HP6
      refine (words_calls' go xo2 w6 (HLT.out.on HB6.out) HGO.out HO6.out i2.out).mono ?_
      rintro e w7 ⟨v7, rfl, hR, hb⟩
      have HB7 := Aside0.mk (below_step HB6.out hb)
      have HO7 := Aside0.mk (HO6.out.below (B := 0) hb)
      have HP7 := Aside0.mk (HP6.out.below (B := 0) hb)
      have HR7 := Aside0.mk hR
      clear hb hR
      go_wp2_with fail
      refine (words_calls' gp xo2 w7 (HLT.out.on HB7.out) HGP.out HP7.out i2.out).mono ?_
      rintro e w8 ⟨v8, rfl, hR, hb⟩
      have HB8 := Aside0.mk (below_step HB7.out hb)
      have HO8 := Aside0.mk (HO7.out.below (B := 0) hb)
      have HR8 := Aside0.mk (Kd.R_below HR7.out hb)
      have HS8 := Aside0.mk hR
      clear hb hR
      go_wp2_with fail
      refine (same_words HR8.out HS8.out (by have := oWords_len xo2; omega)).mono ?_
      rintro e w9 ⟨rfl, nd, rfl⟩
      have HB9 := Aside0.mk (pw_below_drewN HB8.out nd)
      have HO9 := Aside0.mk (OB.drewN HO8.out nd)
      go_wp2_with fail
      refine (get_calls go xo2 b _ (HLT.out.on HB9.out) HGO.out HO9.out).mono ?_
      rw [hg2.out]
      rintro e w10 ⟨rfl, hb⟩
      have HB10 := Aside0.mk (below_step HB9.out hb)
      clear hb
      go_wp2_with fail
      refine (works_calls _ ((HLT.out.on HB10.out).up HB10.out.size)).mono ?_
      rintro e w11 ⟨rfl, hb⟩
      have HB11 := Aside0.mk (below_step HB10.out hb)
      clear hb
      go_wp2
      go_ret
      exact ⟨rfl, HB11.out⟩
    · refine (set_calls gp xp1 a m w6 (HLT.out.on HB6.out) HGP.out HP6.out).mono ?_
      rw [HL2.out (by simpa using hq)]
      rintro e w6' ⟨rfl, hO, hg⟩
      have HB6' := Aside0.mk (HB6.out.trans (hg.below HGP.out HB6.out.size))
      have HP6' := Aside0.mk (show OB w6' gp xo2 from hO)
      have HO6' := Aside0.mk (hg.other HO6.out HNE.out)
      clear hO hg
      go_wp2_with fail
      refine (words_calls' go xo2 w6' (HLT.out.on HB6'.out) HGO.out HO6'.out i2.out).mono ?_
      rintro e w7 ⟨v7, rfl, hR, hb⟩
      have HB7 := Aside0.mk (below_step HB6'.out hb)
      have HO7 := Aside0.mk (HO6'.out.below (B := 0) hb)
      have HP7 := Aside0.mk (HP6'.out.below (B := 0) hb)
      have HR7 := Aside0.mk hR
      clear hb hR
      go_wp2_with fail
      refine (words_calls' gp xo2 w7 (HLT.out.on HB7.out) HGP.out HP7.out i2.out).mono ?_
      rintro e w8 ⟨v8, rfl, hR, hb⟩
      have HB8 := Aside0.mk (below_step HB7.out hb)
      have HO8 := Aside0.mk (HO7.out.below (B := 0) hb)
      have HR8 := Aside0.mk (Kd.R_below HR7.out hb)
      have HS8 := Aside0.mk hR
      clear hb hR
      go_wp2_with fail
      refine (same_words HR8.out HS8.out (by have := oWords_len xo2; omega)).mono ?_
      rintro e w9 ⟨rfl, nd, rfl⟩
      have HB9 := Aside0.mk (pw_below_drewN HB8.out nd)
      have HO9 := Aside0.mk (OB.drewN HO8.out nd)
      go_wp2_with fail
      refine (get_calls go xo2 b _ (HLT.out.on HB9.out) HGO.out HO9.out).mono ?_
      rw [hg2.out]
      rintro e w10 ⟨rfl, hb⟩
      have HB10 := Aside0.mk (below_step HB9.out hb)
      clear hb
      go_wp2_with fail
      refine (works_calls _ ((HLT.out.on HB10.out).up HB10.out.size)).mono ?_
      rintro e w11 ⟨rfl, hb⟩
      have HB11 := Aside0.mk (below_step HB10.out hb)
      clear hb
      go_wp2
      go_ret
      exact ⟨rfl, HB11.out⟩
  cases hq : (a.toList == b.toList)
  · exact walk (.inr hq)
  · exact walk (.inl hq)
end Go.Proofs.YtmknpchmpgkdbaaDoor.PB
