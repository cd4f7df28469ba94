import Derived.Test.YtmknpchmpgkdbaaDoorHOmb
import Derived.Test.YtmknpchmpgkdbaaDoorHOorder
import Derived.Test.YtmknpchmpgkdbaaDoorFThreshinglaw30Copied
import Derived.Test.YtmknpchmpgkdbaaDoorHOworks
import Derived.Outline
import Derived.Test.YtmknpchmpgkdbaaDoorHOtable
import Derived.Deep.MidRow
section
namespace Go.Proofs.YtmknpchmpgkdbaaDoor.PB
open Go.RowKit Go.Proofs.YtmknpchmpgkdbaaDoorW.PrintWords Go.Proofs.YtmknpchmpgkdbaaDoorW.PrintLast Go.Proofs.YtmknpchmpgkdbaaDoorW.PrintMore
set_option linter.unusedVariables false
set_option linter.unusedSimpArgs false
/-! ### The reference's words -/
theorem str_one (d : Nat) (h : d < 10) (x : Int) (hx : x = 48 + d) : strOfNums [x] = toBA [UInt8.ofNat (48 + d)] := by
  unfold strOfNums toBA
  have : x.toNat = 48 + d := by omega
  simp [this]
theorem rdig_ev : ∀ n : Nat, n ≤ 9223372036854775807 → Ev (fun k => threshingref30_digits.f k (n : Int)) (toBA (Lib.decDigits n)) := by
  intro n
  induction n using Nat.strongRecOn with
  | _ n ih =>
    intro hn
    refine Ev_succ ?_
    by_cases h : n < 10
    · simp only [threshingref30_digits.f, if_pos (show (n : Int) < 10 by omega)]
      rw [str_one n h _ (by omega), Lib.decDigits_one h]
      exact Ev.now _
    · simp only [threshingref30_digits.f, if_neg (show ¬ ((n : Int) < 10) by omega)]
      have e1 : wrap64 (Int.tdiv (n : Int) 10) = ((n / 10 : Nat) : Int) := by
        rw [Int.tdiv_eq_ediv_of_nonneg (by omega)]
        unfold wrap64
        omega
      have e2 : Int.tmod (n : Int) 10 = ((n % 10 : Nat) : Int) := by
        rw [Int.tmod_eq_emod_of_nonneg (by omega)]
        omega
      simp only [e1, e2]
      refine Ev.bind (ih (n / 10) (by omega) (by omega)) ?_
      simp only [Option.bind_some]
      have e3 := str_one (n % 10) (by omega) ((48 + (((n % 10 : Nat) : Int)) % 256) % 256) (by omega)
      rw [e3]
      have hl : (Lib.decDigits (n / 10)).length ≤ 25 := by
        have := Lib.itoa_length_le ((n / 10 : Nat) : Int) (by omega) (by omega)
        have e : Lib.itoa ((n / 10 : Nat) : Int) = Lib.decDigits (n / 10) := by unfold Lib.itoa; rw [if_neg (by omega)]; rfl
        rw [e] at this
        omega
      simp only [if_pos (show (toBA (Lib.decDigits (n / 10))).size + (toBA [UInt8.ofNat (48 + n % 10)]).size ≤ 9223372036854775807 by rw [toBA_size, toBA_size, List.length_singleton]; omega)]
      rw [← toBA_append]
      have e4 : Lib.decDigits n = Lib.decDigits (n / 10) ++ [UInt8.ofNat (48 + n % 10)] := by conv => lhs; rw [Lib.decDigits, dif_neg h]
      rw [e4]
      exact Ev.now _
theorem rdig_itoa (x : Int) (h0 : 0 ≤ x) (h1 : x ≤ 9223372036854775807) : Ev (fun k => threshingref30_digits.f k x) (toBA (Lib.itoa x)) := by
  obtain ⟨n, rfl⟩ := Int.eq_ofNat_of_zero_le h0
  have e : Lib.itoa (n : Int) = Lib.decDigits n := by unfold Lib.itoa; rw [if_neg (by omega)]; rfl
  rw [e]
  exact rdig_ev n (by omega)
theorem rwords_l0 {xs : List Int} (hx : OIn xs) (d : Nat) : ∀ i, i + d = 28 → Ev (fun k => threshingref30_Words.l0 k (mOf xs) ((oWordsTo xs i).map toBA) (i : Int)) ((oWords xs).map toBA) := by
  induction d with
  | zero =>
    intro i hi
    obtain rfl : i = 28 := by omega
    refine Ev_succ ?_
    simp only [threshingref30_Words.l0, if_neg (show ¬ (((28 : Nat) : Int) < ((mOf xs).length : Int)) by rw [mOf_len]; omega)]
    exact Ev.now _
  | succ d ih =>
    intro i hi
    have hi28 : i < 28 := by omega
    have hin := hx.2 i hi28
    have hbd := oAt_bd i hi28
    have hnl := oAt_len i hi28
    obtain ⟨x, hxx⟩ : ∃ x, x = xs.getD i 0 := ⟨_, rfl⟩
    have hih := ih (i + 1) (by omega)
    rw [oWordsTo_succ, ← hxx, List.map_append] at hih
    have hacc : ((oWordsTo xs i).map toBA).length < 8796093022208 := by rw [List.length_map]; have := oWordsTo_len xs i; omega
    rw [← hxx] at hin
    refine Ev_succ ?_
    simp only [threshingref30_Words.l0, if_pos (show (i : Int) < ((mOf xs).length : Int) by rw [mOf_len]; omega), if_pos (show 0 ≤ (i : Int) by omega), mOf_rd xs i hi28, wrap_cast (show i ≤ 9223372036854775806 by omega), ← hxx]
    have f0 : (mEnt i x).f0 = toBA (oAt i).name := rfl
    have f1 : (mEnt i x).f1 = (oAt i).d := rfl
    have f2 : (mEnt i x).f2 = (oAt i).lo := rfl
    have f3 : (mEnt i x).f3 = (oAt i).hi := rfl
    have f4 : (mEnt i x).f4 = x := rfl
    simp only [f0, f1, f2, f3, f4]
    have long : oText (oAt i) x = [[45, 45] ++ (oAt i).name ++ [61] ++ Lib.itoa x] →
        Ev (fun k => if 2 + (toBA (oAt i).name).size ≤ 9223372036854775807 then (if ((⟨#[45, 45]⟩ : ByteArray) ++ (toBA (oAt i).name)).size + 1 ≤ 9223372036854775807 then ((threshingref30_digits.f k x).bind fun t187 => (if (((⟨#[45, 45]⟩ : ByteArray) ++ (toBA (oAt i).name)) ++ (⟨#[61]⟩ : ByteArray)).size + t187.size ≤ 9223372036854775807 then (if ((oWordsTo xs i).map toBA).length < 8796093022208 then (threshingref30_Words.l0 k (mOf xs) (((oWordsTo xs i).map toBA) ++ [(((⟨#[45, 45]⟩ : ByteArray) ++ (toBA (oAt i).name)) ++ (⟨#[61]⟩ : ByteArray)) ++ t187]) ((i + 1 : Nat) : Int)) else (none)) else (none))) else (none)) else (none)) ((oWords xs).map toBA) := by
      intro he
      rw [he] at hih
      have z1 : (⟨#[45, 45]⟩ : ByteArray) = toBA [45, 45] := rfl
      have z2 : (⟨#[61]⟩ : ByteArray) = toBA [61] := rfl
      simp only [z1, z2, ← toBA_append]
      have hit := Lib.itoa_length_le x (by omega) (by omega)
      simp only [if_pos (show 2 + (toBA (oAt i).name).size ≤ 9223372036854775807 by rw [toBA_size]; omega), if_pos (show (toBA ([45, 45] ++ (oAt i).name)).size + 1 ≤ 9223372036854775807 by rw [toBA_size, List.length_append]; show 2 + _ + 1 ≤ _; omega)]
      refine Ev.bind (rdig_itoa x (by omega) (by omega)) ?_
      simp only [if_pos (show (toBA ([45, 45] ++ (oAt i).name ++ [61])).size + (toBA (Lib.itoa x)).size ≤ 9223372036854775807 by rw [toBA_size, toBA_size, List.length_append, List.length_append]; show 2 + _ + 1 + _ ≤ _; omega), if_pos hacc, ← toBA_append]
      exact hih
    by_cases h1 : x = (oAt i).d
    · simp only [if_pos h1]
      rw [show oText (oAt i) x = [] by unfold oText; rw [if_pos h1], List.map_nil, List.append_nil] at hih
      exact hih
    · simp only [if_neg h1]
      by_cases h2 : (oAt i).lo = 0
      · simp only [if_pos h2]
        by_cases h3 : (oAt i).hi = 1
        · simp only [if_pos h3]
          by_cases h4 : x = 0
          · simp only [if_pos h4]
            rw [show oText (oAt i) x = [[45, 45, 110, 111, 45] ++ (oAt i).name] by unfold oText; rw [if_neg h1, if_pos ⟨h2, h3, h4⟩]] at hih
            have z1 : (⟨#[45, 45, 110, 111, 45]⟩ : ByteArray) = toBA [45, 45, 110, 111, 45] := rfl
            simp only [z1, ← toBA_append, if_pos (show 5 + (toBA (oAt i).name).size ≤ 9223372036854775807 by rw [toBA_size]; omega), if_pos hacc]
            exact hih
          · simp only [if_neg h4]
            exact long (by unfold oText; rw [if_neg h1, if_neg (fun h => h4 h.2.2)])
        · simp only [if_neg h3]
          exact long (by unfold oText; rw [if_neg h1, if_neg (fun h => h3 h.2.1)])
      · simp only [if_neg h2]
        exact long (by unfold oText; rw [if_neg h1, if_neg (fun h => h2 h.1)])
theorem rwords_ev {xs : List Int} (hx : OIn xs) : Ev (fun k => threshingref30_Words.f k (mOf xs)) ((oWords xs).map toBA) := rwords_l0 hx 28 0 rfl
theorem mwords_calls (gm c : Nat) (xs : List Int) (base : Nat) (w : World) (hM : MB w base gm c xs) (hx : OIn xs) :
    Calls Tryd.prog 30 #[.slice (some ⟨gm, 0, none⟩) 28 c] w fun e w' => ∃ v, e = .returned v ∧ Kd.R Kd.string 9 w' w.heap.size (fun _ => True) v ((oWords xs).map toBA) ∧ Below w.heap.size w w' := by
  obtain ⟨k, hk⟩ := (rwords_ev hx).rounds
  exact threshingref30_Words.calls k (some ⟨gm, 0, none⟩) c (mOf xs) _ w hM.C.1 hM.C.2 hk
theorem mfind_calls (gm c : Nat) (xs : List Int) (s : ByteArray) (base : Nat) (w : World) (hM : MB w base gm c xs) :
    Calls Tryd.prog 28 #[.slice (some ⟨gm, 0, none⟩) 28 c, .string s] w fun e w' => e = .returned (.int .i64 (oFind s.data.toList)) ∧ Drawn0 w w' := by
  obtain ⟨k, hk⟩ := (rfind_ev xs s).rounds
  exact threshingref30_Find.calls k (some ⟨gm, 0, none⟩) c (mOf xs) s _ w hM.C.1 hM.C.2 hk
theorem mnew_calls (w : World) : Calls Tryd.prog 16 #[] w fun e w' => ∃ gm c, e = .returned (.slice (some ⟨gm, 0, none⟩) 28 c) ∧ w.heap.size ≤ gm ∧ MB w' w.heap.size gm c oNew ∧ Below w.heap.size w w' := by
  refine (threshingref30_New.calls 30 (mOf oNew) w rnew_f).mono ?_
  rintro e w' ⟨v, rfl, hR, hb⟩
  obtain ⟨gm, c, rfl, _, hg, hM⟩ := MB.of_R hR
  exact ⟨gm, c, rfl, hg, hM, hb⟩
theorem mcopied_calls (gm c : Nat) (xs : List Int) (base : Nat) (w : World) (hM : MB w base gm c xs) : Calls Tryd.prog 18 #[.slice (some ⟨gm, 0, none⟩) 28 c] w fun e w' => ∃ g2 c2, e = .returned (.slice (some ⟨g2, 0, none⟩) 28 c2) ∧ w.heap.size ≤ g2 ∧ MB w' w.heap.size g2 c2 xs ∧ Below w.heap.size w w' := by
  refine (threshinglaw30_copied.calls (some ⟨gm, 0, none⟩) c (mOf xs) (mOf xs) w hM.C.1 hM.C.2 (by unfold threshinglaw30_copied.f; rw [if_pos (by rw [mOf_len]; decide), List.nil_append])).mono ?_
  rintro e w' ⟨v, rfl, hR, hb⟩
  obtain ⟨g2, c2, rfl, _, hg, hM⟩ := MB.of_R hR
  exact ⟨g2, c2, rfl, hg, hM, hb⟩
end Go.Proofs.YtmknpchmpgkdbaaDoor.PB
end

section
namespace Go.Proofs.YtmknpchmpgkdbaaDoor.PB
open Go.RowKit Go.Proofs.YtmknpchmpgkdbaaDoorW.PrintWords Go.Proofs.YtmknpchmpgkdbaaDoorW.PrintLast Go.Proofs.YtmknpchmpgkdbaaDoorW.PrintMore
set_option linter.unusedVariables false
set_option linter.unusedSimpArgs false
/-! ### nil options -/
theorem set_nil (s : ByteArray) (n : Int) (w : World) : Calls Tryd.prog 9 #[.pointer none, .string s, .int .i64 n] w fun e w' => e = .returned (.tuple #[.int .i64 0, .int .i64 1]) ∧ w' = w := by
  go_enter Tryd.func9, Tryd.ntmps9
  go_wp2
  go_ret2
  exact ⟨rfl, rfl⟩
theorem get_nil (s : ByteArray) (w : World) (hlt : LT w.heap.size w) : Calls Tryd.prog 12 #[.pointer none, .string s] w fun e w' => e = .returned (.tuple #[.int .i64 0, .bool false]) ∧ Below w.heap.size w w' := by
  have HLT := Aside0.mk hlt
  clear hlt
  go_enter Tryd.func12, Tryd.ntmps12
  go_wp2_with fail
  refine (find_calls s w HLT.out).mono ?_
  rintro e w2 ⟨rfl, hb⟩
  have HB := Aside0.mk hb
  clear hb
  go_wp2
  go_ret2
  exact ⟨rfl, HB.out⟩
theorem parse_nil (s : ByteArray) (w : World) : Calls Tryd.prog 14 #[.pointer none, .string s] w fun e w' => e = .returned (.int .i64 1) ∧ Below w.heap.size w w' := by
  go_enter Tryd.func14, Tryd.ntmps14
  go_wp2_with (first | ((with_reducible refine gate_dst (N := 2) rfl ?_); fail) | fail)
  go_ret
  exact ⟨rfl, Below.refl _ _⟩
theorem words_nil (w : World) : Calls Tryd.prog 11 #[.pointer none] w fun e w' => e = .returned (.slice none 0 0) ∧ Below w.heap.size w w' := by
  go_enter Tryd.func11, Tryd.ntmps11
  go_wp2
  refine start_ (n := 13) (S := fun _ => True) (ds := []) #[false, false, false, false, false, false, false, false, false, false, false, false, false] (by kernel_rfl) rfl rfl trivial (fun hHeld => ?_); refine with_tabW words.tab1 words.bits1 (fun HT_ HW_ => ?_)
  refine pure_ (i := 0) (N := some 6) (v := ?_) (a' := ?_) #[true, false, false, false, false, false, false, false, false, false, false, false, false] rfl rfl (any_of HT_.out (by kernel_rfl)) (fun _ _ _ h => h) (Or.inl ⟨by rfl, ?_⟩) ?_ ?_
  rotate_left
  · intro w'
    go_simp
    with_reducible rfl
  rotate_left
  · simp only [Act.put, List.setIfInBounds_toArray, List.set_cons_zero, List.set_cons_succ, i64_w, i32_w]
    rfl
  refine pure_ (i := 1) (N := some 7) (v := ?_) (a' := ?_) #[true, true, false, false, false, false, false, false, false, false, false, false, false] rfl rfl (any_of HT_.out (by kernel_rfl)) (fun _ _ _ h => h) (Or.inl ⟨by rfl, ?_⟩) ?_ ?_
  rotate_left
  · intro w'
    go_simp
    with_reducible rfl
  rotate_left
  · simp only [Act.put, List.setIfInBounds_toArray, List.set_cons_zero, List.set_cons_succ, i64_w, i32_w]
    rfl
  refine pure_ (i := 2) (N := some 8) (v := ?_) (a' := ?_) #[true, true, true, false, false, false, false, false, false, false, false, false, false] rfl rfl (any_of HT_.out (by kernel_rfl)) (fun _ _ _ h => h) (Or.inl ⟨by rfl, ?_⟩) ?_ ?_
  rotate_left
  · intro w'
    go_simp
    with_reducible rfl
  rotate_left
  · simp only [Act.put, List.setIfInBounds_toArray, List.set_cons_zero, List.set_cons_succ, i64_w, i32_w]
    rfl
  refine pure_ (i := 3) (N := some 9) (v := undef) (a' := ?_) #[true, true, true, true, false, false, false, false, false, false, false, false, false] rfl rfl (any_of HT_.out (by kernel_rfl)) (fun _ _ _ h => h) (Or.inr ⟨by rfl, rfl⟩) ?_ ?_
  rotate_left
  · simp only [Act.put, List.setIfInBounds_toArray, List.set_cons_zero, List.set_cons_succ, i64_w, i32_w]
    rfl
  refine pure_ (i := 4) (N := some 10) (v := undef) (a' := ?_) #[true, true, true, true, true, false, false, false, false, false, false, false, false] rfl rfl (any_of HT_.out (by kernel_rfl)) (fun _ _ _ h => h) (Or.inr ⟨by rfl, rfl⟩) ?_ ?_
  rotate_left
  · simp only [Act.put, List.setIfInBounds_toArray, List.set_cons_zero, List.set_cons_succ, i64_w, i32_w]
    rfl
  refine pure_ (i := 5) (N := some 11) (v := undef) (a' := ?_) #[true, true, true, true, true, true, false, false, false, false, false, false, false] rfl rfl (any_of HT_.out (by kernel_rfl)) (fun _ _ _ h => h) (Or.inr ⟨by rfl, rfl⟩) ?_ ?_
  rotate_left
  · simp only [Act.put, List.setIfInBounds_toArray, List.set_cons_zero, List.set_cons_succ, i64_w, i32_w]
    rfl
  refine pure_ (i := 6) (N := some 12) (v := undef) (a' := ?_) #[true, true, true, true, true, true, true, false, false, false, false, false, false] rfl rfl (any_of HT_.out (by kernel_rfl)) (fun _ _ _ h => h) (Or.inr ⟨by rfl, rfl⟩) ?_ ?_
  rotate_left
  · simp only [Act.put, List.setIfInBounds_toArray, List.set_cons_zero, List.set_cons_succ, i64_w, i32_w]
    rfl
  refine one_ (i := 7) (N := some 13) #[true, true, true, true, true, true, true, true, false, false, false, false, false] rfl rfl (one_of HT_.out (by kernel_rfl)) (by decide) (fun K hK => ?_)
  refine Eq.mpr (if_neg (ne_true_of_eq_false (by rfl))) ?_
  refine hK.out _ _ trivial (fun hHeld => ?_)
  clear hK K
  refine norm_ (a' := ?_) ?_ ?_
  rotate_left
  · show Act.put _ (some 13) _ = _
    simp only [Act.put, List.setIfInBounds_toArray, List.set_cons_zero, List.set_cons_succ, i64_w, i32_w]
    rfl
  refine pure_ (i := 8) (N := some 14) (v := undef) (a' := ?_) #[true, true, true, true, true, true, true, true, true, false, false, false, false] rfl rfl (any_of HT_.out (by kernel_rfl)) (fun _ _ _ h => h) (Or.inr ⟨by rfl, rfl⟩) ?_ ?_
  rotate_left
  · simp only [Act.put, List.setIfInBounds_toArray, List.set_cons_zero, List.set_cons_succ, i64_w, i32_w]
    rfl
  refine pure_ (i := 9) (N := some 15) (v := undef) (a' := ?_) #[true, true, true, true, true, true, true, true, true, true, false, false, false] rfl rfl (any_of HT_.out (by kernel_rfl)) (fun _ _ _ h => h) (Or.inr ⟨by rfl, rfl⟩) ?_ ?_
  rotate_left
  · simp only [Act.put, List.setIfInBounds_toArray, List.set_cons_zero, List.set_cons_succ, i64_w, i32_w]
    rfl
  refine one_ (i := 10) (N := some 16) #[true, true, true, true, true, true, true, true, true, true, true, false, false] rfl rfl (one_of HT_.out (by kernel_rfl)) (by decide) (fun K hK => ?_)
  refine Eq.mpr (if_neg (ne_true_of_eq_false (by rfl))) ?_
  refine hK.out _ _ trivial (fun hHeld => ?_)
  clear hK K
  refine norm_ (a' := ?_) ?_ ?_
  rotate_left
  · show Act.put _ (some 16) _ = _
    simp only [Act.put, List.setIfInBounds_toArray, List.set_cons_zero, List.set_cons_succ, i64_w, i32_w]
    rfl
  refine pure_ (i := 11) (N := some 17) (v := undef) (a' := ?_) #[true, true, true, true, true, true, true, true, true, true, true, true, false] rfl rfl (any_of HT_.out (by kernel_rfl)) (fun _ _ _ h => h) (Or.inr ⟨by rfl, rfl⟩) ?_ ?_
  rotate_left
  · simp only [Act.put, List.setIfInBounds_toArray, List.set_cons_zero, List.set_cons_succ, i64_w, i32_w]
    rfl
  refine pure_ (i := 12) (N := some 18) (v := ?_) (a' := ?_) #[true, true, true, true, true, true, true, true, true, true, true, true, true] rfl rfl (any_of HT_.out (by kernel_rfl)) (fun _ _ _ h => h) (Or.inl ⟨by rfl, ?_⟩) ?_ ?_
  rotate_left
  · intro w'
    go_simp
    with_reducible rfl
  rotate_left
  · simp only [Act.put, List.setIfInBounds_toArray, List.set_cons_zero, List.set_cons_succ, i64_w, i32_w]
    rfl
  refine done_ (done_of HT_.out (by kernel_rfl)) ?_
  go_wp2
  go_ret
  exact ⟨rfl, below_drew1 (Below.refl _ _)⟩
theorem copy_nil (w : World) : Calls Tryd.prog 17 #[.pointer none] w fun e w' => e = .returned (.pointer none) ∧ Below w.heap.size w w' := by
  go_enter Tryd.func17, Tryd.ntmps17
  go_wp2
  go_ret
  exact ⟨rfl, Below.refl _ _⟩
/-! ### The chapter's examples -/
def kWords : List ByteArray := [⟨#[45, 45, 103, 108, 117, 101, 61, 51]⟩, ⟨#[45, 45, 110, 111, 45, 101, 108, 105, 109]⟩, ⟨#[45, 45, 115, 101, 101, 100]⟩, ⟨#[45, 45, 103, 108, 117, 101, 61, 48, 51]⟩, ⟨#[45, 45, 103, 108, 117, 101, 61]⟩, ⟨#[103, 108, 117, 101, 61, 51]⟩, ⟨#[45, 45, 110, 111, 45, 103, 108, 117, 101, 61, 51]⟩, ⟨#[45, 45, 120]⟩, ⟨#[45, 45, 110, 111, 45, 120]⟩, ⟨#[45, 45]⟩, ⟨#[45]⟩, ⟨#[]⟩, ⟨#[45, 45, 103, 108, 117, 101, 61, 45, 48]⟩, ⟨#[45, 45, 103, 108, 117, 101, 61, 43, 49]⟩, ⟨#[45, 45, 103, 108, 117, 101, 61, 49, 61, 49]⟩, ⟨#[45, 45, 61, 49]⟩, ⟨#[45, 45, 110, 111, 45]⟩, ⟨#[45, 45, 99, 111, 110, 102, 108, 105, 99, 116, 115, 61, 45, 57, 50, 50, 51, 51, 55, 50, 48, 51, 54, 56, 53, 52, 55, 55, 53, 56, 48, 56]⟩, ⟨#[45, 45, 99, 111, 110, 102, 108, 105, 99, 116, 115, 61, 45, 57, 50, 50, 51, 51, 55, 50, 48, 51, 54, 56, 53, 52, 55, 55, 53, 56, 48, 57]⟩, ⟨#[45, 45, 99, 111, 110, 102, 108, 105, 99, 116, 115, 61, 57, 50, 50, 51, 51, 55, 50, 48, 51, 54, 56, 53, 52, 55, 55, 53, 56, 48, 56]⟩, ⟨#[45, 45, 110, 111, 45, 120, 61, 49]⟩, ⟨#[45, 45, 71, 108, 117, 101]⟩, ⟨#[45, 45, 103, 108, 117, 101, 32, 61, 51]⟩]
def kWant : List Int := [0, 0, 0, 2, 2, 2, 2, 5, 5, 5, 2, 2, 2, 2, 2, 5, 5, 0, 2, 2, 2, 5, 5]
def kMargin : ByteArray := ⟨#[109, 97, 114, 103, 105, 110]⟩
def kX : ByteArray := ⟨#[120]⟩
def kSeed : ByteArray := ⟨#[115, 101, 101, 100]⟩
def kNoSeed : ByteArray := ⟨#[45, 45, 110, 111, 45, 115, 101, 101, 100]⟩
def kNoRestart : ByteArray := ⟨#[45, 45, 110, 111, 45, 114, 101, 115, 116, 97, 114, 116]⟩
def kRestart : ByteArray := ⟨#[114, 101, 115, 116, 97, 114, 116]⟩
def kx0 : List Int := (oSet oNew kMargin.data.toList 120).1
def kAt (i : Nat) : List Int := (kWords.take i).foldl (fun xs s => (oParse xs s.data.toList).1) kx0
def kw (i : Nat) : ByteArray := kWords.getD i ByteArray.empty
def ke (i : Nat) : Int := kWant.getD i 0
theorem ks1 : (oSet oNew kMargin.data.toList 120).2 = (120, 0) := by kernel_rfl
theorem ks2 : oSet kx0 kX.data.toList 1 = (kx0, 0, 5) := by kernel_rfl
theorem ks3 : oGet kx0 kX.data.toList = (0, false) := by kernel_rfl
theorem kall : (List.range 23).all (fun i => (oParse (kAt i) (kw i).data.toList).2 == ke i) = true := by kernel_rfl
theorem ksize : (List.range 23).all (fun i => decide ((kw i).size ≤ 100)) = true := by kernel_rfl
theorem kw_size (i : Nat) (h : i < 23) : (kw i).size ≤ 100 := by simpa using List.all_eq_true.1 ksize i (List.mem_range.2 h)
theorem k_parse (i : Nat) (h : i < 23) : (oParse (kAt i) (kw i).data.toList).2 = ke i := by simpa using List.all_eq_true.1 kall i (List.mem_range.2 h)
theorem kWords_len : kWords.length = 23 := rfl
theorem kWant_len : kWant.length = 23 := rfl
theorem kAt_succ (i : Nat) (h : i < 23) : (oParse (kAt i) (kw i).data.toList).1 = kAt (i + 1) := by
  have h1 : i < kWords.length := h
  have e : kWords.take (i + 1) = kWords.take i ++ [kWords[i]] := List.take_succ_eq_append_getElem h1
  unfold kAt kw
  rw [e, List.foldl_append, List.getD_eq_getElem?_getD, List.getElem?_eq_getElem h1]
  rfl
theorem kx0_in : OIn kx0 := OIn.new.set _ _
theorem kAt_in (i : Nat) : OIn (kAt i) := by
  unfold kAt
  have h : ∀ (l : List ByteArray) (xs : List Int), OIn xs → OIn (l.foldl (fun xs s => (oParse xs s.data.toList).1) xs) := by
    intro l
    induction l with
    | nil => intro xs h; exact h
    | cons a l ih => intro xs h; exact ih _ (h.parse _)
  exact h _ _ kx0_in
def kThree : List ByteArray := [⟨#[45, 45, 109, 97, 114, 103, 105, 110, 61, 49, 50, 48]⟩, ⟨#[45, 45, 103, 108, 117, 101, 61, 51]⟩, ⟨#[45, 45, 110, 111, 45, 101, 108, 105, 109]⟩]
def kxb : List Int := (oSet (kAt 23) kSeed.data.toList 9223372036854775807).1
def kxc : List Int := (oSet kxb kSeed.data.toList (-9223372036854775808)).1
def kxd : List Int := (oParse kxc kNoSeed.data.toList).1
def kxe : List Int := (oParse kxd kNoRestart.data.toList).1
def kL : List ByteArray := (oWords kxd).map toBA
theorem ks4 : (oWords (kAt 23)).map toBA = kThree := by kernel_rfl
theorem ks5 : (oSet (kAt 23) kSeed.data.toList 9223372036854775807).2 = (4611686018427387904, 0) := by kernel_rfl
theorem ks6 : (oSet kxb kSeed.data.toList (-9223372036854775808)).2 = (0, 0) := by kernel_rfl
theorem ks7 : (oParse kxc kNoSeed.data.toList).2 = 0 := by kernel_rfl
theorem ks8 : kL.length = 4 := by kernel_rfl
theorem ks9 : rdOf ByteArray.empty kL 0 = (⟨#[45, 45, 115, 101, 101, 100, 61, 48]⟩ : ByteArray) := by kernel_rfl
theorem ks10 : (oParse kxd kNoRestart.data.toList).2 = 0 := by kernel_rfl
theorem ks11 : oGet kxe kRestart.data.toList = (1, true) := by kernel_rfl
theorem kxd_in : OIn kxd := (((kAt_in 23).set _ _).set _ _).parse _
end Go.Proofs.YtmknpchmpgkdbaaDoor.PB
end

section
namespace Go.Proofs.YtmknpchmpgkdbaaDoor.PB
open Go.RowKit Go.Proofs.YtmknpchmpgkdbaaDoorW.PrintWords Go.Proofs.YtmknpchmpgkdbaaDoorW.PrintLast Go.Proofs.YtmknpchmpgkdbaaDoorW.PrintMore
set_option linter.unusedVariables false
set_option linter.unusedSimpArgs false
/-! ### OptionsKnown -/
def known.T7 : Bool × List (List Nat × List Nat) := (true, [([], []), ([], []), ([0, 1], [0, 1]), ([2], [2]), ([], []), ([], []), ([4, 5], [4, 5]), ([6], [6]), ([7], [7]), ([], []), ([], []), ([9, 10], [9, 10]), ([11], [11]), ([12], [12]), ([], []), ([], []), ([14, 15], [14, 15]), ([16], [16]), ([17], [17]), ([], []), ([], []), ([19, 20], [19, 20]), ([21], [21]), ([22], [22]), ([8, 13, 18, 23], [8, 13, 18, 23]), ([3, 24], [3, 24])])
def known.B7 : List Nat := [0, 0, 3, 7, 0, 0, 48, 112, 240, 0, 0, 1536, 3584, 7680, 0, 0, 49152, 114688, 245760, 0, 0, 1572864, 3670016, 7864320, 16777200, 33554431]
theorem known.tab7 : rtab .any (opsOf Tryd.f6 7) = known.T7 := by kernel_rfl
theorem known.bits7 : waitsOk known.T7.2 known.B7 = true := by kernel_rfl
def known.T20 : Bool × List (List Nat × List Nat) := (true, [([], []), ([], []), ([], []), ([1, 2], [1, 2]), ([3], [3]), ([0, 4], [0, 4]), ([], []), ([], []), ([6, 7], [6, 7]), ([8], [8]), ([5, 9], [5, 9])])
def known.B20 : List Nat := [0, 0, 0, 6, 14, 31, 0, 0, 192, 448, 1023]
theorem known.tab20 : rtab .any (opsOf Tryd.f6 20) = known.T20 := by kernel_rfl
theorem known.bits20 : waitsOk known.T20.2 known.B20 = true := by kernel_rfl
theorem exec_load_mid {P : Program} {o : Oper} {a : Act} {w : World} {ty : TypeId} {x : Operand} (ho : o.op = .load ty x) (g k : Nat) (hx : a.eval x = .pointer (some ⟨g, k, none⟩)) (cs : List Value) (d : TypeDesc) (hc : w.rangeAt g k cs)
    (hu : P.underlying ty = some d) (hd : d.isRow = true) (hi : (P.info? ty).map (·.size) = some cs.length) : (execOp a.eval o).run P w = .ok (.value (.agg cs.toArray)) w := by
  unfold execOp
  simp only [ho, hx, Instr.loadAt, Instr.sureAddr, Sem.run_bind, Sem.run_pure, Result.andThen_ok, run_loadVar_mid w g k ty cs d hc hu hd hi]
theorem pt42 : Tryd.prog.eqGuardType Tryd.prog.depth 42 = false := by kernel_rfl
theorem sh42 : Tryd.prog.stoodInHeld 42 = false := by kernel_rfl
theorem ag9 (w : World) : (isAgg 9).run Tryd.prog w = .ok false w := by
  unfold isAgg
  rw [Sem.run_bind, run_underlying Tryd.underlying9 w]
  rfl
theorem ag2 (w : World) : (isAgg 2).run Tryd.prog w = .ok false w := by
  unfold isAgg
  rw [Sem.run_bind, run_underlying Tryd.underlying2 w]
  rfl
theorem part9 (w : World) (xs : Array Value) (i : Nat) (v : Value) (h : xs[i]? = some v) : (part 9 xs i).run Tryd.prog w = .ok v w := by
  simp only [part, Sem.run_bind, ag9, Result.andThen_ok, Bool.false_eq_true, if_false]
  simp [h]
theorem part2 (w : World) (xs : Array Value) (i : Nat) (v : Value) (h : xs[i]? = some v) : (part 2 xs i).run Tryd.prog w = .ok v w := by
  simp only [part, Sem.run_bind, ag2, Result.andThen_ok, Bool.false_eq_true, if_false]
  simp [h]
theorem eqs9 (w : World) (d : Nat) (a : ByteArray) : (Op.equalIn (d + 1) 9 (.string a) (.string a)).run Tryd.prog w = .ok true w := by
  rw [run_equalIn_string w d 9 a a Tryd.underlying9]
  simp
theorem eqs2 (w : World) (d : Nat) (a : Int) : (Op.equalIn (d + 1) 2 (.int .i64 a) (.int .i64 a)).run Tryd.prog w = .ok true w := by
  rw [run_equalIn_int w d 2 .i64 .i64 a a Tryd.underlying2]
  simp
theorem exec_neq42 {o : Oper} {a : Act} {w : World} {x y : Operand} (ho : o.op = .binOp .neq 42 x y 42) (nm : ByteArray) (d lo hi : Int) (hx : a.eval x = .agg #[.string nm, .int .i64 d, .int .i64 lo, .int .i64 hi]) (hy : a.eval y = .agg #[.string nm, .int .i64 d, .int .i64 lo, .int .i64 hi]) :
    (execOp a.eval o).run Tryd.prog w = .ok (.value (.bool false)) w := by
  unfold execOp
  simp only [ho, hx, hy]
  have h1 : (Op.equalIn (9998 + 1 + 1) 42 (.agg #[.string nm, .int .i64 d, .int .i64 lo, .int .i64 hi]) (.agg #[.string nm, .int .i64 d, .int .i64 lo, .int .i64 hi])).run Tryd.prog w = .ok true w := by
    refine eqA_of Tryd.underlying42 sh42 ?_
    exact eqf_cons (s := true) (r := true) rfl (part9 w _ _ _ rfl) (part9 w _ _ _ rfl) (eqs9 w _ nm) (eqf_cons (s := true) (r := true) rfl (part2 w _ _ _ rfl) (part2 w _ _ _ rfl) (eqs2 w _ d) (eqf_cons (s := true) (r := true) rfl (part2 w _ _ _ rfl) (part2 w _ _ _ rfl) (eqs2 w _ lo) (eqf_last (r := true) rfl (part2 w _ _ _ rfl) (part2 w _ _ _ rfl) (eqs2 w _ hi))))
  simp only [Sem.run_bind, run_eqGuard_agg w _ _ _ _ _ _ pt42, Result.andThen_ok, run_neq_struct]
  rw [show (10000 : Nat) = 9998 + 1 + 1 from rfl, h1]
  rfl
theorem lit_event {P : Program} {ops : Array Oper} {rest : List Oper} {o : Oper} {a : Act} {Q : Exit → Act → World → Prop} {W : World} (hgd : o.guard = none) {N : Tmp} (_hd : o.dst = some N) {cs : Array Value} {e : TypeId} {n : Nat}
    (hrun : (execOp a.eval o).run P W = .ok (.value (.slice (some ⟨W.heap.size, 0, none⟩) n n)) (W.alloc (.cells cs e)))
    (h : ∀ g, g = W.heap.size → ∀ w1, w1.heap[g]? = some (.cells cs e (0, 0)) → Below W.heap.size W w1 → wpList P ops Q rest (a.put o.dst (.slice (some ⟨g, 0, none⟩) n n)) w1) : wpList P ops Q (o :: rest) a W :=
  Kd.event_run hgd hrun (h _ rfl _ (heap_alloc_new W _) (below_alloc (Below.refl _ _) _))
theorem lit_str {W : World} {g : Nat} (h : W.heap[g]? = some (.cells (kWords.map Value.string).toArray 9 (0, 0))) (i : Nat) (hi : i < 23) : W.cell? ⟨g, i, none⟩ = some (.string (kw i)) := by
  have h1 : i < kWords.length := hi
  rw [blk_cell h i]
  unfold kw
  simp [List.getElem?_eq_getElem h1]
theorem lit_int {W : World} {g : Nat} (h : W.heap[g]? = some (.cells (kWant.map (Value.int .i64)).toArray 25 (0, 0))) (i : Nat) (hi : i < 23) : W.cell? ⟨g, i, none⟩ = some (.int .i64 (ke i)) := by
  have h1 : i < kWant.length := hi
  rw [blk_cell h i]
  unfold ke
  simp [List.getElem?_eq_getElem h1]
theorem addr_zero3 (g k : Nat) : Addr.add ⟨g, 0, none⟩ k = ⟨g, k, none⟩ := by
  unfold Addr.add
  split
  · rename_i h; subst h; rfl
  · simp
set_option maxHeartbeats 8000000 in
set_option maxRecDepth 100000 in
theorem known_calls (w : World) (hlt : LT w.heap.size w) : Calls Tryd.prog 6 #[] w fun e w' => e = .returned (.bool true) ∧ Below w.heap.size w w' := by
  have HLT := Aside0.mk hlt
  clear hlt
  go_enter Tryd.func6, Tryd.ntmps6
  go_wp2_with fail
  refine (table_calls w HLT.out).mono ?_
  rintro e w2 ⟨gt, rfl, hg, hT, hb⟩
  have HB2 := Aside0.mk hb
  have HT2 := Aside0.mk hT
  have HGT := Aside0.mk hg
  clear hb hT hg
  go_wp2_with fail
  refine (mnew_calls w2).mono ?_
  rintro e w3 ⟨gm, c, rfl, hg, hM, hb⟩
  have HB3 := Aside0.mk (below_step HB2.out hb)
  have HT3 := Aside0.mk (blk_below HT2.out hb)
  have HM3 := Aside0.mk hM
  have HNE := Aside0.mk (show gm ≠ gt from Nat.ne_of_gt (Nat.lt_of_lt_of_le (blk_lt HT2.out) hg))
  clear hb hM hg HB2 HT2
  go_wp2_with fail
  go_loopg [3] 28 (fun j v3 wr => ∃ (i : Nat) (cur : Array Value), v3 = .int .i64 (i : Int) ∧ i + j = 28 ∧ Aside0 (wr.heap[gt]? = some (.cells cur 55 (0, 0))) ∧ Aside0 (∀ k, i * 4 ≤ k → cur[k]? = tabCells[k]?) ∧ Aside0 (MB wr w2.heap.size gm c oNew) ∧ Aside0 (Below w.heap.size w wr))
  case atStart => exact ⟨0, tabCells, rfl, rfl, HT3, ⟨fun _ _ => rfl⟩, HM3, HB3⟩
  case round =>
    clear HB3 HT3 HM3
    obtain ⟨i, cur, rfl, hij, HT, HC, HM, HB⟩ := hrel
    by_cases hlt : i < 28
    · have hi0 : (0 : Int) ≤ (i : Int) := by omega
      have hil : (i : Int) < 28 := by omega
      obtain ⟨nm, hnm⟩ : ∃ nm, nm = toBA (oAt i).name := ⟨_, rfl⟩
      obtain ⟨d, hd⟩ : ∃ d, d = (oAt i).d := ⟨_, rfl⟩
      obtain ⟨lo, hlo⟩ : ∃ d, d = (oAt i).lo := ⟨_, rfl⟩
      obtain ⟨hi, hhi⟩ : ∃ d, d = (oAt i).hi := ⟨_, rfl⟩
      have cells : ∀ W : World, MB W w2.heap.size gm c oNew → W.cell? ⟨gm, i * 5, none⟩ = some (.string nm) ∧ W.cell? ⟨gm, i * 5 + 1, none⟩ = some (.int .i64 d) ∧ W.cell? ⟨gm, i * 5 + 2, none⟩ = some (.int .i64 lo) ∧ W.cell? ⟨gm, i * 5 + 3, none⟩ = some (.int .i64 hi) := by
        intro W hM
        obtain ⟨ad, e0, h0, h1, h2, h3, h4⟩ := at_T50 hM.C.1 (i : Int) hi0 (by rw [mOf_len]; omega)
        cases e0
        rw [mOf_rd oNew i hlt, Int.toNat_natCast, addr_zero3] at h0 h1 h2 h3
        rw [hnm, hd, hlo, hhi]
        exact ⟨h0, h1, h2, h3⟩
      have CELLS := Aside0.mk cells
      have hcur : ∀ j, j < 4 → cur[i * 4 + j]? = (oVals (oAt i))[j]? := by
        intro j hj
        rw [HC.out _ (by omega)]
        have e := congrArg (fun a : Array Value => a[j]?) (tab_at i hlt)
        simp only [Array.getElem?_extract] at e
        rw [if_pos (by rw [tabCells_size]; omega)] at e
        rw [e]
        simp
      have ranges : ∀ W : World, W.heap[gt]? = some (.cells cur 55 (0, 0)) → W.rangeAt gt (i * 4) [.string nm, .int .i64 d, .int .i64 lo, .int .i64 hi] := by
        intro W hW j v hj
        have hj4 : j < 4 := by have := (List.getElem?_eq_some_iff.1 hj).1; simpa using this
        rw [blk_cell hW (i * 4 + j), hcur j hj4, ← hj, hnm, hd, hlo, hhi]
        rfl
      have RANGE := Aside0.mk ranges
      clear cells hcur ranges hnm hd hlo hhi
      go_upto_region 7 with fail
      refine start_ (n := 26) (S := fun w' => w' = wr.drew) (ds := []) #[false, false, false, false, false, false, false, false, false, false, false, false, false, false, false, false, false, false, false, false, false, false, false, false, false, false] (by kernel_rfl) rfl rfl rfl (fun hHeld => ?_); refine with_tabW known.tab7 known.bits7 (fun HT_ HW_ => ?_)
      have HT1 := Aside0.mk (blk_drew HT.out)
      have HM1 := Aside0.mk HM.out.drew
      have HB1 := Aside0.mk (below_drew1 HB.out)
      clear HT HM HB
      generalize wr.drew = W at HT1 HM1 HB1 hHeld ⊢
      obtain ⟨hc0, hc1, hc2, hc3⟩ := CELLS.out W HM1.out
      have HRA := Aside0.mk (RANGE.out W HT1.out)
      refine pure_ (i := 0) (N := some 41) (v := ?_) (a' := ?_) #[true, false, false, false, false, false, false, false, false, false, false, false, false, false, false, false, false, false, false, false, false, false, false, false, false, false] rfl rfl (any_of HT_.out (by kernel_rfl)) (fun _ _ _ h => h) (Or.inl ⟨by rfl, ?_⟩) ?_ ?_
      rotate_left
      · intro w'
        go_simp
        with_reducible rfl
      rotate_left
      · simp only [Act.put, List.setIfInBounds_toArray, List.set_cons_zero, List.set_cons_succ, i64_w, i32_w]
        rfl
      refine pure_ (i := 1) (N := some 42) (v := ?_) (a' := ?_) #[true, true, false, false, false, false, false, false, false, false, false, false, false, false, false, false, false, false, false, false, false, false, false, false, false, false] rfl rfl (any_of HT_.out (by kernel_rfl)) (fun _ _ _ h => h) (Or.inl ⟨by rfl, ?_⟩) ?_ ?_
      rotate_left
      · intro w'
        go_simp
        with_reducible rfl
      rotate_left
      · simp only [Act.put, List.setIfInBounds_toArray, List.set_cons_zero, List.set_cons_succ, i64_w, i32_w]
        rfl
      refine pure_ (i := 2) (N := some 43) (v := ?_) (a' := ?_) #[true, true, true, false, false, false, false, false, false, false, false, false, false, false, false, false, false, false, false, false, false, false, false, false, false, false] rfl rfl (any_of HT_.out (by kernel_rfl)) (fun _ _ _ h => h) (Or.inl ⟨by rfl, ?_⟩) ?_ ?_
      rotate_left
      · intro w'
        go_simp
        with_reducible rfl
      rotate_left
      · simp only [Act.put, List.setIfInBounds_toArray, List.set_cons_zero, List.set_cons_succ, i64_w, i32_w]
        rfl
      refine take_ (i := 3) (N := some 44) (v := (.agg #[.string nm, .int .i64 d, .int .i64 lo, .int .i64 hi])) (a' := ?_) #[true, true, true, true, false, false, false, false, false, false, false, false, false, false, false, false, false, false, false, false, false, false, false, false, false, false] rfl rfl (take_ofW HT_.out HW_.out (by kernel_rfl)) (fun _ _ _ h => h) (Or.inl ⟨by rfl, ?_⟩) hHeld ?_ ?_
      · rintro w' hw'
        cases hw'
        exact exec_load_mid (ty := 42) (x := .tmp 43) rfl gt (i * 4) (by go_simp) [.string nm, .int .i64 d, .int .i64 lo, .int .i64 hi] _ HRA.out Tryd.underlying42 rfl sz42
      rotate_left
      · simp only [Act.put, List.setIfInBounds_toArray, List.set_cons_zero, List.set_cons_succ, i64_w, i32_w]
        rfl
      refine pure_ (i := 4) (N := some 45) (v := ?_) (a' := ?_) #[true, true, true, true, true, false, false, false, false, false, false, false, false, false, false, false, false, false, false, false, false, false, false, false, false, false] rfl rfl (any_of HT_.out (by kernel_rfl)) (fun _ _ _ h => h) (Or.inl ⟨by rfl, ?_⟩) ?_ ?_
      rotate_left
      · intro w'
        go_simp
        with_reducible rfl
      rotate_left
      · simp only [Act.put, List.setIfInBounds_toArray, List.set_cons_zero, List.set_cons_succ, i64_w, i32_w]
        rfl
      refine pure_ (i := 5) (N := some 46) (v := ?_) (a' := ?_) #[true, true, true, true, true, true, false, false, false, false, false, false, false, false, false, false, false, false, false, false, false, false, false, false, false, false] rfl rfl (any_of HT_.out (by kernel_rfl)) (fun _ _ _ h => h) (Or.inl ⟨by rfl, ?_⟩) ?_ ?_
      rotate_left
      · intro w'
        go_simp
        with_reducible rfl
      rotate_left
      · simp only [Act.put, List.setIfInBounds_toArray, List.set_cons_zero, List.set_cons_succ, i64_w, i32_w]
        rfl
      refine pure_ (i := 6) (N := some 47) (v := ?_) (a' := ?_) #[true, true, true, true, true, true, true, false, false, false, false, false, false, false, false, false, false, false, false, false, false, false, false, false, false, false] rfl rfl (any_of HT_.out (by kernel_rfl)) (fun _ _ _ h => h) (Or.inl ⟨by rfl, ?_⟩) ?_ ?_
      rotate_left
      · intro w'
        go_simp
        with_reducible rfl
      rotate_left
      · simp only [Act.put, List.setIfInBounds_toArray, List.set_cons_zero, List.set_cons_succ, i64_w, i32_w]
        rfl
      refine pure_ (i := 7) (N := some 48) (v := ?_) (a' := ?_) #[true, true, true, true, true, true, true, true, false, false, false, false, false, false, false, false, false, false, false, false, false, false, false, false, false, false] rfl rfl (any_of HT_.out (by kernel_rfl)) (fun _ _ _ h => h) (Or.inl ⟨by rfl, ?_⟩) ?_ ?_
      rotate_left
      · intro w'
        go_simp
        with_reducible rfl
      rotate_left
      · simp only [Act.put, List.setIfInBounds_toArray, List.set_cons_zero, List.set_cons_succ, i64_w, i32_w]
        rfl
      refine take_ (i := 8) (N := some 49) (v := ?_) (a' := ?_) #[true, true, true, true, true, true, true, true, true, false, false, false, false, false, false, false, false, false, false, false, false, false, false, false, false, false] rfl rfl (take_ofW HT_.out HW_.out (by kernel_rfl)) (fun _ _ _ h => h) (Or.inl ⟨by rfl, ?_⟩) hHeld ?_ ?_
      rotate_left
      · rintro w' hw'
        cases hw'
        go_simp
        with_reducible rfl
      rotate_left
      · simp only [Act.put, List.setIfInBounds_toArray, List.set_cons_zero, List.set_cons_succ, i64_w, i32_w]
        rfl
      refine pure_ (i := 9) (N := some 50) (v := ?_) (a' := ?_) #[true, true, true, true, true, true, true, true, true, true, false, false, false, false, false, false, false, false, false, false, false, false, false, false, false, false] rfl rfl (any_of HT_.out (by kernel_rfl)) (fun _ _ _ h => h) (Or.inl ⟨by rfl, ?_⟩) ?_ ?_
      rotate_left
      · intro w'
        go_simp
        with_reducible rfl
      rotate_left
      · simp only [Act.put, List.setIfInBounds_toArray, List.set_cons_zero, List.set_cons_succ, i64_w, i32_w]
        rfl
      refine pure_ (i := 10) (N := some 51) (v := ?_) (a' := ?_) #[true, true, true, true, true, true, true, true, true, true, true, false, false, false, false, false, false, false, false, false, false, false, false, false, false, false] rfl rfl (any_of HT_.out (by kernel_rfl)) (fun _ _ _ h => h) (Or.inl ⟨by rfl, ?_⟩) ?_ ?_
      rotate_left
      · intro w'
        go_simp
        with_reducible rfl
      rotate_left
      · simp only [Act.put, List.setIfInBounds_toArray, List.set_cons_zero, List.set_cons_succ, i64_w, i32_w]
        rfl
      refine pure_ (i := 11) (N := some 52) (v := ?_) (a' := ?_) #[true, true, true, true, true, true, true, true, true, true, true, true, false, false, false, false, false, false, false, false, false, false, false, false, false, false] rfl rfl (any_of HT_.out (by kernel_rfl)) (fun _ _ _ h => h) (Or.inl ⟨by rfl, ?_⟩) ?_ ?_
      rotate_left
      · intro w'
        go_simp
        with_reducible rfl
      rotate_left
      · simp only [Act.put, List.setIfInBounds_toArray, List.set_cons_zero, List.set_cons_succ, i64_w, i32_w]
        rfl
      refine pure_ (i := 12) (N := some 53) (v := ?_) (a' := ?_) #[true, true, true, true, true, true, true, true, true, true, true, true, true, false, false, false, false, false, false, false, false, false, false, false, false, false] rfl rfl (any_of HT_.out (by kernel_rfl)) (fun _ _ _ h => h) (Or.inl ⟨by rfl, ?_⟩) ?_ ?_
      rotate_left
      · intro w'
        go_simp
        with_reducible rfl
      rotate_left
      · simp only [Act.put, List.setIfInBounds_toArray, List.set_cons_zero, List.set_cons_succ, i64_w, i32_w]
        rfl
      refine take_ (i := 13) (N := some 54) (v := ?_) (a' := ?_) #[true, true, true, true, true, true, true, true, true, true, true, true, true, true, false, false, false, false, false, false, false, false, false, false, false, false] rfl rfl (take_ofW HT_.out HW_.out (by kernel_rfl)) (fun _ _ _ h => h) (Or.inl ⟨by rfl, ?_⟩) hHeld ?_ ?_
      rotate_left
      · rintro w' hw'
        cases hw'
        go_simp
        with_reducible rfl
      rotate_left
      · simp only [Act.put, List.setIfInBounds_toArray, List.set_cons_zero, List.set_cons_succ, i64_w, i32_w]
        rfl
      refine pure_ (i := 14) (N := some 55) (v := ?_) (a' := ?_) #[true, true, true, true, true, true, true, true, true, true, true, true, true, true, true, false, false, false, false, false, false, false, false, false, false, false] rfl rfl (any_of HT_.out (by kernel_rfl)) (fun _ _ _ h => h) (Or.inl ⟨by rfl, ?_⟩) ?_ ?_
      rotate_left
      · intro w'
        go_simp
        with_reducible rfl
      rotate_left
      · simp only [Act.put, List.setIfInBounds_toArray, List.set_cons_zero, List.set_cons_succ, i64_w, i32_w]
        rfl
      refine pure_ (i := 15) (N := some 56) (v := ?_) (a' := ?_) #[true, true, true, true, true, true, true, true, true, true, true, true, true, true, true, true, false, false, false, false, false, false, false, false, false, false] rfl rfl (any_of HT_.out (by kernel_rfl)) (fun _ _ _ h => h) (Or.inl ⟨by rfl, ?_⟩) ?_ ?_
      rotate_left
      · intro w'
        go_simp
        with_reducible rfl
      rotate_left
      · simp only [Act.put, List.setIfInBounds_toArray, List.set_cons_zero, List.set_cons_succ, i64_w, i32_w]
        rfl
      refine pure_ (i := 16) (N := some 57) (v := ?_) (a' := ?_) #[true, true, true, true, true, true, true, true, true, true, true, true, true, true, true, true, true, false, false, false, false, false, false, false, false, false] rfl rfl (any_of HT_.out (by kernel_rfl)) (fun _ _ _ h => h) (Or.inl ⟨by rfl, ?_⟩) ?_ ?_
      rotate_left
      · intro w'
        go_simp
        with_reducible rfl
      rotate_left
      · simp only [Act.put, List.setIfInBounds_toArray, List.set_cons_zero, List.set_cons_succ, i64_w, i32_w]
        rfl
      refine pure_ (i := 17) (N := some 58) (v := ?_) (a' := ?_) #[true, true, true, true, true, true, true, true, true, true, true, true, true, true, true, true, true, true, false, false, false, false, false, false, false, false] rfl rfl (any_of HT_.out (by kernel_rfl)) (fun _ _ _ h => h) (Or.inl ⟨by rfl, ?_⟩) ?_ ?_
      rotate_left
      · intro w'
        go_simp
        with_reducible rfl
      rotate_left
      · simp only [Act.put, List.setIfInBounds_toArray, List.set_cons_zero, List.set_cons_succ, i64_w, i32_w]
        rfl
      refine take_ (i := 18) (N := some 59) (v := ?_) (a' := ?_) #[true, true, true, true, true, true, true, true, true, true, true, true, true, true, true, true, true, true, true, false, false, false, false, false, false, false] rfl rfl (take_ofW HT_.out HW_.out (by kernel_rfl)) (fun _ _ _ h => h) (Or.inl ⟨by rfl, ?_⟩) hHeld ?_ ?_
      rotate_left
      · rintro w' hw'
        cases hw'
        go_simp
        with_reducible rfl
      rotate_left
      · simp only [Act.put, List.setIfInBounds_toArray, List.set_cons_zero, List.set_cons_succ, i64_w, i32_w]
        rfl
      refine pure_ (i := 19) (N := some 60) (v := ?_) (a' := ?_) #[true, true, true, true, true, true, true, true, true, true, true, true, true, true, true, true, true, true, true, true, false, false, false, false, false, false] rfl rfl (any_of HT_.out (by kernel_rfl)) (fun _ _ _ h => h) (Or.inl ⟨by rfl, ?_⟩) ?_ ?_
      rotate_left
      · intro w'
        go_simp
        with_reducible rfl
      rotate_left
      · simp only [Act.put, List.setIfInBounds_toArray, List.set_cons_zero, List.set_cons_succ, i64_w, i32_w]
        rfl
      refine pure_ (i := 20) (N := some 61) (v := ?_) (a' := ?_) #[true, true, true, true, true, true, true, true, true, true, true, true, true, true, true, true, true, true, true, true, true, false, false, false, false, false] rfl rfl (any_of HT_.out (by kernel_rfl)) (fun _ _ _ h => h) (Or.inl ⟨by rfl, ?_⟩) ?_ ?_
      rotate_left
      · intro w'
        go_simp
        with_reducible rfl
      rotate_left
      · simp only [Act.put, List.setIfInBounds_toArray, List.set_cons_zero, List.set_cons_succ, i64_w, i32_w]
        rfl
      refine pure_ (i := 21) (N := some 62) (v := ?_) (a' := ?_) #[true, true, true, true, true, true, true, true, true, true, true, true, true, true, true, true, true, true, true, true, true, true, false, false, false, false] rfl rfl (any_of HT_.out (by kernel_rfl)) (fun _ _ _ h => h) (Or.inl ⟨by rfl, ?_⟩) ?_ ?_
      rotate_left
      · intro w'
        go_simp
        with_reducible rfl
      rotate_left
      · simp only [Act.put, List.setIfInBounds_toArray, List.set_cons_zero, List.set_cons_succ, i64_w, i32_w]
        rfl
      refine pure_ (i := 22) (N := some 63) (v := ?_) (a' := ?_) #[true, true, true, true, true, true, true, true, true, true, true, true, true, true, true, true, true, true, true, true, true, true, true, false, false, false] rfl rfl (any_of HT_.out (by kernel_rfl)) (fun _ _ _ h => h) (Or.inl ⟨by rfl, ?_⟩) ?_ ?_
      rotate_left
      · intro w'
        go_simp
        with_reducible rfl
      rotate_left
      · simp only [Act.put, List.setIfInBounds_toArray, List.set_cons_zero, List.set_cons_succ, i64_w, i32_w]
        rfl
      refine take_ (i := 23) (N := some 64) (v := ?_) (a' := ?_) #[true, true, true, true, true, true, true, true, true, true, true, true, true, true, true, true, true, true, true, true, true, true, true, true, false, false] rfl rfl (take_ofW HT_.out HW_.out (by kernel_rfl)) (fun _ _ _ h => h) (Or.inl ⟨by rfl, ?_⟩) hHeld ?_ ?_
      rotate_left
      · rintro w' hw'
        cases hw'
        go_simp
        with_reducible rfl
      rotate_left
      · simp only [Act.put, List.setIfInBounds_toArray, List.set_cons_zero, List.set_cons_succ, i64_w, i32_w]
        rfl
      refine pure_ (i := 24) (N := some 65) (v := ?_) (a' := ?_) #[true, true, true, true, true, true, true, true, true, true, true, true, true, true, true, true, true, true, true, true, true, true, true, true, true, false] rfl rfl (any_of HT_.out (by kernel_rfl)) (fun _ _ _ h => h) (Or.inl ⟨by rfl, ?_⟩) ?_ ?_
      rotate_left
      · intro w'
        go_simp
        with_reducible rfl
      rotate_left
      · simp only [Act.put, List.setIfInBounds_toArray, List.set_cons_zero, List.set_cons_succ, i64_w, i32_w]
        rfl
      refine pure_ (i := 25) (N := some 66) (v := (.bool false)) (a' := ?_) #[true, true, true, true, true, true, true, true, true, true, true, true, true, true, true, true, true, true, true, true, true, true, true, true, true, true] rfl rfl (any_of HT_.out (by kernel_rfl)) (fun _ _ _ h => h) (Or.inl ⟨by rfl, ?_⟩) ?_ ?_
      · intro w'
        exact exec_neq42 (x := .tmp 44) (y := .tmp 65) rfl nm d lo hi (by rfl) (by rfl)
      rotate_left
      · simp only [Act.put, List.setIfInBounds_toArray, List.set_cons_zero, List.set_cons_succ, i64_w, i32_w]
        rfl
      refine done_ (done_of HT_.out (by kernel_rfl)) ?_
      have hct : W.cell? ⟨gt, i * 4, none⟩ = some (.string nm) := HRA.out 0 _ rfl
      have hft := blk_frozen HT1.out (i * 4)
      clear hc0 hc1 hc2 hc3
      go_wp2
      go_roundg (gk - 1)
      case rel =>
        refine ⟨i + 1, cur.setIfInBounds (i * 4) (.string ⟨#[111, 118, 101, 114]⟩), by go_num, by omega, ⟨blk_set HT1.out (i * 4) _⟩, ⟨fun k hk => ?_⟩, ⟨HM1.out.gb ((GB.refl gt W).set (i * 4) _) HNE.out⟩, ⟨Below.setCell HB1.out HGT.out _⟩⟩
        rw [Array.getElem?_setIfInBounds_ne (by omega)]
        exact HC.out k (by omega)
      case measure => omega
    · obtain rfl : i = 28 := by omega
      obtain ⟨wo, rfl⟩ : ∃ wo : World, wo = wr := ⟨_, rfl⟩
      clear HT HC HM hlt hij
      go_wp2_with fail
      refine (table_calls wo ((HLT.out.on HB.out).up HB.out.size)).mono ?_
      rintro e w4 ⟨gu, rfl, hg, hU, hb⟩
      have HB4 := Aside0.mk (below_step HB.out hb)
      have HU4 := Aside0.mk hU
      clear hb hU hg HB
      go_wp2_with fail
      refine (new_calls w4 ((HLT.out.on HB4.out).up HB4.out.size)).mono ?_
      rintro e w5 ⟨go, rfl, hg, hO, hb⟩
      have HB5 := Aside0.mk (below_step HB4.out hb)
      have HU5 := Aside0.mk (blk_below HU4.out hb)
      have HO5 := Aside0.mk hO
      have HGO := Aside0.mk (Nat.le_trans HB4.out.size hg)
      have HUO := Aside0.mk (show gu ≠ go from Nat.ne_of_lt (Nat.lt_of_lt_of_le (blk_lt HU4.out) hg))
      clear hb hO hg HB4 HU4
      go_wp2_with fail
      refine (set_calls go oNew kMargin 120 w5 (HLT.out.on HB5.out) HGO.out HO5.out).mono ?_
      rw [ks1]
      rintro e w6 ⟨rfl, hO, hg⟩
      have HB6 := Aside0.mk (HB5.out.trans (hg.below HGO.out HB5.out.size))
      have HU6 := Aside0.mk ((hg.blk gu (blk_lt HU5.out) HUO.out).trans HU5.out)
      have HO6 := Aside0.mk (show OB w6 go kx0 from hO)
      clear hO hg HB5 HU5 HO5
      go_wp2_with fail
      refine (set_calls go kx0 kX 1 w6 (HLT.out.on HB6.out) HGO.out HO6.out).mono ?_
      rw [ks2]
      rintro e w7 ⟨rfl, hO, hg⟩
      have HB7 := Aside0.mk (HB6.out.trans (hg.below HGO.out HB6.out.size))
      have HU7 := Aside0.mk ((hg.blk gu (blk_lt HU6.out) HUO.out).trans HU6.out)
      have HO7 := Aside0.mk (show OB w7 go kx0 from hO)
      clear hO hg HB6 HU6 HO6
      go_wp2_with fail
      refine (get_calls go kx0 kX w7 (HLT.out.on HB7.out) HGO.out HO7.out).mono ?_
      rw [ks3]
      rintro e w8 ⟨rfl, hb⟩
      have HB8 := Aside0.mk (below_step HB7.out hb)
      have HU8 := Aside0.mk (blk_below HU7.out hb)
      have HO8 := Aside0.mk (HO7.out.below (B := 0) hb)
      clear hb HB7 HU7 HO7
      go_wp2_with (first | ((with_reducible refine gate_dst (N := 88) rfl ?_); refine lit_event ?hg (N := 88) ?hd (cs := #[.string ⟨#[45, 45, 103, 108, 117, 101, 61, 51]⟩, .string ⟨#[45, 45, 110, 111, 45, 101, 108, 105, 109]⟩, .string ⟨#[45, 45, 115, 101, 101, 100]⟩, .string ⟨#[45, 45, 103, 108, 117, 101, 61, 48, 51]⟩, .string ⟨#[45, 45, 103, 108, 117, 101, 61]⟩, .string ⟨#[103, 108, 117, 101, 61, 51]⟩, .string ⟨#[45, 45, 110, 111, 45, 103, 108, 117, 101, 61, 51]⟩, .string ⟨#[45, 45, 120]⟩, .string ⟨#[45, 45, 110, 111, 45, 120]⟩, .string ⟨#[45, 45]⟩, .string ⟨#[45]⟩, .string ⟨#[]⟩, .string ⟨#[45, 45, 103, 108, 117, 101, 61, 45, 48]⟩, .string ⟨#[45, 45, 103, 108, 117, 101, 61, 43, 49]⟩, .string ⟨#[45, 45, 103, 108, 117, 101, 61, 49, 61, 49]⟩, .string ⟨#[45, 45, 61, 49]⟩, .string ⟨#[45, 45, 110, 111, 45]⟩, .string ⟨#[45, 45, 99, 111, 110, 102, 108, 105, 99, 116, 115, 61, 45, 57, 50, 50, 51, 51, 55, 50, 48, 51, 54, 56, 53, 52, 55, 55, 53, 56, 48, 56]⟩, .string ⟨#[45, 45, 99, 111, 110, 102, 108, 105, 99, 116, 115, 61, 45, 57, 50, 50, 51, 51, 55, 50, 48, 51, 54, 56, 53, 52, 55, 55, 53, 56, 48, 57]⟩, .string ⟨#[45, 45, 99, 111, 110, 102, 108, 105, 99, 116, 115, 61, 57, 50, 50, 51, 51, 55, 50, 48, 51, 54, 56, 53, 52, 55, 55, 53, 56, 48, 56]⟩, .string ⟨#[45, 45, 110, 111, 45, 120, 61, 49]⟩, .string ⟨#[45, 45, 71, 108, 117, 101]⟩, .string ⟨#[45, 45, 103, 108, 117, 101, 32, 61, 51]⟩]) (e := 9) (n := 23) ?hr ?_; (case hd => rfl); (case hg => rfl); (case hr => first | (go_simp; done) | (go_simp; rfl)); intro gw hgb w9 hbox hb; have HW9 := Aside0.mk (show w9.heap[gw]? = some (.cells (kWords.map Value.string).toArray 9 (0, 0)) from hbox); have HB9 := Aside0.mk (below_step HB8.out hb); have HO9 := Aside0.mk (HO8.out.below (B := 0) hb); have HU9 := Aside0.mk (blk_below HU8.out hb); have HWO := Aside0.mk (show gw ≠ go from Nat.ne_of_gt (by rw [hgb]; exact blk_lt HO8.out.blk)); clear hbox hb hgb) | ((with_reducible refine gate_dst (N := 89) rfl ?_); refine lit_event ?hg (N := 89) ?hd (cs := #[.int .i64 0, .int .i64 0, .int .i64 0, .int .i64 2, .int .i64 2, .int .i64 2, .int .i64 2, .int .i64 5, .int .i64 5, .int .i64 5, .int .i64 2, .int .i64 2, .int .i64 2, .int .i64 2, .int .i64 2, .int .i64 5, .int .i64 5, .int .i64 0, .int .i64 2, .int .i64 2, .int .i64 2, .int .i64 5, .int .i64 5]) (e := 25) (n := 23) ?hr ?_; (case hd => rfl); (case hg => rfl); (case hr => first | (go_simp; done) | (go_simp; rfl)); intro gv hgb w10 hbox hb; have HV10 := Aside0.mk (show w10.heap[gv]? = some (.cells (kWant.map (Value.int .i64)).toArray 25 (0, 0)) from hbox); have HB10 := Aside0.mk (below_step HB9.out hb); have HO10 := Aside0.mk (HO9.out.below (B := 0) hb); have HU10 := Aside0.mk (blk_below HU9.out hb); have HW10 := Aside0.mk (blk_below HW9.out hb); have HVO := Aside0.mk (show gv ≠ go from Nat.ne_of_gt (by rw [hgb]; exact blk_lt HO9.out.blk)); clear hbox hb hgb))
      go_loopg [14] 23 (fun j v14 wr => ∃ (i : Nat), v14 = .int .i64 (i : Int) ∧ i + j = 23 ∧ Aside0 (OB wr go (kAt i)) ∧ Aside0 (wr.heap[gw]? = some (.cells (kWords.map Value.string).toArray 9 (0, 0))) ∧ Aside0 (wr.heap[gv]? = some (.cells (kWant.map (Value.int .i64)).toArray 25 (0, 0))) ∧ Aside0 (wr.heap[gu]? = some (.cells tabCells 55 (0, 0))) ∧ Aside0 (Below w.heap.size w wr))
      case atStart => exact ⟨0, rfl, rfl, HO10, HW10, HV10, HU10, HB10⟩
      case round =>
        clear HB8 HU8 HO8 HO9 HU9 HB9 HW9 HO10 HW10 HV10 HU10 HB10
        obtain ⟨i, rfl, hij, HO, HW, HV, HU, HB⟩ := hrel
        by_cases hlt : i < 23
        · have hi0 : (0 : Int) ≤ (i : Int) := by omega
          have hil : (i : Int) < 23 := by omega
          go_upto_region 20 with fail
          refine start_ (n := 11) (S := fun w' => w'.heap[gw]? = some (.cells (kWords.map Value.string).toArray 9 (0, 0)) ∧ w'.heap[gv]? = some (.cells (kWant.map (Value.int .i64)).toArray 25 (0, 0))) (ds := []) #[false, false, false, false, false, false, false, false, false, false, false] (by kernel_rfl) rfl rfl ⟨blk_drew HW.out, blk_drew HV.out⟩ (fun hHeld => ?_); refine with_tabW known.tab20 known.bits20 (fun HT_ HW_ => ?_)
          have HO1 := Aside0.mk HO.out.drew
          have HW1 := Aside0.mk (blk_drew HW.out)
          have HV1 := Aside0.mk (blk_drew HV.out)
          have HU1 := Aside0.mk (blk_drew HU.out)
          have HB1 := Aside0.mk (below_drew1 HB.out)
          clear HO HW HV HU HB
          generalize wr.drew = W at HO1 HW1 HV1 HU1 HB1 hHeld ⊢
          refine pure_ (i := 0) (N := some 96) (v := ?_) (a' := ?_) #[true, false, false, false, false, false, false, false, false, false, false] rfl rfl (any_of HT_.out (by kernel_rfl)) (fun _ _ _ h => h) (Or.inl ⟨by rfl, ?_⟩) ?_ ?_
          rotate_left
          · intro w'
            go_simp
            with_reducible rfl
          rotate_left
          · simp only [Act.put, List.setIfInBounds_toArray, List.set_cons_zero, List.set_cons_succ, i64_w, i32_w]
            rfl
          refine pure_ (i := 1) (N := some 97) (v := ?_) (a' := ?_) #[true, true, false, false, false, false, false, false, false, false, false] rfl rfl (any_of HT_.out (by kernel_rfl)) (fun _ _ _ h => h) (Or.inl ⟨by rfl, ?_⟩) ?_ ?_
          rotate_left
          · intro w'
            go_simp
            with_reducible rfl
          rotate_left
          · simp only [Act.put, List.setIfInBounds_toArray, List.set_cons_zero, List.set_cons_succ, i64_w, i32_w]
            rfl
          refine pure_ (i := 2) (N := some 98) (v := ?_) (a' := ?_) #[true, true, true, false, false, false, false, false, false, false, false] rfl rfl (any_of HT_.out (by kernel_rfl)) (fun _ _ _ h => h) (Or.inl ⟨by rfl, ?_⟩) ?_ ?_
          rotate_left
          · intro w'
            go_simp
            with_reducible rfl
          rotate_left
          · simp only [Act.put, List.setIfInBounds_toArray, List.set_cons_zero, List.set_cons_succ, i64_w, i32_w]
            rfl
          refine pure_ (i := 3) (N := some 99) (v := ?_) (a' := ?_) #[true, true, true, true, false, false, false, false, false, false, false] rfl rfl (any_of HT_.out (by kernel_rfl)) (fun _ _ _ h => h) (Or.inl ⟨by rfl, ?_⟩) ?_ ?_
          rotate_left
          · intro w'
            go_simp
            with_reducible rfl
          rotate_left
          · simp only [Act.put, List.setIfInBounds_toArray, List.set_cons_zero, List.set_cons_succ, i64_w, i32_w]
            rfl
          refine take_ (i := 4) (N := some 100) (v := (.string (kw i))) (a' := ?_) #[true, true, true, true, true, false, false, false, false, false, false] rfl rfl (take_ofW HT_.out HW_.out (by kernel_rfl)) (fun _ _ _ h => h) (Or.inl ⟨by rfl, ?_⟩) hHeld ?_ ?_
          · rintro w' ⟨s1, s2⟩
            have hcz := lit_str s1 i hlt
            go_simp
          rotate_left
          · simp only [Act.put, List.setIfInBounds_toArray, List.set_cons_zero, List.set_cons_succ, i64_w, i32_w]
            rfl
          refine pure_ (i := 6) (N := some 102) (v := ?_) (a' := ?_) #[true, true, true, true, true, false, true, false, false, false, false] rfl rfl (any_of HT_.out (by kernel_rfl)) (fun _ _ _ h => h) (Or.inl ⟨by rfl, ?_⟩) ?_ ?_
          rotate_left
          · intro w'
            go_simp
            with_reducible rfl
          rotate_left
          · simp only [Act.put, List.setIfInBounds_toArray, List.set_cons_zero, List.set_cons_succ, i64_w, i32_w]
            rfl
          refine pure_ (i := 7) (N := some 103) (v := ?_) (a' := ?_) #[true, true, true, true, true, false, true, true, false, false, false] rfl rfl (any_of HT_.out (by kernel_rfl)) (fun _ _ _ h => h) (Or.inl ⟨by rfl, ?_⟩) ?_ ?_
          rotate_left
          · intro w'
            go_simp
            with_reducible rfl
          rotate_left
          · simp only [Act.put, List.setIfInBounds_toArray, List.set_cons_zero, List.set_cons_succ, i64_w, i32_w]
            rfl
          refine pure_ (i := 8) (N := some 104) (v := ?_) (a' := ?_) #[true, true, true, true, true, false, true, true, true, false, false] rfl rfl (any_of HT_.out (by kernel_rfl)) (fun _ _ _ h => h) (Or.inl ⟨by rfl, ?_⟩) ?_ ?_
          rotate_left
          · intro w'
            go_simp
            with_reducible rfl
          rotate_left
          · simp only [Act.put, List.setIfInBounds_toArray, List.set_cons_zero, List.set_cons_succ, i64_w, i32_w]
            rfl
          refine take_ (i := 9) (N := some 105) (v := (.int .i64 (ke i))) (a' := ?_) #[true, true, true, true, true, false, true, true, true, true, false] rfl rfl (take_ofW HT_.out HW_.out (by kernel_rfl)) (fun _ _ _ h => h) (Or.inl ⟨by rfl, ?_⟩) hHeld ?_ ?_
          · rintro w' ⟨s1, s2⟩
            have hcz := lit_int s2 i hlt
            go_simp
          rotate_left
          · simp only [Act.put, List.setIfInBounds_toArray, List.set_cons_zero, List.set_cons_succ, i64_w, i32_w]
            rfl
          refine one_ (i := 5) (N := some 101) #[true, true, true, true, true, true, true, true, true, true, false] rfl rfl (one_of HT_.out (by kernel_rfl)) (by decide) (fun K hK => ?_)
          refine goes_ Tryd.func14 (by kernel_rfl) rfl #[.pointer (some ⟨go, 0, none⟩), .string (kw i)] (by rfl) rfl rfl (by (try simp only [List.map_toArray, List.map_cons, List.map_nil]); first | done | rfl) ?_
          refine (parse_calls go (kAt i) (kw i) W (HLT.out.on HB1.out) HGO.out HO1.out (by have := kw_size i hlt; omega)).mono ?_
          rw [k_parse i hlt, kAt_succ i hlt]
          rintro e3 w3 ⟨rfl, hO, hg⟩
          refine ⟨_, rfl, ?_⟩
          have HO3 := Aside0.mk hO
          have HW3 := Aside0.mk ((hg.blk gw (blk_lt HW1.out) HWO.out).trans HW1.out)
          have HV3 := Aside0.mk ((hg.blk gv (blk_lt HV1.out) HVO.out).trans HV1.out)
          have HU3 := Aside0.mk ((hg.blk gu (blk_lt HU1.out) HUO.out).trans HU1.out)
          have HB3 := Aside0.mk (HB1.out.trans (hg.below HGO.out HB1.out.size))
          clear hO hg
          refine hK.out _ _ ⟨HW3.out, HV3.out⟩ (fun hHeld => ?_)
          clear hK K
          refine norm_ (a' := ?_) ?_ ?_
          rotate_left
          · show Act.put _ (some 101) _ = _
            simp only [Act.put, List.setIfInBounds_toArray, List.set_cons_zero, List.set_cons_succ, i64_w, i32_w]
            rfl
          refine pure_ (i := 10) (N := some 106) (v := ?_) (a' := ?_) #[true, true, true, true, true, true, true, true, true, true, true] rfl rfl (any_of HT_.out (by kernel_rfl)) (fun _ _ _ h => h) (Or.inl ⟨by rfl, ?_⟩) ?_ ?_
          rotate_left
          · intro w'
            go_simp
            with_reducible rfl
          rotate_left
          · simp only [Act.put, List.setIfInBounds_toArray, List.set_cons_zero, List.set_cons_succ, i64_w, i32_w]
            rfl
          refine done_ (done_of HT_.out (by kernel_rfl)) ?_
          go_wp2
          go_roundg (gk - 1)
          case rel => exact ⟨i + 1, by go_num, by omega, HO3, HW3, HV3, HU3, HB3⟩
          case measure => omega
        · obtain rfl : i = 23 := by omega
          obtain ⟨wp, rfl⟩ : ∃ wp : World, wp = wr := ⟨_, rfl⟩
          clear hlt hij HW HV
          have hcu : wp.cell? ⟨gu, 0, none⟩ = some (.string ⟨#[115, 101, 101, 100]⟩) := tab_cell_at HU.out 0 (by omega) 0 (by omega)
          go_wp2_with fail
          refine (words_calls' go (kAt 23) wp (HLT.out.on HB.out) HGO.out HO.out (kAt_in 23)).mono ?_
          rw [ks4]
          rintro e w11 ⟨v11, rfl, hR, hb⟩
          have HB11 := Aside0.mk (below_step HB.out hb)
          have HO11 := Aside0.mk (HO.out.below (B := 0) hb)
          have HR11 := Aside0.mk hR
          clear hb hR HB HO HU hcu
          go_wp2_with (((with_reducible refine gate_dst (N := 131) rfl ?_); (try (refine gate_guard (by rfl) ?_; dsimp only)); refine Kd.R_lit Kd.string _ 9 ?hg (N := 131) ?hd (xs := kThree) (inner := [.string ⟨#[45, 45, 109, 97, 114, 103, 105, 110, 61, 49, 50, 48]⟩, .string ⟨#[45, 45, 103, 108, 117, 101, 61, 51]⟩, .string ⟨#[45, 45, 110, 111, 45, 101, 108, 105, 109]⟩]) (ok := fun _ => True) (okp := fun _ => True) ?hr ?hp (fun _ hk => hk) trivial (Below.refl _ _) (Nat.le_refl _) (by decide) ?_; (case hd => rfl); (case hg => rfl); (case hr => first | (go_simp; done) | (go_simp; rfl)); (case hp => exact (Reps.one (show Kd.M Kd.string _ _ _ ⟨#[45, 45, 109, 97, 114, 103, 105, 110, 61, 49, 50, 48]⟩ [.string ⟨#[45, 45, 109, 97, 114, 103, 105, 110, 61, 49, 50, 48]⟩] from rfl) (Reps.one (show Kd.M Kd.string _ _ _ ⟨#[45, 45, 103, 108, 117, 101, 61, 51]⟩ [.string ⟨#[45, 45, 103, 108, 117, 101, 61, 51]⟩] from rfl) (Reps.one (show Kd.M Kd.string _ _ _ ⟨#[45, 45, 110, 111, 45, 101, 108, 105, 109]⟩ [.string ⟨#[45, 45, 110, 111, 45, 101, 108, 105, 109]⟩] from rfl) (Reps.none _ _))))); intro v12 w12 ho hb hg_ hnew_; clear hg_ hnew_; have HS12 := Aside0.mk ho; have HR12 := Aside0.mk (Kd.R_below HR11.out hb); have HB12 := Aside0.mk (below_step HB11.out hb); have HO12 := Aside0.mk (HO11.out.below (B := 0) hb); clear ho hb))
          refine (same_words HR12.out HS12.out (by decide)).mono ?_
          rintro e w13 ⟨rfl, nd, rfl⟩
          have HB13 := Aside0.mk (pw_below_drewN HB12.out nd)
          have HO13 := Aside0.mk (OB.drewN HO12.out nd)
          clear HR12 HS12 HB12 HO12 HR11 HB11 HO11
          generalize w12.drewN nd = w13 at HB13 HO13 ⊢
          go_wp2_with fail
          refine (set_calls go (kAt 23) kSeed 9223372036854775807 w13 (HLT.out.on HB13.out) HGO.out HO13.out).mono ?_
          rw [ks5]
          rintro e w14 ⟨rfl, hO, hg⟩
          have HB14 := Aside0.mk (HB13.out.trans (hg.below HGO.out HB13.out.size))
          have HO14 := Aside0.mk (show OB w14 go kxb from hO)
          clear hO hg HB13 HO13
          go_wp2_with fail
          refine (set_calls go kxb kSeed (-9223372036854775808) w14 (HLT.out.on HB14.out) HGO.out HO14.out).mono ?_
          rw [ks6]
          rintro e w15 ⟨rfl, hO, hg⟩
          have HB15 := Aside0.mk (HB14.out.trans (hg.below HGO.out HB14.out.size))
          have HO15 := Aside0.mk (show OB w15 go kxc from hO)
          clear hO hg HB14 HO14
          go_wp2_with fail
          refine (parse_calls go kxc kNoSeed w15 (HLT.out.on HB15.out) HGO.out HO15.out (by decide)).mono ?_
          rw [ks7]
          rintro e w16 ⟨rfl, hO, hg⟩
          have HB16 := Aside0.mk (HB15.out.trans (hg.below HGO.out HB15.out.size))
          have HO16 := Aside0.mk (show OB w16 go kxd from hO)
          clear hO hg HB15 HO15
          go_wp2_with fail
          refine (words_calls' go kxd w16 (HLT.out.on HB16.out) HGO.out HO16.out kxd_in).mono ?_
          rintro e w17 ⟨v17, rfl, hR, hb⟩
          have HB17 := Aside0.mk (below_step HB16.out hb)
          have HO17 := Aside0.mk (HO16.out.below (B := 0) hb)
          change Kd.R Kd.string 9 w17 w16.heap.size (fun _ => True) v17 kL at hR
          obtain ⟨g17, c17, hv, hg17, _, _⟩ := Kd.R_form hR (by rw [ks8]; decide)
          rw [ks8] at hv
          subst hv
          have hcw := (Kd.R_celln ByteArray.empty hR 0 (by decide) (by decide)).1
          rw [ks9] at hcw
          rw [show ((0 : Int)).toNat = 0 from rfl] at hcw
          clear hb hR HB16 HO16 hg17
          go_wp2_with fail
          refine (parse_calls go kxd kNoRestart w17 (HLT.out.on HB17.out) HGO.out HO17.out (by decide)).mono ?_
          rw [ks10]
          rintro e w18 ⟨rfl, hO, hg⟩
          have HB18 := Aside0.mk (HB17.out.trans (hg.below HGO.out HB17.out.size))
          have HO18 := Aside0.mk (show OB w18 go kxe from hO)
          clear hO hg HB17 HO17 hcw
          go_wp2_with fail
          refine (get_calls go kxe kRestart w18 (HLT.out.on HB18.out) HGO.out HO18.out).mono ?_
          rw [ks11]
          rintro e w19 ⟨rfl, hb⟩
          have HB19 := Aside0.mk (below_step HB18.out hb)
          clear hb HB18 HO18
          go_wp2_with fail
          refine (set_nil kSeed 1 w19).mono ?_
          rintro e w20 ⟨rfl, rfl⟩
          go_wp2_with fail
          refine (get_nil kSeed w20 ((HLT.out.on HB19.out).up HB19.out.size)).mono ?_
          rintro e w21 ⟨rfl, hb⟩
          have HB21 := Aside0.mk (below_step HB19.out hb)
          clear hb
          go_wp2_with fail
          refine (parse_nil _ w21).mono ?_
          rintro e w22 ⟨rfl, hb⟩
          have HB22 := Aside0.mk (below_step HB21.out hb)
          clear hb
          go_wp2_with fail
          refine (words_nil w22).mono ?_
          rintro e w23 ⟨rfl, hb⟩
          have HB23 := Aside0.mk (below_step HB22.out hb)
          clear hb
          go_wp2_with fail
          refine (copy_nil w23).mono ?_
          rintro e w24 ⟨rfl, hb⟩
          have HB24 := Aside0.mk (below_step HB23.out hb)
          clear hb
          go_wp2_with fail
          refine (works_calls w24 ((HLT.out.on HB24.out).up HB24.out.size)).mono ?_
          rintro e w25 ⟨rfl, hb⟩
          have HB25 := Aside0.mk (below_step HB24.out hb)
          clear hb
          go_wp2
          go_ret
          exact ⟨rfl, HB25.out⟩
end Go.Proofs.YtmknpchmpgkdbaaDoor.PB
end

section
namespace Go.Proofs.YtmknpchmpgkdbaaDoor.PB
open Go.RowKit Go.Proofs.YtmknpchmpgkdbaaDoorW.PrintWords
theorem optionsKnown_walk (w : World) (hlt : LT w.heap.size w) :
    Calls Tryd.prog 6 #[] w fun e w' => e = .returned (.bool true) ∧ Below w.heap.size w w' := known_calls w hlt
end Go.Proofs.YtmknpchmpgkdbaaDoor.PB
end
