import Derived.Test.YtfjnkbkcoakooaaDoorPure3
import Derived.Test.YtfjnkbkcoakooaaDoorHGood
import Derived.Test.YtfjnkbkcoakooaaDoorFThreshingref04Lent
import Derived.Test.YtfjnkbkcoakooaaDoorFThreshingref04May
import Derived.Test.YtfjnkbkcoakooaaDoorFThreshinglaw04LratWrites
namespace Go.Proofs.YtfjnkbkcoakooaaDoor.PB
open Go.RowKit Go.Proofs.YtfjnkbkcoakooaaDoorW.PrintWords Go.Proofs.YtfjnkbkcoakooaaDoorW.PrintLast Go.Proofs.YtfjnkbkcoakooaaDoorW.PrintMore
set_option linter.unusedVariables false
set_option linter.unusedSimpArgs false
/-! ### May -/
theorem rmay_l1 (a b : Int) (x2 x3 : List Int) (hn : x3.length ≤ 9223372036854775806) (d : Nat) : ∀ i : Nat, i + d = x3.length → Ev (fun k => threshingref04_May.l1 k (i : Int) a b x2 x3) ((x3.drop i).all (Bhint a)) := by
  induction d with
  | zero =>
    intro i hi
    refine Ev_succ ?_
    simp only [threshingref04_May.l1, if_neg (show ¬ ((i : Int) < (x3.length : Int)) by omega)]
    rw [List.drop_of_length_le (by omega)]
    exact Ev.now _
  | succ d ih =>
    intro i hi
    have hlt : i < x3.length := by omega
    have hr := rd_nat x3 i hlt
    have hih := ih (i + 1) (by omega)
    refine Ev_succ ?_
    simp only [threshingref04_May.l1, if_pos (show (i : Int) < (x3.length : Int) by omega), if_pos (show 0 ≤ (i : Int) by omega), hr, wrap_cast (show i ≤ 9223372036854775806 by omega)]
    rw [List.drop_eq_getElem_cons hlt, List.all_cons]
    generalize x3[i] = h
    rw [show Bhint a h = (!decide (h = 0) && decide (-4611686018427387903 ≤ h) && decide (h ≤ 4611686018427387903) && (decide (0 < h) || !decide (a = 2))) from rfl]
    by_cases c1 : h = 0
    · simp only [c1, if_true, decide_true, Bool.not_true, Bool.false_and]; exact Ev.now _
    simp only [if_neg c1]
    by_cases c3 : h > 4611686018427387903
    · simp only [if_pos c3, decide_eq_false (show ¬ (h ≤ 4611686018427387903) by omega), Bool.and_false, Bool.false_and]; exact Ev.now _
    simp only [if_neg c3]
    by_cases c2 : h < -4611686018427387903
    · simp only [if_pos c2, decide_eq_false (show ¬ (-4611686018427387903 ≤ h) by omega), Bool.and_false, Bool.false_and]; exact Ev.now _
    simp only [if_neg c2, decide_eq_false c1, decide_eq_true (show -4611686018427387903 ≤ h by omega), decide_eq_true (show h ≤ 4611686018427387903 by omega), Bool.not_false, Bool.true_and]
    by_cases c4 : h < 0
    · simp only [if_pos c4, decide_eq_false (show ¬ 0 < h by omega), Bool.false_or]
      by_cases c5 : a = 2
      · simp only [if_pos c5, decide_eq_true c5, Bool.not_true, Bool.false_and]; exact Ev.now _
      · simp only [if_neg c5, decide_eq_false c5, Bool.not_false, Bool.true_and]; exact hih
    · simp only [if_neg c4, decide_eq_true (show 0 < h by omega), Bool.true_or, Bool.true_and]; exact hih
theorem rlit_f (x : Int) : threshingref04_Lit.f x = some (Blit x) := by
  unfold threshingref04_Lit.f Blit
  by_cases c1 : x = 0
  · rw [if_pos c1]; simp [c1]
  rw [if_neg c1]
  by_cases c2 : x ≥ -1048576
  · rw [if_pos c2]; simp [c1, show -1048576 ≤ x by omega]
  · rw [if_neg c2]; simp [show ¬ (-1048576 ≤ x) by omega]
theorem rmay_l0 (a b : Int) (x2 x3 : List Int) (hn : x2.length ≤ 9223372036854775806) (hn3 : x3.length ≤ 9223372036854775806) (d : Nat) : ∀ i : Nat, i + d = x2.length → Ev (fun k => threshingref04_May.l0 k (i : Int) a b x2 x3) ((x2.drop i).all Blit && x3.all (Bhint a)) := by
  induction d with
  | zero =>
    intro i hi
    refine Ev_succ ?_
    simp only [threshingref04_May.l0, if_neg (show ¬ ((i : Int) < (x2.length : Int)) by omega)]
    rw [List.drop_of_length_le (by omega)]
    simpa using rmay_l1 a b x2 x3 hn3 x3.length 0 (by omega)
  | succ d ih =>
    intro i hi
    have hlt : i < x2.length := by omega
    have hr := rd_nat x2 i hlt
    have hih := ih (i + 1) (by omega)
    refine Ev_succ ?_
    simp only [threshingref04_May.l0, if_pos (show (i : Int) < (x2.length : Int) by omega), if_pos (show 0 ≤ (i : Int) by omega), hr, rlit_f, Option.bind_some, wrap_cast (show i ≤ 9223372036854775806 by omega)]
    rw [List.drop_eq_getElem_cons hlt, List.all_cons]
    cases Blit x2[i] with
    | false => simp only [Bool.false_and]; exact Ev.now _
    | true => simp only [if_true, Bool.true_and]; exact hih
theorem rmay_ev (s : S43) (hn : s.f2.length ≤ 9223372036854775806) (hn3 : s.f3.length ≤ 9223372036854775806) : Ev (fun k => threshingref04_May.f k s.f0 s.f1 s.f2 s.f3) (Bmay s) := by
  have h0 := rmay_l0 s.f0 s.f1 s.f2 s.f3 hn hn3 s.f2.length 0 (by omega)
  simp only [List.drop_zero] at h0
  have h1 : ∀ b, Ev (fun k => threshingref04_May.j1 k b s.f0 s.f1 s.f2 s.f3) (!b && (s.f2.all Blit && s.f3.all (Bhint s.f0))) := by
    intro b
    refine Ev_succ ?_
    cases b with
    | true => simp only [threshingref04_May.j1, if_true]; exact Ev.now _
    | false => simp only [threshingref04_May.j1, Bool.false_eq_true, if_false, Bool.not_false, Bool.true_and]; exact h0
  have h2 : ∀ m, Ev (fun k => threshingref04_May.j0 k m s.f0 s.f1 s.f2 s.f3) (decide (m ≤ s.f1) && decide (s.f1 ≤ 4611686018427387903) && (s.f2.all Blit && s.f3.all (Bhint s.f0))) := by
    intro m
    refine Ev_succ ?_
    by_cases c : s.f1 < m
    · simp only [threshingref04_May.j0, if_pos c, decide_eq_false (show ¬ m ≤ s.f1 by omega), Bool.false_and]
      simpa using h1 true
    · simp only [threshingref04_May.j0, if_neg c, decide_eq_true (show m ≤ s.f1 by omega), Bool.true_and]
      have := h1 (decide (s.f1 > 4611686018427387903))
      have e : (!decide (s.f1 > 4611686018427387903)) = decide (s.f1 ≤ 4611686018427387903) := by
        by_cases c2 : s.f1 ≤ 4611686018427387903
        · rw [decide_eq_true c2, decide_eq_false (by omega)]; rfl
        · rw [decide_eq_false c2, decide_eq_true (by omega)]; rfl
      rw [e] at this
      exact this
  have e : Bmay s = ((decide (s.f0 = 1) && decide (1 ≤ s.f1) || decide (s.f0 = 2) && decide (0 ≤ s.f1) && decide (s.f2.length = 0)) && decide (s.f1 ≤ 4611686018427387903) && s.f2.all Blit && s.f3.all (Bhint s.f0)) := rfl
  rw [e]
  unfold threshingref04_May.f
  by_cases c1 : s.f0 = 1
  · simp only [if_pos c1]
    have := h2 1
    simp only [decide_eq_true c1, decide_eq_false (show ¬ s.f0 = 2 by omega), Bool.true_and, Bool.false_and, Bool.or_false, Bool.and_assoc] at this ⊢
    exact this
  simp only [if_neg c1]
  by_cases c2 : s.f0 = 2
  · simp only [if_pos c2]
    by_cases c3 : (s.f2.length : Int) > 0
    · simp only [if_pos c3, decide_eq_false c1, decide_eq_false (show ¬ s.f2.length = 0 by omega), Bool.false_and, Bool.and_false, Bool.or_false]
      exact Ev.now _
    · simp only [if_neg c3]
      have := h2 0
      simp only [decide_eq_false c1, decide_eq_true c2, decide_eq_true (show s.f2.length = 0 by omega), Bool.true_and, Bool.false_and, Bool.and_true, Bool.false_or, Bool.and_assoc] at this ⊢
      exact this
  · simp only [if_neg c2, decide_eq_false c1, decide_eq_false c2, Bool.false_and, Bool.or_false]
    exact Ev.now _

/-! ### Lent -/
theorem lent_ev (l : List S43) (hl : l.length ≤ 6000) (ht : Btot l ≤ 6000) : Ev (fun k => threshingref04_Lent.f k l) l := by
  have key : ∀ (d i : Nat), i + d = l.length → Ev (fun k => threshingref04_Lent.l0 k l (l.take i) (i : Int)) l := by
    intro d
    induction d with
    | zero =>
      intro i hi
      refine Ev_succ ?_
      simp only [threshingref04_Lent.l0, if_neg (show ¬ ((i : Int) < (l.length : Int)) by omega), List.take_of_length_le (show l.length ≤ i by omega)]
      exact Ev.now _
    | succ d ih =>
      intro i hi
      have hlt : (i : Int) < (l.length : Int) := by omega
      have htk := rd43_nat l (i : Int) (by omega) hlt
      have e1 : ((i : Int) + 1).toNat = i + 1 := by omega
      rw [e1, Int.toNat_natCast] at htk
      have hm := Btot_mem l _ (rd43_mem l (i : Int) (by omega) hlt)
      have hlen : (l.take i).length ≤ i := List.length_take_le _ _
      refine Ev_succ ?_
      simp only [threshingref04_Lent.l0, if_pos hlt, if_pos (show 0 ≤ (i : Int) by omega), List.nil_append, List.length_nil, Nat.zero_add, if_pos (show (rd_T43 l (i : Int)).f2.length < 35184372088832 by omega), if_pos (show (rd_T43 l (i : Int)).f3.length < 17592186044416 by omega), if_pos (show (l.take i).length < 2199023255552 by omega), wrap_cast (show i ≤ 9223372036854775806 by omega)]
      rw [← htk]
      exact ih (i + 1) (by omega)
  exact key l.length 0 (by omega)

/-! ### Large -/
theorem large_ev (l : List S43) (hl : l.length ≤ 6000) (ht : Btot l ≤ 6000) : Ev (fun k => threshingref04_Large.f k l) false := by
  have key : ∀ (d i : Nat), i + d = l.length → Ev (fun k => threshingref04_Large.l0 k l (Btot (l.take i) : Nat) (i : Int)) false := by
    intro d
    induction d with
    | zero =>
      intro i hi
      refine Ev_succ ?_
      rw [List.take_of_length_le (show l.length ≤ i by omega)]
      simp only [threshingref04_Large.l0, if_neg (show ¬ ((i : Int) < (l.length : Int)) by omega), if_neg (show ¬ ((l.length : Int) > 4194304) by omega), decide_eq_false (show ¬ ((Btot l : Int) > 16777216) by omega)]
      exact Ev.now _
    | succ d ih =>
      intro i hi
      have hlt : (i : Int) < (l.length : Int) := by omega
      have htk := rd43_nat l (i : Int) (by omega) hlt
      have e1 : ((i : Int) + 1).toNat = i + 1 := by omega
      rw [e1, Int.toNat_natCast] at htk
      have hm := Btot_mem l _ (rd43_mem l (i : Int) (by omega) hlt)
      have hle := Btot_take_le l i
      obtain ⟨s, hs⟩ : ∃ s, s = rd_T43 l (i : Int) := ⟨_, rfl⟩
      rw [← hs] at htk hm
      have hbt : Btot (l.take (i + 1)) = Btot (l.take i) + (s.f2.length + s.f3.length) := by rw [htk, Btot_append]; simp only [Btot]; omega
      have z1 : ((Btot (l.take i) : Nat) : Int) ≤ 16777216 := by omega
      have z2 : 0 ≤ (i : Int) := by omega
      have z3 := wrap_cast (show i ≤ 9223372036854775806 by omega)
      have hih := ih (i + 1) (by omega)
      have em2 : mn (s.f2.length : Int) 16777217 = (s.f2.length : Int) := by unfold mn; rw [if_neg (by omega)]
      have em3 : mn (s.f3.length : Int) 16777217 = (s.f3.length : Int) := by unfold mn; rw [if_neg (by omega)]
      have ew : wrap64 ((wrap64 (((Btot (l.take i) : Nat) : Int) + (s.f2.length : Int))) + (s.f3.length : Int)) = ((Btot (l.take (i + 1)) : Nat) : Int) := by
        rw [hbt, wrap_id (x := ((Btot (l.take i) : Nat) : Int) + (s.f2.length : Int)) (by omega) (by omega), wrap_id (by omega) (by omega)]
        omega
      refine Ev_succ ?_
      simp only [threshingref04_Large.l0, if_pos hlt, if_pos z1, if_pos z2, ← hs, em2, em3, ew, z3]
      exact hih
  exact key l.length 0 (by omega)

/-! ### put -/

theorem works_w (k : Nat) : threshinglaw04_works.f k = some true := by kernel_rfl
theorem write_w (k : Nat) (l : List S43) (h : l.length + Btot l ≤ 6000) : lrat_Write.f k l = some (strOfNums (Lwrite l).1, (Lwrite l).2) := by unfold lrat_Write.f; rw [if_pos h]
theorem u64w (n : Int) : IntKind.u64.wrap n = n % 18446744073709551616 := by simp [IntKind.wrap, IntKind.bits, IntKind.signed]
theorem dig_one (d : Nat) (h : d < 10) (x : Int) (hx : x = (48 + ((d : Int) % 256)) % 256) : strOfNums [x] = ofL [UInt8.ofNat (48 + d)] := by
  have : x.toNat = 48 + d := by omega
  unfold strOfNums ofL
  simp only [List.map_cons, List.map_nil, this]
theorem rdigits_ev (u : Nat) (hu : u < 18446744073709551616) : Ev (fun k => threshingref04_digits.f k (u : Int)) (ofL (Lib.decDigits u)) := by
  induction u using Nat.strongRecOn with
  | _ u ih =>
    refine Ev_succ ?_
    by_cases h : u < 10
    · simp only [threshingref04_digits.f, if_pos (show (u : Int) < 10 by omega)]
      rw [Lib.decDigits_one h, dig_one u h _ rfl]
      exact Ev.now _
    · simp only [threshingref04_digits.f, if_neg (show ¬ (u : Int) < 10 by omega)]
      have e1 : IntKind.u64.wrap (Int.tdiv (u : Int) 10) = ((u / 10 : Nat) : Int) := by
        rw [u64w, Int.tdiv_eq_ediv_of_nonneg (by omega)]
        omega
      rw [e1]
      refine Ev.bind (ih (u / 10) (by omega) (by omega)) ?_
      have e2 : Int.tmod (u : Int) 10 = ((u % 10 : Nat) : Int) := by
        rw [Int.tmod_eq_emod_of_nonneg (by omega)]
        omega
      rw [e2]
      simp only [Option.bind_some]
      rw [dig_one (u % 10) (by omega) _ rfl]
      have hlen : (Lib.decDigits (u / 10)).length ≤ 21 := by
        have := Lib.itoa_length_le ((u / 10 : Nat) : Int) (by omega) (by omega)
        rw [Lib.itoa_nonneg] at this
        exact this
      have e3 : ofL (Lib.decDigits (u / 10)) ++ ofL [UInt8.ofNat (48 + u % 10)] = ofL (Lib.decDigits u) := by
        conv => rhs; rw [Lib.decDigits, dif_neg h]
        apply ByteArray.ext
        simp [ofL]
      simp only [if_pos (show (ofL (Lib.decDigits (u / 10))).size + (ofL [UInt8.ofNat (48 + u % 10)]).size ≤ 9223372036854775807 by rw [ofL_size, ofL_size]; simp only [List.length_cons, List.length_nil]; omega), e3]
      exact Ev.now _
theorem rnumber_ev (n : Int) (hn : Isint n) : Ev (fun k => threshingref04_Number.f k n) (ofL (Lib.itoa n)) := by
  obtain ⟨h0, h1⟩ := hn
  unfold threshingref04_Number.f
  by_cases h : n < 0
  · simp only [if_pos h]
    have e : IntKind.u64.wrap (wrap64 (-n)) = ((n.natAbs : Nat) : Int) := by
      rw [u64w]
      unfold wrap64
      omega
    rw [e]
    refine Ev.bind (rdigits_ev n.natAbs (by omega)) ?_
    have ei : Lib.itoa n = 45 :: Lib.decDigits n.natAbs := by unfold Lib.itoa; rw [if_pos h]
    have hl := Lib.itoa_length_le n h0 h1
    rw [ei, List.length_cons] at hl
    have e3 : (⟨#[45]⟩ : ByteArray) ++ ofL (Lib.decDigits n.natAbs) = ofL (Lib.itoa n) := by
      rw [ei]
      apply ByteArray.ext
      simp [ofL]
    simp only [if_pos (show 1 + (ofL (Lib.decDigits n.natAbs)).size ≤ 9223372036854775807 by rw [ofL_size]; omega), e3]
    exact Ev.now _
  · simp only [if_neg h]
    have e : IntKind.u64.wrap n = ((n.toNat : Nat) : Int) := by rw [u64w]; omega
    rw [e]
    refine Ev.bind (rdigits_ev n.toNat (by omega)) ?_
    have ei : Lib.itoa n = Lib.decDigits n.toNat := by unfold Lib.itoa; rw [if_neg h]
    rw [ei]
    exact Ev.now _
theorem glue (a b : List UInt8) : ofL a ++ ofL b = ofL (a ++ b) := by
  apply ByteArray.ext
  simp [ofL]
theorem itoa_le (x : Int) (h : Isint x) : (Lib.itoa x).length ≤ 21 := Lib.itoa_length_le x h.1 h.2
def wordsL (l : List Int) : List UInt8 := (l.map Lib.itoa).flatMap fun y => 32 :: y
theorem wordsL_cons (x : Int) (l : List Int) : wordsL (x :: l) = 32 :: Lib.itoa x ++ wordsL l := by simp [wordsL]
theorem rline_l1 (a b : Int) (x2 x3 : List Int) (hn : x3.length ≤ 1000000) (hh : ∀ x ∈ x3, Isint x) (d : Nat) : ∀ (i : Nat) (acc : List UInt8), i + d = x3.length → acc.length + 22 * d ≤ 1000000000000 →
    Ev (fun k => threshingref04_Line.l1 k (ofL acc) (i : Int) a b x2 x3) (ofL (acc ++ (wordsL (x3.drop i) ++ [32, 48, 10]))) := by
  induction d with
  | zero =>
    intro i acc hi hb
    refine Ev_succ ?_
    simp only [threshingref04_Line.l1, if_neg (show ¬ ((i : Int) < (x3.length : Int)) by omega), if_pos (show (ofL acc).size + 3 ≤ 9223372036854775807 by rw [ofL_size]; omega)]
    rw [List.drop_of_length_le (by omega)]
    have e : ofL acc ++ (⟨#[32, 48, 10]⟩ : ByteArray) = ofL (acc ++ (wordsL [] ++ [32, 48, 10])) := glue acc [32, 48, 10]
    rw [e]
    exact Ev.now _
  | succ d ih =>
    intro i acc hi hb
    have hlt : i < x3.length := by omega
    have hr := rd_nat x3 i hlt
    have hx := hh x3[i] (List.getElem_mem hlt)
    have hle := itoa_le _ hx
    refine Ev_succ ?_
    simp only [threshingref04_Line.l1, if_pos (show (i : Int) < (x3.length : Int) by omega), if_pos (show (ofL acc).size + 1 ≤ 9223372036854775807 by rw [ofL_size]; omega), if_pos (show 0 ≤ (i : Int) by omega), hr, wrap_cast (show i ≤ 9223372036854775806 by omega)]
    refine Ev.bind (rnumber_ev _ hx) ?_
    have e1 : ofL acc ++ (⟨#[32]⟩ : ByteArray) = ofL (acc ++ [32]) := glue acc [32]
    rw [e1]
    simp only [if_pos (show (ofL (acc ++ [32])).size + (ofL (Lib.itoa x3[i])).size ≤ 9223372036854775807 by rw [ofL_size, ofL_size, List.length_append]; simp only [List.length_cons, List.length_nil]; omega), glue]
    have := ih (i + 1) (acc ++ [32] ++ Lib.itoa x3[i]) (by omega) (by simp only [List.length_append, List.length_cons, List.length_nil]; omega)
    rw [List.drop_eq_getElem_cons hlt, wordsL_cons]
    simpa [List.append_assoc] using this
theorem rline_l0 (a b : Int) (x2 x3 : List Int) (hn : x2.length ≤ 1000000) (hn3 : x3.length ≤ 1000000) (h2 : ∀ x ∈ x2, Glit x) (hh : ∀ x ∈ x3, Isint x) (d : Nat) : ∀ (i : Nat) (acc : List UInt8), i + d = x2.length → acc.length + 22 * d ≤ 100000000 →
    Ev (fun k => threshingref04_Line.l0 k (ofL acc) (i : Int) a b x2 x3) (ofL (acc ++ (wordsL (x2.drop i) ++ ((if a = 1 then [32, 48] else []) ++ (wordsL x3 ++ [32, 48, 10]))))) := by
  induction d with
  | zero =>
    intro i acc hi hb
    refine Ev_succ ?_
    simp only [threshingref04_Line.l0, if_neg (show ¬ ((i : Int) < (x2.length : Int)) by omega), if_pos (show (ofL acc).size + 2 ≤ 9223372036854775807 by rw [ofL_size]; omega)]
    rw [List.drop_of_length_le (by omega)]
    by_cases ha : a = 1
    · simp only [if_pos ha]
      refine Ev_succ ?_
      have e : ofL acc ++ (⟨#[32, 48]⟩ : ByteArray) = ofL (acc ++ [32, 48]) := glue acc [32, 48]
      simp only [threshingref04_Line.j2, e]
      have := rline_l1 a b x2 x3 hn3 hh x3.length 0 (acc ++ [32, 48]) (by omega) (by simp only [List.length_append, List.length_cons, List.length_nil]; omega)
      simpa [wordsL] using this
    · simp only [if_neg ha]
      refine Ev_succ ?_
      simp only [threshingref04_Line.j2]
      have := rline_l1 a b x2 x3 hn3 hh x3.length 0 acc (by omega) (by omega)
      simpa [wordsL] using this
  | succ d ih =>
    intro i acc hi hb
    have hlt : i < x2.length := by omega
    have hr := rd_nat x2 i hlt
    have hg := h2 x2[i] (List.getElem_mem hlt)
    have hx : Isint x2[i] := ⟨by have := hg.2.1; omega, by have := hg.2.2; omega⟩
    have hle := itoa_le _ hx
    have hw : wrap64 x2[i] = x2[i] := wrap_id hx.1 hx.2
    refine Ev_succ ?_
    simp only [threshingref04_Line.l0, if_pos (show (i : Int) < (x2.length : Int) by omega), if_pos (show (ofL acc).size + 1 ≤ 9223372036854775807 by rw [ofL_size]; omega), if_pos (show 0 ≤ (i : Int) by omega), hr, hw, wrap_cast (show i ≤ 9223372036854775806 by omega)]
    refine Ev.bind (rnumber_ev _ hx) ?_
    have e1 : ofL acc ++ (⟨#[32]⟩ : ByteArray) = ofL (acc ++ [32]) := glue acc [32]
    rw [e1]
    simp only [if_pos (show (ofL (acc ++ [32])).size + (ofL (Lib.itoa x2[i])).size ≤ 9223372036854775807 by rw [ofL_size, ofL_size, List.length_append]; simp only [List.length_cons, List.length_nil]; omega), glue]
    have := ih (i + 1) (acc ++ [32] ++ Lib.itoa x2[i]) (by omega) (by simp only [List.length_append, List.length_cons, List.length_nil]; omega)
    rw [List.drop_eq_getElem_cons hlt, wordsL_cons]
    simpa [List.append_assoc] using this
theorem lineB_parts (s : S43) : lineB s ++ [10] = (Lib.itoa s.f1 ++ if s.f0 = 2 then [32, 100] else []) ++ (wordsL s.f2 ++ ((if s.f0 = 1 then [32, 48] else []) ++ (wordsL s.f3 ++ [32, 48, 10]))) := by
  unfold lineB lineW spaced wordsL
  by_cases h1 : s.f0 = 1
  · simp [h1, List.flatMap_append]
  · by_cases h2 : s.f0 = 2
    · simp [h2, List.flatMap_append]
    · simp [h1, h2, List.flatMap_append]
theorem rline_ev (s : S43) (hm : Bmay s = true) (hn : s.f2.length ≤ 6000) (hn3 : s.f3.length ≤ 6000) : Ev (fun k => threshingref04_Line.f k s.f0 s.f1 s.f2 s.f3) (ofL (lineB s ++ [10])) := by
  obtain ⟨hk, hid, h2, h3⟩ := may_parts s hm
  have hle := itoa_le _ hid
  unfold threshingref04_Line.f
  refine Ev.bind (rnumber_ev _ hid) ?_
  rw [lineB_parts]
  by_cases hd : s.f0 = 2
  · simp only [if_pos hd, if_pos (show (ofL (Lib.itoa s.f1)).size + 2 ≤ 9223372036854775807 by rw [ofL_size]; omega)]
    have e : ofL (Lib.itoa s.f1) ++ (⟨#[32, 100]⟩ : ByteArray) = ofL (Lib.itoa s.f1 ++ [32, 100]) := glue _ [32, 100]
    rw [e]
    refine Ev_succ ?_
    simp only [threshingref04_Line.j0]
    have := rline_l0 s.f0 s.f1 s.f2 s.f3 (by omega) (by omega) h2 (fun x hx => (h3 x hx).2) s.f2.length 0 (Lib.itoa s.f1 ++ [32, 100]) (by omega) (by simp only [List.length_append, List.length_cons, List.length_nil]; omega)
    simpa [hd] using this
  · simp only [if_neg hd]
    refine Ev_succ ?_
    simp only [threshingref04_Line.j0]
    have := rline_l0 s.f0 s.f1 s.f2 s.f3 (by omega) (by omega) h2 (fun x hx => (h3 x hx).2) s.f2.length 0 (Lib.itoa s.f1) (by omega) (by omega)
    simpa [hd] using this
theorem Llines_le (l : List S43) (h : ∀ s ∈ l, Bmay s = true) : (Llines l).length ≤ 48 * l.length + 22 * Btot l := by
  induction l with
  | nil => simp [Llines]
  | cons s l ih =>
    have h1 := Lline_length s (Lfit_of s (h s List.mem_cons_self))
    have h2 := ih (fun x hx => h x (List.mem_cons_of_mem _ hx))
    have e : Llines (s :: l) = Lline s ++ Llines l := by simp [Llines]
    rw [e, List.length_append]
    simp only [List.length_cons, Btot]
    omega
theorem rwrite_ev (l : List S43) (hl : l.length + Btot l ≤ 6000) : Ev (fun k => threshingref04_Write.f k l) (strOfNums (Lwrite l).1, (Lwrite l).2) := by
  have key : ∀ (d i : Nat), i + d = l.length → (l.take i).all Bmay = true → Ev (fun k => threshingref04_Write.l0 k l (Llines (l.take i)) (i : Int)) (if l.all Bmay then (strOfNums (Llines l), 0) else (⟨#[]⟩, 40)) := by
    intro d
    induction d with
    | zero =>
      intro i hi hall
      refine Ev_succ ?_
      rw [List.take_of_length_le (show l.length ≤ i by omega)] at hall ⊢
      simp only [threshingref04_Write.l0, if_neg (show ¬ ((i : Int) < (l.length : Int)) by omega), hall, if_true]
      exact Ev.now _
    | succ d ih =>
      intro i hi hall
      have hlt : (i : Int) < (l.length : Int) := by omega
      have htk := rd43_nat l (i : Int) (by omega) hlt
      have e1 : ((i : Int) + 1).toNat = i + 1 := by omega
      rw [e1, Int.toNat_natCast] at htk
      have hmem := rd43_mem l (i : Int) (by omega) hlt
      have hm := Btot_mem l _ hmem
      have htl := Btot_take_le l i
      have hll := List.length_take_le i l
      have hsl := Llines_le (l.take i) (List.all_eq_true.1 hall)
      obtain ⟨s, hs⟩ : ∃ s, s = rd_T43 l (i : Int) := ⟨_, rfl⟩
      rw [← hs] at htk hm hmem
      refine Ev_succ ?_
      simp only [threshingref04_Write.l0, if_pos hlt, if_pos (show 0 ≤ (i : Int) by omega), ← hs]
      refine Ev.bind (rmay_ev s (by omega) (by omega)) ?_
      cases hmay : Bmay s with
      | false =>
        have hno : l.all Bmay = false := by
          cases ha : l.all Bmay with
          | false => rfl
          | true => have := List.all_eq_true.1 ha s hmem; rw [hmay] at this; cases this
        simp only [hno, Bool.false_eq_true, if_false]
        exact Ev.now _
      | true =>
        simp only [if_true]
        refine Ev.bind (rline_ev s hmay (by omega) (by omega)) ?_
        have hih := ih (i + 1) (by omega) (by rw [htk, List.all_append, hall]; simp [hmay])
        have hlb := Lline_length s (Lfit_of s hmay)
        have hll2 : Lline s = bytesOf (ofL (lineB s ++ [10])) := Lline_text s (by rcases (may_parts s hmay).1 with h | h; exact .inl h; exact .inr h.1)
        have hsz : (ofL (lineB s ++ [10])).size = (Lline s).length := by rw [hll2, bytesOf_length]
        have e2 : Llines (l.take i ++ [s]) = Llines (l.take i) ++ Lline s := by simp [Llines]
        rw [htk, e2, hll2] at hih
        simp only [if_pos (show (Llines (l.take i)).length + (ofL (lineB s ++ [10])).size < 140737488355328 by rw [hsz]; omega), wrap_cast (show i ≤ 9223372036854775806 by omega)]
        exact hih
  unfold threshingref04_Write.f
  refine Ev.bind (large_ev l (by omega) (by omega)) ?_
  simp only [Bool.false_eq_true, if_false]
  have := key l.length 0 (by omega) (by simp)
  unfold Lwrite
  by_cases ha : l.all Bmay = true
  · rw [if_pos ha] at this ⊢
    exact this
  · rw [if_neg ha] at this ⊢
    exact this
theorem same_w (l : List S43) (hl : l.length + Btot l ≤ 6000) : Ev (fun k => threshingref04_Same.f k l l) true := ⟨20000, fun k hk => same_f l (by omega) (by omega) k (by omega)⟩
theorem LratWrites_all (l : List S43) (hl : l.length ≤ 9223372036854775807) : ∃ k, threshinglaw04_LratWrites.f k l = some true := by
  obtain ⟨m, hm, hsm⟩ := size_ev l hl
  have : Ev (fun k => threshinglaw04_LratWrites.f k l) true := by
    unfold threshinglaw04_LratWrites.f
    refine Ev.bind hm ?_
    by_cases h6 : m > 6000
    · simp only [if_pos h6, works_w]
      exact Ev.now _
    · simp only [if_neg h6]
      have hl6 := hsm (by omega)
      refine Ev.bind (lent_ev l (by omega) (by omega)) ?_
      simp only [write_w _ l hl6, Option.bind_some]
      refine Ev.bind (rwrite_ev l hl6) ?_
      simp only [if_true]
      refine Ev.bind (same_w l hl6) ?_
      simp only [if_true, works_w]
      exact Ev.now _
  exact this.rounds
theorem lratWrites_walk {w : World} (A0 : Option Addr) (c0 : Nat) (l0 : List S43) (hr0 : Kd.C k43 w A0 l0.length l0) (hc0 : l0.length ≤ c0) (hg : GoodSteps l0) (w' : World) (hlt : LT w'.heap.size w') (hw : w' = w := by rfl) :
    Calls Tryd.prog 3 #[.slice A0 l0.length c0] w' fun e w'' => e = .returned (.bool true) ∧ Below w'.heap.size w' w'' := by
  subst hw
  obtain ⟨k, h⟩ := LratWrites_all l0 (by have := hg.1; unfold maxLen at this; omega)
  exact threshinglaw04_LratWrites.calls k A0 c0 l0 true _ hr0 hc0 h hlt
end Go.Proofs.YtfjnkbkcoakooaaDoor.PB
