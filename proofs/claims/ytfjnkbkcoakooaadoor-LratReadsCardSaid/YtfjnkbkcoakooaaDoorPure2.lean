import Derived.Test.YtfjnkbkcoakooaaDoorSpecl
import Derived.Test.YtfjnkbkcoakooaaDoorFThreshingref04Same
import Derived.Test.YtfjnkbkcoakooaaDoorFThreshingref04Size
import Derived.Test.YtfjnkbkcoakooaaDoorHLratParse
section
namespace Go.Proofs.YtfjnkbkcoakooaaDoor.PB
open Go.RowKit Go.Proofs.YtfjnkbkcoakooaaDoorW.PrintWords Go.Proofs.YtfjnkbkcoakooaaDoorW.PrintLast Go.Proofs.YtfjnkbkcoakooaaDoorW.PrintMore
set_option linter.unusedVariables false
set_option linter.unusedSimpArgs false
theorem wrap_succ {x : Int} {n : Nat} (h0 : 0 ≤ x) (h : x < (n : Int)) (hn : n ≤ 9223372036854775807) : wrap64 (x + 1) = x + 1 := by
  unfold wrap64
  omega
def Bhint (k h : Int) : Bool := !decide (h = 0) && decide (-4611686018427387903 ≤ h) && decide (h ≤ 4611686018427387903) && (decide (0 < h) || !decide (k = 2))
def Blit (x : Int) : Bool := !decide (x = 0) && decide (-1048576 ≤ x) && decide (x ≤ 1048576)
theorem rd_nat (l : List Int) (i : Nat) (h : i < l.length) : rd l (i : Int) = l[i] := by simp [rd, List.getElem?_eq_getElem h]
/-! ### two proofs that are the same -/
theorem same_l1 (a b c d : Int) (x2 x3 y2 : List Int) (hn : x3.length ≤ 9223372036854775807) (n : Nat) : ∀ (k i : Nat), i + n = x3.length → n < k →
    threshingref04_SameStep.l1 k (i : Int) a b x2 x3 c d y2 x3 = some true := by
  induction n with
  | zero =>
    intro k i hi hk
    obtain ⟨k, rfl⟩ : ∃ m, k = m + 1 := ⟨k - 1, by omega⟩
    simp only [threshingref04_SameStep.l1]
    rw [if_neg (by omega)]
  | succ n ih =>
    intro k i hi hk
    obtain ⟨k, rfl⟩ : ∃ m, k = m + 1 := ⟨k - 1, by omega⟩
    have hw : wrap64 ((i : Int) + 1) = ((i + 1 : Nat) : Int) := by rw [wrap_succ (n := x3.length) (by omega) (by omega) hn]; rfl
    simp only [threshingref04_SameStep.l1]
    rw [if_pos (by omega), if_pos (by omega), if_pos (by omega), if_pos trivial, hw]
    exact ih k (i + 1) (by omega) (by omega)
theorem same_l0 (a b c d : Int) (x2 x3 : List Int) (hn : x2.length ≤ 9223372036854775807) (hn3 : x3.length ≤ 9223372036854775807) (n : Nat) : ∀ (k i : Nat), i + n = x2.length → n + x3.length + 1 < k →
    threshingref04_SameStep.l0 k (i : Int) a b x2 x3 c d x2 x3 = some true := by
  induction n with
  | zero =>
    intro k i hi hk
    obtain ⟨k, rfl⟩ : ∃ m, k = m + 1 := ⟨k - 1, by omega⟩
    simp only [threshingref04_SameStep.l0]
    rw [if_neg (by omega)]
    exact same_l1 a b c d x2 x3 x2 hn3 x3.length k 0 (by omega) (by omega)
  | succ n ih =>
    intro k i hi hk
    obtain ⟨k, rfl⟩ : ∃ m, k = m + 1 := ⟨k - 1, by omega⟩
    have hw : wrap64 ((i : Int) + 1) = ((i + 1 : Nat) : Int) := by rw [wrap_succ (n := x2.length) (by omega) (by omega) hn]; rfl
    simp only [threshingref04_SameStep.l0]
    rw [if_pos (by omega), if_pos (by omega), if_pos (by omega), if_pos trivial, hw]
    exact ih k (i + 1) (by omega) (by omega)
theorem sameStep_f (s : S43) (hn : s.f2.length ≤ 9223372036854775807) (hn3 : s.f3.length ≤ 9223372036854775807) (k : Nat) (hk : s.f2.length + s.f3.length + 3 < k) :
    threshingref04_SameStep.f k s.f0 s.f1 s.f2 s.f3 s.f0 s.f1 s.f2 s.f3 = some true := by
  obtain ⟨k, rfl⟩ : ∃ m, k = m + 1 := ⟨k - 1, by omega⟩
  unfold threshingref04_SameStep.f
  rw [if_pos rfl, if_pos rfl, if_pos rfl]
  have e : ((s.f3.length : Int) != (s.f3.length : Int)) = false := bne_eq_false_iff_eq.mpr rfl
  rw [e]
  simp only [threshingref04_SameStep.j0]
  rw [if_neg (by simp)]
  exact same_l0 s.f0 s.f1 s.f0 s.f1 s.f2 s.f3 hn hn3 s.f2.length k 0 (by omega) (by omega)
theorem Btot_mem (l : List S43) (s : S43) (h : s ∈ l) : s.f2.length + s.f3.length ≤ Btot l := by
  induction l with
  | nil => cases h
  | cons t l ih =>
    rcases List.mem_cons.1 h with rfl | h
    · simp only [Btot]; omega
    · have := ih h; simp only [Btot]; omega
theorem same_f (l : List S43) (hl : l.length ≤ 9223372036854775807) (ht : Btot l ≤ 9223372036854775807) (k : Nat) (hk : l.length + Btot l + 5 < k) : threshingref04_Same.f k l l = some true := by
  unfold threshingref04_Same.f
  rw [if_pos rfl]
  have key : ∀ (n k i : Nat), i + n = l.length → n + Btot l + 4 < k → threshingref04_Same.l0 k l l (i : Int) = some true := by
    intro n
    induction n with
    | zero =>
      intro k i hi hk
      obtain ⟨k, rfl⟩ : ∃ m, k = m + 1 := ⟨k - 1, by omega⟩
      simp only [threshingref04_Same.l0]
      rw [if_neg (by omega)]
    | succ n ih =>
      intro k i hi hk
      obtain ⟨k, rfl⟩ : ∃ m, k = m + 1 := ⟨k - 1, by omega⟩
      have hw : wrap64 ((i : Int) + 1) = ((i + 1 : Nat) : Int) := by rw [wrap_succ (n := l.length) (by omega) (by omega) hl]; rfl
      have hm := Btot_mem l _ (rd43_mem l (i : Int) (by omega) (by omega))
      simp only [threshingref04_Same.l0]
      rw [if_pos (by omega), if_pos (by omega), if_pos (by omega), sameStep_f _ (by omega) (by omega) k (by omega)]
      simp only [Option.bind_some, if_true]
      rw [hw]
      exact ih k (i + 1) (by omega) (by omega)
  exact key l.length k 0 (by omega) (by omega)


theorem Ev_succ {α : Type} {g : Nat → Option α} {r : α} (h : Ev (fun k => g (k + 1)) r) : Ev g r := Ev.step (fun _ => rfl) h
theorem wrap_cast {n : Nat} (h : n ≤ 9223372036854775806) : wrap64 ((n : Int) + 1) = ((n + 1 : Nat) : Int) := by unfold wrap64; omega

theorem wrap_id {x : Int} (h0 : -9223372036854775808 ≤ x) (h1 : x ≤ 9223372036854775807) : wrap64 x = x := by unfold wrap64; omega
theorem mn_nat (a b : Nat) : mn (a : Int) (b : Int) = ((min a b : Nat) : Int) := by unfold mn; split <;> omega

theorem sum_three (n a b : Nat) (hn : n ≤ 100000000) (ha : a ≤ 100000000) (hb : b ≤ 100000000) : wrap64 ((wrap64 ((wrap64 ((n : Int) + 1)) + (a : Int))) + (b : Int)) = ((n + 1 + a + b : Nat) : Int) := by
  have e1 : wrap64 ((n : Int) + 1) = (n : Int) + 1 := wrap_id (by omega) (by omega)
  rw [e1]
  have e2 : wrap64 ((n : Int) + 1 + (a : Int)) = (n : Int) + 1 + (a : Int) := wrap_id (by omega) (by omega)
  rw [e2]
  have e3 : wrap64 ((n : Int) + 1 + (a : Int) + (b : Int)) = (n : Int) + 1 + (a : Int) + (b : Int) := wrap_id (by omega) (by omega)
  rw [e3]
  omega

/-! ### Size -/
theorem size_l0 (l : List S43) (hl : l.length ≤ 9223372036854775807) (d : Nat) : ∀ (i n : Nat), i + d = l.length → n = i + Btot (l.take i) → n ≤ 6000 →
    ∃ m : Int, Ev (fun k => threshingref04_Size.l0 k l 6000 (n : Int) (i : Int)) m ∧ (m ≤ 6000 → l.length + Btot l ≤ 6000) := by
  induction d with
  | zero =>
    intro i n hi hn h6
    refine ⟨n, Ev_succ ?_, fun _ => ?_⟩
    · simp only [threshingref04_Size.l0, if_neg (show ¬ ((i : Int) < (l.length : Int)) by omega)]
      exact Ev.now _
    · rw [List.take_of_length_le (by omega)] at hn; omega
  | succ d ih =>
    intro i n hi hn h6
    have hlt : (i : Int) < (l.length : Int) := by omega
    have htk := rd43_nat l (i : Int) (by omega) hlt
    have e1 : ((i : Int) + 1).toNat = i + 1 := by omega
    rw [e1, Int.toNat_natCast] at htk
    obtain ⟨s, hs⟩ : ∃ s, s = rd_T43 l (i : Int) := ⟨_, rfl⟩
    rw [← hs] at htk
    have hbt : Btot (l.take (i + 1)) = Btot (l.take i) + (s.f2.length + s.f3.length) := by rw [htk, Btot_append]; simp only [Btot]; omega
    obtain ⟨a2, ha2⟩ : ∃ a, a = min s.f2.length 6000 := ⟨_, rfl⟩
    obtain ⟨a3, ha3⟩ : ∃ a, a = min s.f3.length 6000 := ⟨_, rfl⟩
    have h2a : a2 ≤ s.f2.length ∧ a2 ≤ 6000 ∧ (a2 < 6000 → a2 = s.f2.length) := by omega
    have h3a : a3 ≤ s.f3.length ∧ a3 ≤ 6000 ∧ (a3 < 6000 → a3 = s.f3.length) := by omega
    have key : ∃ m : Int, Ev (fun k => threshingref04_Size.l0 k l 6000 ((n + 1 + a2 + a3 : Nat) : Int) ((i + 1 : Nat) : Int)) m ∧ (m ≤ 6000 → l.length + Btot l ≤ 6000) := by
      by_cases hb : n + 1 + a2 + a3 ≤ 6000
      · exact ih (i + 1) (n + 1 + a2 + a3) (by omega) (by rw [hbt]; omega) hb
      · refine ⟨((n + 1 + a2 + a3 : Nat) : Int), Ev_succ ?_, fun h => by omega⟩
        by_cases hend : ((i + 1 : Nat) : Int) < (l.length : Int)
        · simp only [threshingref04_Size.l0, if_pos hend, if_neg (show ¬ (((n + 1 + a2 + a3 : Nat) : Int) ≤ 6000) by omega)]
          exact Ev.now _
        · simp only [threshingref04_Size.l0, if_neg hend]
          exact Ev.now _
    have z1 : (n : Int) ≤ 6000 := by omega
    have z2 : 0 ≤ (i : Int) := by omega
    have q1 : n ≤ 100000000 := by omega
    have q2 : a2 ≤ 100000000 := by omega
    have q3 : a3 ≤ 100000000 := by omega
    have q4 : i ≤ 9223372036854775806 := by omega
    clear ha2 ha3
    have em2 : mn (s.f2.length : Int) 6000 = (a2 : Int) := by
      clear key ih htk hbt hs hn
      unfold mn
      by_cases h : (6000 : Int) < s.f2.length
      · rw [if_pos h]; omega
      · rw [if_neg h]; omega
    have em3 : mn (s.f3.length : Int) 6000 = (a3 : Int) := by
      clear key ih htk hbt hs hn em2
      unfold mn
      by_cases h : (6000 : Int) < s.f3.length
      · rw [if_pos h]; omega
      · rw [if_neg h]; omega
    have z3 := wrap_cast q4
    have ew := sum_three n a2 a3 q1 q2 q3
    obtain ⟨m, h1, h2⟩ := key
    refine ⟨m, Ev_succ ?_, h2⟩
    simp only [threshingref04_Size.l0, if_pos hlt, if_pos z1, if_pos z2, ← hs, em2, em3, ew, z3]
    exact h1
theorem size_ev (l : List S43) (hl : l.length ≤ 9223372036854775807) : ∃ m : Int, Ev (fun k => threshingref04_Size.f k l 6000) m ∧ (m ≤ 6000 → l.length + Btot l ≤ 6000) :=
  size_l0 l hl l.length 0 0 (by omega) (by simp [Btot]) (by omega)

theorem same_ev (l : List S43) (hl : l.length ≤ 6000) (ht : Btot l ≤ 6000) : Ev (fun k => threshingref04_Same.f k l l) true := ⟨20000, fun k hk => same_f l (by omega) (by omega) k (by omega)⟩
end Go.Proofs.YtfjnkbkcoakooaaDoor.PB
end

section
namespace Go.Proofs.YtfjnkbkcoakooaaDoor.PB
open Go.RowKit Go.Proofs.YtfjnkbkcoakooaaDoorW.PrintWords Go.Proofs.YtfjnkbkcoakooaaDoorW.PrintLast Go.Proofs.YtfjnkbkcoakooaaDoorW.PrintMore
set_option linter.unusedVariables false
set_option linter.unusedSimpArgs false
/-! ### A text as its lines -/
def ofL (l : List UInt8) : ByteArray := ⟨l.toArray⟩
theorem ofL_data (l : List UInt8) : (ofL l).data.toList = l := rfl
theorem ofL_of (s : ByteArray) : ofL s.data.toList = s := rfl
theorem ofL_size (l : List UInt8) : (ofL l).size = l.length := rfl
theorem ofL_inj {a b : List UInt8} (h : ofL a = ofL b) : a = b := congrArg (fun s : ByteArray => s.data.toList) h
def joined (R : List (List UInt8)) : List UInt8 := R.flatMap fun r => r ++ [10]
theorem joined_append (R T : List (List UInt8)) : joined (R ++ T) = joined R ++ joined T := by simp [joined]
theorem joined_cons (r : List UInt8) (R : List (List UInt8)) : joined (r :: R) = r ++ 10 :: joined R := by simp [joined]
theorem occ_one (s : List UInt8) (c : UInt8) (i : Nat) : Lib.occAt s [c] i = decide (s[i]? = some c) := by
  unfold Lib.occAt
  cases h : s.drop i with
  | nil =>
    have : s[i]? = none := by rw [List.getElem?_eq_none_iff]; exact List.drop_eq_nil_iff.1 h
    rw [this]; rfl
  | cons x t =>
    have : s[i]? = some x := by
      have := List.getElem?_drop (xs := s) (i := i) (j := 0)
      rw [h] at this
      simpa using this.symm
    rw [this]
    simp only [List.isPrefixOf, Option.some.injEq, Bool.and_true]
    by_cases e : c = x
    · subst e; simp
    · rw [decide_eq_false (fun h => e h.symm)]; exact beq_eq_false_iff_ne.2 e
theorem index_at (a b : List UInt8) (c : UInt8) (ha : c ∉ a) : Lib.index (a ++ c :: b) [c] = (a.length : Int) := by
  refine Lib.index_first (by simp) ?_ ?_
  · rw [occ_one]; simp
  · intro j hj
    rw [occ_one, List.getElem?_append_left hj]
    refine decide_eq_false fun h => ha (List.mem_of_getElem? h)
theorem index_no (a : List UInt8) (c : UInt8) (ha : c ∉ a) : Lib.index a [c] = -1 := by
  refine Lib.index_none fun j hj => ?_
  rw [occ_one]
  exact decide_eq_false fun h => ha (List.mem_of_getElem? h)
theorem Lcut_at (a b : List UInt8) (ha : 10 ∉ a) : Lcut (ofL (a ++ 10 :: b)) = (ofL a, ofL b, true) := by
  unfold Lcut Lib.cut
  rw [ofL_data, index_at a b 10 ha, if_pos (by omega)]
  simp [ofL]
theorem Lcut_no (a : List UInt8) (ha : 10 ∉ a) : Lcut (ofL a) = (ofL a, ofL [], false) := by
  unfold Lcut Lib.cut
  rw [ofL_data, index_no a 10 ha, if_neg (by omega)]
  rfl
def rowsOf (R : List (List UInt8)) (v : List UInt8) : List (ByteArray × Bool) := (R.map fun r => (ofL r, true)) ++ if v = [] then [] else [(ofL v, false)]
theorem Lrows_join (v : List UInt8) (hv : 10 ∉ v) : ∀ (R : List (List UInt8)), (∀ r ∈ R, 10 ∉ r) → ∀ k, (joined R ++ v).length ≤ k → Lrows k (ofL (joined R ++ v)) = rowsOf R v := by
  intro R
  induction R with
  | nil =>
    intro _ k hk
    have e : joined [] ++ v = v := rfl
    rw [e] at hk ⊢
    by_cases h : v = []
    · subst h
      cases k with
      | zero => rfl
      | succ k => rw [Lrows, if_pos (show (ofL []).size = 0 from rfl)]; rfl
    · cases k with
      | zero => exact absurd (List.length_eq_zero_iff.1 (Nat.le_zero.1 hk)) h
      | succ k =>
        rw [Lrows, if_neg (by rw [ofL_size]; exact fun e => h (List.length_eq_zero_iff.1 e)), Lcut_no v hv]
        have : Lrows k (ofL []) = [] := by cases k with | zero => rfl | succ m => rw [Lrows, if_pos (show (ofL []).size = 0 from rfl)]
        rw [this]
        simp [rowsOf, h]
  | cons r R ih =>
    intro hR k hk
    have e : joined (r :: R) ++ v = r ++ 10 :: (joined R ++ v) := by rw [joined_cons]; simp
    rw [e] at hk ⊢
    cases k with
    | zero => simp at hk
    | succ k =>
      rw [Lrows, if_neg (by rw [ofL_size]; simp), Lcut_at r _ (hR r List.mem_cons_self)]
      rw [ih (fun x hx => hR x (List.mem_cons_of_mem _ hx)) k (by simp only [List.length_append, List.length_cons] at hk ⊢; omega)]
      simp [rowsOf]
theorem split_nl : ∀ (t : List UInt8), ∃ R v, t = joined R ++ v ∧ (∀ r ∈ R, 10 ∉ r) ∧ 10 ∉ v := by
  intro t
  induction t with
  | nil => exact ⟨[], [], rfl, by simp, by simp⟩
  | cons c t ih =>
    obtain ⟨R, v, e, hR, hv⟩ := ih
    by_cases hc : c = 10
    · refine ⟨[] :: R, v, ?_, ?_, hv⟩
      · rw [joined_cons, e, hc]; rfl
      · intro r hr
        rcases List.mem_cons.1 hr with rfl | hr
        · simp
        · exact hR r hr
    · cases R with
      | nil => exact ⟨[], c :: v, by rw [e]; rfl, by simp, by simp only [List.mem_cons, not_or]; exact ⟨fun h => hc h.symm, hv⟩⟩
      | cons r R =>
        refine ⟨(c :: r) :: R, v, ?_, ?_, hv⟩
        · rw [e, joined_cons, joined_cons]; rfl
        · intro x hx
          rcases List.mem_cons.1 hx with rfl | hx
          · simp only [List.mem_cons, not_or]; exact ⟨fun h => hc h.symm, hR r List.mem_cons_self⟩
          · exact hR x (List.mem_cons_of_mem _ hx)
theorem rowsOf_inj {R T : List (List UInt8)} {v u : List UInt8} (h : rowsOf R v = rowsOf T u) : R = T ∧ v = u := by
  have h1 := congrArg (fun l : List (ByteArray × Bool) => (l.filter (·.2)).map fun x => x.1.data.toList) h
  have h2 := congrArg (fun l : List (ByteArray × Bool) => (l.filter (!·.2)).map fun x => x.1.data.toList) h
  have e1 : ∀ (R : List (List UInt8)) (v : List UInt8), ((rowsOf R v).filter (·.2)).map (fun x => x.1.data.toList) = R := by
    intro R v
    unfold rowsOf
    rw [List.filter_append, List.filter_map]
    have : List.filter ((·.2) ∘ fun r : List UInt8 => (ofL r, true)) R = R := by rw [List.filter_eq_self]; intro a _; rfl
    rw [this]
    have : List.filter (·.2) (if v = [] then [] else [(ofL v, false)]) = [] := by split <;> rfl
    rw [this]
    simp [Function.comp_def, ofL]
  have e2 : ∀ (R : List (List UInt8)) (v : List UInt8), ((rowsOf R v).filter (!·.2)).map (fun x => x.1.data.toList) = if v = [] then [] else [v] := by
    intro R v
    unfold rowsOf
    rw [List.filter_append, List.filter_map]
    have : List.filter ((!·.2) ∘ fun r : List UInt8 => (ofL r, true)) R = [] := by rw [List.filter_eq_nil_iff]; intro a _; simp
    rw [this]
    split <;> simp [ofL]
  refine ⟨by rw [e1, e1] at h1; exact h1, ?_⟩
  rw [e2, e2] at h2
  split at h2 <;> split at h2
  · rename_i a b; rw [a, b]
  · cases h2
  · cases h2
  · exact List.cons.inj h2 |>.1
theorem joined_inj {R T : List (List UInt8)} {v u : List UInt8} (hR : ∀ r ∈ R, 10 ∉ r) (hT : ∀ r ∈ T, 10 ∉ r) (hv : 10 ∉ v) (hu : 10 ∉ u) (h : joined R ++ v = joined T ++ u) : R = T ∧ v = u := by
  have h1 := Lrows_join v hv R hR _ (Nat.le_refl _)
  have h2 := Lrows_join u hu T hT (joined R ++ v).length (by rw [h]; exact Nat.le_refl _)
  rw [← h] at h2
  exact rowsOf_inj (h1.symm.trans h2)
/-! ### What is read of lines -/
theorem Lparse_join (R : List (List UInt8)) (v : List UInt8) (hR : ∀ r ∈ R, 10 ∉ r) (hv : 10 ∉ v) : Lparse (ofL (joined R ++ v)) = Lp (rowsOf R v) [] := by
  unfold Lparse
  rw [ofL_size, Lrows_join v hv R hR _ (Nat.le_refl _)]
/-- What lines give: out ahead. -/
theorem Lp_shift (o : List S43) : ∀ (rows : List (ByteArray × Bool)) (out : List S43), Lp rows (o ++ out) = if (Lp rows out).2.1 = 0 then (o ++ (Lp rows out).1, 0, 0) else ([], 40, (o.length : Int) + (Lp rows out).2.2) := by
  intro rows
  induction rows with
  | nil => intro out; simp [Lp]
  | cons x r ih =>
    intro out
    rw [Lp, Lp]
    split
    · rw [List.append_assoc, ih]
    · simp only [show ¬ ((40 : Int) = 0) by omega, if_false, List.length_append]
      congr 2
theorem Lp_kinds : ∀ (rows : List (ByteArray × Bool)) (out : List S43), ((∀ x ∈ rows, x.2 = true ∧ (Lparse1 x.1).2 = true) ∧ Lp rows out = (out ++ Lsteps rows, 0, 0)) ∨ ((∃ x ∈ rows, ¬ (x.2 = true ∧ (Lparse1 x.1).2 = true)) ∧ ∃ p : Nat, Lp rows out = ([], 40, ((out.length + p + 1 : Nat) : Int)) ∧ p < rows.length) := by
  intro rows
  induction rows with
  | nil => intro out; exact .inl ⟨by simp, by simp [Lp, Lsteps]⟩
  | cons x r ih =>
    intro out
    rw [Lp]
    split
    · rename_i hx
      rcases ih (out ++ [(Lparse1 x.1).1]) with ⟨h1, h2⟩ | ⟨⟨y, hy, hb⟩, p, h2, hp⟩
      · refine .inl ⟨fun y hy => ?_, ?_⟩
        · rcases List.mem_cons.1 hy with rfl | hy
          · exact hx
          · exact h1 y hy
        · rw [h2]; simp [Lsteps]
      · refine .inr ⟨⟨y, List.mem_cons_of_mem _ hy, hb⟩, p + 1, ?_, by simp; omega⟩
        rw [h2]
        simp only [List.length_append, List.length_cons, List.length_nil]
        congr 3
        omega
    · rename_i hx
      exact .inr ⟨⟨x, List.mem_cons_self, hx⟩, 0, by simp, by simp⟩
theorem Lp_fail (r2 : List (ByteArray × Bool)) : ∀ (r1 : List (ByteArray × Bool)) (out : List S43), (Lp r1 out).2.1 ≠ 0 → Lp (r1 ++ r2) out = Lp r1 out := by
  intro r1
  induction r1 with
  | nil => intro out h; exact absurd rfl h
  | cons x r ih =>
    intro out h
    rw [List.cons_append, Lp, Lp] at *
    split
    · rename_i hx
      rw [if_pos hx] at h
      exact ih _ h
    · rfl
def okRow (r : List UInt8) : Prop := (Lparse1 (ofL r)).2 = true
def stepOf (r : List UInt8) : S43 := (Lparse1 (ofL r)).1
theorem Lsteps_rows (R : List (List UInt8)) : Lsteps (rowsOf R []) = R.map stepOf := by
  simp [rowsOf, Lsteps, stepOf, Function.comp_def]
/-- A text is right when it is lines that are. -/
theorem Lparse_right (R : List (List UInt8)) (hR : ∀ r ∈ R, 10 ∉ r) (hok : ∀ r ∈ R, okRow r) : Lparse (ofL (joined R)) = (R.map stepOf, 0, 0) := by
  have h := Lparse_join R [] hR (by simp)
  rw [List.append_nil] at h
  rw [h]
  have := Lp_all (rowsOf R []) (fun x hx => by
    simp only [rowsOf, if_true, List.append_nil, List.mem_map] at hx
    obtain ⟨r, hr, rfl⟩ := hx
    exact ⟨rfl, hok r hr⟩) [] []
  rw [List.append_nil] at this
  rw [this, List.nil_append, Lsteps_rows]
  rfl
theorem Lparse_zero (s : ByteArray) (h : (Lparse s).2.1 = 0) : ∃ R, s = ofL (joined R) ∧ (∀ r ∈ R, 10 ∉ r) ∧ (∀ r ∈ R, okRow r) ∧ Lparse s = (R.map stepOf, 0, 0) := by
  obtain ⟨R, v, e, hR, hv⟩ := split_nl s.data.toList
  have es : s = ofL (joined R ++ v) := by rw [← e]; rfl
  rw [es, Lparse_join R v hR hv] at h
  rcases Lp_kinds (rowsOf R v) [] with ⟨h1, _⟩ | ⟨_, p, h2, _⟩
  · have hv0 : v = [] := by
      by_cases hv0 : v = []
      · exact hv0
      · have := (h1 (ofL v, false) (by simp [rowsOf, hv0])).1
        cases this
    subst hv0
    rw [List.append_nil] at es
    have hok : ∀ r ∈ R, okRow r := fun r hr => (h1 (ofL r, true) (by simp [rowsOf]; exact ⟨r, hr, rfl⟩)).2
    exact ⟨R, es, hR, hok, by rw [es]; exact Lparse_right R hR hok⟩
  · rw [h2] at h
    cases h
theorem Lparse_kinds (s : ByteArray) : (∃ m, Lparse s = (m, 0, 0)) ∨ ∃ p : Nat, Lparse s = ([], 40, ((p + 1 : Nat) : Int)) := by
  unfold Lparse
  rcases Lp_kinds (Lrows s.size s) [] with ⟨_, h2⟩ | ⟨_, p, h2, _⟩
  · exact .inl ⟨_, h2⟩
  · refine .inr ⟨p, ?_⟩
    rw [h2]
    simp
end Go.Proofs.YtfjnkbkcoakooaaDoor.PB
end
