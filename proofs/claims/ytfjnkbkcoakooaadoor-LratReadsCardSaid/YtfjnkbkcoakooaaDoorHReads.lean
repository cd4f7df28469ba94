import Derived.Test.YtfjnkbkcoakooaaDoorPure3
import Derived.Test.YtfjnkbkcoakooaaDoorFThreshingref04Parse
import Derived.Test.YtfjnkbkcoakooaaDoorPureMay
import Derived.Test.YtfjnkbkcoakooaaDoorHLib
import Derived.Test.YtfjnkbkcoakooaaDoorPure2
import Derived.Test.YtfjnkbkcoakooaaDoorFThreshinglaw04Works
section
namespace Go.Proofs.YtfjnkbkcoakooaaDoor.PB
open Go.RowKit Go.Proofs.YtfjnkbkcoakooaaDoorW.PrintWords Go.Proofs.YtfjnkbkcoakooaaDoorW.PrintLast Go.Proofs.YtfjnkbkcoakooaaDoorW.PrintMore
set_option linter.unusedVariables false
set_option linter.unusedSimpArgs false
/-! ### The reference's numbers -/
def dv (a : Nat) (D : List UInt8) : Nat := D.foldl (fun a c => a * 10 + (c.toNat - 48)) a
def Dig (D : List UInt8) : Prop := ∀ b ∈ D, 48 ≤ b.toNat ∧ b.toNat ≤ 57
theorem dv_snoc (a : Nat) (D : List UInt8) (c : UInt8) : dv a (D ++ [c]) = dv a D * 10 + (c.toNat - 48) := by simp [dv]
theorem dv_ge : ∀ (D : List UInt8) (a : Nat), a ≤ dv a D := by
  intro D
  induction D with
  | nil => intro a; exact Nat.le_refl _
  | cons c D ih => intro a; exact Nat.le_trans (by omega) (ih (a * 10 + (c.toNat - 48)))
theorem dv_lt (D : List UInt8) (h : Dig D) : ∀ a, dv a D < (a + 1) * 10 ^ D.length := by
  induction D with
  | nil => intro a; simp [dv]
  | cons c D ih =>
    intro a
    have hc := h c List.mem_cons_self
    have := ih (fun b hb => h b (List.mem_cons_of_mem _ hb)) (a * 10 + (c.toNat - 48))
    refine Nat.lt_of_lt_of_le this ?_
    rw [List.length_cons, Nat.pow_succ, Nat.mul_comm (10 ^ D.length) 10, ← Nat.mul_assoc]
    exact Nat.mul_le_mul_right _ (by omega)
theorem byte_back (c : UInt8) (h : 48 ≤ c.toNat ∧ c.toNat ≤ 57) : UInt8.ofNat (48 + (c.toNat - 48)) = c := by
  apply UInt8.toNat_inj.1
  rw [dec_byte _ (by omega)]
  omega
theorem dec_of_dig : ∀ (n : Nat) (D : List UInt8), D.length = n → Dig D → D ≠ [] → (D.length = 1 ∨ D.head? ≠ some 48) → Lib.decDigits (dv 0 D) = D := by
  intro n
  induction n with
  | zero => intro D hn _ hne; exact absurd (List.length_eq_zero_iff.1 hn) hne
  | succ n ih =>
    intro D hn hD hne hh
    obtain ⟨E, c, rfl⟩ : ∃ E c, D = E ++ [c] := ⟨D.dropLast, D.getLast hne, (List.dropLast_concat_getLast hne).symm⟩
    have hc := hD c (by simp)
    rw [dv_snoc]
    cases E with
    | nil =>
      have e0 : dv 0 [] = 0 := rfl
      rw [e0, Nat.zero_mul, Nat.zero_add, Lib.decDigits_one (by omega), byte_back c hc]
      rfl
    | cons x E =>
      have hx := hD x (by simp)
      have hx48 : x ≠ 48 := by
        rcases hh with hh | hh
        · simp at hh
        · intro e; exact hh (by rw [e]; rfl)
      have hx1 : 1 ≤ x.toNat - 48 := by
        have : x.toNat ≠ 48 := fun e => hx48 (UInt8.toNat_inj.1 e)
        omega
      have hv : 1 ≤ dv 0 (x :: E) := Nat.le_trans (by omega) (dv_ge E (0 * 10 + (x.toNat - 48)))
      rw [Lib.decDigits, dif_neg (by omega), show (dv 0 (x :: E) * 10 + (c.toNat - 48)) / 10 = dv 0 (x :: E) by omega, show (dv 0 (x :: E) * 10 + (c.toNat - 48)) % 10 = c.toNat - 48 by omega, byte_back c hc]
      rw [ih (x :: E) (by simp at hn ⊢; omega) (fun b hb => hD b (by rcases List.mem_cons.1 hb with h | h <;> simp [h])) (by simp) (.inr (by intro e; exact hx48 (by simpa using e)))]
theorem dec_shape (u : Nat) : ((Lib.decDigits u).length = 1 ∧ u < 10 ∨ (Lib.decDigits u).head? ≠ some 48 ∧ 10 ≤ u) ∧ dv 0 (Lib.decDigits u) = u := by
  induction u using Nat.strongRecOn with
  | _ u ih =>
    by_cases h : u < 10
    · rw [Lib.decDigits_one h]
      refine ⟨.inl ⟨rfl, h⟩, ?_⟩
      show 0 * 10 + ((UInt8.ofNat (48 + u)).toNat - 48) = u
      rw [dec_byte u h]
      omega
    · obtain ⟨h1, h2⟩ := ih (u / 10) (by omega)
      rw [Lib.decDigits, dif_neg h, dv_snoc, h2, dec_byte (u % 10) (by omega)]
      refine ⟨.inr ⟨?_, by omega⟩, by omega⟩
      have hne := dec_ne (u / 10)
      cases hd : Lib.decDigits (u / 10) with
      | nil => exact absurd hd hne
      | cons x r =>
        show some x ≠ some 48
        rcases h1 with ⟨h1, h3⟩ | ⟨h1, _⟩
        · rw [Lib.decDigits_one h3] at hd
          have ex : UInt8.ofNat (48 + u / 10) = x := (List.cons.inj hd).1
          intro e
          have e := Option.some.inj e
          rw [← ex] at e
          have := congrArg UInt8.toNat e
          rw [dec_byte _ (by omega)] at this
          have : 48 + u / 10 = 48 := this
          omega
        · rw [hd] at h1
          exact h1
theorem dec_len (u : Nat) (h : u ≤ 4611686018427387903) : (Lib.decDigits u).length ≤ 19 := by
  have hd := dec_digits u
  rcases Nat.lt_or_ge 19 (Lib.decDigits u).length with hl | hl
  · exfalso
    have hv := (dec_shape u).2
    have h10 : 10 ^ 19 ≤ u := by
      have hn := Lib.decDigits_length u
      rcases Nat.lt_or_ge u (10 ^ 19) with hlt | hge
      · exfalso
        have : ∀ (k u : Nat), u < 10 ^ (k + 1) → Lib.nDigits u ≤ k + 1 := by
          intro k
          induction k with
          | zero => intro u hu; rw [Lib.nDigits_small (by omega)]; exact Nat.le_refl _
          | succ k ih =>
            intro u hu
            by_cases h : u < 10
            · rw [Lib.nDigits_small h]; omega
            · rw [Lib.nDigits_big h]
              have := ih (u / 10) (by rw [Nat.pow_succ] at hu; omega)
              omega
        have := this 18 u hlt
        omega
      · exact hge
    omega
  · exact hl
def Small (v : Int) : Prop := -4611686018427387903 ≤ v ∧ v ≤ 4611686018427387903
/-- What the loop over digits gives. -/
def Rdig (D : List UInt8) (neg : Bool) : Int × Bool := if (D.all fun b => decide (48 ≤ b.toNat ∧ b.toNat ≤ 57)) = true ∧ dv 0 D ≤ 4611686018427387903 then (if neg = true then -(dv 0 D : Int) else (dv 0 D : Int), true) else (0, false)
theorem Rdig_ok (D : List UInt8) (neg : Bool) (h1 : (D.all fun b => decide (48 ≤ b.toNat ∧ b.toNat ≤ 57)) = true) (h2 : dv 0 D ≤ 4611686018427387903) : Rdig D neg = (if neg = true then -(dv 0 D : Int) else (dv 0 D : Int), true) := if_pos ⟨h1, h2⟩
theorem rnum_l0 (D : List UInt8) (hl : D.length ≤ 19) (neg : Bool) (d : Nat) : ∀ (i : Nat), i + d = D.length → Dig (D.take i) →
    Ev (fun k => threshingref04_number.l0 k (ofL D) neg (dv 0 (D.take i) : Nat) (i : Int)) (Rdig D neg) := by
  induction d with
  | zero =>
    intro i hi hdig
    refine Ev_succ ?_
    have ht : D.take i = D := List.take_of_length_le (by omega)
    rw [ht] at hdig ⊢
    simp only [threshingref04_number.l0, if_neg (show ¬ ((i : Int) < ((ofL D).size : Int)) by rw [ofL_size]; omega)]
    have hall : (D.all fun b => decide (48 ≤ b.toNat ∧ b.toNat ≤ 57)) = true := List.all_eq_true.2 fun b hb => decide_eq_true (hdig b hb)
    by_cases hb : dv 0 D ≤ 4611686018427387903
    · simp only [if_neg (show ¬ (((dv 0 D : Nat) : Int) > 4611686018427387903) by omega)]
      rw [Rdig_ok D neg hall hb]
      have w1 : wrap64 ((dv 0 D : Nat) : Int) = ((dv 0 D : Nat) : Int) := wrap_id (by omega) (by omega)
      have w2 : wrap64 (-((dv 0 D : Nat) : Int)) = -((dv 0 D : Nat) : Int) := wrap_id (by omega) (by omega)
      cases neg with
      | true => simp only [if_true, w1, w2]; exact Ev.now _
      | false => simp only [Bool.false_eq_true, if_false, w1]; exact Ev.now _
    · simp only [if_pos (show (((dv 0 D : Nat) : Int) > 4611686018427387903) by omega)]
      unfold Rdig
      rw [if_neg (fun h => hb h.2)]
      exact Ev.now _
  | succ d ih =>
    intro i hi hdig
    have hlt : i < D.length := by omega
    have htk : D.take (i + 1) = D.take i ++ [D[i]] := List.take_succ_eq_append_getElem hlt
    have hbt : bt (ofL D) (i : Int) = ((D[i]).toNat : Int) := by
      unfold bt
      rw [dif_pos (by rw [Int.toNat_natCast]; exact hlt)]
      rfl
    have hval := dv_lt (D.take i) hdig 0
    have hpow : 10 ^ (D.take i).length ≤ 10 ^ 18 := Nat.pow_le_pow_right (by omega) (by rw [List.length_take]; omega)
    refine Ev_succ ?_
    simp only [threshingref04_number.l0, if_pos (show ((i : Int) < ((ofL D).size : Int)) by rw [ofL_size]; omega), if_pos (show 0 ≤ (i : Int) by omega), hbt, wrap_cast (show i ≤ 9223372036854775806 by omega)]
    by_cases h1 : ((D[i]).toNat : Int) < 48
    · simp only [if_pos h1]
      unfold Rdig
      rw [if_neg (fun h => by have := of_decide_eq_true (List.all_eq_true.1 h.1 _ (List.getElem_mem hlt)); omega)]
      exact Ev.now _
    simp only [if_neg h1]
    by_cases h2 : ((D[i]).toNat : Int) > 57
    · simp only [if_pos h2]
      unfold Rdig
      rw [if_neg (fun h => by have := of_decide_eq_true (List.all_eq_true.1 h.1 _ (List.getElem_mem hlt)); omega)]
      exact Ev.now _
    simp only [if_neg h2]
    have hih := ih (i + 1) (by omega) (by
      rw [htk]
      intro b hb
      rcases List.mem_append.1 hb with hb | hb
      · exact hdig b hb
      · rw [List.mem_singleton.1 hb]; omega)
    rw [htk, dv_snoc] at hih
    have e : IntKind.u64.wrap ((IntKind.u64.wrap (((dv 0 (D.take i) : Nat) : Int) * 10)) + ((((D[i]).toNat : Int) - 48) % 256)) = ((dv 0 (D.take i) * 10 + ((D[i]).toNat - 48) : Nat) : Int) := by
      have u : ∀ n : Int, IntKind.u64.wrap n = n % 18446744073709551616 := fun n => by simp [IntKind.wrap, IntKind.bits, IntKind.signed]
      rw [u, u]
      have hv : dv 0 (D.take i) < 1000000000000000000 := by
        have : (10 : Nat) ^ 18 = 1000000000000000000 := by decide
        omega
      omega
    rw [e]
    exact hih
def Rbad (D : List UInt8) (neg : Bool) : Bool := decide (D = []) || decide (19 < D.length) || (decide (D.head? = some 48) && (decide (1 < D.length) || neg))
def Rnum (x : List UInt8) : Int × Bool :=
  if x.head? = some 45 then (if Rbad x.tail true = true then (0, false) else Rdig x.tail true)
  else (if Rbad x false = true then (0, false) else Rdig x false)
theorem rnum_j1 (D : List UInt8) (hl : D.length ≤ 1000000) (neg : Bool) : Ev (fun k => threshingref04_number.j1 k (ofL D) neg) (if Rbad D neg = true then (0, false) else Rdig D neg) := by
  have h2 : ∀ b : Bool, D.length ≤ 19 ∨ b = true → Ev (fun k => threshingref04_number.j2 k (ofL D) neg b) (if b = true then (0, false) else Rdig D neg) := by
    intro b hb
    refine Ev_succ ?_
    cases b with
    | true => simp only [threshingref04_number.j2, if_true]; exact Ev.now _
    | false =>
      simp only [threshingref04_number.j2, Bool.false_eq_true, if_false]
      have := rnum_l0 D (by rcases hb with h | h; exact h; cases h) neg D.length 0 (by omega) (by intro b hb; simp at hb)
      exact this
  have hnil : (ofL D).toList = ([] : List UInt8) ↔ D = [] := by rw [Lib.toList_data]; exact Iff.rfl
  refine Ev_succ ?_
  simp only [threshingref04_number.j1]
  by_cases e0 : D = []
  · simp only [if_pos (hnil.2 e0)]
    have : Rbad D neg = true := by unfold Rbad; simp [e0]
    rw [if_pos this]
    have := h2 true (.inr rfl)
    simpa using this
  simp only [if_neg (fun h => e0 (hnil.1 h))]
  by_cases e1 : ((ofL D).size : Int) > 19
  · simp only [if_pos e1]
    have : Rbad D neg = true := by unfold Rbad; rw [ofL_size] at e1; simp [show 19 < D.length by omega]
    rw [if_pos this]
    have := h2 true (.inr rfl)
    simpa using this
  simp only [if_neg e1]
  rw [ofL_size] at e1
  have hpos : 0 < D.length := List.length_pos_iff.2 e0
  simp only [if_pos (show (0 : Int) < ((ofL D).size : Int) by rw [ofL_size]; omega)]
  have hb0 : bt (ofL D) 0 = 48 ↔ D.head? = some 48 := by
    cases D with
    | nil => exact absurd rfl e0
    | cons x r =>
      have : bt (ofL (x :: r)) 0 = ((x.toNat : Nat) : Int) := by
        unfold bt
        rw [dif_pos (by exact hpos)]
        rfl
      rw [this]
      simp only [List.head?_cons, Option.some.injEq]
      constructor
      · intro h
        apply UInt8.toNat_inj.1
        show x.toNat = 48
        omega
      · rintro rfl
        rfl
  by_cases e2 : bt (ofL D) 0 = 48
  · simp only [if_pos e2]
    have hh := hb0.1 e2
    by_cases e3 : ((ofL D).size : Int) > 1
    · simp only [if_pos e3]
      rw [ofL_size] at e3
      have : Rbad D neg = true := by unfold Rbad; simp [hh, show 1 < D.length by omega]
      rw [if_pos this]
      have := h2 true (.inr rfl)
      simpa using this
    · simp only [if_neg e3]
      rw [ofL_size] at e3
      have : Rbad D neg = neg := by unfold Rbad; simp [hh, e0, show ¬ 1 < D.length by omega, show ¬ 19 < D.length by omega]
      rw [this]
      exact h2 neg (.inl (by omega))
  · simp only [if_neg e2]
    have : Rbad D neg = false := by
      unfold Rbad
      rw [decide_eq_false e0, decide_eq_false (show ¬ 19 < D.length by omega), decide_eq_false (fun h => e2 (hb0.2 h))]
      rfl
    rw [this]
    exact h2 false (.inl (by omega))
theorem rnum_ev (x : List UInt8) (hl : x.length ≤ 1000000) : Ev (fun k => threshingref04_number.f k (ofL x)) (Rnum x) := by
  unfold threshingref04_number.f
  cases x with
  | nil =>
    simp only [if_neg (show ¬ (((ofL []).size : Int) > 0) by rw [ofL_size]; simp)]
    refine Ev_succ ?_
    simp only [threshingref04_number.j0, Bool.false_eq_true, if_false]
    exact rnum_j1 [] (by simp) false
  | cons c r =>
    have hpos : ((ofL (c :: r)).size : Int) > 0 := by rw [ofL_size, List.length_cons]; omega
    simp only [if_pos hpos]
    have hb : bt (ofL (c :: r)) 0 = (c.toNat : Int) := by
      unfold bt
      rw [dif_pos (by show 0 < (c :: r).length; simp)]
      rfl
    rw [hb]
    refine Ev_succ ?_
    by_cases e : c = 45
    · subst e
      have e2 : ((((45 : UInt8).toNat : Nat) : Int) == 45) = true := by decide
      simp only [threshingref04_number.j0, e2, if_true, if_pos (show (1 : Int) ≤ ((ofL (45 :: r)).size : Int) by rw [ofL_size, List.length_cons]; omega)]
      have ex : (ofL (45 :: r)).extract 1 (ofL (45 :: r)).size = ofL r := by rw [ofL_extract, ofL_size, List.take_length]; rfl
      rw [ex]
      exact rnum_j1 r (by simp at hl; omega) true
    · have e2 : ((c.toNat : Int) == 45) = false := by
        rw [beq_eq_false_iff_ne]
        intro h
        exact e (UInt8.toNat_inj.1 (by show c.toNat = 45; omega))
      simp only [threshingref04_number.j0, e2, Bool.false_eq_true, if_false]
      have := rnum_j1 (c :: r) hl false
      unfold Rnum
      rw [if_neg (by simpa using e)]
      exact this
theorem Rnum_itoa (v : Int) (h : Small v) : Rnum (Lib.itoa v) = (v, true) := by
  obtain ⟨h0, h1⟩ := h
  have hs := dec_shape v.natAbs
  have hd := dec_digits v.natAbs
  have hl := dec_len v.natAbs (by omega)
  have hne := dec_ne v.natAbs
  have hall : ((Lib.decDigits v.natAbs).all fun b => decide (48 ≤ b.toNat ∧ b.toNat ≤ 57)) = true := List.all_eq_true.2 fun b hb => decide_eq_true (hd b hb)
  by_cases hv : v < 0
  · have e : Lib.itoa v = 45 :: Lib.decDigits v.natAbs := by unfold Lib.itoa; rw [if_pos hv]
    have hh : (Lib.decDigits v.natAbs).head? ≠ some 48 := by
      rcases hs.1 with ⟨_, h10⟩ | ⟨hh, _⟩
      · rw [Lib.decDigits_one h10]
        intro e
        have e : UInt8.ofNat (48 + v.natAbs) = 48 := Option.some.inj e
        have := congrArg UInt8.toNat e
        rw [dec_byte _ h10] at this
        have : 48 + v.natAbs = 48 := this
        omega
      · exact hh
    unfold Rnum
    rw [e, if_pos (show (45 :: Lib.decDigits v.natAbs).head? = some 45 from rfl)]
    show (if Rbad (Lib.decDigits v.natAbs) true = true then ((0 : Int), false) else Rdig (Lib.decDigits v.natAbs) true) = (v, true)
    have hbad : Rbad (Lib.decDigits v.natAbs) true = false := by
      unfold Rbad
      rw [decide_eq_false hne, decide_eq_false (show ¬ 19 < (Lib.decDigits v.natAbs).length by omega), decide_eq_false hh]
      rfl
    rw [hbad, if_neg (by simp), Rdig_ok _ _ hall (by rw [hs.2]; omega), hs.2, if_pos rfl]
    congr 1
    omega
  · have e : Lib.itoa v = Lib.decDigits v.natAbs := by unfold Lib.itoa; rw [if_neg hv]; congr 1; omega
    unfold Rnum
    rw [e]
    have h45 : (Lib.decDigits v.natAbs).head? ≠ some 45 := by
      cases hc : Lib.decDigits v.natAbs with
      | nil => exact absurd hc hne
      | cons c r =>
        have := hd c (by rw [hc]; simp)
        intro e
        have e : c = 45 := by simpa using e
        rw [e] at this
        exact absurd this.1 (by decide)
    rw [if_neg h45]
    have hbad : Rbad (Lib.decDigits v.natAbs) false = false := by
      unfold Rbad
      rcases hs.1 with ⟨h1', _⟩ | ⟨hh, _⟩
      · simp [hne, h1']
      · simp [hne, hh, show ¬ 19 < (Lib.decDigits v.natAbs).length by omega]
    rw [hbad, if_neg (by simp), Rdig_ok _ _ hall (by rw [hs.2]; omega), hs.2, if_neg (by simp)]
    congr 1
    omega
theorem Rnum_right (x : List UInt8) (h : (Rnum x).2 = true) : x = Lib.itoa (Rnum x).1 ∧ Small (Rnum x).1 := by
  have key : ∀ (D : List UInt8) (neg : Bool), (if Rbad D neg = true then ((0 : Int), false) else Rdig D neg).2 = true →
      Lib.decDigits (dv 0 D) = D ∧ dv 0 D ≤ 4611686018427387903 ∧ (neg = true → 1 ≤ dv 0 D) ∧ (if Rbad D neg = true then ((0 : Int), false) else Rdig D neg).1 = if neg = true then -(dv 0 D : Int) else (dv 0 D : Int) := by
    intro D neg h
    by_cases hb : Rbad D neg = true
    · rw [if_pos hb] at h; cases h
    rw [if_neg hb] at h ⊢
    unfold Rdig at h ⊢
    split at h
    · rename_i hc
      rw [if_pos hc]
      have hD : Dig D := fun b hb => of_decide_eq_true (List.all_eq_true.1 hc.1 b hb)
      unfold Rbad at hb
      simp only [Bool.or_eq_true, Bool.and_eq_true, decide_eq_true_eq, not_or, not_and] at hb
      obtain ⟨⟨hne, hl⟩, hz⟩ := hb
      have hdec := dec_of_dig D.length D rfl hD hne (by
        by_cases h1 : D.length = 1
        · exact .inl h1
        · refine .inr fun e => (hz e).1 ?_
          have := List.length_pos_iff.2 hne
          omega)
      refine ⟨hdec, hc.2, fun hn => ?_, rfl⟩
      rcases Nat.eq_zero_or_pos (dv 0 D) with h0 | h0
      · exfalso
        rw [h0, Lib.decDigits_one (by omega)] at hdec
        exact (hz (by rw [← hdec]; rfl)).2 hn
      · exact h0
    · cases h
  unfold Rnum at *
  by_cases h45 : x.head? = some 45
  · rw [if_pos h45] at h ⊢
    obtain ⟨h1, h2, h3, h4⟩ := key x.tail true h
    rw [h4]
    simp only [if_true]
    have h3 := h3 rfl
    have ex : x = 45 :: x.tail := by
      cases x with
      | nil => cases h45
      | cons c r => rw [show c = 45 by simpa using h45]; rfl
    refine ⟨?_, by unfold Small; omega⟩
    unfold Lib.itoa
    rw [if_pos (by omega), show (-((dv 0 x.tail : Nat) : Int)).natAbs = dv 0 x.tail by omega, h1]
    exact ex
  · rw [if_neg h45] at h ⊢
    obtain ⟨h1, h2, _, h4⟩ := key x false h
    rw [h4]
    simp only [Bool.false_eq_true, if_false]
    refine ⟨?_, by unfold Small; omega⟩
    unfold Lib.itoa
    rw [if_neg (by omega), show ((dv 0 x : Nat) : Int).toNat = dv 0 x by omega, h1]
end Go.Proofs.YtfjnkbkcoakooaaDoor.PB
end

section
namespace Go.Proofs.YtfjnkbkcoakooaaDoor.PB
open Go.RowKit Go.Proofs.YtfjnkbkcoakooaaDoorW.PrintWords Go.Proofs.YtfjnkbkcoakooaaDoorW.PrintLast Go.Proofs.YtfjnkbkcoakooaaDoorW.PrintMore
set_option linter.unusedVariables false
set_option linter.unusedSimpArgs false
/-! ### The reference's words -/
theorem bt_list (t : List UInt8) (i : Nat) (h : i < t.length) : bt (ofL t) (i : Int) = ((t[i]).toNat : Int) := by
  unfold bt
  rw [dif_pos (by rw [Int.toNat_natCast]; exact h)]
  rfl
theorem bt_is (t : List UInt8) (i : Nat) (h : i < t.length) (c : UInt8) : bt (ofL t) (i : Int) = (c.toNat : Int) ↔ t[i] = c := by
  rw [bt_list t i h]
  constructor
  · intro e; exact UInt8.toNat_inj.1 (by omega)
  · intro e; rw [e]
theorem rwords_l0 (t : List UInt8) (ht : t.length ≤ 400000) (d : Nat) : ∀ (i a : Nat) (acc : List ByteArray) (x : List UInt8) (r : List (List UInt8)), i + d = t.length → a ≤ i → i ≤ a + x.length → t.drop a = spaced (x :: r) → (∀ y ∈ x :: r, 32 ∉ y) → acc.length ≤ i →
    Ev (fun k => threshingref04_words.l0 k (ofL t) acc (a : Int) (i : Int)) (acc ++ (x :: r).map ofL) := by
  induction d with
  | zero =>
    intro i a acc x r hi ha hx ht2 hno hacc
    have hi : i = t.length := by omega
    have hlen := congrArg List.length ht2
    rw [List.length_drop] at hlen
    have hr : r = [] := by
      cases r with
      | nil => rfl
      | cons y r =>
        rw [spaced_cons] at hlen
        simp only [List.length_append, List.length_cons] at hlen
        omega
    subst hr
    have e1 : spaced [x] = x := by simp [spaced]
    rw [e1] at ht2
    refine Ev_succ ?_
    have hex : (ofL t).extract (a : Int).toNat (i : Int).toNat = ofL x := by rw [Int.toNat_natCast, Int.toNat_natCast, ofL_extract, hi, List.take_length, ht2]
    simp only [threshingref04_words.l0, if_pos (show (i : Int) ≤ ((ofL t).size : Int) by rw [ofL_size]; omega), if_pos (show (i : Int) = ((ofL t).size : Int) by rw [ofL_size]; omega), if_pos (show 0 ≤ (a : Int) by omega), if_pos (show (a : Int) ≤ (i : Int) by omega), if_pos (show acc.length < 8796093022208 by omega), hex, wrap_cast (show i ≤ 9223372036854775806 by omega)]
    refine Ev_succ ?_
    simp only [threshingref04_words.l0, if_neg (show ¬ (((i + 1 : Nat) : Int) ≤ ((ofL t).size : Int)) by rw [ofL_size]; omega)]
    exact Ev.now _
  | succ d ih =>
    intro i a acc x r hi ha hx ht2 hno hacc
    have hlt : i < t.length := by omega
    refine Ev_succ ?_
    simp only [threshingref04_words.l0, if_pos (show (i : Int) ≤ ((ofL t).size : Int) by rw [ofL_size]; omega), if_neg (show ¬ (i : Int) = ((ofL t).size : Int) by rw [ofL_size]; omega), if_pos (show 0 ≤ (i : Int) by omega), if_pos (show (i : Int) < ((ofL t).size : Int) by rw [ofL_size]; omega), wrap_cast (show i ≤ 9223372036854775806 by omega)]
    have hget : t[i]? = (spaced (x :: r))[i - a]? := by rw [← ht2, List.getElem?_drop]; congr 1; omega
    rw [List.getElem?_eq_getElem hlt] at hget
    by_cases hlast : i < a + x.length
    · have hin : (spaced (x :: r))[i - a]? = some (x[i - a]'(by omega)) := by
        unfold spaced
        rw [List.getElem?_append_left (by omega), List.getElem?_eq_getElem (by omega)]
      rw [hin] at hget
      have hne : t[i] ≠ 32 := by
        rw [Option.some.inj hget]
        intro e
        exact hno x List.mem_cons_self (by rw [← e]; exact List.getElem_mem _)
      simp only [if_neg (show ¬ bt (ofL t) (i : Int) = 32 from fun h => hne ((bt_is t i hlt 32).1 h))]
      exact ih (i + 1) a acc x r (by omega) (by omega) (by omega) ht2 hno (by omega)
    · have hia : i = a + x.length := by omega
      cases r with
      | nil =>
        exfalso
        have hlen := congrArg List.length ht2
        have e1 : spaced [x] = x := by simp [spaced]
        rw [List.length_drop, e1] at hlen
        omega
      | cons y r =>
        rw [spaced_cons] at hget ht2
        have hin : (x ++ 32 :: spaced (y :: r))[i - a]? = some 32 := by
          rw [List.getElem?_append_right (by omega), show i - a - x.length = 0 by omega]
          rfl
        rw [hin] at hget
        have h32 : t[i] = 32 := Option.some.inj hget
        have hex : (ofL t).extract (a : Int).toNat (i : Int).toNat = ofL x := by
          rw [Int.toNat_natCast, Int.toNat_natCast, ofL_extract, List.drop_take, ht2, hia, show a + x.length - a = x.length by omega, List.take_left' rfl]
        simp only [if_pos (show bt (ofL t) (i : Int) = 32 from (bt_is t i hlt 32).2 h32), if_pos (show 0 ≤ (a : Int) by omega), if_pos (show (a : Int) ≤ (i : Int) by omega), if_pos (show acc.length < 8796093022208 by omega), hex]
        have hdrop : t.drop (i + 1) = spaced (y :: r) := by
          rw [show i + 1 = a + (x.length + 1) by omega, ← List.drop_drop, ht2, List.drop_append]
          simp
        have := ih (i + 1) (i + 1) (acc ++ [ofL x]) y r (by omega) (by omega) (by omega) hdrop (fun z hz => hno z (List.mem_cons_of_mem _ hz)) (by simp; omega)
        simpa using this
theorem rwords_ev (x : List UInt8) (r : List (List UInt8)) (hno : ∀ y ∈ x :: r, 32 ∉ y) (hl : (spaced (x :: r)).length ≤ 400000) : Ev (fun k => threshingref04_words.f k (ofL (spaced (x :: r)))) ((x :: r).map ofL) := by
  have := rwords_l0 (spaced (x :: r)) hl (spaced (x :: r)).length 0 0 [] x r (by omega) (by omega) (by omega) rfl hno (by simp)
  unfold threshingref04_words.f
  simpa using this
/-! ### The reference's step -/
def RF : Int × Int × List Int × List Int × Bool := (0, 0, [], [], false)
def numsOf : List (List UInt8) → Option (List Int)
  | [] => some []
  | x :: r => if (Rnum x).2 = true then (numsOf r).map ((Rnum x).1 :: ·) else none
def Rh2 (kind id : Int) (lits acc : List Int) (H : List (List UInt8)) : Int × Int × List Int × List Int × Bool :=
  match numsOf H with
  | some l => (kind, id, lits, acc ++ l, Bmay ⟨kind, id, lits, acc ++ l⟩)
  | none => RF
def Rh (kind id : Int) (lits : List Int) (r : List (List UInt8)) : Int × Int × List Int × List Int × Bool := if r = [] then RF else Rh2 kind id lits [] r.dropLast
def Rl (id : Int) : List (List UInt8) → List Int → Int × Int × List Int × List Int × Bool
  | [], _ => RF
  | x :: r, acc => if x = [48] then Rh 1 id acc r else if (Rnum x).2 = true ∧ -1048576 ≤ (Rnum x).1 ∧ (Rnum x).1 ≤ 1048576 then Rl id r (acc ++ [(Rnum x).1]) else RF
theorem rdOf_at (W : List (List UInt8)) (i : Nat) (h : i < W.length) : rdOf ByteArray.empty (W.map ofL) (i : Int) = ofL W[i] := by
  unfold rdOf
  simp [List.getElem?_eq_getElem h]
theorem rstep_l1 (W : List (List UInt8)) (hW : W.length ≤ 500000) (hx : ∀ x ∈ W, x.length ≤ 1000000) (kind id : Int) (lits : List Int) (hlits : lits.length ≤ 1000000) (d : Nat) : ∀ (i : Nat) (acc : List Int), i + 1 + d = W.length → acc.length ≤ i →
    Ev (fun k => threshingref04_step.l1 k (W.map ofL) (i : Int) kind id lits acc) (Rh2 kind id lits acc (W.drop i).dropLast) := by
  induction d with
  | zero =>
    intro i acc hi hacc
    refine Ev_succ ?_
    simp only [threshingref04_step.l1, wrap_cast (show i ≤ 9223372036854775806 by omega), List.length_map, if_neg (show ¬ (((i + 1 : Nat) : Int) < (W.length : Int)) by omega)]
    have e : (W.drop i).dropLast = [] := by
      apply List.eq_nil_of_length_eq_zero
      rw [List.length_dropLast, List.length_drop]
      omega
    rw [e]
    refine Ev.bind (rmay_ev ⟨kind, id, lits, acc⟩ (by show lits.length ≤ _; omega) (by show acc.length ≤ _; omega)) ?_
    have e2 : Rh2 kind id lits acc [] = (kind, id, lits, acc, Bmay ⟨kind, id, lits, acc⟩) := by simp [Rh2, numsOf]
    rw [e2]
    exact Ev.now _
  | succ d ih =>
    intro i acc hi hacc
    have hlt : i < W.length := by omega
    have hdr : (W.drop i).dropLast = W[i] :: (W.drop (i + 1)).dropLast := by
      rw [List.drop_eq_getElem_cons hlt]
      have : W.drop (i + 1) ≠ [] := by
        intro h
        have := congrArg List.length h
        rw [List.length_drop] at this
        simp at this
        omega
      exact List.dropLast_cons_of_ne_nil this
    refine Ev_succ ?_
    simp only [threshingref04_step.l1, wrap_cast (show i ≤ 9223372036854775806 by omega), List.length_map, if_pos (show (((i + 1 : Nat) : Int) < (W.length : Int)) by omega), if_pos (show 0 ≤ (i : Int) by omega), if_pos (show ((i : Nat) : Int) < (W.length : Int) by omega), rdOf_at W i hlt]
    refine Ev.bind (rnum_ev _ (hx _ (List.getElem_mem hlt))) ?_
    rw [hdr]
    by_cases hok : (Rnum W[i]).2 = true
    · simp only [if_pos hok, if_pos (show acc.length < 17592186044416 by omega)]
      have := ih (i + 1) (acc ++ [(Rnum W[i]).1]) (by omega) (by simp; omega)
      have e : Rh2 kind id lits acc (W[i] :: (W.drop (i + 1)).dropLast) = Rh2 kind id lits (acc ++ [(Rnum W[i]).1]) (W.drop (i + 1)).dropLast := by
        unfold Rh2
        rw [numsOf, if_pos hok]
        cases numsOf (W.drop (i + 1)).dropLast with
        | none => rfl
        | some l => simp
      rw [e]
      exact this
    · simp only [if_neg hok]
      have e : Rh2 kind id lits acc (W[i] :: (W.drop (i + 1)).dropLast) = RF := by
        unfold Rh2
        rw [numsOf, if_neg hok]
      rw [e]
      exact Ev.now _
theorem rstep_j3 (W : List (List UInt8)) (hW : W.length ≤ 500000) (hx : ∀ x ∈ W, x.length ≤ 1000000) (kind id : Int) (lits : List Int) (hlits : lits.length ≤ 1000000) (i : Nat) :
    Ev (fun k => threshingref04_step.j3 k (W.map ofL) (i : Int) kind id lits) (Rh kind id lits (W.drop i)) := by
  refine Ev_succ ?_
  unfold Rh
  by_cases h : i ≥ W.length
  · simp only [threshingref04_step.j3, List.length_map, if_pos (show (i : Int) ≥ (W.length : Int) by omega)]
    rw [if_pos (List.drop_eq_nil_iff.2 h)]
    exact Ev.now _
  · simp only [threshingref04_step.j3, List.length_map, if_neg (show ¬ (i : Int) ≥ (W.length : Int) by omega)]
    rw [if_neg (fun e => h (List.drop_eq_nil_iff.1 e))]
    exact rstep_l1 W hW hx kind id lits hlits (W.length - 1 - i) i [] (by omega) (by simp)
theorem rstep_l0 (W : List (List UInt8)) (hW : W.length ≤ 500000) (hx : ∀ x ∈ W, x.length ≤ 1000000) (id : Int) (d : Nat) : ∀ (i : Nat) (acc : List Int), i + d = W.length → acc.length ≤ i →
    Ev (fun k => threshingref04_step.l0 k (W.map ofL) (i : Int) 1 id acc) (Rl id (W.drop i) acc) := by
  induction d with
  | zero =>
    intro i acc hi hacc
    refine Ev_succ ?_
    simp only [threshingref04_step.l0, List.length_map, if_neg (show ¬ ((i : Int) < (W.length : Int)) by omega)]
    refine Ev_succ ?_
    simp only [threshingref04_step.j2, Bool.false_eq_true, if_false, wrap_cast (show i ≤ 9223372036854775806 by omega)]
    have := rstep_j3 W hW hx 1 id acc (by omega) (i + 1)
    rw [List.drop_of_length_le (show W.length ≤ i + 1 by omega)] at this
    rw [List.drop_of_length_le (show W.length ≤ i by omega)]
    exact this
  | succ d ih =>
    intro i acc hi hacc
    have hlt : i < W.length := by omega
    rw [List.drop_eq_getElem_cons hlt]
    refine Ev_succ ?_
    simp only [threshingref04_step.l0, List.length_map, if_pos (show ((i : Int) < (W.length : Int)) by omega), if_pos (show 0 ≤ (i : Int) by omega), rdOf_at W i hlt]
    have hz : ((ofL W[i]).toList != ([48] : List UInt8)) = !decide (W[i] = [48]) := by
      rw [Lib.toList_data]
      by_cases e : W[i] = [48]
      · rw [decide_eq_true e, e]; rfl
      · rw [decide_eq_false e]
        exact bne_iff_ne.2 e
    rw [hz]
    refine Ev_succ ?_
    unfold Rl
    by_cases e : W[i] = [48]
    · rw [decide_eq_true e, if_pos e]
      simp only [threshingref04_step.j2, Bool.not_true, Bool.false_eq_true, if_false, wrap_cast (show i ≤ 9223372036854775806 by omega)]
      exact rstep_j3 W hW hx 1 id acc (by omega) (i + 1)
    · rw [decide_eq_false e, if_neg e]
      simp only [threshingref04_step.j2, Bool.not_false, if_true, List.length_map, if_pos (show ((i : Int) < (W.length : Int)) by omega), if_pos (show 0 ≤ (i : Int) by omega), rdOf_at W i hlt, wrap_cast (show i ≤ 9223372036854775806 by omega)]
      refine Ev.bind (rnum_ev _ (hx _ (List.getElem_mem hlt))) ?_
      by_cases hok : (Rnum W[i]).2 = true
      · simp only [if_pos hok]
        by_cases h1 : (Rnum W[i]).1 > 1048576
        · simp only [if_pos h1]
          rw [if_neg (by omega)]
          exact Ev.now _
        simp only [if_neg h1]
        by_cases h2 : (Rnum W[i]).1 < -1048576
        · simp only [if_pos h2]
          rw [if_neg (by omega)]
          exact Ev.now _
        simp only [if_neg h2, if_pos (show acc.length < 35184372088832 by omega), wrap32_id (show -1048576 ≤ (Rnum W[i]).1 by omega) (show (Rnum W[i]).1 ≤ 1048576 by omega)]
        rw [if_pos ⟨hok, by omega, by omega⟩]
        exact ih (i + 1) (acc ++ [(Rnum W[i]).1]) (by omega) (by simp; omega)
      · simp only [if_neg hok]
        rw [if_neg (fun h => hok h.1)]
        exact Ev.now _
end Go.Proofs.YtfjnkbkcoakooaaDoor.PB
end

section
namespace Go.Proofs.YtfjnkbkcoakooaaDoor.PB
open Go.RowKit Go.Proofs.YtfjnkbkcoakooaaDoorW.PrintWords Go.Proofs.YtfjnkbkcoakooaaDoorW.PrintLast Go.Proofs.YtfjnkbkcoakooaaDoorW.PrintMore
set_option linter.unusedVariables false
set_option linter.unusedSimpArgs false
def Rstep (x : List UInt8) (r : List (List UInt8)) : Int × Int × List Int × List Int × Bool :=
  if (Rnum x).2 = true ∧ r.getLast? = some [48] then (if r.head? = some [100] then Rh 2 (Rnum x).1 [] r.tail else Rl (Rnum x).1 r []) else RF
theorem rstep_ev (x : List UInt8) (r : List (List UInt8)) (hno : ∀ y ∈ x :: r, 32 ∉ y) (hl : (spaced (x :: r)).length ≤ 400000) (hx : ∀ y ∈ x :: r, y.length ≤ 1000000) : Ev (fun k => threshingref04_step.f k (ofL (spaced (x :: r)))) (Rstep x r) := by
  have hrl := spaced_len x r
  have hW : (x :: r).length ≤ 500000 := by rw [List.length_cons]; omega
  have j0t : ∀ id, Ev (fun k => threshingref04_step.j0 k ((x :: r).map ofL) id true) RF := by
    intro id
    refine Ev_succ ?_
    simp only [threshingref04_step.j0, if_true]
    exact Ev.now _
  unfold threshingref04_step.f
  refine Ev.bind (rwords_ev x r hno hl) ?_
  have hr0 : rdOf ByteArray.empty ((x :: r).map ofL) 0 = ofL x := rdOf_at (x :: r) 0 (by simp)
  simp only [List.length_map, if_pos (show (0 : Int) < (((x :: r).length : Nat) : Int) by rw [List.length_cons]; omega), hr0]
  refine Ev.bind (rnum_ev x (hx x List.mem_cons_self)) ?_
  unfold Rstep
  by_cases hok : (Rnum x).2 = true
  · simp only [if_pos hok]
    cases hr : r with
    | nil =>
      simp only [if_pos (show ((([x] : List (List UInt8)).length : Nat) : Int) < 2 by simp)]
      rw [if_neg (fun h => by cases h.2)]
      have := j0t (Rnum x).1
      rw [hr] at this
      exact this
    | cons y r' =>
      rw [← hr]
      have hlen : (x :: r).length = r'.length + 2 := by rw [hr]; rfl
      have hw : wrap64 ((((x :: r).length : Nat) : Int) - 1) = ((r'.length + 1 : Nat) : Int) := by rw [hlen, wrap_id (by omega) (by omega)]; omega
      simp only [if_neg (show ¬ ((((x :: r).length : Nat) : Int) < 2) by omega), hw, if_pos (show (0 : Int) ≤ ((r'.length + 1 : Nat) : Int) by omega), if_pos (show ((r'.length + 1 : Nat) : Int) < (((x :: r).length : Nat) : Int) by omega), rdOf_at (x :: r) (r'.length + 1) (by omega)]
      have hlast : r.getLast? = some ((x :: r)[r'.length + 1]'(by omega)) := by
        rw [List.getLast?_eq_getElem?, ← List.getElem?_eq_getElem (l := x :: r) (by omega)]
        rw [hr]
        simp
      have hz : ((ofL ((x :: r)[r'.length + 1]'(by omega))).toList != ([48] : List UInt8)) = !decide (r.getLast? = some [48]) := by
        rw [Lib.toList_data, hlast]
        by_cases e : (x :: r)[r'.length + 1]'(by omega) = [48]
        · rw [decide_eq_true (by rw [e]), e]; rfl
        · rw [decide_eq_false (fun h => e (Option.some.inj h))]
          exact bne_iff_ne.2 e
      rw [hz]
      by_cases hl48 : r.getLast? = some [48]
      · rw [decide_eq_true hl48, if_pos ⟨hok, hl48⟩]
        refine Ev_succ ?_
        have hy : rdOf ByteArray.empty ((x :: r).map ofL) 1 = ofL y := by
          subst hr
          exact rdOf_at (x :: y :: r') 1 (by simp)
        simp only [threshingref04_step.j0, Bool.not_true, Bool.false_eq_true, if_false, List.length_map, if_pos (show (1 : Int) < (((x :: r).length : Nat) : Int) by omega), hy]
        have hd : (ofL y).toList = ([100] : List UInt8) ↔ r.head? = some [100] := by rw [Lib.toList_data, hr]; simp [ofL]
        by_cases e : r.head? = some [100]
        · simp only [if_pos (hd.2 e), if_pos e]
          have := rstep_j3 (x :: r) hW hx 2 (Rnum x).1 [] (by simp) 2
          have et : (x :: r).drop 2 = r.tail := by rw [hr]; rfl
          rw [et] at this
          exact this
        · simp only [if_neg (fun h => e (hd.1 h)), if_neg e]
          exact rstep_l0 (x :: r) hW hx (Rnum x).1 r.length 1 [] (by rw [List.length_cons]; omega) (by simp)
      · rw [decide_eq_false hl48, if_neg (fun h => hl48 h.2)]
        exact j0t (Rnum x).1
  · simp only [if_neg hok]
    rw [if_neg (fun h => hok h.1)]
    exact j0t (Rnum x).1
/-! ### .. is the line's -/
theorem numsOf_some : ∀ (H : List (List UInt8)) (l : List Int), numsOf H = some l → H = l.map Lib.itoa := by
  intro H
  induction H with
  | nil => intro l h; cases h; rfl
  | cons x r ih =>
    intro l h
    rw [numsOf] at h
    split at h
    · rename_i hok
      cases hn : numsOf r with
      | none => rw [hn] at h; cases h
      | some m =>
        rw [hn] at h
        cases h
        rw [List.map_cons, ← (Rnum_right x hok).1, ← ih m hn]
    · cases h
theorem numsOf_map : ∀ (l : List Int), (∀ v ∈ l, Small v) → numsOf (l.map Lib.itoa) = some l := by
  intro l
  induction l with
  | nil => intro _; rfl
  | cons v l ih =>
    intro h
    rw [List.map_cons, numsOf, Rnum_itoa v (h v List.mem_cons_self), if_pos rfl, ih (fun x hx => h x (List.mem_cons_of_mem _ hx))]
    rfl
theorem Rh_some (kind id : Int) (lits : List Int) (r : List (List UInt8)) (h : (Rh kind id lits r).2.2.2.2 = true) : ∃ l, r.dropLast = l.map Lib.itoa ∧ r ≠ [] ∧ Bmay ⟨kind, id, lits, l⟩ = true ∧ Rh kind id lits r = (kind, id, lits, l, true) := by
  unfold Rh at *
  split at h
  · cases h
  · rename_i hne
    rw [if_neg hne]
    unfold Rh2 at *
    cases hn : numsOf r.dropLast with
    | none => rw [hn] at h; cases h
    | some l =>
      rw [hn] at h
      simp only [List.nil_append] at h ⊢
      exact ⟨l, numsOf_some _ _ hn, hne, h, by rw [h]⟩
theorem Rl_some (id : Int) : ∀ (r : List (List UInt8)) (acc : List Int), (Rl id r acc).2.2.2.2 = true → ∃ l m r', r = l.map Lib.itoa ++ [48] :: r' ∧ r' ≠ [] ∧ r'.dropLast = m.map Lib.itoa ∧ Bmay ⟨1, id, acc ++ l, m⟩ = true ∧ Rl id r acc = (1, id, acc ++ l, m, true) := by
  intro r
  induction r with
  | nil => intro acc h; cases h
  | cons x r ih =>
    intro acc h
    rw [Rl] at h ⊢
    split at h
    · rename_i e
      rw [if_pos e]
      obtain ⟨m, h1, h2, h3, h4⟩ := Rh_some 1 id acc r h
      exact ⟨[], m, r, by rw [e]; rfl, h2, h1, by simpa using h3, by simpa using h4⟩
    · rename_i e
      rw [if_neg e]
      split at h
      · rename_i hc
        rw [if_pos hc]
        obtain ⟨l, m, r', h1, h2, h3, h4, h5⟩ := ih _ h
        refine ⟨(Rnum x).1 :: l, m, r', ?_, h2, h3, by simpa using h4, by simpa using h5⟩
        rw [List.map_cons, ← (Rnum_right x hc.1).1, h1]
        rfl
      · cases h
theorem last_of {r : List (List UInt8)} (hne : r ≠ []) (hl : r.getLast? = some [48]) : r = r.dropLast ++ [[48]] := by
  have := List.dropLast_concat_getLast hne
  rw [List.getLast?_eq_some_getLast hne] at hl
  rw [Option.some.inj hl] at this
  exact this.symm
theorem Rstep_right (x : List UInt8) (r : List (List UInt8)) (h : (Rstep x r).2.2.2.2 = true) : ∃ s, Bmay s = true ∧ x :: r = Lib.itoa s.f1 :: lineW s ∧ Rstep x r = (s.f0, s.f1, s.f2, s.f3, true) := by
  unfold Rstep at *
  split at h
  · rename_i hc
    rw [if_pos hc]
    have ex := (Rnum_right x hc.1).1
    split at h
    · rename_i hd
      rw [if_pos hd]
      obtain ⟨l, h1, h2, h3, h4⟩ := Rh_some _ _ _ _ h
      refine ⟨⟨2, (Rnum x).1, [], l⟩, h3, ?_, h4⟩
      cases r with
      | nil => cases hd
      | cons y r =>
        have hy : y = [100] := by simpa using hd
        have hl : r.getLast? = some [48] := by
          have := hc.2
          rw [List.getLast?_cons_of_ne_nil (show r ≠ [] from h2)] at this
          exact this
        have er := last_of (show r ≠ [] from h2) hl
        have h1' : r.dropLast = l.map Lib.itoa := h1
        rw [h1'] at er
        show x :: y :: r = Lib.itoa (Rnum x).1 :: _
        rw [← ex, hy, er]
        simp [lineW]
    · rename_i hd
      rw [if_neg hd]
      obtain ⟨l, m, r', h1, h2, h3, h4, h5⟩ := Rl_some _ _ _ h
      refine ⟨⟨1, (Rnum x).1, [] ++ l, m⟩, h4, ?_, h5⟩
      have hl : r'.getLast? = some [48] := by
        have := hc.2
        rw [h1, List.getLast?_append, List.getLast?_cons_of_ne_nil h2] at this
        cases hq : r'.getLast? with
        | none => exact absurd (List.getLast?_eq_none_iff.1 hq) h2
        | some z => rw [hq] at this; simpa using this
      have er := last_of h2 hl
      rw [h3] at er
      rw [← ex, h1, er]
      simp [lineW]
  · cases h
theorem small_may (s : S43) (h : Bmay s = true) : Small s.f1 ∧ (∀ v ∈ s.f3, Small v) := by
  unfold Bmay at h
  simp only [Bool.and_eq_true, Bool.or_eq_true, decide_eq_true_eq, List.all_eq_true, Bool.not_eq_true', decide_eq_false_iff_not] at h
  obtain ⟨⟨⟨h1, h2⟩, h3⟩, h4⟩ := h
  refine ⟨⟨by omega, h2⟩, fun v hv => ?_⟩
  have := h4 v hv
  exact ⟨this.1.1.2, this.1.2⟩
theorem Rl_left (id : Int) (r' : List (List UInt8)) : ∀ (l acc : List Int), (∀ v ∈ l, Glit v) → Rl id (l.map Lib.itoa ++ [48] :: r') acc = Rh 1 id (acc ++ l) r' := by
  intro l
  induction l with
  | nil => intro acc _; simp [Rl]
  | cons v l ih =>
    intro acc h
    have hv := h v List.mem_cons_self
    have hR := Rnum_itoa v ⟨by have := hv.2.1; omega, by have := hv.2.2; omega⟩
    have hne : Lib.itoa v ≠ [48] := by
      intro e
      rw [← itoa_zero] at e
      have := congrArg (fun y => (Rnum y).1) e
      rw [hR, Rnum_itoa 0 ⟨by decide, by decide⟩] at this
      exact hv.1 this
    rw [List.map_cons, List.cons_append, Rl, if_neg hne, hR]
    simp only
    rw [if_pos ⟨trivial, hv.2.1, hv.2.2⟩, ih _ (fun y hy => h y (List.mem_cons_of_mem _ hy))]
    simp
theorem Rh_left (kind id : Int) (lits m : List Int) (hm : ∀ v ∈ m, Small v) (h : Bmay ⟨kind, id, lits, m⟩ = true) : Rh kind id lits (m.map Lib.itoa ++ [[48]]) = (kind, id, lits, m, true) := by
  unfold Rh
  rw [if_neg (by simp), List.dropLast_concat]
  unfold Rh2
  rw [numsOf_map m hm]
  simp only [List.nil_append]
  rw [h]
theorem Rstep_left (s : S43) (h : Bmay s = true) : Rstep (Lib.itoa s.f1) (lineW s) = (s.f0, s.f1, s.f2, s.f3, true) := by
  obtain ⟨hk, hid, h2, h3⟩ := may_parts s h
  obtain ⟨hs1, hs3⟩ := small_may s h
  obtain ⟨k, id, f2, f3⟩ := s
  unfold Rstep
  have hlast : (lineW ⟨k, id, f2, f3⟩).getLast? = some [48] := by
    have : lineW ⟨k, id, f2, f3⟩ = ((if k = 2 then [[100]] else []) ++ (f2.map Lib.itoa ++ ((if k = 1 then [[48]] else []) ++ f3.map Lib.itoa))) ++ [[48]] := by simp [lineW]
    rw [this, List.getLast?_concat]
  rw [Rnum_itoa id hs1, if_pos ⟨rfl, hlast⟩]
  simp only
  rcases hk with hk | ⟨hk, hf⟩
  · simp only at hk
    subst hk
    have ew : lineW ⟨1, id, f2, f3⟩ = f2.map Lib.itoa ++ [48] :: (f3.map Lib.itoa ++ [[48]]) := by simp [lineW]
    rw [ew]
    have hd : ¬ (f2.map Lib.itoa ++ [48] :: (f3.map Lib.itoa ++ [[48]])).head? = some [100] := by
      have key : ∀ v, Lib.itoa v ≠ [100] := fun v e => itoa_no v 100 (by decide) (.inr (by decide)) (by rw [e]; exact List.mem_cons_self)
      cases f2 with
      | nil => simp
      | cons v l => simpa using key v
    rw [if_neg hd, Rl_left id _ f2 [] h2, List.nil_append, Rh_left 1 id f2 f3 hs3 h]
  · simp only at hk hf
    subst hk
    subst hf
    have ew : lineW ⟨2, id, [], f3⟩ = [100] :: (f3.map Lib.itoa ++ [[48]]) := by simp [lineW]
    rw [ew, if_pos (show ([100] :: (f3.map Lib.itoa ++ [[48]])).head? = some [100] from rfl), List.tail_cons, Rh_left 2 id [] f3 hs3 h]
theorem spaced_mem (x : List UInt8) (r : List (List UInt8)) : ∀ y ∈ x :: r, y.length ≤ (spaced (x :: r)).length := by
  intro y hy
  unfold spaced
  rw [List.length_append]
  rcases List.mem_cons.1 hy with rfl | hy
  · omega
  · have : y.length ≤ (r.flatMap fun y => 32 :: y).length := by
      induction r with
      | nil => cases hy
      | cons z r ih =>
        rw [List.flatMap_cons, List.length_append]
        rcases List.mem_cons.1 hy with rfl | hy
        · simp only [List.length_cons]; omega
        · have := ih (List.mem_cons_of_mem _ hy) hy; omega
    omega
theorem rrow_ev (t : List UInt8) (ht : t.length ≤ 400000) : ∃ res, Ev (fun k => threshingref04_step.f k (ofL t)) res ∧ ((okRow t ∧ res = ((stepOf t).f0, (stepOf t).f1, (stepOf t).f2, (stepOf t).f3, true)) ∨ (¬ okRow t ∧ res.2.2.2.2 = false)) := by
  obtain ⟨x, r, e, hno⟩ := split_sp t
  refine ⟨Rstep x r, ?_, ?_⟩
  · rw [e]
    rw [e] at ht
    exact rstep_ev x r hno ht (fun y hy => by have := spaced_mem x r y hy; omega)
  · by_cases hok : okRow t
    · obtain ⟨hm, el⟩ := line_left t hok
      have : x :: r = Lib.itoa (stepOf t).f1 :: lineW (stepOf t) := by
        have h1 : spaced (x :: r) = spaced (Lib.itoa (stepOf t).f1 :: lineW (stepOf t)) := by rw [← e]; exact el
        have w1 := Lwordsof_spaced r x hno
        have w2 := Lwordsof_spaced (lineW (stepOf t)) (Lib.itoa (stepOf t).f1) (lineW_no (stepOf t) 32 (.inl rfl))
        rw [h1, w2] at w1
        have := congrArg (fun z => z.map fun s : ByteArray => s.data.toList) w1
        simpa [Function.comp_def, ofL] using this.symm
      obtain ⟨e1, e2⟩ := List.cons.inj this
      refine .inl ⟨hok, ?_⟩
      rw [e1, e2]
      exact Rstep_left _ hm
    · refine .inr ⟨hok, ?_⟩
      cases hq : (Rstep x r).2.2.2.2 with
      | false => rfl
      | true =>
        exfalso
        obtain ⟨s, hm, ew, _⟩ := Rstep_right x r hq
        apply hok
        rw [e, ew]
        exact (line_ok s hm).1
/-! ### The reference's Parse -/
theorem okRow_len (t : List UInt8) (h : okRow t) : (stepOf t).f2.length + (stepOf t).f3.length + 1 ≤ t.length + 1 := by
  obtain ⟨_, e⟩ := line_left t h
  have h1 := spaced_len (Lib.itoa (stepOf t).f1) (lineW (stepOf t))
  have h2 : (stepOf t).f2.length + (stepOf t).f3.length ≤ (lineW (stepOf t)).length := by unfold lineW; simp only [List.length_append, List.length_map]; omega
  have h3 : t.length = (spaced (Lib.itoa (stepOf t).f1 :: lineW (stepOf t))).length := congrArg List.length e
  omega
theorem Lp_cons (x : List UInt8) (R : List (List UInt8)) (v : List UInt8) (acc : List S43) : Lp (rowsOf (x :: R) v) acc = if (Lparse1 (ofL x)).2 = true then Lp (rowsOf R v) (acc ++ [stepOf x]) else ([], 40, (acc.length : Int) + 1) := by
  have : rowsOf (x :: R) v = (ofL x, true) :: rowsOf R v := by simp [rowsOf]
  rw [this, Lp]
  simp only [true_and]
  rfl
set_option maxHeartbeats 4000000 in
theorem rparse_l0 (t : List UInt8) (ht : t.length ≤ 100000) (d : Nat) : ∀ (i a : Nat) (acc : List S43) (R : List (List UInt8)) (v : List UInt8), i + d = t.length → a ≤ i → t.drop a = joined R ++ v → (∀ r ∈ R, 10 ∉ r) → 10 ∉ v →
    (∀ x R', R = x :: R' → i ≤ a + x.length) → acc.length + Btot acc ≤ a →
    Ev (fun k => threshingref04_Parse.l0 k (ofL t) acc (a : Int) (Btot acc : Nat) (i : Int)) (Lp (rowsOf R v) acc) := by
  induction d with
  | zero =>
    intro i a acc R v hi ha hd hR hv hin hb
    have hi : i = t.length := by omega
    have hR0 : R = [] := by
      cases R with
      | nil => rfl
      | cons x R' =>
        exfalso
        have h1 := hin x R' rfl
        have hlen := congrArg List.length hd
        rw [List.length_drop, joined_cons] at hlen
        simp only [List.length_append, List.length_cons] at hlen
        omega
    subst hR0
    have hlen := congrArg List.length hd
    rw [List.length_drop] at hlen
    have hlen : t.length - a = v.length := hlen
    refine Ev_succ ?_
    simp only [threshingref04_Parse.l0, if_neg (show ¬ ((i : Int) < ((ofL t).size : Int)) by rw [ofL_size]; omega)]
    by_cases hv0 : v = []
    · subst hv0
      simp only [if_neg (show ¬ ((a : Int) < ((ofL t).size : Int)) by rw [ofL_size]; simp at hlen; omega)]
      exact Ev.now _
    · have := List.length_pos_iff.2 hv0
      simp only [if_pos (show ((a : Int) < ((ofL t).size : Int)) by rw [ofL_size]; omega)]
      have e : Lp (rowsOf [] v) acc = ([], 40, (acc.length : Int) + 1) := by simp [rowsOf, hv0, Lp]
      have w : wrap64 ((acc.length : Int) + 1) = (acc.length : Int) + 1 := wrap_id (by omega) (by omega)
      rw [e, w]
      exact Ev.now _
  | succ d ih =>
    intro i a acc R v hi ha hd hR hv hin hb
    have hlt : i < t.length := by omega
    refine Ev_succ ?_
    simp only [threshingref04_Parse.l0, if_pos (show ((i : Int) < ((ofL t).size : Int)) by rw [ofL_size]; omega), if_pos (show 0 ≤ (i : Int) by omega), wrap_cast (show i ≤ 9223372036854775806 by omega)]
    have hget : t[i]? = (joined R ++ v)[i - a]? := by rw [← hd, List.getElem?_drop]; congr 1; omega
    rw [List.getElem?_eq_getElem hlt] at hget
    cases R with
    | nil =>
      have hne : t[i] ≠ 10 := by
        intro e
        rw [e] at hget
        exact hv (List.mem_of_getElem? hget.symm)
      simp only [if_neg (show ¬ bt (ofL t) (i : Int) = 10 from fun h => hne ((bt_is t i hlt 10).1 h))]
      exact ih (i + 1) a acc [] v (by omega) (by omega) hd hR hv (fun x R' h => by cases h) hb
    | cons x R =>
      have hix := hin x R rfl
      rw [joined_cons, List.append_assoc, List.cons_append] at hget hd
      by_cases hmid : i < a + x.length
      · have hne : t[i] ≠ 10 := by
          intro e
          rw [e, List.getElem?_append_left (by omega)] at hget
          exact hR x List.mem_cons_self (List.mem_of_getElem? hget.symm)
        simp only [if_neg (show ¬ bt (ofL t) (i : Int) = 10 from fun h => hne ((bt_is t i hlt 10).1 h))]
        exact ih (i + 1) a acc (x :: R) v (by omega) (by omega) (by rw [joined_cons, List.append_assoc, List.cons_append]; exact hd) hR hv (fun y R' h => by cases h; omega) hb
      · have hia : i = a + x.length := by omega
        have hten : t[i] = 10 := by
          rw [List.getElem?_append_right (by omega), show i - a - x.length = 0 by omega] at hget
          exact Option.some.inj hget
        have hex : (ofL t).extract (a : Int).toNat (i : Int).toNat = ofL x := by
          rw [Int.toNat_natCast, Int.toNat_natCast, ofL_extract, List.drop_take, hd, hia, show a + x.length - a = x.length by omega, List.take_left' rfl]
        have hbten : bt (ofL t) (i : Int) = 10 := (bt_is t i hlt 10).2 hten
        clear hget
        simp only [if_pos hbten, if_pos (show 0 ≤ (a : Int) by omega), if_pos (show (a : Int) ≤ (i : Int) by omega), if_pos (show (i : Int) ≤ ((ofL t).size : Int) by rw [ofL_size]; omega), hex]
        obtain ⟨res, hev, hres⟩ := rrow_ev x (by omega)
        refine Ev.bind hev ?_
        rw [Lp_cons]
        rcases hres with ⟨hok, rfl⟩ | ⟨hok, hf⟩
        · have hl := okRow_len x hok
          have hok' : (Lparse1 (ofL x)).2 = true := hok
          rw [if_pos hok']
          obtain ⟨s, hs⟩ : ∃ s, stepOf x = s := ⟨_, rfl⟩
          rw [hs] at hl ⊢
          clear hs
          have hbt : Btot (acc ++ [s]) = Btot acc + (s.f2.length + s.f3.length) := by rw [Btot_append]; simp [Btot]
          have h1 : ¬ ((acc.length : Int) ≥ 4194304) := by omega
          have h2 : ¬ (((Btot (acc ++ [s]) : Nat) : Int) > 16777216) := by rw [hbt]; omega
          have h3 : acc.length < 2199023255552 := by omega
          have hdrop : t.drop (i + 1) = joined R ++ v := by
            rw [show i + 1 = a + (x.length + 1) by omega, ← List.drop_drop, hd, List.drop_append]
            simp
          have hih := ih (i + 1) (i + 1) (acc ++ [s]) R v (by omega) (by omega) hdrop (fun r hr => hR r (List.mem_cons_of_mem _ hr)) hv (fun y R' _ => by omega) (by rw [hbt, List.length_append, List.length_cons, List.length_nil]; omega)
          have ew : wrap64 ((wrap64 (((Btot acc : Nat) : Int) + (s.f2.length : Int))) + (s.f3.length : Int)) = ((Btot (acc ++ [s]) : Nat) : Int) := by
            rw [hbt, wrap_id (x := ((Btot acc : Nat) : Int) + (s.f2.length : Int)) (by omega) (by omega), wrap_id (by omega) (by omega)]
            omega
          refine Ev.congr (fun k => ?_) hih
          dsimp only
          rw [if_pos rfl, if_neg h1, ew, if_neg h2, if_pos h3]
        · have hok' : ¬ (Lparse1 (ofL x)).2 = true := hok
          rw [if_neg hok']
          have w : wrap64 ((acc.length : Int) + 1) = (acc.length : Int) + 1 := wrap_id (by omega) (by omega)
          simp only [hf, Bool.false_eq_true, if_false, w]
          exact Ev.now _
theorem rparse_ev (s : ByteArray) (h : s.size ≤ 100000) : Ev (fun k => threshingref04_Parse.f k s) (Lparse s) := by
  obtain ⟨R, v, e, hR, hv⟩ := split_nl s.data.toList
  have es : s = ofL (joined R ++ v) := by rw [← e]; rfl
  rw [es] at h ⊢
  rw [ofL_size] at h
  rw [Lparse_join R v hR hv]
  unfold threshingref04_Parse.f
  exact rparse_l0 (joined R ++ v) h (joined R ++ v).length 0 0 [] R v (by omega) (by omega) rfl hR hv (fun x R' _ => by omega) (by simp [Btot])
end Go.Proofs.YtfjnkbkcoakooaaDoor.PB
end

section
namespace Go.Proofs.YtfjnkbkcoakooaaDoor.PB
open Go.RowKit Go.Proofs.YtfjnkbkcoakooaaDoorW.PrintWords Go.Proofs.YtfjnkbkcoakooaaDoorW.PrintLast Go.Proofs.YtfjnkbkcoakooaaDoorW.PrintMore
set_option linter.unusedVariables false
set_option linter.unusedSimpArgs false
/-- What Spoil leaves as it was: all but cells of the steps' own blocks; in the steps' row all but the identifiers. -/
structure SP (w : World) (g base hi : Nat) (w' : World) : Prop where
  os : w'.os = w.os
  tape : w'.tape = w.tape
  output : w'.output = w.output
  size : w'.heap.size = w.heap.size
  blk : ∀ k, k < base ∨ hi ≤ k → w'.heap[k]? = w.heap[k]?
  typ : ∀ (k : Nat) (cs : Array Value) (t : TypeId), w.heap[k]? = some (.cells cs t (0, 0)) → ∃ cs', w'.heap[k]? = some (.cells cs' t (0, 0)) ∧ cs'.size = cs.size
  hd : ∀ j, j % 4 ≠ 1 → w'.cell? ⟨g, j, none⟩ = w.cell? ⟨g, j, none⟩
theorem SP.refl (w : World) (g base hi : Nat) : SP w g base hi w := ⟨rfl, rfl, rfl, rfl, fun _ _ => rfl, fun _ cs _ h => ⟨cs, h, rfl⟩, fun _ _ => rfl⟩
theorem SP.store {w w1 w2 : World} {g base hi gx off : Nat} {t : TypeId} {cur : Array Value} {u : Value} (h : SP w g base hi w1) (hs : SameBut gx w1 w2) (hb : base ≤ gx) (hh : gx < hi)
    (hc : w1.heap[gx]? = some (.cells cur t (0, 0))) (hc2 : w2.heap[gx]? = some (.cells (cur.setIfInBounds off u) t (0, 0))) (hg : gx ≠ g ∨ off % 4 = 1) : SP w g base hi w2 := by
  refine ⟨hs.os.trans h.os, hs.tape.trans h.tape, hs.output.trans h.output, hs.size.trans h.size, fun k hk => (hs.blk k (by omega)).trans (h.blk k hk), fun k cs t' hk => ?_, fun j hj => ?_⟩
  · obtain ⟨cs', h1, h2⟩ := h.typ k cs t' hk
    by_cases e : k = gx
    · subst e
      rw [hc] at h1
      injection h1 with h1
      injection h1 with h1a h1b _
      subst h1b
      exact ⟨_, hc2, by rw [Array.size_setIfInBounds, h1a]; exact h2⟩
    · exact ⟨cs', (hs.blk k e).trans h1, h2⟩
  · refine Eq.trans ?_ (h.hd j hj)
    by_cases e : g = gx
    · subst e
      rw [blk_cell hc2, blk_cell hc, Array.getElem?_setIfInBounds]
      rcases hg with hg | hg
      · exact absurd rfl hg
      · rw [if_neg (by omega)]
    · exact World.cell?_of_block (hs.blk g e)
theorem sp_at {w : World} {base n c : Nat} {ok : Nat → Prop} {ad : Addr} {l : List S43} (h : Kd.S k43 43 w base ok (.slice (some ad) n c) l) (i : Int) (h0 : 0 ≤ i) (h1 : i < n) :
    ∃ g A2 c2 A3 c3, ad = ⟨g, 0, none⟩ ∧ base ≤ g ∧ ok g ∧ (∃ cells, w.heap[g]? = some (.cells cells 43 (0, 0)) ∧ i.toNat * 4 + 1 < cells.size) ∧
      w.cell? ⟨(ad.add (i.toNat * 4)).block, (ad.add (i.toNat * 4)).off + 2, none⟩ = some (.slice A2 (rd_T43 l i).f2.length c2) ∧ w.cell? ⟨(ad.add (i.toNat * 4)).block, (ad.add (i.toNat * 4)).off + 3, none⟩ = some (.slice A3 (rd_T43 l i).f3.length c3) ∧
      (Kd.int .i32).R 44 w base ok (.slice A2 (rd_T43 l i).f2.length c2) (rd_T43 l i).f2 ∧ (Kd.int .i64).R 2 w base ok (.slice A3 (rd_T43 l i).f3.length c3) (rd_T43 l i).f3 := by
  obtain ⟨g, hg⟩ := Kd.S_slice h |>.elim (fun _ _ => Kd.R_head (Kd.S_R h))
  subst hg
  have hb := Kd.S_base h g (by simp [Value.ownBlock])
  have hok := (Kd.S_R h).1 g (by simp [Value.ownBlock])
  obtain ⟨cells, hc⟩ := Kd.S_typed h g (by simp [Value.ownBlock])
  obtain ⟨cs, _, hM, hcs⟩ := Kd.S_get h z43 i h0 h1
  obtain ⟨v2, v3, rfl, g2, g3⟩ := k43_openM hM
  obtain ⟨A2, c2, rfl⟩ := Kd.R_slice g2
  obtain ⟨A3, c3, rfl⟩ := Kd.R_slice g3
  have e1 := hcs 1 _ rfl
  have e2 := hcs 2 _ rfl
  have e3 := hcs 3 _ rfl
  have hsz : k43.sz = 4 := rfl
  rw [hsz, add_at, Nat.zero_add] at e1 e2 e3
  have hlt : i.toNat * 4 + 1 < cells.size := by
    rw [blk_cell hc] at e1
    exact (Array.getElem?_eq_some_iff.1 e1).1
  refine ⟨g, A2, c2, A3, c3, rfl, hb, hok, ⟨cells, hc, hlt⟩, ?_, ?_, Kd.R_mono g2 (fun _ hk => hk.1), Kd.R_mono g3 (fun _ hk => hk.1)⟩
  · rw [add_at, Nat.zero_add]; exact e2
  · rw [add_at, Nat.zero_add]; exact e3
theorem SP.at_ {w w' : World} {g base hi : Nat} {ad : Addr} (h : SP w g base hi w') (had : ad = ⟨g, 0, none⟩) (m j : Nat) (hj : j % 4 ≠ 1) {v : Value} (hc : w.cell? ⟨(ad.add (m * 4)).block, (ad.add (m * 4)).off + j, none⟩ = some v) : w'.cell? ⟨(ad.add (m * 4)).block, (ad.add (m * 4)).off + j, none⟩ = some v := by
  subst had
  rw [add_at, Nat.zero_add] at hc ⊢
  exact (h.hd _ (by show (m * 4 + j) % 4 ≠ 1; omega)).trans hc
theorem int_fit {k : IntKind} {e : Nat} {w : World} {base n c : Nat} {ok : Nat → Prop} {A : Option Addr} {xs : List Int} (h : (Kd.int k).R e w base ok (.slice A n c) xs) (y : Int) (h0 : 0 ≤ y) (h1 : y < n) :
    ∃ g cells, A = some ⟨g, 0, none⟩ ∧ base ≤ g ∧ ok g ∧ w.heap[g]? = some (.cells cells e (0, 0)) ∧ y.toNat < cells.size := by
  have hn := (Kd.R_reads' h).1
  obtain ⟨g, cap, he, hb, hl, cells, hc⟩ := Kd.R_form h (by omega)
  injection he with ha _ _
  subst ha
  have hok := h.1 g (by simp [Value.ownBlock])
  obtain ⟨cs, hcl, _, hcs⟩ := Kd.R_getA h 0 y h0 h1
  have hsz : (Kd.int k).sz = 1 := rfl
  rw [hsz] at hcl hcs
  obtain ⟨u, hu⟩ : ∃ u, cs[0]? = some u := by
    cases cs with
    | nil => simp at hcl
    | cons a b => exact ⟨a, rfl⟩
  have e1 := hcs 0 u hu
  rw [add_at, Nat.zero_add, blk_cell hc] at e1
  have := (Array.getElem?_eq_some_iff.1 e1).1
  exact ⟨g, cells, rfl, hb, hok, hc, by omega⟩
theorem nsz44 : (Tryd.prog.info? 44).map (·.size) = some 1 := by kernel_rfl
theorem nsz2i : (Tryd.prog.info? 2).map (·.size) = some 1 := by kernel_rfl

set_option maxHeartbeats 2000000 in
set_option maxRecDepth 100000 in
theorem spoil_calls (base hi : Nat) (v : Value) (l : List S43) (w : World) (hS : Kd.S k43 43 w base (fun k => k < hi) v l) (hl : l.length ≤ 1000000000) (hr2 : ∀ s ∈ l, s.f2.length ≤ 1000000000 ∧ s.f3.length ≤ 1000000000) :
    Calls Tryd.prog 17 #[v] w fun e w' => e = .returned (.tuple #[]) ∧ ∃ g, SP w g base hi w' := by
  obtain ⟨A, c, rfl⟩ := Kd.S_slice hS
  obtain ⟨g, hA⟩ : ∃ g, 0 < l.length → A = some ⟨g, 0, none⟩ := by
    by_cases h : 0 < l.length
    · obtain ⟨g, cap, he, _⟩ := Kd.S_form hS h
      injection he with ha _ _
      exact ⟨g, fun _ => ha⟩
    · exact ⟨0, fun h' => absurd h' h⟩
  have HS := Aside0.mk hS
  have HA := Aside0.mk hA
  have HR2 := Aside0.mk hr2
  have hl' := Aside0.mk hl
  clear hS hA hr2 hl
  go_enter Tryd.func17, Tryd.ntmps17
  go_wp2
  repeat (go_quiet (fail); try go_wp2)
  go_loopg [2] l.length (fun j v2 wr => ∃ (x : Int), v2 = .int .i64 x ∧ 0 ≤ x ∧ x + j = l.length ∧ Aside0 (SP w g base hi wr))
  case atStart => exact ⟨0, rfl, by omega, by omega, ⟨SP.refl _ _ _ _⟩⟩
  case round =>
    obtain ⟨x, rfl, hx0, hxj, HP⟩ := hrel
    by_cases hx : x < (l.length : Int)
    · have hxd : decide (x < (l.length : Int)) = true := decide_eq_true hx
      obtain ⟨gj, rfl⟩ : ∃ gj, gk = gj + 1 := ⟨gk - 1, by omega⟩
      obtain ⟨ad, had⟩ : ∃ ad : Addr, ad = ⟨g, 0, none⟩ := ⟨_, rfl⟩
      have hA := HA.out (by omega)
      rw [← had] at hA
      subst hA
      obtain ⟨g', A2, c2, A3, c3, hg', hbg, hhg, ⟨cg, hcg, hfg⟩, hx2, hx3, hR2, hR3⟩ := sp_at HS.out x hx0 hx
      have hgg : g' = g := by rw [had] at hg'; injection hg' with h1 _ _; exact h1.symm
      subst hgg
      have hmem := HR2.out _ (rd43_mem l x hx0 hx)
      obtain ⟨n2, hn2⟩ : ∃ n2, n2 = (rd_T43 l x).f2.length := ⟨_, rfl⟩
      obtain ⟨n3, hn3⟩ : ∃ n3, n3 = (rd_T43 l x).f3.length := ⟨_, rfl⟩
      rw [← hn2] at hx2 hR2 hmem
      rw [← hn3] at hx3 hR3 hmem
      obtain ⟨hm2, hm3⟩ := hmem
      have p0 := eq_true hx0
      have q0 := eq_true hx
      have HX2 := Aside0.mk hx2
      have HX3 := Aside0.mk hx3
      have HRR2 := Aside0.mk hR2
      have HRR3 := Aside0.mk hR3
      have HAD := Aside0.mk had
      have HCG := Aside0.mk hcg
      clear hx2 hx3 hR2 hR3 had hcg hn2 hn3 hg'
      go_wp2
      go_loopg [3] n2 (fun j v3 wr2 => ∃ (y : Int), v3 = .int .i64 y ∧ 0 ≤ y ∧ y + j = n2 ∧ Aside0 (SP w g' base hi wr2))
      case atStart => exact ⟨0, rfl, by omega, by omega, HP⟩
      case round =>
        clear HP
        obtain ⟨y, rfl, hy0, hyj, HP⟩ := hrel
        have hx2 := HP.out.at_ HAD.out x.toNat 2 (by decide) HX2.out
        by_cases hy : y < (n2 : Int)
        · obtain ⟨g2, cs2, e2, hb2, hh2, hc2, hf2⟩ := int_fit HRR2.out y hy0 hy
          obtain ⟨ad2, had2⟩ : ∃ ad2 : Addr, ad2 = ⟨g2, 0, none⟩ := ⟨_, rfl⟩
          rw [← had2] at e2
          subst e2
          obtain ⟨cur, hcur, hcs⟩ := HP.out.typ _ _ _ hc2
          have hne : g2 ≠ g' := blk_ne hc2 HCG.out (by decide)
          have hz2 : ad2.add y.toNat = ⟨g2, y.toNat, none⟩ := by rw [had2, add_at, Nat.zero_add]
          have HZ2 := Aside0.mk hz2
          have HCUR := Aside0.mk hcur
          have HF2 := Aside0.mk (show y.toNat + 1 ≤ cur.size by omega)
          clear hc2 had2 hz2 hcur hf2
          have p1 := eq_true hy0
          have q1 := eq_true hy
          go_wp2_with ((with_reducible refine gate_store (t := 44) (p := 27) rfl ?_); refine store_one 44 27 _ rfl rfl rfl (.int .i32 99) _ (congrArg (fun p => Value.pointer (some p)) HZ2.out) rfl HCUR.out rfl nsz44 HF2.out rfl rfl ?_; intro w8 hw8 hsb; have HW8 := Aside0.mk hw8; have HS8 := Aside0.mk hsb; clear hw8 hsb)
          go_roundg (gk - 1)
          case rel => exact ⟨_, rfl, by omega, by omega, ⟨HP.out.store HS8.out hb2 hh2 HCUR.out HW8.out (.inl hne)⟩⟩
          case measure => omega
        · go_wp2
          go_loopg [4] n3 (fun j v4 wr3 => ∃ (y : Int), v4 = .int .i64 y ∧ 0 ≤ y ∧ y + j = n3 ∧ Aside0 (SP w g' base hi wr3))
          case atStart => exact ⟨0, rfl, by omega, by omega, HP⟩
          case round =>
            clear HP hx2 hyj hy0 hy
            obtain ⟨z, rfl, hz0, hzj, HP⟩ := hrel
            have hx3 := HP.out.at_ HAD.out x.toNat 3 (by decide) HX3.out
            by_cases hz : z < (n3 : Int)
            · obtain ⟨g3, cs3, e3, hb3, hh3, hc3, hf3⟩ := int_fit HRR3.out z hz0 hz
              obtain ⟨ad3, had3⟩ : ∃ ad3 : Addr, ad3 = ⟨g3, 0, none⟩ := ⟨_, rfl⟩
              rw [← had3] at e3
              subst e3
              obtain ⟨cur, hcur, hcs⟩ := HP.out.typ _ _ _ hc3
              have hne : g3 ≠ g' := blk_ne hc3 HCG.out (by decide)
              have hz3 : ad3.add z.toNat = ⟨g3, z.toNat, none⟩ := by rw [had3, add_at, Nat.zero_add]
              have HZ3 := Aside0.mk hz3
              have HCUR := Aside0.mk hcur
              have HF3 := Aside0.mk (show z.toNat + 1 ≤ cur.size by omega)
              clear hc3 had3 hz3 hcur hf3
              have p1 := eq_true hz0
              have q1 := eq_true hz
              go_wp2_with ((with_reducible refine gate_store (t := 2) (p := 44) rfl ?_); refine store_one 2 44 _ rfl rfl rfl (.int .i64 99) _ (congrArg (fun p => Value.pointer (some p)) HZ3.out) rfl HCUR.out rfl nsz2i HF3.out rfl rfl ?_; intro w8 hw8 hsb; have HW8 := Aside0.mk hw8; have HS8 := Aside0.mk hsb; clear hw8 hsb)
              go_roundg (gk - 1)
              case rel => exact ⟨_, rfl, by omega, by omega, ⟨HP.out.store HS8.out hb3 hh3 HCUR.out HW8.out (.inl hne)⟩⟩
              case measure => omega
            · have hl2 := hl'.out
              obtain ⟨cur, hcur, hcs⟩ := HP.out.typ _ _ _ HCG.out
              have HZ4 := Aside0.mk (show (⟨(ad.add (x.toNat * 4)).block, (ad.add (x.toNat * 4)).off + 1, none⟩ : Addr) = ⟨g', x.toNat * 4 + 1, none⟩ by rw [HAD.out, add_at, Nat.zero_add])
              have HCUR := Aside0.mk hcur
              have HF4 := Aside0.mk (show x.toNat * 4 + 1 + 1 ≤ cur.size by omega)
              clear hcur
              go_wp2_with ((with_reducible refine gate_store (t := 2) (p := 48) rfl ?_); refine store_one 2 48 _ rfl rfl rfl (.int .i64 99) _ (congrArg (fun p => Value.pointer (some p)) HZ4.out) rfl HCUR.out rfl nsz2i HF4.out rfl rfl ?_; intro w8 hw8 hsb; have HW8 := Aside0.mk hw8; have HS8 := Aside0.mk hsb; clear hw8 hsb)
              go_roundg gj
              case rel => exact ⟨_, rfl, by omega, by omega, ⟨HP.out.store HS8.out hbg hhg HCUR.out HW8.out (.inr (by omega))⟩⟩
              case measure => omega
    · have hxd : decide (x < (l.length : Int)) = false := decide_eq_false hx
      go_wp2
      go_end0
      exact ⟨rfl, g, HP.out⟩
end Go.Proofs.YtfjnkbkcoakooaaDoor.PB
end

section
namespace Go.Proofs.YtfjnkbkcoakooaaDoor.PB
open Go.RowKit Go.Proofs.YtfjnkbkcoakooaaDoorW.PrintWords Go.Proofs.YtfjnkbkcoakooaaDoorW.PrintLast Go.Proofs.YtfjnkbkcoakooaaDoorW.PrintMore
attribute [local go_sem] max2_int min2_int max_two min_two max_three min_three max_four min_four
set_option linter.unusedVariables false
set_option linter.unusedSimpArgs false
theorem SP.below {w w' : World} {g base hi : Nat} (h : SP w g base hi w') : Below base w w' := ⟨h.os, h.tape, h.output, Nat.le_of_eq h.size.symm, fun k hk => h.blk k (.inl hk)⟩
theorem works_s (k : Nat) : threshinglaw04_works.f k = some true := by kernel_rfl
theorem Lparse_small (s : ByteArray) : (Lparse s).1.length + Btot (Lparse s).1 ≤ s.size := by
  rcases Lparse_kinds s with ⟨m, hm⟩ | ⟨p, hm⟩
  · obtain ⟨m', hm', hmay, es⟩ := text_parse s (by rw [hm])
    rw [hm']
    have := text_size m'
    have e : s.size = (textB m').length := by conv => lhs; rw [es, ofL_size]
    show m'.length + Btot m' ≤ _
    omega
  · rw [hm]
    simp [Btot]
set_option maxHeartbeats 2000000 in
set_option maxRecDepth 100000 in
theorem reads_calls (s : ByteArray) (w : World) (hlt : LT w.heap.size w) :
    Calls Tryd.prog 4 #[.string s] w fun e w' => e = .returned (.bool true) ∧ Below w.heap.size w w' := by
  have HLT := Aside0.mk hlt
  have HB := Aside0.mk (Below.refl w.heap.size w)
  clear hlt
  by_cases h0 : 6000 < s.size
  · have h0' : decide (6000 < s.size) = true := decide_eq_true h0
    have h0i : decide ((6000 : Int) < (s.size : Int)) = true := decide_eq_true (by omega)
    go_enter Tryd.func4, Tryd.ntmps4
    go_wp2_with (go_at_call 10; refine (threshinglaw04_works.calls 0 true _ (works_s 0) HLT.out).mono ?_; rintro e w2 ⟨rfl, hb⟩; have HB2 := Aside0.mk (below_step HB.out hb); clear hb)
    go_ret
    exact ⟨rfl, HB2.out⟩
  have h0' : decide (6000 < s.size) = false := decide_eq_false h0
  have h0i : decide ((6000 : Int) < (s.size : Int)) = false := decide_eq_false (by omega)
  have hsm := Lparse_small s
  obtain ⟨kp, hkp⟩ := (rparse_ev s (by omega)).rounds
  obtain ⟨m, e1, p1, hp⟩ : ∃ m e1 p1, Lparse s = (m, e1, p1) := ⟨_, _, _, rfl⟩
  have hpf := Aside0.mk (show lrat_Parse.f 0 s = some (m, e1, p1) by unfold lrat_Parse.f; rw [if_pos (by omega), hp])
  have hpr := Aside0.mk (show threshingref04_Parse.f kp s = some (m, e1, p1) by rw [hkp, hp])
  rw [hp] at hsm
  have hm6 := Aside0.mk (show m.length + Btot m ≤ 6000 by have : m.length + Btot m ≤ s.size := hsm; omega)
  clear hsm hkp hp
  go_enter Tryd.func4, Tryd.ntmps4
  go_wp2_with fail
  refine (lrat_Parse.calls 0 s m e1 p1 _ hpf.out HLT.out).mono ?_
  rintro e w2 ⟨v2, rfl, hS, hb⟩
  have HB2 := Aside0.mk (below_step HB.out hb)
  have HN2 := Aside0.mk hb
  obtain ⟨Al, cl, rfl⟩ := Kd.S_slice hS
  have HS2 := Aside0.mk hS
  clear hS hb
  go_wp2_with fail
  refine (threshingref04_Parse.calls kp s m e1 p1 w2 hpr.out).mono ?_
  rintro e w3 ⟨v3, rfl, hS, hb⟩
  have HB3 := Aside0.mk (below_step HB2.out hb)
  have HS3 := Aside0.mk (Kd.S_old HS2.out hb)
  obtain ⟨Am, cm, rfl⟩ := Kd.S_slice hS
  have HM3 := Aside0.mk hS
  have HSZ := Aside0.mk hb.size
  clear hS hb HS2
  obtain ⟨hlc, hlC⟩ := (Kd.S_reads' HS3.out).2
  obtain ⟨hmc, hmC⟩ := (Kd.S_reads' HM3.out).2
  have HLC := Aside0.mk hlc
  have HLD := Aside0.mk hlC
  have HMC := Aside0.mk hmc
  have HMD := Aside0.mk hmC
  clear hlc hlC hmc hmC
  go_wp2_with fail
  refine (threshingref04_Same.calls 20000 _ _ m _ _ m true w3 HLD.out HLC.out HMD.out HMC.out (same_f m (by have := hm6.out; omega) (by have := hm6.out; omega) 20000 (by have := hm6.out; omega))).mono ?_
  rintro e w4 ⟨rfl, hb⟩
  have HB4 := Aside0.mk (below_step HB3.out hb)
  have HS4 := Aside0.mk (Kd.S_mono (Kd.S_below HS3.out hb) (fun _ hk => hk.2))
  have HM4 := Aside0.mk (Kd.S_below HM3.out hb)
  clear hb HB3 HS3 HM3 HLD HMD
  have hbr2 := Aside0.mk (show ∀ s ∈ m, s.f2.length ≤ 1000000000 ∧ s.f3.length ≤ 1000000000 from fun s hs => by
    have h1 := Btot_mem m s hs
    have h2 := hm6.out
    omega)
  go_wp2_with fail
  refine (spoil_calls w.heap.size w2.heap.size _ m w4 HS4.out (by have := hm6.out; omega) hbr2.out).mono ?_
  rintro e w5 ⟨rfl, g, hsp⟩
  have hb := hsp.below
  have HB5 := Aside0.mk (HB4.out.trans hb)
  have HM5 := Aside0.mk (Kd.S_mono (Kd.S_step (Kd.S_bound HM4.out) (fun k hk _ => hsp.blk k (.inr hk.2.1))) (fun _ hk => hk.1))
  clear hb hsp HB4 HS4 HM4
  go_wp2_with fail
  refine (lrat_Parse.calls 0 s m e1 p1 w5 hpf.out (LT.pay HLT.out HB5.out)).mono ?_
  rintro e w6 ⟨v6, rfl, hS, hb⟩
  have HB6 := Aside0.mk (below_step HB5.out hb)
  have HM6 := Aside0.mk (Kd.S_below HM5.out hb)
  obtain ⟨A6, c6, rfl⟩ := Kd.S_slice hS
  obtain ⟨hlc, hlC⟩ := (Kd.S_reads' hS).2
  obtain ⟨hmc, hmC⟩ := (Kd.S_reads' HM6.out).2
  have HLC6 := Aside0.mk hlc
  have HLD6 := Aside0.mk hlC
  have HMD6 := Aside0.mk hmC
  clear hS hb hlc hlC hmc hmC HB5 HM5
  go_wp2_with fail
  refine (threshingref04_Same.calls 20000 _ _ m _ _ m true w6 HLD6.out HLC6.out HMD6.out HMC.out (same_f m (by have := hm6.out; omega) (by have := hm6.out; omega) 20000 (by have := hm6.out; omega))).mono ?_
  rintro e w7 ⟨rfl, hb⟩
  have HB7 := Aside0.mk (below_step HB6.out hb)
  clear hb HB6
  go_wp2_with fail
  refine (threshinglaw04_works.calls 0 true w7 (works_s 0) (LT.pay HLT.out HB7.out)).mono ?_
  rintro e w8 ⟨rfl, hb⟩
  have HB8 := Aside0.mk (below_step HB7.out hb)
  clear hb
  go_wp2_with fail
  go_ret
  exact ⟨rfl, HB8.out⟩
theorem lratReads_walk (s : ByteArray) (_ : s.size ≤ maxLen) (w : World) (hlt : LT w.heap.size w) :
    Calls Tryd.prog 4 #[.string s] w fun e w' => e = .returned (.bool true) ∧ Below w.heap.size w w' := reads_calls s w hlt
end Go.Proofs.YtfjnkbkcoakooaaDoor.PB
end
