import Derived.Test.YtmknpchmpgkdbaaDoorPOback
import Derived.Test.YtmknpchmpgkdbaaDoorFThreshingref30Number
namespace Go.Proofs.YtmknpchmpgkdbaaDoor.PB
open Go.RowKit Go.Proofs.YtmknpchmpgkdbaaDoorW.PrintWords Go.Proofs.YtmknpchmpgkdbaaDoorW.PrintLast Go.Proofs.YtmknpchmpgkdbaaDoorW.PrintMore
set_option linter.unusedVariables false
set_option linter.unusedSimpArgs false
/-! ### The reference's numbers -/
theorem Ev_succ {α : Type} {g : Nat → Option α} {r : α} (h : Ev (fun k => g (k + 1)) r) : Ev g r := Ev.step (fun _ => rfl) h
theorem wrap_cast {n : Nat} (h : n ≤ 9223372036854775806) : wrap64 ((n : Int) + 1) = ((n + 1 : Nat) : Int) := by unfold wrap64; omega
theorem wrap_id {x : Int} (h0 : -9223372036854775808 ≤ x) (h1 : x ≤ 9223372036854775807) : wrap64 x = x := by unfold wrap64; omega
theorem toBA_size (l : List UInt8) : (toBA l).size = l.length := rfl
theorem toBA_data (l : List UInt8) : (toBA l).data.toList = l := rfl
theorem toBA_extract (l : List UInt8) (a b : Nat) : (toBA l).extract a b = toBA ((l.take b).drop a) := by
  apply ByteArray.ext
  simp [toBA, List.extract_eq_take_drop]
  try rw [List.drop_take]
theorem toBA_of (s : ByteArray) : toBA s.data.toList = s := rfl
def dv (a : Nat) (D : List UInt8) : Nat := D.foldl (fun a c => a * 10 + (c.toNat - 48)) a
def Dig (D : List UInt8) : Prop := ∀ b ∈ D, 48 ≤ b.toNat ∧ b.toNat ≤ 57
theorem dv_snoc (a : Nat) (D : List UInt8) (c : UInt8) : dv a (D ++ [c]) = dv a D * 10 + (c.toNat - 48) := by simp [dv]
theorem dv_ge : ∀ (D : List UInt8) (a : Nat), a ≤ dv a D := by
  intro D
  induction D with
  | nil => intro a; exact Nat.le_refl _
  | cons c D ih => intro a; exact Nat.le_trans (by omega) (ih (a * 10 + (c.toNat - 48)))
theorem dv_lt (D : List UInt8) (h : Dig D) : ∀ a, dv a D < (a + 1) * 10 ^ D.length := by
  induction D with
  | nil => intro a; simp [dv]
  | cons c D ih =>
    intro a
    have hc := h c List.mem_cons_self
    have := ih (fun b hb => h b (List.mem_cons_of_mem _ hb)) (a * 10 + (c.toNat - 48))
    refine Nat.lt_of_lt_of_le this ?_
    rw [List.length_cons, Nat.pow_succ, Nat.mul_comm (10 ^ D.length) 10, ← Nat.mul_assoc]
    exact Nat.mul_le_mul_right _ (by omega)
theorem byte_back (c : UInt8) (h : 48 ≤ c.toNat ∧ c.toNat ≤ 57) : UInt8.ofNat (48 + (c.toNat - 48)) = c := by
  apply UInt8.toNat_inj.1
  rw [dec_byte _ (by omega)]
  omega
theorem dec_of_dig : ∀ (n : Nat) (D : List UInt8), D.length = n → Dig D → D ≠ [] → (D.length = 1 ∨ D.head? ≠ some 48) → Lib.decDigits (dv 0 D) = D := by
  intro n
  induction n with
  | zero => intro D hn _ hne; exact absurd (List.length_eq_zero_iff.1 hn) hne
  | succ n ih =>
    intro D hn hD hne hh
    obtain ⟨E, c, rfl⟩ : ∃ E c, D = E ++ [c] := ⟨D.dropLast, D.getLast hne, (List.dropLast_concat_getLast hne).symm⟩
    have hc := hD c (by simp)
    rw [dv_snoc]
    cases E with
    | nil =>
      have e0 : dv 0 [] = 0 := rfl
      rw [e0, Nat.zero_mul, Nat.zero_add, Lib.decDigits_one (by omega), byte_back c hc]
      rfl
    | cons x E =>
      have hx := hD x (by simp)
      have hx48 : x ≠ 48 := by
        rcases hh with hh | hh
        · simp at hh
        · intro e; exact hh (by rw [e]; rfl)
      have hx1 : 1 ≤ x.toNat - 48 := by
        have : x.toNat ≠ 48 := fun e => hx48 (UInt8.toNat_inj.1 e)
        omega
      have hv : 1 ≤ dv 0 (x :: E) := Nat.le_trans (by omega) (dv_ge E (0 * 10 + (x.toNat - 48)))
      rw [Lib.decDigits, dif_neg (by omega), show (dv 0 (x :: E) * 10 + (c.toNat - 48)) / 10 = dv 0 (x :: E) by omega, show (dv 0 (x :: E) * 10 + (c.toNat - 48)) % 10 = c.toNat - 48 by omega, byte_back c hc]
      rw [ih (x :: E) (by simp at hn ⊢; omega) (fun b hb => hD b (by rcases List.mem_cons.1 hb with h | h <;> simp [h])) (by simp) (.inr (by intro e; exact hx48 (by simpa using e)))]
theorem dec_shape (u : Nat) : ((Lib.decDigits u).length = 1 ∧ u < 10 ∨ (Lib.decDigits u).head? ≠ some 48 ∧ 10 ≤ u) ∧ dv 0 (Lib.decDigits u) = u := by
  induction u using Nat.strongRecOn with
  | _ u ih =>
    by_cases h : u < 10
    · rw [Lib.decDigits_one h]
      refine ⟨.inl ⟨rfl, h⟩, ?_⟩
      show 0 * 10 + ((UInt8.ofNat (48 + u)).toNat - 48) = u
      rw [dec_byte u h]
      omega
    · obtain ⟨h1, h2⟩ := ih (u / 10) (by omega)
      rw [Lib.decDigits, dif_neg h, dv_snoc, h2, dec_byte (u % 10) (by omega)]
      refine ⟨.inr ⟨?_, by omega⟩, by omega⟩
      have hne := dec_ne (u / 10)
      cases hd : Lib.decDigits (u / 10) with
      | nil => exact absurd hd hne
      | cons x r =>
        show some x ≠ some 48
        rcases h1 with ⟨h1, h3⟩ | ⟨h1, _⟩
        · rw [Lib.decDigits_one h3] at hd
          have ex : UInt8.ofNat (48 + u / 10) = x := (List.cons.inj hd).1
          intro e
          have e := Option.some.inj e
          rw [← ex] at e
          have := congrArg UInt8.toNat e
          rw [dec_byte _ (by omega)] at this
          have : 48 + u / 10 = 48 := this
          omega
        · rw [hd] at h1
          exact h1
theorem dec_len (u : Nat) (h : u ≤ 9223372036854775808) : (Lib.decDigits u).length ≤ 19 := by
  have hd := dec_digits u
  rcases Nat.lt_or_ge 19 (Lib.decDigits u).length with hl | hl
  · exfalso
    have hv := (dec_shape u).2
    have h10 : 10 ^ 19 ≤ u := by
      have hn := Lib.decDigits_length u
      rcases Nat.lt_or_ge u (10 ^ 19) with hlt | hge
      · exfalso
        have : ∀ (k u : Nat), u < 10 ^ (k + 1) → Lib.nDigits u ≤ k + 1 := by
          intro k
          induction k with
          | zero => intro u hu; rw [Lib.nDigits_small (by omega)]; exact Nat.le_refl _
          | succ k ih =>
            intro u hu
            by_cases h : u < 10
            · rw [Lib.nDigits_small h]; omega
            · rw [Lib.nDigits_big h]
              have := ih (u / 10) (by rw [Nat.pow_succ] at hu; omega)
              omega
        have := this 18 u hlt
        omega
      · exact hge
    omega
  · exact hl
def Small (v : Int) : Prop := -9223372036854775808 ≤ v ∧ v ≤ 9223372036854775807
/-- What the loop over digits gives. -/
def Rdig (D : List UInt8) (neg : Bool) : Int × Bool := if (D.all fun b => decide (48 ≤ b.toNat ∧ b.toNat ≤ 57)) = true then (if neg = true then (wrap64 (IntKind.u64.wrap (-(dv 0 D : Int))), decide ((dv 0 D : Int) ≤ 9223372036854775808)) else (wrap64 (dv 0 D : Int), decide ((dv 0 D : Int) < 9223372036854775808))) else (0, false)
theorem Rdig_ok (D : List UInt8) (neg : Bool) (h1 : (D.all fun b => decide (48 ≤ b.toNat ∧ b.toNat ≤ 57)) = true) (h2 : dv 0 D ≤ 9223372036854775808) (h3 : neg = false → dv 0 D < 9223372036854775808) : Rdig D neg = (if neg = true then -(dv 0 D : Int) else (dv 0 D : Int), true) := by
  have u : ∀ n : Int, IntKind.u64.wrap n = n % 18446744073709551616 := fun n => by simp [IntKind.wrap, IntKind.bits, IntKind.signed]
  unfold Rdig
  rw [if_pos h1]
  cases neg with
  | true =>
    simp only [if_true]
    rw [u, decide_eq_true (by omega)]
    have : wrap64 (-(dv 0 D : Int) % 18446744073709551616) = -(dv 0 D : Int) := by unfold wrap64; omega
    rw [this]
  | false =>
    have := h3 rfl
    simp only [Bool.false_eq_true, if_false]
    rw [decide_eq_true (by omega)]
    have : wrap64 (dv 0 D : Int) = (dv 0 D : Int) := by unfold wrap64; omega
    rw [this]
theorem rnum_l0 (D : List UInt8) (hl : D.length ≤ 19) (neg : Bool) (d : Nat) : ∀ (i : Nat), i + d = D.length → Dig (D.take i) →
    Ev (fun k => threshingref30_number.l0 k (toBA D) neg (dv 0 (D.take i) : Nat) (i : Int)) (Rdig D neg) := by
  induction d with
  | zero =>
    intro i hi hdig
    refine Ev_succ ?_
    have ht : D.take i = D := List.take_of_length_le (by omega)
    rw [ht] at hdig ⊢
    simp only [threshingref30_number.l0, if_neg (show ¬ ((i : Int) < ((toBA D).size : Int)) by rw [toBA_size]; omega)]
    have hall : (D.all fun b => decide (48 ≤ b.toNat ∧ b.toNat ≤ 57)) = true := List.all_eq_true.2 fun b hb => decide_eq_true (hdig b hb)
    unfold Rdig
    rw [if_pos hall]
    cases neg with
    | true => simp only [if_true]; exact Ev.now _
    | false => simp only [Bool.false_eq_true, if_false]; exact Ev.now _
  | succ d ih =>
    intro i hi hdig
    have hlt : i < D.length := by omega
    have htk : D.take (i + 1) = D.take i ++ [D[i]] := List.take_succ_eq_append_getElem hlt
    have hbt : bt (toBA D) (i : Int) = ((D[i]).toNat : Int) := by
      unfold bt
      rw [dif_pos (by rw [Int.toNat_natCast]; exact hlt)]
      rfl
    have hval := dv_lt (D.take i) hdig 0
    have hpow : 10 ^ (D.take i).length ≤ 10 ^ 18 := Nat.pow_le_pow_right (by omega) (by rw [List.length_take]; omega)
    refine Ev_succ ?_
    simp only [threshingref30_number.l0, if_pos (show ((i : Int) < ((toBA D).size : Int)) by rw [toBA_size]; omega), if_pos (show 0 ≤ (i : Int) by omega), hbt, wrap_cast (show i ≤ 9223372036854775806 by omega)]
    by_cases h1 : ((D[i]).toNat : Int) < 48
    · simp only [if_pos h1]
      unfold Rdig
      rw [if_neg (fun h => by have := of_decide_eq_true (List.all_eq_true.1 h _ (List.getElem_mem hlt)); omega)]
      exact Ev.now _
    simp only [if_neg h1]
    by_cases h2 : ((D[i]).toNat : Int) > 57
    · simp only [if_pos h2]
      unfold Rdig
      rw [if_neg (fun h => by have := of_decide_eq_true (List.all_eq_true.1 h _ (List.getElem_mem hlt)); omega)]
      exact Ev.now _
    simp only [if_neg h2]
    have hih := ih (i + 1) (by omega) (by
      rw [htk]
      intro b hb
      rcases List.mem_append.1 hb with hb | hb
      · exact hdig b hb
      · rw [List.mem_singleton.1 hb]; omega)
    rw [htk, dv_snoc] at hih
    have e : IntKind.u64.wrap ((IntKind.u64.wrap (((dv 0 (D.take i) : Nat) : Int) * 10)) + ((((D[i]).toNat : Int) - 48) % 256)) = ((dv 0 (D.take i) * 10 + ((D[i]).toNat - 48) : Nat) : Int) := by
      have u : ∀ n : Int, IntKind.u64.wrap n = n % 18446744073709551616 := fun n => by simp [IntKind.wrap, IntKind.bits, IntKind.signed]
      rw [u, u]
      have hv : dv 0 (D.take i) < 1000000000000000000 := by
        have : (10 : Nat) ^ 18 = 1000000000000000000 := by decide
        omega
      omega
    rw [e]
    exact hih
def Rbad (D : List UInt8) (neg : Bool) : Bool := decide (D = []) || decide (19 < D.length) || (decide (D.head? = some 48) && (decide (1 < D.length) || neg))
def Rnum (x : List UInt8) : Int × Bool :=
  if x.head? = some 45 then (if Rbad x.tail true = true then (0, false) else Rdig x.tail true)
  else (if Rbad x false = true then (0, false) else Rdig x false)
theorem rnum_j1 (D : List UInt8) (hl : D.length ≤ 1000000) (neg : Bool) : Ev (fun k => threshingref30_number.j1 k (toBA D) neg) (if Rbad D neg = true then (0, false) else Rdig D neg) := by
  have h2 : ∀ b : Bool, D.length ≤ 19 ∨ b = true → Ev (fun k => threshingref30_number.j2 k (toBA D) neg b) (if b = true then (0, false) else Rdig D neg) := by
    intro b hb
    refine Ev_succ ?_
    cases b with
    | true => simp only [threshingref30_number.j2, if_true]; exact Ev.now _
    | false =>
      simp only [threshingref30_number.j2, Bool.false_eq_true, if_false]
      have := rnum_l0 D (by rcases hb with h | h; exact h; cases h) neg D.length 0 (by omega) (by intro b hb; simp at hb)
      exact this
  have hnil : (toBA D).toList = ([] : List UInt8) ↔ D = [] := by rw [Lib.toList_data]; exact Iff.rfl
  refine Ev_succ ?_
  simp only [threshingref30_number.j1]
  by_cases e0 : D = []
  · simp only [if_pos (hnil.2 e0)]
    have : Rbad D neg = true := by unfold Rbad; simp [e0]
    rw [if_pos this]
    have := h2 true (.inr rfl)
    simpa using this
  simp only [if_neg (fun h => e0 (hnil.1 h))]
  by_cases e1 : ((toBA D).size : Int) > 19
  · simp only [if_pos e1]
    have : Rbad D neg = true := by unfold Rbad; rw [toBA_size] at e1; simp [show 19 < D.length by omega]
    rw [if_pos this]
    have := h2 true (.inr rfl)
    simpa using this
  simp only [if_neg e1]
  rw [toBA_size] at e1
  have hpos : 0 < D.length := List.length_pos_iff.2 e0
  simp only [if_pos (show (0 : Int) < ((toBA D).size : Int) by rw [toBA_size]; omega)]
  have hb0 : bt (toBA D) 0 = 48 ↔ D.head? = some 48 := by
    cases D with
    | nil => exact absurd rfl e0
    | cons x r =>
      have : bt (toBA (x :: r)) 0 = ((x.toNat : Nat) : Int) := by
        unfold bt
        rw [dif_pos (by exact hpos)]
        rfl
      rw [this]
      simp only [List.head?_cons, Option.some.injEq]
      constructor
      · intro h
        apply UInt8.toNat_inj.1
        show x.toNat = 48
        omega
      · rintro rfl
        rfl
  by_cases e2 : bt (toBA D) 0 = 48
  · simp only [if_pos e2]
    have hh := hb0.1 e2
    by_cases e3 : ((toBA D).size : Int) > 1
    · simp only [if_pos e3]
      rw [toBA_size] at e3
      have : Rbad D neg = true := by unfold Rbad; simp [hh, show 1 < D.length by omega]
      rw [if_pos this]
      have := h2 true (.inr rfl)
      simpa using this
    · simp only [if_neg e3]
      rw [toBA_size] at e3
      have : Rbad D neg = neg := by unfold Rbad; simp [hh, e0, show ¬ 1 < D.length by omega, show ¬ 19 < D.length by omega]
      rw [this]
      exact h2 neg (.inl (by omega))
  · simp only [if_neg e2]
    have : Rbad D neg = false := by
      unfold Rbad
      rw [decide_eq_false e0, decide_eq_false (show ¬ 19 < D.length by omega), decide_eq_false (fun h => e2 (hb0.2 h))]
      rfl
    rw [this]
    exact h2 false (.inl (by omega))
theorem rnum_ev (x : List UInt8) (hl : x.length ≤ 1000000) : Ev (fun k => threshingref30_number.f k (toBA x)) (Rnum x) := by
  unfold threshingref30_number.f
  cases x with
  | nil =>
    simp only [if_neg (show ¬ (((toBA []).size : Int) > 0) by rw [toBA_size]; simp)]
    refine Ev_succ ?_
    simp only [threshingref30_number.j0, Bool.false_eq_true, if_false]
    exact rnum_j1 [] (by simp) false
  | cons c r =>
    have hpos : ((toBA (c :: r)).size : Int) > 0 := by rw [toBA_size, List.length_cons]; omega
    simp only [if_pos hpos]
    have hb : bt (toBA (c :: r)) 0 = (c.toNat : Int) := by
      unfold bt
      rw [dif_pos (by show 0 < (c :: r).length; simp)]
      rfl
    rw [hb]
    refine Ev_succ ?_
    by_cases e : c = 45
    · subst e
      have e2 : ((((45 : UInt8).toNat : Nat) : Int) == 45) = true := by decide
      simp only [threshingref30_number.j0, e2, if_true, if_pos (show (1 : Int) ≤ ((toBA (45 :: r)).size : Int) by rw [toBA_size, List.length_cons]; omega)]
      have ex : (toBA (45 :: r)).extract 1 (toBA (45 :: r)).size = toBA r := by rw [toBA_extract, toBA_size, List.take_length]; rfl
      rw [ex]
      exact rnum_j1 r (by simp at hl; omega) true
    · have e2 : ((c.toNat : Int) == 45) = false := by
        rw [beq_eq_false_iff_ne]
        intro h
        exact e (UInt8.toNat_inj.1 (by show c.toNat = 45; omega))
      simp only [threshingref30_number.j0, e2, Bool.false_eq_true, if_false]
      have := rnum_j1 (c :: r) hl false
      unfold Rnum
      rw [if_neg (by simpa using e)]
      exact this
theorem Rnum_itoa (v : Int) (h : Small v) : Rnum (Lib.itoa v) = (v, true) := by
  obtain ⟨h0, h1⟩ := h
  have hs := dec_shape v.natAbs
  have hd := dec_digits v.natAbs
  have hl := dec_len v.natAbs (by omega)
  have hne := dec_ne v.natAbs
  have hall : ((Lib.decDigits v.natAbs).all fun b => decide (48 ≤ b.toNat ∧ b.toNat ≤ 57)) = true := List.all_eq_true.2 fun b hb => decide_eq_true (hd b hb)
  by_cases hv : v < 0
  · have e : Lib.itoa v = 45 :: Lib.decDigits v.natAbs := by unfold Lib.itoa; rw [if_pos hv]
    have hh : (Lib.decDigits v.natAbs).head? ≠ some 48 := by
      rcases hs.1 with ⟨_, h10⟩ | ⟨hh, _⟩
      · rw [Lib.decDigits_one h10]
        intro e
        have e : UInt8.ofNat (48 + v.natAbs) = 48 := Option.some.inj e
        have := congrArg UInt8.toNat e
        rw [dec_byte _ h10] at this
        have : 48 + v.natAbs = 48 := this
        omega
      · exact hh
    unfold Rnum
    rw [e, if_pos (show (45 :: Lib.decDigits v.natAbs).head? = some 45 from rfl)]
    show (if Rbad (Lib.decDigits v.natAbs) true = true then ((0 : Int), false) else Rdig (Lib.decDigits v.natAbs) true) = (v, true)
    have hbad : Rbad (Lib.decDigits v.natAbs) true = false := by
      unfold Rbad
      rw [decide_eq_false hne, decide_eq_false (show ¬ 19 < (Lib.decDigits v.natAbs).length by omega), decide_eq_false hh]
      rfl
    rw [hbad, if_neg (by simp), Rdig_ok _ _ hall (by rw [hs.2]; omega) (by intro h; cases h), hs.2, if_pos rfl]
    congr 1
    omega
  · have e : Lib.itoa v = Lib.decDigits v.natAbs := by unfold Lib.itoa; rw [if_neg hv]; congr 1; omega
    unfold Rnum
    rw [e]
    have h45 : (Lib.decDigits v.natAbs).head? ≠ some 45 := by
      cases hc : Lib.decDigits v.natAbs with
      | nil => exact absurd hc hne
      | cons c r =>
        have := hd c (by rw [hc]; simp)
        intro e
        have e : c = 45 := by simpa using e
        rw [e] at this
        exact absurd this.1 (by decide)
    rw [if_neg h45]
    have hbad : Rbad (Lib.decDigits v.natAbs) false = false := by
      unfold Rbad
      rcases hs.1 with ⟨h1', _⟩ | ⟨hh, _⟩
      · simp [hne, h1']
      · simp [hne, hh, show ¬ 19 < (Lib.decDigits v.natAbs).length by omega]
    rw [hbad, if_neg (by simp), Rdig_ok _ _ hall (by rw [hs.2]; omega) (by intro _; rw [hs.2]; omega), hs.2, if_neg (by simp)]
    congr 1
    omega
theorem Rnum_right (x : List UInt8) (h : (Rnum x).2 = true) : ∃ v, x = Lib.itoa v ∧ Small v := by
  have key : ∀ (D : List UInt8) (neg : Bool), (if Rbad D neg = true then ((0 : Int), false) else Rdig D neg).2 = true →
      Lib.decDigits (dv 0 D) = D ∧ dv 0 D ≤ 9223372036854775808 ∧ (neg = false → dv 0 D < 9223372036854775808) ∧ (neg = true → 1 ≤ dv 0 D) := by
    intro D neg h
    by_cases hb : Rbad D neg = true
    · rw [if_pos hb] at h; cases h
    rw [if_neg hb] at h
    unfold Rdig at h
    split at h
    · rename_i hc
      have hD : Dig D := fun b hb => of_decide_eq_true (List.all_eq_true.1 hc b hb)
      unfold Rbad at hb
      simp only [Bool.or_eq_true, Bool.and_eq_true, decide_eq_true_eq, not_or, not_and] at hb
      obtain ⟨⟨hne, hl⟩, hz⟩ := hb
      have hdec := dec_of_dig D.length D rfl hD hne (by
        by_cases h1 : D.length = 1
        · exact .inl h1
        · refine .inr fun e => (hz e).1 ?_
          have := List.length_pos_iff.2 hne
          omega)
      have hrange : dv 0 D ≤ 9223372036854775808 ∧ (neg = false → dv 0 D < 9223372036854775808) := by
        cases neg with
        | true =>
          simp only [if_true] at h
          have := of_decide_eq_true h
          exact ⟨by omega, fun e => by cases e⟩
        | false =>
          simp only [Bool.false_eq_true, if_false] at h
          have := of_decide_eq_true h
          exact ⟨by omega, fun _ => by omega⟩
      refine ⟨hdec, hrange.1, hrange.2, fun hn => ?_⟩
      rcases Nat.eq_zero_or_pos (dv 0 D) with h0 | h0
      · exfalso
        rw [h0, Lib.decDigits_one (by omega)] at hdec
        exact (hz (by rw [← hdec]; rfl)).2 hn
      · exact h0
    · cases h
  unfold Rnum at h
  by_cases h45 : x.head? = some 45
  · rw [if_pos h45] at h
    obtain ⟨h1, h2, _, h3⟩ := key x.tail true h
    have h3 := h3 rfl
    have ex : x = 45 :: x.tail := by
      cases x with
      | nil => cases h45
      | cons c r => rw [show c = 45 by simpa using h45]; rfl
    refine ⟨-(dv 0 x.tail : Int), ?_, by unfold Small; omega⟩
    unfold Lib.itoa
    rw [if_pos (by omega), show (-((dv 0 x.tail : Nat) : Int)).natAbs = dv 0 x.tail by omega, h1]
    exact ex
  · rw [if_neg h45] at h
    obtain ⟨h1, h2, h3, _⟩ := key x false h
    have h3 := h3 rfl
    refine ⟨(dv 0 x : Int), ?_, by unfold Small; omega⟩
    unfold Lib.itoa
    rw [if_neg (by omega), show ((dv 0 x : Nat) : Int).toNat = dv 0 x by omega, h1]
/-- The reference's number is the program's. -/
theorem oNum_Rnum (x : List UInt8) : oNum x = if (Rnum x).2 = true then some (Rnum x).1 else none := by
  by_cases h : (Rnum x).2 = true
  · rw [if_pos h]
    obtain ⟨v, rfl, hv⟩ := Rnum_right x h
    rw [Rnum_itoa v hv, oNum_itoa v hv.1 hv.2]
  · rw [if_neg h]
    cases hn : oNum x with
    | none => rfl
    | some v =>
      exfalso
      unfold oNum at hn
      split at hn
      · rename_i u hu
        split at hn
        · rename_i he
          have hb := Lib.parseIntB_bounds hu
          have hs : Small u := ⟨by have := hb.1; simp at this; omega, by have := hb.2; simp at this; omega⟩
          rw [← he, Rnum_itoa u hs] at h
          exact h rfl
        · cases hn
      · cases hn
end Go.Proofs.YtmknpchmpgkdbaaDoor.PB
