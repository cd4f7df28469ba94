import Derived.Test.YtlimaebaagabaaaPure4a
import Derived.Test.YtlimaebaagabaaaFThreshingref05Parse
import Derived.Test.YtlimaebaagabaaaHLib
import Derived.Test.YtlimaebaagabaaaSpecw
import Derived.Test.YtlimaebaagabaaaHBytes
section
namespace Go.Proofs.Ytlimaebaagabaaa.PB
open Go.RowKit Go.Proofs.YtlimaebaagabaaaW.PrintWords Go.Proofs.YtlimaebaagabaaaW.PrintLast Go.Proofs.YtlimaebaagabaaaW.PrintMore
set_option linter.unusedVariables false
set_option linter.unusedSimpArgs false

/-! ### get -/
def gres (n : Nat) : Option (Int × Bool × List Int) → Int × Int × Bool
  | some (v, false, r) => (v, (n : Int) - r.length, true)
  | _ => (0, 0, false)
theorem shl_7 (x : Nat) (hx : x ≤ 8) (y : Int) : shl .u64 y (7 * (x : Int)) = IntKind.u64.wrap (y * 2 ^ (7 * (x : Int)).toNat) := by
  unfold shl
  rw [Nat.min_eq_left]
  show (7 * (x : Int)).toNat ≤ 64
  omega
theorem drop_nat (l : List Int) (i : Nat) (h : i < l.length) : l.drop i = rd l (i : Int) :: l.drop (i + 1) := by
  rw [List.drop_eq_getElem_cons h, rd_nat l i h]
theorem rget_j2 (at_ cd : Int) (x : Int) (N : Int) (h : wrap64 (wrap64 (at_ + x) + 1) = N) (b : Bool) : Ev (fun k => threshingref05_get.j2 k at_ cd x b) (if b = true then (0, 0, false) else (Bval cd, N, true)) := by
  refine Ev_succ ?_
  cases b with
  | true => simp only [threshingref05_get.j2, if_true]; exact Ev.now _
  | false =>
    simp only [threshingref05_get.j2, Bool.false_eq_true, if_false, h]
    unfold Bval
    by_cases c : Go.bits .and .u64 cd 1 = 1
    · simp only [if_pos c]; exact Ev.now _
    · simp only [if_neg c]; exact Ev.now _
theorem rget_l0 (L : List Int) (hL : L.length ≤ 100000) (hB : Bytes L) (a : Nat) (ha : a ≤ L.length) (d : Nat) : ∀ (x : Nat) (code : Int), x + d = 9 → Ev (fun k => threshingref05_get.l0 k L (a : Int) code (x : Int)) (gres L.length (Bnum x code (L.drop (a + x)))) := by
  induction d with
  | zero =>
    intro x code hx
    have h9 : Bnum (x : Int) code (L.drop (a + x)) = none := by
      obtain rfl : x = 9 := by omega
      cases L.drop (a + 9) with
      | nil => rfl
      | cons b r => rw [Bnum, if_pos (by rfl)]
    rw [h9]
    refine Ev_succ ?_
    simp only [threshingref05_get.l0, if_neg (show ¬ ((x : Int) < 9) by omega)]
    refine Ev_succ ?_
    simp only [threshingref05_get.j1, Bool.false_eq_true, if_false]
    exact Ev.now _
  | succ d ih =>
    intro x code hx
    have hx8 : (x : Int) < 9 := by omega
    by_cases hlt : a + x < L.length
    · have q1 : (a : Int) + (x : Int) < (L.length : Int) := by omega
      have q0 : 0 ≤ (a : Int) + (x : Int) := by omega
      have q7 : 0 ≤ 7 * (x : Int) := by omega
      have qx : x ≤ 8 := by omega
      have qn : ¬ ((x : Int) = 9) := by omega
      have hi : ∀ cd, Ev (fun k => threshingref05_get.l0 k L (a : Int) cd ((x + 1 : Nat) : Int)) (gres L.length (Bnum ((x + 1 : Nat) : Int) cd (L.drop (a + (x + 1))))) := fun cd => ih (x + 1) cd (by omega)
      have w1 : wrap64 ((a : Int) + (x : Int)) = (a : Int) + (x : Int) := wrap_id (by omega) (by omega)
      have w2 : wrap64 (7 * (x : Int)) = 7 * (x : Int) := wrap_id (by omega) (by omega)
      have w3 : wrap64 ((a : Int) + (x : Int) + 1) = ((L.length : Int) - ((L.drop (a + x + 1)).length : Int)) := by
        rw [wrap_id (by omega) (by omega), List.length_drop]
        omega
      have ec : ((a + x : Nat) : Int) = (a : Int) + (x : Int) := by omega
      have ex : ((x + 1 : Nat) : Int) = (x : Int) + 1 := by omega
      have w4 : wrap64 ((x : Int) + 1) = (x : Int) + 1 := wrap_id (by omega) (by omega)
      rw [drop_nat L (a + x) hlt, ec]
      have hb := hB (rd L ((a : Int) + (x : Int))) (by rw [← ec, rd_nat L (a + x) hlt]; exact List.getElem_mem _)
      obtain ⟨b, hbe⟩ : ∃ b, b = rd L ((a : Int) + (x : Int)) := ⟨_, rfl⟩
      rw [← hbe] at hb ⊢
      rw [Bnum, if_neg qn]
      obtain ⟨cd, hcd⟩ : ∃ cd, cd = Bacc (x : Int) code b := ⟨_, rfl⟩
      rw [← hcd]
      have hcd' : Go.bits .or .u64 code (shl .u64 (IntKind.u64.wrap (Go.bits .and .u8 b 127)) (7 * (x : Int))) = cd := by rw [hcd, shl_7 x qx]; rfl
      have hj2 : ∀ bb, Ev (fun k => threshingref05_get.j2 k (a : Int) cd (x : Int) bb) (if bb = true then (0, 0, false) else (Bval cd, (L.length : Int) - ((L.drop (a + x + 1)).length : Int), true)) :=
        fun bb => rget_j2 (a : Int) cd (x : Int) _ (by rw [w1, w3]) bb
      have hge : (b ≥ 128) ↔ (b / 128 = 1) := by obtain ⟨h0, h1⟩ := hb; omega
      have hbb : b < 128 → (b / 128 = 1 → False) := fun h => by obtain ⟨h0, h1⟩ := hb; omega
      refine Ev_succ ?_
      simp only [threshingref05_get.l0, if_pos hx8, w1, decide_eq_true q1]
      refine Ev_succ ?_
      simp only [threshingref05_get.j1, if_true, w1, if_pos q0, if_pos q1, w2, if_pos q7, ← hbe, hcd']
      by_cases hc : b / 128 = 1
      · simp only [if_pos (hge.2 hc), if_pos hc, w4]
        have := hi cd
        rw [ex] at this
        exact this
      · simp only [if_neg (fun h => hc (hge.1 h)), if_neg hc]
        have fin : ∀ bb, bb = Bbad (x : Int) b cd → Ev (fun k => threshingref05_get.j2 k (a : Int) cd (x : Int) bb) (gres L.length (some (Bval cd, Bbad (x : Int) b cd, L.drop (a + x + 1)))) := by
          rintro bb rfl
          have := hj2 (Bbad (x : Int) b cd)
          cases hq : Bbad (x : Int) b cd with
          | true => rw [hq] at this; exact this
          | false => rw [hq] at this; exact this
        by_cases hz : b = 0
        · have z1 : (b == 0) = true := beq_iff_eq.mpr hz
          by_cases hp : (x : Int) > 0
          · simp only [if_pos hz, if_pos hp]
            exact fin true (by unfold Bbad; rw [z1, decide_eq_true (show 0 < (x : Int) from hp)]; rfl)
          · by_cases h1 : cd = 1
            · simp only [if_pos hz, if_neg hp, if_pos h1]
              exact fin true (by unfold Bbad; rw [beq_iff_eq.mpr h1]; simp)
            · simp only [if_pos hz, if_neg hp, if_neg h1]
              exact fin _ (by unfold Bbad; rw [decide_eq_false (show ¬ 0 < (x : Int) from hp), beq_eq_false_iff_ne.mpr h1]; simp)
        · have z1 : (b == 0) = false := beq_eq_false_iff_ne.mpr hz
          by_cases h1 : cd = 1
          · simp only [if_neg hz, if_pos h1]
            exact fin true (by unfold Bbad; rw [beq_iff_eq.mpr h1]; simp)
          · simp only [if_neg hz, if_neg h1]
            exact fin _ (by unfold Bbad; rw [z1, beq_eq_false_iff_ne.mpr h1]; simp)
    · have q1 : ¬ (a : Int) + (x : Int) < (L.length : Int) := by omega
      have hd : L.drop (a + x) = [] := List.drop_of_length_le (by omega)
      have w1 : wrap64 ((a : Int) + (x : Int)) = (a : Int) + (x : Int) := wrap_id (by omega) (by omega)
      rw [hd, Bnum]
      refine Ev_succ ?_
      simp only [threshingref05_get.l0, if_pos hx8, w1, decide_eq_false q1]
      refine Ev_succ ?_
      simp only [threshingref05_get.j1, Bool.false_eq_true, if_false]
      exact Ev.now _
/-- The number at a place: what stands ahead of it is p. -/
theorem rget_ev (p q : List Int) (hL : (p ++ q).length ≤ 100000) (hB : Bytes (p ++ q)) :
    Ev (fun k => threshingref05_get.f k (p ++ q) (p.length : Int)) (if (Bnumber q).2.1 = true then (0, 0, false) else ((Bnumber q).1, ((p ++ q).length : Int) - ((Bnumber q).2.2.length : Int), true)) := by
  have h := rget_l0 (p ++ q) hL hB p.length (by rw [List.length_append]; omega) 9 0 0 (by omega)
  have e : (p ++ q).drop (p.length + 0) = q := by simp
  rw [e] at h
  unfold threshingref05_get.f
  have e2 : gres (p ++ q).length (Bnum ((0 : Nat) : Int) 0 q) = (if (Bnumber q).2.1 = true then (0, 0, false) else ((Bnumber q).1, ((p ++ q).length : Int) - ((Bnumber q).2.2.length : Int), true)) := by
    unfold Bnumber
    show gres _ (Bnum 0 0 q) = _
    rcases Bnum 0 0 q with _ | ⟨v, b, r⟩
    · rfl
    · cases b <;> rfl
  rw [e2] at h
  exact h

/-! ### rows -/
/-- The numbers up to a 0, and what follows. -/
def rowN : Nat → List Int → Option (List Int × List Int)
  | 0, _ => none
  | k + 1, q => if (Bnumber q).2.1 = true then none else if (Bnumber q).1 = 0 then some ([], (Bnumber q).2.2) else (rowN k (Bnumber q).2.2).map (fun x => ((Bnumber q).1 :: x.1, x.2))
theorem Bnumber_suffix (q : List Int) (hB : Bytes q) (h : (Bnumber q).2.1 = false) : q = Bput (Bnumber q).1 ++ (Bnumber q).2.2 := (Bnumber_inv q hB (Bnumber q).1 (Bnumber q).2.2 (by rw [← h])).2
theorem rrow_l0 : ∀ (d : Nat) (p q acc : List Int), q.length < d → (p ++ q).length ≤ 100000 → Bytes (p ++ q) → acc.length + q.length ≤ 100000 →
    Ev (fun k => threshingref05_row.l0 k (p ++ q) (p.length : Int) acc) (match rowN d q with | none => ([], 0, false) | some x => (acc ++ x.1, ((p ++ q).length : Int) - (x.2.length : Int), true)) := by
  intro d
  induction d with
  | zero => intro p q acc hd; omega
  | succ d ih =>
    intro p q acc hd hL hB hacc
    have hg := rget_ev p q hL hB
    refine Ev_succ ?_
    simp only [threshingref05_row.l0]
    refine Ev.bind hg ?_
    rw [rowN]
    cases hb : (Bnumber q).2.1 with
    | true =>
      simp only [if_true, Bool.false_eq_true, if_false]
      exact Ev.now _
    | false =>
      simp only [Bool.false_eq_true, if_false, if_true]
      by_cases h0 : (Bnumber q).1 = 0
      · simp only [if_pos h0]
        simpa using Ev.now _
      · simp only [if_neg h0, if_pos (show acc.length < 17592186044416 by omega)]
        have hBq : Bytes q := hB.append_right
        have hlen := (Bnumber_length q).2 hb
        have hs := Bnumber_suffix q hBq hb
        obtain ⟨n, hn⟩ : ∃ n, n = (Bnumber q).1 := ⟨_, rfl⟩
        obtain ⟨r, hr⟩ : ∃ r, r = (Bnumber q).2.2 := ⟨_, rfl⟩
        rw [← hn, ← hr] at hs ⊢
        rw [← hr] at hlen
        have hpq : p ++ q = (p ++ Bput n) ++ r := by rw [List.append_assoc, ← hs]
        have hat : ((p ++ q).length : Int) - (r.length : Int) = ((p ++ Bput n).length : Int) := by
          have hll : (p ++ q).length = (p ++ Bput n).length + r.length := by rw [hpq]; exact List.length_append
          omega
        have hi := ih (p ++ Bput n) r (acc ++ [n]) (by omega) (by rw [← hpq]; exact hL) (by rw [← hpq]; exact hB) (by rw [List.length_append, List.length_singleton]; omega)
        rw [← hpq, ← hat] at hi
        cases hrow : rowN d r with
        | none => rw [hrow] at hi; simpa using hi
        | some x => rw [hrow] at hi; simpa using hi
theorem rrow_ev (p q : List Int) (hL : (p ++ q).length ≤ 100000) (hB : Bytes (p ++ q)) :
    Ev (fun k => threshingref05_row.f k (p ++ q) (p.length : Int)) (match rowN (q.length + 1) q with | none => ([], 0, false) | some x => (x.1, ((p ++ q).length : Int) - (x.2.length : Int), true)) := by
  have := rrow_l0 (q.length + 1) p q [] (by omega) hL hB (by rw [List.length_append] at hL; simp; omega)
  unfold threshingref05_row.f
  simpa using this
theorem BH_bad (k : Nat) (n : Int) (bs : List Int) (s : S43) : BH k n bs s true = (bs, s, true) := by
  cases k with
  | zero => rfl
  | succ k => rw [BH, if_neg (by simp)]
theorem BL_bad (k : Nat) (n : Int) (bs : List Int) (s : S43) : BL k n bs s true = (bs, s, true) := by
  cases k with
  | zero => rfl
  | succ k => rw [BL, if_neg (by simp)]
theorem BH_row : ∀ (d : Nat) (q : List Int) (s : S43) (k : Nat), q.length < d → q.length < k →
    match rowN d q with | none => (BH k (Bnumber q).1 (Bnumber q).2.2 s (Bnumber q).2.1).2.2 = true | some x => BH k (Bnumber q).1 (Bnumber q).2.2 s (Bnumber q).2.1 = (x.2, ⟨s.f0, s.f1, s.f2, s.f3 ++ x.1⟩, false) := by
  intro d
  induction d with
  | zero => intro q s k hd; omega
  | succ d ih =>
    intro q s k hd hk
    obtain ⟨k, rfl⟩ : ∃ m, k = m + 1 := ⟨k - 1, by omega⟩
    rw [rowN]
    cases hb : (Bnumber q).2.1 with
    | true => simp only [if_true]; rw [BH_bad]
    | false =>
      simp only [Bool.false_eq_true, if_false]
      by_cases h0 : (Bnumber q).1 = 0
      · simp only [if_pos h0]
        rw [BH, if_neg (by simp [h0])]
        simp
      · simp only [if_neg h0]
        have hlen := (Bnumber_length q).2 hb
        have hi := ih (Bnumber q).2.2 (addH s (Bnumber q).1) k (by omega) (by omega)
        rw [BH, if_pos ⟨h0, rfl⟩]
        simp only [Bool.false_or]
        cases hrow : rowN d (Bnumber q).2.2 with
        | none => rw [hrow] at hi; simpa using hi
        | some x => rw [hrow] at hi; simp only [Option.map_some]; rw [hi]; simp [addH]
theorem BL_row : ∀ (d : Nat) (q : List Int) (s : S43) (k : Nat), q.length < d → q.length < k →
    match rowN d q with | none => (BL k (Bnumber q).1 (Bnumber q).2.2 s (Bnumber q).2.1).2.2 = true | some x => if x.1.any outL = true then (BL k (Bnumber q).1 (Bnumber q).2.2 s (Bnumber q).2.1).2.2 = true else BL k (Bnumber q).1 (Bnumber q).2.2 s (Bnumber q).2.1 = (x.2, ⟨s.f0, s.f1, s.f2 ++ x.1.map wrap32, s.f3⟩, false) := by
  intro d
  induction d with
  | zero => intro q s k hd; omega
  | succ d ih =>
    intro q s k hd hk
    obtain ⟨k, rfl⟩ : ∃ m, k = m + 1 := ⟨k - 1, by omega⟩
    rw [rowN]
    cases hb : (Bnumber q).2.1 with
    | true => simp only [if_true]; rw [BL_bad]
    | false =>
      simp only [Bool.false_eq_true, if_false]
      by_cases h0 : (Bnumber q).1 = 0
      · simp only [if_pos h0]
        have hBL : BL (k + 1) (Bnumber q).1 (Bnumber q).2.2 s false = ((Bnumber q).2.2, s, false) := by rw [BL, if_neg (by simp [h0])]
        rw [hBL]
        simp
      · simp only [if_neg h0]
        have hlen := (Bnumber_length q).2 hb
        have hi := ih (Bnumber q).2.2 (addL s (Bnumber q).1) k (by omega) (by omega)
        rw [BL, if_pos ⟨h0, rfl⟩]
        cases ho : outL (Bnumber q).1 with
        | true =>
          simp only [Bool.false_or, Bool.true_or]
          rw [BL_bad]
          cases hrow : rowN d (Bnumber q).2.2 with
          | none => simp
          | some x => simp [ho]
        | false =>
          simp only [Bool.false_or]
          cases hrow : rowN d (Bnumber q).2.2 with
          | none => rw [hrow] at hi; simpa using hi
          | some x =>
            rw [hrow] at hi
            simp only [Option.map_some, List.any_cons, ho, Bool.false_or] at hi ⊢
            split
            · rename_i hany; rw [if_pos hany] at hi; exact hi
            · rename_i hany; rw [if_neg hany] at hi; rw [hi]; simp [addL]
end Go.Proofs.Ytlimaebaagabaaa.PB
end

section
namespace Go.Proofs.Ytlimaebaagabaaa.PB
open Go.RowKit Go.Proofs.YtlimaebaagabaaaW.PrintWords Go.Proofs.YtlimaebaagabaaaW.PrintLast Go.Proofs.YtlimaebaagabaaaW.PrintMore
set_option linter.unusedVariables false
set_option linter.unusedSimpArgs false
theorem rowN_suffix : ∀ (d : Nat) (q : List Int) (x : List Int × List Int), Bytes q → rowN d q = some x → (∃ m, q = m ++ x.2) ∧ x.1.length + x.2.length + 1 ≤ q.length := by
  intro d
  induction d with
  | zero => intro q x hB h; simp [rowN] at h
  | succ d ih =>
    intro q x hB h
    rw [rowN] at h
    cases hb : (Bnumber q).2.1 with
    | true => rw [hb] at h; simp at h
    | false =>
      rw [hb] at h
      simp only [Bool.false_eq_true, if_false] at h
      have hs := Bnumber_suffix q hB hb
      have hlen := (Bnumber_length q).2 hb
      by_cases h0 : (Bnumber q).1 = 0
      · rw [if_pos h0] at h
        cases h
        exact ⟨⟨_, hs⟩, by simp; omega⟩
      · rw [if_neg h0] at h
        have hB2 : Bytes (Bnumber q).2.2 := by
          rw [hs] at hB
          exact hB.append_right
        cases hrow : rowN d (Bnumber q).2.2 with
        | none => rw [hrow] at h; simp at h
        | some y =>
          rw [hrow] at h
          simp only [Option.map_some, Option.some.injEq] at h
          obtain ⟨⟨m, hm⟩, hl⟩ := ih (Bnumber q).2.2 y hB2 hrow
          rw [← h]
          refine ⟨⟨Bput (Bnumber q).1 ++ m, ?_⟩, ?_⟩
          · show q = (Bput (Bnumber q).1 ++ m) ++ y.2
            rw [List.append_assoc, ← hm]
            exact hs
          · show ((Bnumber q).1 :: y.1).length + y.2.length + 1 ≤ q.length
            rw [List.length_cons]
            omega
theorem rone_l0 (L : List Int) (lits : List Int) (at_ a n : Int) (R : Int × Int × List Int × List Int × Int × Bool) (hn : lits.length ≤ 100000) (d : Nat) : ∀ (i : Nat) (acc : List Int), i + d = lits.length → acc.length = i →
    Ev (fun k => (threshingref05_row.f k L at_).bind fun bt171 => (if bt171.2.2 = true then ((threshingref04_May.f k a n (acc ++ (lits.drop i).map wrap32) bt171.1).bind fun t176 => (some (a, n, acc ++ (lits.drop i).map wrap32, bt171.1, bt171.2.1, t176))) else (some (a, n, acc ++ (lits.drop i).map wrap32, bt171.1, bt171.2.1, false)))) R →
    Ev (fun k => threshingref05_one.l0 k L lits at_ true (i : Int) a n acc) (if (lits.drop i).any outL = true then (0, 0, [], [], 0, false) else R) := by
  induction d with
  | zero =>
    intro i acc hd ha hR
    have hdr : lits.drop i = [] := List.drop_of_length_le (by omega)
    rw [hdr] at hR ⊢
    simp only [List.map_nil, List.append_nil] at hR
    refine Ev_succ ?_
    simp only [threshingref05_one.l0, if_neg (show ¬ ((i : Int) < (lits.length : Int)) by omega), if_true]
    simpa using hR
  | succ d ih =>
    intro i acc hd ha hR
    have hlt : i < lits.length := by omega
    have hdr := drop_nat lits i hlt
    rw [hdr] at hR ⊢
    obtain ⟨v, hv⟩ : ∃ v, v = rd lits (i : Int) := ⟨_, rfl⟩
    rw [← hv] at hR ⊢
    have hi := ih (i + 1) (acc ++ [wrap32 v]) (by omega) (by rw [List.length_append, List.length_singleton]; omega) (by
      have e : acc ++ [wrap32 v] ++ (lits.drop (i + 1)).map wrap32 = acc ++ (v :: lits.drop (i + 1)).map wrap32 := by simp
      rw [e]
      exact hR)
    have q0 : (i : Int) < (lits.length : Int) := by omega
    have q1 : 0 ≤ (i : Int) := by omega
    have q2 : acc.length < 35184372088832 := by omega
    have ei : ((i + 1 : Nat) : Int) = (i : Int) + 1 := by omega
    rw [ei] at hi
    refine Ev_succ ?_
    have w1 : wrap64 ((i : Int) + 1) = (i : Int) + 1 := wrap_id (by omega) (by omega)
    simp only [threshingref05_one.l0, if_pos q0, if_pos q1, ← hv, if_pos q2, w1, List.any_cons]
    by_cases h1 : v > 1048576
    · have ho : outL v = true := by unfold outL; simp [h1]
      simp only [if_pos h1, ho, Bool.true_or, if_true]
      exact Ev.now _
    · by_cases h2 : v < (-1048576)
      · have ho : outL v = true := by unfold outL; simp [h2]
        simp only [if_neg h1, if_pos h2, ho, Bool.true_or, if_true]
        exact Ev.now _
      · have ho : outL v = false := by unfold outL; simp; omega
        simp only [if_neg h1, if_neg h2, ho, Bool.false_or]
        exact hi
/-- What one returns where it is one. -/
def one6 (n : Nat) (x : List Int × S43 × Bool) : Int × Int × List Int × List Int × Int × Bool := (x.2.1.f0, x.2.1.f1, x.2.1.f2, x.2.1.f3, (n : Int) - x.1.length, true)
def OneIs (n : Nat) (q : List Int) (res : Int × Int × List Int × List Int × Int × Bool) (B : Bool × List Int × S43 × Bool) : Prop :=
  res.2.2.2.2.2 = B.1 ∧ (B.1 = true → res = one6 n B.2 ∧ (∃ m, q = m ++ B.2.1) ∧ B.2.2.1.f2.length + B.2.2.1.f3.length + B.2.1.length + 1 ≤ q.length)
theorem rone_tailH (p q : List Int) (a n : Int) (lits : List Int) (hL : (p ++ q).length ≤ 100000) (hB : Bytes (p ++ q)) (hlits : lits.length ≤ 100000) :
    ∃ res, Ev (fun k => (threshingref05_row.f k (p ++ q) (p.length : Int)).bind fun bt171 => (if bt171.2.2 = true then ((threshingref04_May.f k a n lits bt171.1).bind fun t176 => (some (a, n, lits, bt171.1, bt171.2.1, t176))) else (some (a, n, lits, bt171.1, bt171.2.1, false)))) res ∧
      res.2.2.2.2.2 = (!(BrowH q ⟨a, n, lits, []⟩ false).2.2 && Bmay (BrowH q ⟨a, n, lits, []⟩ false).2.1) ∧
      (res.2.2.2.2.2 = true → res = one6 (p ++ q).length (BrowH q ⟨a, n, lits, []⟩ false) ∧ (∃ m, q = m ++ (BrowH q ⟨a, n, lits, []⟩ false).1) ∧ (BrowH q ⟨a, n, lits, []⟩ false).2.1.f2 = lits ∧ (BrowH q ⟨a, n, lits, []⟩ false).2.1.f3.length + (BrowH q ⟨a, n, lits, []⟩ false).1.length + 1 ≤ q.length) := by
  have hBq : Bytes q := hB.append_right
  have hr := rrow_ev p q hL hB
  have hh := BH_row (q.length + 1) q ⟨a, n, lits, []⟩ (q.length + 2) (by omega) (by omega)
  have eH : BrowH q ⟨a, n, lits, []⟩ false = BH (q.length + 2) (Bnumber q).1 (Bnumber q).2.2 ⟨a, n, lits, []⟩ (Bnumber q).2.1 := by unfold BrowH; rw [Bool.false_or]
  rw [← eH] at hh
  cases hrow : rowN (q.length + 1) q with
  | none =>
    rw [hrow] at hr hh
    simp only at hr hh
    refine ⟨(a, n, lits, [], 0, false), Ev.bind hr ?_, ?_, ?_⟩
    · simp only [Bool.false_eq_true, if_false]; exact Ev.now _
    · rw [hh]; rfl
    · intro h; simp at h
  | some x =>
    rw [hrow] at hr hh
    simp only at hr hh
    obtain ⟨hm, hl⟩ := rowN_suffix _ q x hBq hrow
    have hq : q.length ≤ 100000 := by rw [List.length_append] at hL; omega
    rw [hh]
    simp only [List.nil_append]
    refine ⟨(a, n, lits, x.1, ((p ++ q).length : Int) - (x.2.length : Int), Bmay ⟨a, n, lits, x.1⟩), Ev.bind hr ?_, ?_, ?_⟩
    · simp only [if_true]
      refine Ev.bind (rmay_ev ⟨a, n, lits, x.1⟩ (by show lits.length ≤ _; omega) (by show x.1.length ≤ _; omega)) ?_
      exact Ev.now _
    · simp
    · intro h
      have h' : Bmay ⟨a, n, lits, x.1⟩ = true := h
      refine ⟨?_, hm, trivial, hl⟩
      rw [h']
      rfl
theorem BrowH_bad (bs : List Int) (s : S43) : (BrowH bs s true).2.2 = true := by unfold BrowH; rw [Bool.true_or, BH_bad]
theorem BrowL_bad (bs : List Int) (s : S43) : (BrowL bs s true).2.2 = true := by unfold BrowL; rw [Bool.true_or, BL_bad]
theorem rone_A (p r : List Int) (n : Int) (hL : (p ++ r).length ≤ 100000) (hB : Bytes (p ++ r)) :
    ∃ res, Ev (fun k => (threshingref05_row.f k (p ++ r) (p.length : Int)).bind fun bt160 => threshingref05_one.l0 k (p ++ r) bt160.1 bt160.2.1 bt160.2.2 0 1 n ([] : List Int)) res ∧
      OneIs (p ++ r).length r res (!(let q := BrowL r ⟨1, n, [], []⟩ false; BrowH q.1 q.2.1 q.2.2).2.2 && Bmay (let q := BrowL r ⟨1, n, [], []⟩ false; BrowH q.1 q.2.1 q.2.2).2.1, (let q := BrowL r ⟨1, n, [], []⟩ false; BrowH q.1 q.2.1 q.2.2)) := by
  have hBr : Bytes r := hB.append_right
  have hr := rrow_ev p r hL hB
  have hh := BL_row (r.length + 1) r ⟨1, n, [], []⟩ (r.length + 2) (by omega) (by omega)
  have eL : BrowL r ⟨1, n, [], []⟩ false = BL (r.length + 2) (Bnumber r).1 (Bnumber r).2.2 ⟨1, n, [], []⟩ (Bnumber r).2.1 := by unfold BrowL; rw [Bool.false_or]
  rw [← eL] at hh
  simp only
  cases hrow : rowN (r.length + 1) r with
  | none =>
    rw [hrow] at hr hh
    simp only at hr hh
    refine ⟨(0, 0, [], [], 0, false), Ev.bind hr ?_, ?_, ?_⟩
    · refine Ev_succ ?_
      simp only [threshingref05_one.l0, List.length_nil, if_neg (show ¬ ((0 : Int) < ((0 : Nat) : Int)) by omega), Bool.false_eq_true, if_false]
      exact Ev.now _
    · rw [hh, BrowH_bad]; rfl
    · intro h; rw [hh, BrowH_bad] at h; simp at h
  | some x =>
    rw [hrow] at hr hh
    simp only at hr hh
    obtain ⟨⟨m, hm⟩, hl⟩ := rowN_suffix _ r x hBr hrow
    have hrl : r.length ≤ 100000 := by rw [List.length_append] at hL; omega
    have epr : p ++ r = (p ++ m) ++ x.2 := by rw [List.append_assoc, ← hm]
    obtain ⟨res, hev, hfl, hok⟩ := rone_tailH (p ++ m) x.2 1 n (x.1.map wrap32) (by rw [← epr]; exact hL) (by rw [← epr]; exact hB) (by rw [List.length_map]; omega)
    have hat : ((p ++ r).length : Int) - (x.2.length : Int) = ((p ++ m).length : Int) := by
      have hll : (p ++ r).length = (p ++ m).length + x.2.length := by rw [epr]; exact List.length_append
      omega
    rw [← epr, ← hat] at hev
    rw [← epr] at hok
    have hl0 := rone_l0 (p ++ r) x.1 (((p ++ r).length : Int) - (x.2.length : Int)) 1 n res (by omega) x.1.length 0 [] (by omega) rfl (by simpa using hev)
    rw [List.drop_zero] at hl0
    by_cases hany : x.1.any outL = true
    · rw [if_pos hany] at hl0 hh
      refine ⟨(0, 0, [], [], 0, false), Ev.bind hr ?_, ?_, ?_⟩
      · exact hl0
      · rw [hh, BrowH_bad]; rfl
      · intro h; rw [hh, BrowH_bad] at h; simp at h
    · rw [if_neg hany] at hl0 hh
      rw [hh]
      simp only [List.nil_append]
      refine ⟨res, Ev.bind hr hl0, hfl, ?_⟩
      intro h
      obtain ⟨e1, ⟨m2, e2⟩, e3, e4⟩ := hok (hfl.trans h)
      refine ⟨e1, ⟨m ++ m2, by rw [List.append_assoc, ← e2]; exact hm⟩, ?_⟩
      dsimp only
      rw [e3, List.length_map]
      omega
theorem rone_D (p r : List Int) (n : Int) (hL : (p ++ r).length ≤ 100000) (hB : Bytes (p ++ r)) :
    ∃ res, Ev (fun k => (threshingref05_row.f k (p ++ r) (p.length : Int)).bind fun bt177 => (if bt177.2.2 = true then ((threshingref04_May.f k 2 n ([] : List Int) bt177.1).bind fun t182 => (some (2, n, ([] : List Int), bt177.1, bt177.2.1, t182))) else (some (2, n, ([] : List Int), bt177.1, bt177.2.1, false)))) res ∧
      OneIs (p ++ r).length r res (!(BrowH r ⟨2, n, [], []⟩ false).2.2 && Bmay (BrowH r ⟨2, n, [], []⟩ false).2.1, BrowH r ⟨2, n, [], []⟩ false) := by
  obtain ⟨res, hev, hfl, hok⟩ := rone_tailH p r 2 n [] hL hB (by simp)
  refine ⟨res, hev, hfl, ?_⟩
  intro h
  obtain ⟨e1, e2, e3, e4⟩ := hok (hfl.trans h)
  refine ⟨e1, e2, ?_⟩
  dsimp only
  rw [e3]
  simpa using e4
theorem OneIs.mono {n : Nat} {m q : List Int} {res} {B} (h : OneIs n q res B) : OneIs n (m ++ q) res B := by
  refine ⟨h.1, fun hb => ?_⟩
  obtain ⟨e1, ⟨m2, e2⟩, e3⟩ := h.2 hb
  refine ⟨e1, ⟨m ++ m2, by rw [List.append_assoc, ← e2]⟩, ?_⟩
  rw [List.length_append]
  omega
theorem rone_ev (p q : List Int) (hq : 0 < q.length) (hL : (p ++ q).length ≤ 100000) (hB : Bytes (p ++ q)) :
    ∃ res, Ev (fun k => threshingref05_one.f k (p ++ q) (p.length : Int)) res ∧ OneIs (p ++ q).length q res (Bone q) := by
  obtain ⟨b, r, rfl⟩ : ∃ b r, q = b :: r := by
    cases q with
    | nil => simp at hq
    | cons b r => exact ⟨b, r, rfl⟩
  have e0 : rd (p ++ b :: r) (p.length : Int) = b := by
    rw [rd_nat _ _ (by rw [List.length_append, List.length_cons]; omega)]
    simp
  have e1 : rd (b :: r) 0 = b := rfl
  have q0 : 0 ≤ (p.length : Int) := by omega
  have q1 : (p.length : Int) < ((p ++ b :: r).length : Int) := by rw [List.length_append, List.length_cons]; omega
  have hp1 : (p.length : Int) + 1 = ((p ++ [b]).length : Int) := by rw [List.length_append, List.length_singleton]; omega
  have hpl : p.length ≤ 100000 := by rw [List.length_append] at hL; omega
  have w1 : wrap64 ((p.length : Int) + 1) = ((p ++ [b]).length : Int) := by rw [wrap_id (by omega) (by omega)]; exact hp1
  have eL : p ++ b :: r = (p ++ [b]) ++ r := by simp
  have hg := rget_ev (p ++ [b]) r (by rw [← eL]; exact hL) (by rw [← eL]; exact hB)
  have hBr : Bytes r := by rw [eL] at hB; exact hB.append_right
  rw [← eL] at hg
  have hdrop : (b :: r).drop 1 = r := rfl
  have hbad : ∀ B : Bool × List Int × S43 × Bool, B.1 = false → OneIs (p ++ b :: r).length (b :: r) (0, 0, [], [], 0, false) B := fun B h => ⟨h.symm, fun h' => by rw [h] at h'; cases h'⟩
  have hf : ∀ k, threshingref05_one.f k (p ++ b :: r) (p.length : Int) = (if b = 100 then threshingref05_one.j0 k (p ++ b :: r) (p.length : Int) 2 0 else if b = 97 then threshingref05_one.j0 k (p ++ b :: r) (p.length : Int) 1 0 else some (0, 0, [], [], 0, false)) := by
    intro k
    unfold threshingref05_one.f
    rw [if_pos q0, if_pos q1, e0]
  simp only [hf]
  unfold Bone
  rw [e1, hdrop]
  by_cases h97 : b = 97
  · have h100 : ¬ b = 100 := by omega
    simp only [if_neg h100, if_pos h97]
    cases hb : (Bnumber r).2.1 with
    | true =>
      rw [hb] at hg
      refine ⟨(0, 0, [], [], 0, false), Ev_succ ?_, hbad _ ?_⟩
      · simp only [threshingref05_one.j0, w1]
        refine Ev.bind hg ?_
        simp only [if_true, Bool.false_eq_true, if_false]
        exact Ev.now _
      · show (!(BoneA r).2.2 && _) = false
        have : (BoneA r).2.2 = true := by
          unfold BoneA
          simp only
          rw [hb, BrowL_bad, BrowH_bad]
        rw [this]
        rfl
    | false =>
      rw [hb] at hg
      have hs := Bnumber_suffix r hBr hb
      obtain ⟨n, hn⟩ : ∃ n, n = (Bnumber r).1 := ⟨_, rfl⟩
      obtain ⟨r2, hr2⟩ : ∃ r2, r2 = (Bnumber r).2.2 := ⟨_, rfl⟩
      have hBA : BoneA r = (let q := BrowL r2 ⟨1, n, [], []⟩ false; BrowH q.1 q.2.1 q.2.2) := by unfold BoneA; rw [hb, hn, hr2]
      rw [← hn, ← hr2] at hs hg
      have e2 : p ++ b :: r = ((p ++ [b]) ++ Bput n) ++ r2 := by rw [List.append_assoc, ← hs]; exact eL
      have hat : ((p ++ b :: r).length : Int) - (r2.length : Int) = (((p ++ [b]) ++ Bput n).length : Int) := by
        have hll : (p ++ b :: r).length = ((p ++ [b]) ++ Bput n).length + r2.length := by rw [e2]; exact List.length_append
        omega
      obtain ⟨res, hev, hone⟩ := rone_A ((p ++ [b]) ++ Bput n) r2 n (by rw [← e2]; exact hL) (by rw [← e2]; exact hB)
      rw [← e2, ← hat] at hev
      rw [← e2] at hone
      refine ⟨res, Ev_succ ?_, ?_⟩
      · simp only [threshingref05_one.j0, w1]
        refine Ev.bind hg ?_
        simp only [Bool.false_eq_true, if_false, if_true]
        exact hev
      · rw [hBA]
        have e3 : b :: r = (b :: Bput n) ++ r2 := by rw [List.cons_append, ← hs]
        have hone' := hone.mono (m := b :: Bput n)
        rw [← e3] at hone'
        exact hone'
  · by_cases h100 : b = 100
    · simp only [if_pos h100, if_neg h97]
      cases hb : (Bnumber r).2.1 with
      | true =>
        rw [hb] at hg
        refine ⟨(0, 0, [], [], 0, false), Ev_succ ?_, hbad _ ?_⟩
        · simp only [threshingref05_one.j0, w1]
          refine Ev.bind hg ?_
          simp only [if_true, Bool.false_eq_true, if_false]
          exact Ev.now _
        · show (!(BoneD r).2.2 && _) = false
          have : (BoneD r).2.2 = true := by
            unfold BoneD
            rw [hb, BrowH_bad]
          rw [this]
          rfl
      | false =>
        rw [hb] at hg
        have hs := Bnumber_suffix r hBr hb
        obtain ⟨n, hn⟩ : ∃ n, n = (Bnumber r).1 := ⟨_, rfl⟩
        obtain ⟨r2, hr2⟩ : ∃ r2, r2 = (Bnumber r).2.2 := ⟨_, rfl⟩
        have hBA : BoneD r = BrowH r2 ⟨2, n, [], []⟩ false := by unfold BoneD; rw [hb, hn, hr2]
        rw [← hn, ← hr2] at hs hg
        have e2 : p ++ b :: r = ((p ++ [b]) ++ Bput n) ++ r2 := by rw [List.append_assoc, ← hs]; exact eL
        have hat : ((p ++ b :: r).length : Int) - (r2.length : Int) = (((p ++ [b]) ++ Bput n).length : Int) := by
          have hll : (p ++ b :: r).length = ((p ++ [b]) ++ Bput n).length + r2.length := by rw [e2]; exact List.length_append
          omega
        obtain ⟨res, hev, hone⟩ := rone_D ((p ++ [b]) ++ Bput n) r2 n (by rw [← e2]; exact hL) (by rw [← e2]; exact hB)
        rw [← e2, ← hat] at hev
        rw [← e2] at hone
        refine ⟨res, Ev_succ ?_, ?_⟩
        · simp only [threshingref05_one.j0, w1]
          refine Ev.bind hg ?_
          simp only [Bool.false_eq_true, if_false, if_true, if_neg (show ¬ ((2 : Int) = 1) by omega)]
          exact hev
        · rw [hBA]
          have e3 : b :: r = (b :: Bput n) ++ r2 := by rw [List.cons_append, ← hs]
          have hone' := hone.mono (m := b :: Bput n)
          rw [← e3] at hone'
          exact hone'
    · simp only [if_neg h100, if_neg h97]
      exact ⟨_, Ev.now _, hbad _ rfl⟩
theorem rparse_l0 : ∀ (d : Nat) (p q : List Int) (acc : List S43) (tot : Int), q.length < d → (p ++ q).length ≤ 100000 → Bytes (p ++ q) → acc.length + q.length ≤ 100000 → 0 ≤ tot → tot + q.length ≤ 100000 →
    Ev (fun k => threshingref05_Parse.l0 k (p ++ q) acc (p.length : Int) tot) (Bp d (p ++ q).length q acc) := by
  intro d
  induction d with
  | zero => intro p q acc tot hd; omega
  | succ d ih =>
    intro p q acc tot hd hL hB hacc h0 htot
    have hpq : (p ++ q).length = p.length + q.length := List.length_append
    rw [Bp]
    refine Ev_succ ?_
    simp only [threshingref05_Parse.l0]
    by_cases hz : q.length = 0
    · simp only [if_pos hz, if_neg (show ¬ ((p.length : Int) < ((p ++ q).length : Int)) by omega)]
      exact Ev.now _
    · simp only [if_neg hz, if_pos (show ((p.length : Int) < ((p ++ q).length : Int)) by omega)]
      obtain ⟨res, hev, hfl, hok⟩ := rone_ev p q (by omega) hL hB
      refine Ev.bind hev ?_
      rw [hfl]
      cases hb : (Bone q).1 with
      | false =>
        simp only [Bool.false_eq_true, if_false]
        have e : (((p ++ q).length : Nat) : Int) - (q.length : Int) = (p.length : Int) := by omega
        rw [e]
        exact Ev.now _
      | true =>
        obtain ⟨e1, ⟨m, hm⟩, e3⟩ := hok hb
        obtain ⟨s, hs⟩ : ∃ s, s = (Bone q).2.2.1 := ⟨_, rfl⟩
        obtain ⟨r, hr⟩ : ∃ r, r = (Bone q).2.1 := ⟨_, rfl⟩
        rw [← hs, ← hr] at e3
        rw [← hr] at hm
        have er : res = (s.f0, s.f1, s.f2, s.f3, ((p ++ q).length : Int) - (r.length : Int), true) := by rw [e1, hs, hr]; rfl
        rw [er]
        simp only [if_true]
        have ep : p ++ q = (p ++ m) ++ r := by rw [List.append_assoc, ← hm]
        have hat : ((p ++ q).length : Int) - (r.length : Int) = ((p ++ m).length : Int) := by
          have hll : (p ++ q).length = (p ++ m).length + r.length := by rw [ep]; exact List.length_append
          omega
        have hi := ih (p ++ m) r (acc ++ [s]) (tot + s.f2.length + s.f3.length) (by omega) (by rw [← ep]; exact hL) (by rw [← ep]; exact hB) (by rw [List.length_append, List.length_singleton]; omega) (by omega) (by omega)
        rw [← ep, ← hat] at hi
        have q1 : ¬ ((acc.length : Int) ≥ 4194304) := by omega
        have q2 : ¬ (tot + (s.f2.length : Int) + (s.f3.length : Int) > 16777216) := by omega
        have q3 : acc.length < 2199023255552 := by omega
        have b1 : tot + (s.f2.length : Int) ≤ 100000 := by omega
        have b2 : tot + (s.f2.length : Int) + (s.f3.length : Int) ≤ 100000 := by omega
        have b3 : 0 ≤ tot + (s.f2.length : Int) := by omega
        have b4 : 0 ≤ tot + (s.f2.length : Int) + (s.f3.length : Int) := by omega
        have w1 : wrap64 (tot + (s.f2.length : Int)) = tot + (s.f2.length : Int) := wrap_id (by omega) (by omega)
        have w2 : wrap64 (tot + (s.f2.length : Int) + (s.f3.length : Int)) = tot + (s.f2.length : Int) + (s.f3.length : Int) := wrap_id (by omega) (by omega)
        simp only [w1, w2, if_neg q1, if_neg q2, if_pos q3, ← hr, ← hs]
        exact hi
theorem rparse_ev (L : List Int) (hL : L.length ≤ 100000) (hB : Bytes L) : Ev (fun k => threshingref05_Parse.f k L) (Bparse L) := by
  have := rparse_l0 (L.length + 1) [] L [] 0 (by omega) (by simpa using hL) (by simpa using hB) (by simpa using hL) (by omega) (by omega)
  unfold threshingref05_Parse.f Bparse
  simpa using this
end Go.Proofs.Ytlimaebaagabaaa.PB
end

section
namespace Go.Proofs.Ytlimaebaagabaaa.PB
open Go.RowKit Go.Proofs.YtlimaebaagabaaaW.PrintWords Go.Proofs.YtlimaebaagabaaaW.PrintLast Go.Proofs.YtlimaebaagabaaaW.PrintMore
set_option linter.unusedVariables false
set_option linter.unusedSimpArgs false
/-- What Spoil leaves as it was: all but cells of the steps' own blocks; in the steps' row all but the identifiers. -/
structure SP (w : World) (g base hi : Nat) (w' : World) : Prop where
  os : w'.os = w.os
  tape : w'.tape = w.tape
  output : w'.output = w.output
  size : w'.heap.size = w.heap.size
  blk : ∀ k, k < base ∨ hi ≤ k → w'.heap[k]? = w.heap[k]?
  typ : ∀ (k : Nat) (cs : Array Value) (t : TypeId), w.heap[k]? = some (.cells cs t (0, 0)) → ∃ cs', w'.heap[k]? = some (.cells cs' t (0, 0)) ∧ cs'.size = cs.size
  hd : ∀ j, j % 4 ≠ 1 → w'.cell? ⟨g, j, none⟩ = w.cell? ⟨g, j, none⟩
theorem SP.refl (w : World) (g base hi : Nat) : SP w g base hi w := ⟨rfl, rfl, rfl, rfl, fun _ _ => rfl, fun _ cs _ h => ⟨cs, h, rfl⟩, fun _ _ => rfl⟩
theorem SP.store {w w1 w2 : World} {g base hi gx off : Nat} {t : TypeId} {cur : Array Value} {u : Value} (h : SP w g base hi w1) (hs : SameBut gx w1 w2) (hb : base ≤ gx) (hh : gx < hi)
    (hc : w1.heap[gx]? = some (.cells cur t (0, 0))) (hc2 : w2.heap[gx]? = some (.cells (cur.setIfInBounds off u) t (0, 0))) (hg : gx ≠ g ∨ off % 4 = 1) : SP w g base hi w2 := by
  refine ⟨hs.os.trans h.os, hs.tape.trans h.tape, hs.output.trans h.output, hs.size.trans h.size, fun k hk => (hs.blk k (by omega)).trans (h.blk k hk), fun k cs t' hk => ?_, fun j hj => ?_⟩
  · obtain ⟨cs', h1, h2⟩ := h.typ k cs t' hk
    by_cases e : k = gx
    · subst e
      rw [hc] at h1
      injection h1 with h1
      injection h1 with h1a h1b _
      subst h1b
      exact ⟨_, hc2, by rw [Array.size_setIfInBounds, h1a]; exact h2⟩
    · exact ⟨cs', (hs.blk k e).trans h1, h2⟩
  · refine Eq.trans ?_ (h.hd j hj)
    by_cases e : g = gx
    · subst e
      rw [blk_cell hc2, blk_cell hc, Array.getElem?_setIfInBounds]
      rcases hg with hg | hg
      · exact absurd rfl hg
      · rw [if_neg (by omega)]
    · exact World.cell?_of_block (hs.blk g e)
theorem sp_at {w : World} {base n c : Nat} {ok : Nat → Prop} {ad : Addr} {l : List S43} (h : Kd.S k43 43 w base ok (.slice (some ad) n c) l) (i : Int) (h0 : 0 ≤ i) (h1 : i < n) :
    ∃ g A2 c2 A3 c3, ad = ⟨g, 0, none⟩ ∧ base ≤ g ∧ ok g ∧ (∃ cells, w.heap[g]? = some (.cells cells 43 (0, 0)) ∧ i.toNat * 4 + 1 < cells.size) ∧
      w.cell? ⟨(ad.add (i.toNat * 4)).block, (ad.add (i.toNat * 4)).off + 2, none⟩ = some (.slice A2 (rd_T43 l i).f2.length c2) ∧ w.cell? ⟨(ad.add (i.toNat * 4)).block, (ad.add (i.toNat * 4)).off + 3, none⟩ = some (.slice A3 (rd_T43 l i).f3.length c3) ∧
      (Kd.int .i32).R 44 w base ok (.slice A2 (rd_T43 l i).f2.length c2) (rd_T43 l i).f2 ∧ (Kd.int .i64).R 2 w base ok (.slice A3 (rd_T43 l i).f3.length c3) (rd_T43 l i).f3 := by
  obtain ⟨g, hg⟩ := Kd.S_slice h |>.elim (fun _ _ => Kd.R_head (Kd.S_R h))
  subst hg
  have hb := Kd.S_base h g (by simp [Value.ownBlock])
  have hok := (Kd.S_R h).1 g (by simp [Value.ownBlock])
  obtain ⟨cells, hc⟩ := Kd.S_typed h g (by simp [Value.ownBlock])
  obtain ⟨cs, _, hM, hcs⟩ := Kd.S_get h z43 i h0 h1
  obtain ⟨v2, v3, rfl, g2, g3⟩ := k43_openM hM
  obtain ⟨A2, c2, rfl⟩ := Kd.R_slice g2
  obtain ⟨A3, c3, rfl⟩ := Kd.R_slice g3
  have e1 := hcs 1 _ rfl
  have e2 := hcs 2 _ rfl
  have e3 := hcs 3 _ rfl
  have hsz : k43.sz = 4 := rfl
  rw [hsz, add_at, Nat.zero_add] at e1 e2 e3
  have hlt : i.toNat * 4 + 1 < cells.size := by
    rw [blk_cell hc] at e1
    exact (Array.getElem?_eq_some_iff.1 e1).1
  refine ⟨g, A2, c2, A3, c3, rfl, hb, hok, ⟨cells, hc, hlt⟩, ?_, ?_, Kd.R_mono g2 (fun _ hk => hk.1), Kd.R_mono g3 (fun _ hk => hk.1)⟩
  · rw [add_at, Nat.zero_add]; exact e2
  · rw [add_at, Nat.zero_add]; exact e3
theorem SP.at_ {w w' : World} {g base hi : Nat} {ad : Addr} (h : SP w g base hi w') (had : ad = ⟨g, 0, none⟩) (m j : Nat) (hj : j % 4 ≠ 1) {v : Value} (hc : w.cell? ⟨(ad.add (m * 4)).block, (ad.add (m * 4)).off + j, none⟩ = some v) : w'.cell? ⟨(ad.add (m * 4)).block, (ad.add (m * 4)).off + j, none⟩ = some v := by
  subst had
  rw [add_at, Nat.zero_add] at hc ⊢
  exact (h.hd _ (by show (m * 4 + j) % 4 ≠ 1; omega)).trans hc
theorem int_fit {k : IntKind} {e : Nat} {w : World} {base n c : Nat} {ok : Nat → Prop} {A : Option Addr} {xs : List Int} (h : (Kd.int k).R e w base ok (.slice A n c) xs) (y : Int) (h0 : 0 ≤ y) (h1 : y < n) :
    ∃ g cells, A = some ⟨g, 0, none⟩ ∧ base ≤ g ∧ ok g ∧ w.heap[g]? = some (.cells cells e (0, 0)) ∧ y.toNat < cells.size := by
  have hn := (Kd.R_reads' h).1
  obtain ⟨g, cap, he, hb, hl, cells, hc⟩ := Kd.R_form h (by omega)
  injection he with ha _ _
  subst ha
  have hok := h.1 g (by simp [Value.ownBlock])
  obtain ⟨cs, hcl, _, hcs⟩ := Kd.R_getA h 0 y h0 h1
  have hsz : (Kd.int k).sz = 1 := rfl
  rw [hsz] at hcl hcs
  obtain ⟨u, hu⟩ : ∃ u, cs[0]? = some u := by
    cases cs with
    | nil => simp at hcl
    | cons a b => exact ⟨a, rfl⟩
  have e1 := hcs 0 u hu
  rw [add_at, Nat.zero_add, blk_cell hc] at e1
  have := (Array.getElem?_eq_some_iff.1 e1).1
  exact ⟨g, cells, rfl, hb, hok, hc, by omega⟩
theorem nsz44 : (Try.prog.info? 44).map (·.size) = some 1 := by kernel_rfl
theorem nsz2i : (Try.prog.info? 2).map (·.size) = some 1 := by kernel_rfl

set_option maxHeartbeats 2000000 in
set_option maxRecDepth 100000 in
theorem spoil_calls (base hi : Nat) (v : Value) (l : List S43) (w : World) (hS : Kd.S k43 43 w base (fun k => k < hi) v l) (hl : l.length ≤ 1000000000) (hr2 : ∀ s ∈ l, s.f2.length ≤ 1000000000 ∧ s.f3.length ≤ 1000000000) :
    Calls Try.prog 16 #[v] w fun e w' => e = .returned (.tuple #[]) ∧ ∃ g, SP w g base hi w' := by
  obtain ⟨A, c, rfl⟩ := Kd.S_slice hS
  obtain ⟨g, hA⟩ : ∃ g, 0 < l.length → A = some ⟨g, 0, none⟩ := by
    by_cases h : 0 < l.length
    · obtain ⟨g, cap, he, _⟩ := Kd.S_form hS h
      injection he with ha _ _
      exact ⟨g, fun _ => ha⟩
    · exact ⟨0, fun h' => absurd h' h⟩
  have HS := Aside0.mk hS
  have HA := Aside0.mk hA
  have HR2 := Aside0.mk hr2
  have hl' := Aside0.mk hl
  clear hS hA hr2 hl
  go_enter Try.func16, Try.ntmps16
  go_wp2
  repeat (go_quiet (fail); try go_wp2)
  go_loopg [2] l.length (fun j v2 wr => ∃ (x : Int), v2 = .int .i64 x ∧ 0 ≤ x ∧ x + j = l.length ∧ Aside0 (SP w g base hi wr))
  case atStart => exact ⟨0, rfl, by omega, by omega, ⟨SP.refl _ _ _ _⟩⟩
  case round =>
    obtain ⟨x, rfl, hx0, hxj, HP⟩ := hrel
    by_cases hx : x < (l.length : Int)
    · have hxd : decide (x < (l.length : Int)) = true := decide_eq_true hx
      obtain ⟨gj, rfl⟩ : ∃ gj, gk = gj + 1 := ⟨gk - 1, by omega⟩
      obtain ⟨ad, had⟩ : ∃ ad : Addr, ad = ⟨g, 0, none⟩ := ⟨_, rfl⟩
      have hA := HA.out (by omega)
      rw [← had] at hA
      subst hA
      obtain ⟨g', A2, c2, A3, c3, hg', hbg, hhg, ⟨cg, hcg, hfg⟩, hx2, hx3, hR2, hR3⟩ := sp_at HS.out x hx0 hx
      have hgg : g' = g := by rw [had] at hg'; injection hg' with h1 _ _; exact h1.symm
      subst hgg
      have hmem := HR2.out _ (rd43_mem l x hx0 hx)
      obtain ⟨n2, hn2⟩ : ∃ n2, n2 = (rd_T43 l x).f2.length := ⟨_, rfl⟩
      obtain ⟨n3, hn3⟩ : ∃ n3, n3 = (rd_T43 l x).f3.length := ⟨_, rfl⟩
      rw [← hn2] at hx2 hR2 hmem
      rw [← hn3] at hx3 hR3 hmem
      obtain ⟨hm2, hm3⟩ := hmem
      have p0 := eq_true hx0
      have q0 := eq_true hx
      have HX2 := Aside0.mk hx2
      have HX3 := Aside0.mk hx3
      have HRR2 := Aside0.mk hR2
      have HRR3 := Aside0.mk hR3
      have HAD := Aside0.mk had
      have HCG := Aside0.mk hcg
      clear hx2 hx3 hR2 hR3 had hcg hn2 hn3 hg'
      go_wp2
      go_loopg [3] n2 (fun j v3 wr2 => ∃ (y : Int), v3 = .int .i64 y ∧ 0 ≤ y ∧ y + j = n2 ∧ Aside0 (SP w g' base hi wr2))
      case atStart => exact ⟨0, rfl, by omega, by omega, HP⟩
      case round =>
        clear HP
        obtain ⟨y, rfl, hy0, hyj, HP⟩ := hrel
        have hx2 := HP.out.at_ HAD.out x.toNat 2 (by decide) HX2.out
        by_cases hy : y < (n2 : Int)
        · obtain ⟨g2, cs2, e2, hb2, hh2, hc2, hf2⟩ := int_fit HRR2.out y hy0 hy
          obtain ⟨ad2, had2⟩ : ∃ ad2 : Addr, ad2 = ⟨g2, 0, none⟩ := ⟨_, rfl⟩
          rw [← had2] at e2
          subst e2
          obtain ⟨cur, hcur, hcs⟩ := HP.out.typ _ _ _ hc2
          have hne : g2 ≠ g' := blk_ne hc2 HCG.out (by decide)
          have hz2 : ad2.add y.toNat = ⟨g2, y.toNat, none⟩ := by rw [had2, add_at, Nat.zero_add]
          have HZ2 := Aside0.mk hz2
          have HCUR := Aside0.mk hcur
          have HF2 := Aside0.mk (show y.toNat + 1 ≤ cur.size by omega)
          clear hc2 had2 hz2 hcur hf2
          have p1 := eq_true hy0
          have q1 := eq_true hy
          go_wp2_with ((with_reducible refine gate_store (t := 44) (p := 27) rfl ?_); refine store_one 44 27 _ rfl rfl rfl (.int .i32 99) _ (congrArg (fun p => Value.pointer (some p)) HZ2.out) rfl HCUR.out rfl nsz44 HF2.out rfl rfl ?_; intro w8 hw8 hsb; have HW8 := Aside0.mk hw8; have HS8 := Aside0.mk hsb; clear hw8 hsb)
          go_roundg (gk - 1)
          case rel => exact ⟨_, rfl, by omega, by omega, ⟨HP.out.store HS8.out hb2 hh2 HCUR.out HW8.out (.inl hne)⟩⟩
          case measure => omega
        · go_wp2
          go_loopg [4] n3 (fun j v4 wr3 => ∃ (y : Int), v4 = .int .i64 y ∧ 0 ≤ y ∧ y + j = n3 ∧ Aside0 (SP w g' base hi wr3))
          case atStart => exact ⟨0, rfl, by omega, by omega, HP⟩
          case round =>
            clear HP hx2 hyj hy0 hy
            obtain ⟨z, rfl, hz0, hzj, HP⟩ := hrel
            have hx3 := HP.out.at_ HAD.out x.toNat 3 (by decide) HX3.out
            by_cases hz : z < (n3 : Int)
            · obtain ⟨g3, cs3, e3, hb3, hh3, hc3, hf3⟩ := int_fit HRR3.out z hz0 hz
              obtain ⟨ad3, had3⟩ : ∃ ad3 : Addr, ad3 = ⟨g3, 0, none⟩ := ⟨_, rfl⟩
              rw [← had3] at e3
              subst e3
              obtain ⟨cur, hcur, hcs⟩ := HP.out.typ _ _ _ hc3
              have hne : g3 ≠ g' := blk_ne hc3 HCG.out (by decide)
              have hz3 : ad3.add z.toNat = ⟨g3, z.toNat, none⟩ := by rw [had3, add_at, Nat.zero_add]
              have HZ3 := Aside0.mk hz3
              have HCUR := Aside0.mk hcur
              have HF3 := Aside0.mk (show z.toNat + 1 ≤ cur.size by omega)
              clear hc3 had3 hz3 hcur hf3
              have p1 := eq_true hz0
              have q1 := eq_true hz
              go_wp2_with ((with_reducible refine gate_store (t := 2) (p := 44) rfl ?_); refine store_one 2 44 _ rfl rfl rfl (.int .i64 99) _ (congrArg (fun p => Value.pointer (some p)) HZ3.out) rfl HCUR.out rfl nsz2i HF3.out rfl rfl ?_; intro w8 hw8 hsb; have HW8 := Aside0.mk hw8; have HS8 := Aside0.mk hsb; clear hw8 hsb)
              go_roundg (gk - 1)
              case rel => exact ⟨_, rfl, by omega, by omega, ⟨HP.out.store HS8.out hb3 hh3 HCUR.out HW8.out (.inl hne)⟩⟩
              case measure => omega
            · have hl2 := hl'.out
              obtain ⟨cur, hcur, hcs⟩ := HP.out.typ _ _ _ HCG.out
              have HZ4 := Aside0.mk (show (⟨(ad.add (x.toNat * 4)).block, (ad.add (x.toNat * 4)).off + 1, none⟩ : Addr) = ⟨g', x.toNat * 4 + 1, none⟩ by rw [HAD.out, add_at, Nat.zero_add])
              have HCUR := Aside0.mk hcur
              have HF4 := Aside0.mk (show x.toNat * 4 + 1 + 1 ≤ cur.size by omega)
              clear hcur
              go_wp2_with ((with_reducible refine gate_store (t := 2) (p := 48) rfl ?_); refine store_one 2 48 _ rfl rfl rfl (.int .i64 99) _ (congrArg (fun p => Value.pointer (some p)) HZ4.out) rfl HCUR.out rfl nsz2i HF4.out rfl rfl ?_; intro w8 hw8 hsb; have HW8 := Aside0.mk hw8; have HS8 := Aside0.mk hsb; clear hw8 hsb)
              go_roundg gj
              case rel => exact ⟨_, rfl, by omega, by omega, ⟨HP.out.store HS8.out hbg hhg HCUR.out HW8.out (.inr (by omega))⟩⟩
              case measure => omega
    · have hxd : decide (x < (l.length : Int)) = false := decide_eq_false hx
      go_wp2
      go_end0
      exact ⟨rfl, g, HP.out⟩
end Go.Proofs.Ytlimaebaagabaaa.PB
end

section
namespace Go.Proofs.Ytlimaebaagabaaa.PB
open Go.RowKit Go.Proofs.YtlimaebaagabaaaW.PrintWords Go.Proofs.YtlimaebaagabaaaW.PrintLast Go.Proofs.YtlimaebaagabaaaW.PrintMore
attribute [local go_sem] max2_int min2_int max_two min_two max_three min_three max_four min_four
set_option linter.unusedVariables false
set_option linter.unusedSimpArgs false
theorem SP.below {w w' : World} {g base hi : Nat} (h : SP w g base hi w') : Below base w w' := ⟨h.os, h.tape, h.output, Nat.le_of_eq h.size.symm, fun k hk => h.blk k (.inl hk)⟩

/-- The steps told are small. -/
theorem Bparse_small (l0 : List Int) (hB : Bytes l0) : (Bparse l0).1.length + Btot (Bparse l0).1 ≤ l0.length := by
  obtain ⟨l, r, hbs, hmay, hr⟩ := Bsplit l0.length l0 (Nat.le_refl _) hB
  have htl := Bsteps_tot l hmay
  rcases hr with hr | ⟨hr, hbad⟩
  · subst hr
    rw [List.append_nil] at hbs
    rw [hbs, Bparse_ok l hmay]
    exact htl
  · rw [hbs, Bparse_bad l r hmay hr hbad]
    simp [Btot]

set_option maxHeartbeats 2000000 in
set_option maxRecDepth 100000 in
theorem reads_calls (A0 : Option Addr) (c0 : Nat) (l0 : List Int) (w : World) (hr0 : Kd.C (Kd.int .u8) w A0 l0.length l0) (hc0 : l0.length ≤ c0) (hB0 : Bytes l0) :
    Calls Try.prog 4 #[.slice A0 l0.length c0] w fun e w' => e = .returned (.bool true) ∧ Below w.heap.size w w' := by
  have HR0 := Aside0.mk hr0
  have HC0 := Aside0.mk hc0
  have HB := Aside0.mk (Below.refl w.heap.size w)
  have hBB0 := Aside0.mk hB0
  have hm0 : l0.length ≤ 9223372036854775807 := hr0.2.1
  clear hr0 hc0 hB0
  by_cases h0 : 6000 < l0.length
  · have h0' : decide (6000 < l0.length) = true := decide_eq_true h0
    go_enter Try.func4, Try.ntmps4
    go_wp2_with (go_at_call 9; refine (threshinglaw05_works.calls 0 true _ (works_f 0)).mono ?_; rintro e w2 ⟨rfl, hb⟩; have HB2 := Aside0.mk (below_step HB.out hb); clear hb)
    go_ret
    exact ⟨rfl, HB2.out⟩
  have h0' : decide (6000 < l0.length) = false := decide_eq_false h0
  have hsm := Bparse_small l0 hBB0.out
  obtain ⟨kp, hkp⟩ := (rparse_ev l0 (by omega) hBB0.out).rounds
  obtain ⟨m, e1, p1, hp⟩ : ∃ m e1 p1, Bparse l0 = (m, e1, p1) := ⟨_, _, _, rfl⟩
  have hpf := Aside0.mk (show binary_Parse.f 0 l0 = some (m, e1, p1) by rw [parse_f 0 l0 (by omega), hp])
  have hpr := Aside0.mk (show threshingref05_Parse.f kp l0 = some (m, e1, p1) by rw [hkp, hp])
  rw [hp] at hsm
  have hm6 := Aside0.mk (show m.length + Btot m ≤ 6000 by have : m.length + Btot m ≤ l0.length := hsm; omega)
  clear hsm hkp hp
  have hsz := Aside0.mk (show (strOfNums l0).size ≤ 9223372036854775807 by rw [strOfNums_size]; omega)
  have hstr := Aside0.mk (bytesOf_str hBB0.out)
  have hcv := Kd.C_string (P := Try.prog) (c := c0) Try.underlying26 Try.underlying5 Try.underlying9 HR0.out
  go_enter Try.func4, Try.ntmps4
  go_wp2_with ((with_reducible refine gate_dst (N := 19) rfl ?_); refine bytes_event 9 26 5 (.tmp 18) rfl rfl (strOfNums l0) rfl Try.underlying9 Try.underlying26 Try.underlying5 hsz.out ?_; intro A1 c1 w1 hC1 hc1 hb; rw [hstr.out] at hC1 hc1; rw [hstr.out]; have HI := Aside0.mk hC1; have HIc := Aside0.mk hc1; have HB1 := Aside0.mk hb; clear hC1 hc1 hb hcv HB)
  refine (binary_Parse.calls 0 A1 c1 l0 m e1 p1 w1 HI.out HIc.out hpf.out).mono ?_
  rintro e w2 ⟨v2, rfl, hS, hb⟩
  have HB2 := Aside0.mk (below_step HB1.out hb)
  have HI2 := Aside0.mk (Kd.C_below HI.out hb)
  have HN2 := Aside0.mk hb
  obtain ⟨Al, cl, rfl⟩ := Kd.S_slice hS
  have HS2 := Aside0.mk hS
  clear hS hb
  go_wp2_with fail
  refine (threshingref05_Parse.calls kp A0 c0 l0 m e1 p1 w2 (Kd.C_below HR0.out HB2.out) HC0.out hpr.out).mono ?_
  rintro e w3 ⟨v3, rfl, hS, hb⟩
  have HB3 := Aside0.mk (below_step HB2.out hb)
  have HI3 := Aside0.mk (Kd.C_below HI2.out hb)
  have HN3 := Aside0.mk (HN2.out.trans (hb.mono HN2.out.size))
  have HS3 := Aside0.mk (Kd.S_old HS2.out hb)
  obtain ⟨Am, cm, rfl⟩ := Kd.S_slice hS
  have HM3 := Aside0.mk hS
  have HLT := Aside0.mk hb.size
  have HB1' := Aside0.mk HB1.out.size
  clear hS hb HB2 HI2 HN2 HS2 HB1
  obtain ⟨hlc, hlC⟩ := (Kd.S_reads' HS3.out).2
  obtain ⟨hmc, hmC⟩ := (Kd.S_reads' HM3.out).2
  have HLC := Aside0.mk hlc
  have HLD := Aside0.mk hlC
  have HMC := Aside0.mk hmc
  have HMD := Aside0.mk hmC
  clear hlc hlC hmc hmC
  go_wp2_with fail
  refine (threshingref04_Same.calls 20000 _ _ m _ _ m true w3 HLD.out HLC.out HMD.out HMC.out (same_f m (by have := hm6.out; omega) (by have := hm6.out; omega) 20000 (by have := hm6.out; omega))).mono ?_
  rintro e w4 ⟨rfl, hb⟩
  have HB4 := Aside0.mk (below_step HB3.out hb)
  have HI4 := Aside0.mk (Kd.C_below HI3.out hb)
  have HN4 := Aside0.mk (HN3.out.trans (hb.mono HN3.out.size))
  have HS4 := Aside0.mk (Kd.S_mono (Kd.S_below HS3.out hb) (fun _ hk => hk.2))
  have HM4 := Aside0.mk (Kd.S_below HM3.out hb)
  clear hb HB3 HI3 HN3 HS3 HM3 HLD HMD
  have hcvA := Kd.C_string (P := Try.prog) (c := c1) Try.underlying26 Try.underlying5 Try.underlying9 HI4.out
  have hcvB := Kd.C_string (P := Try.prog) (c := c0) Try.underlying26 Try.underlying5 Try.underlying9 (Kd.C_below HR0.out HB4.out)
  have hbr2 := Aside0.mk (show ∀ s ∈ m, s.f2.length ≤ 1000000000 ∧ s.f3.length ≤ 1000000000 from fun s hs => by
    have h1 := Btot_mem m s hs
    have h2 := hm6.out
    omega)
  go_wp2_with fail
  refine (spoil_calls w1.heap.size w2.heap.size _ m w4 HS4.out (by have := hm6.out; omega) hbr2.out).mono ?_
  rintro e w5 ⟨rfl, g, hsp⟩
  have hb := hsp.below
  have HB5 := Aside0.mk (HB4.out.trans (hb.mono HB1'.out))
  have HI5 := Aside0.mk (Kd.C_below HI.out (HN4.out.trans hb))
  have HM5 := Aside0.mk (Kd.S_mono (Kd.S_step (Kd.S_bound HM4.out) (fun k hk _ => hsp.blk k (.inr hk.2.1))) (fun _ hk => hk.1))
  clear hb hsp hcvA hcvB HB4 HI4 HN4 HS4 HM4
  go_wp2_with fail
  refine (binary_Parse.calls 0 A1 c1 l0 m e1 p1 w5 HI5.out HIc.out hpf.out).mono ?_
  rintro e w6 ⟨v6, rfl, hS, hb⟩
  have HB6 := Aside0.mk (below_step HB5.out hb)
  have HM6 := Aside0.mk (Kd.S_below HM5.out hb)
  obtain ⟨A6, c6, rfl⟩ := Kd.S_slice hS
  obtain ⟨hlc, hlC⟩ := (Kd.S_reads' hS).2
  obtain ⟨hmc, hmC⟩ := (Kd.S_reads' HM6.out).2
  have HLC6 := Aside0.mk hlc
  have HLD6 := Aside0.mk hlC
  have HMD6 := Aside0.mk hmC
  clear hS hb hlc hlC hmc hmC HB5 HI5 HM5
  go_wp2_with fail
  refine (threshingref04_Same.calls 20000 _ _ m _ _ m true w6 HLD6.out HLC6.out HMD6.out HMC.out (same_f m (by have := hm6.out; omega) (by have := hm6.out; omega) 20000 (by have := hm6.out; omega))).mono ?_
  rintro e w7 ⟨rfl, hb⟩
  have HB7 := Aside0.mk (below_step HB6.out hb)
  clear hb HB6
  go_wp2_with fail
  refine (threshinglaw05_works.calls 0 true w7 (works_f 0)).mono ?_
  rintro e w8 ⟨rfl, hb⟩
  have HB8 := Aside0.mk (below_step HB7.out hb)
  clear hb
  go_wp2_with fail
  go_ret
  exact ⟨rfl, HB8.out⟩

theorem binaryReads_walk {w : World} (A0 : Option Addr) (c0 : Nat) (l0 : List Int) (hr0 : Kd.C (Kd.int .u8) w A0 l0.length l0) (hc0 : l0.length ≤ c0) (hg : Bytes l0) (_ : l0.length ≤ 140737488351232) (w' : World) (hw : w' = w := by rfl) :
    Calls Try.prog 4 #[.slice A0 l0.length c0] w' fun e w'' => e = .returned (.bool true) ∧ Below w'.heap.size w' w'' := by
  subst hw
  exact reads_calls A0 c0 l0 _ hr0 hc0 hg
end Go.Proofs.Ytlimaebaagabaaa.PB
end
