import Derived.Test.YtigloobbpcnnhaaDoorM7
import Derived.Test.YtigloobbpcnnhaaDoorM2
import Derived.Test.YtigloobbpcnnhaaDoorM6
section
namespace Go.Proofs.YtigloobbpcnnhaaDoor.PB
open Go.RowKit Go.Proofs.YtigloobbpcnnhaaDoorW.PrintWords Go.Proofs.YtigloobbpcnnhaaDoorW.PrintLast Go.Proofs.YtigloobbpcnnhaaDoorW.PrintMore
set_option linter.unusedVariables false
set_option linter.unusedSimpArgs false
/-! ### Printed functions: what they come to -/
theorem wrap_id {x : Int} (h0 : -9223372036854775808 ≤ x) (h1 : x ≤ 9223372036854775807) : wrap64 x = x := by unfold wrap64; omega
theorem rd_nat (l : List Int) (i : Nat) (h : i < l.length) : rd l (i : Int) = l[i] := by simp [rd, List.getElem?_eq_getElem h]
theorem rdL6_nat (l : List (List Int)) (i : Nat) (h : i < l.length) : rd_L6 l (i : Int) = l[i] := by simp [rd_L6, List.getElem?_eq_getElem h]
/-- Literals are of 32 bits. -/
def I32 (x : Int) : Prop := -2147483648 ≤ x ∧ x ≤ 2147483647
theorem cvar_f (x : Int) (h : I32 x) : cnf_Var.f x = some (if x < 0 then -x else x) := by
  unfold cnf_Var.f cnf_lit_variable.f
  unfold I32 at h
  by_cases hx : x < 0
  · rw [if_pos hx, wrap_id (x := x) (by omega) (by omega), wrap_id (x := -x) (by omega) (by omega), if_pos hx]; rfl
  · rw [if_neg hx, wrap_id (by omega) (by omega), if_neg hx]; rfl
theorem rvar_f (x : Int) (h : I32 x) : threshingref01_Var.f x = some (if x < 0 then -x else x) := by
  unfold threshingref01_Var.f
  unfold I32 at h
  by_cases hx : x < 0
  · rw [if_pos hx, if_pos hx, wrap_id (x := x) (by omega) (by omega), wrap_id (x := -x) (by omega) (by omega)]
  · rw [if_neg hx, if_neg hx, wrap_id (x := x) (by omega) (by omega)]
/-- The literals that are left: those of clause i from place j on, then those of the clauses behind it. -/
theorem left_cons (cs : List (List Int)) (i : Nat) (h : i < cs.length) : (cs.drop i).flatten = cs[i] ++ (cs.drop (i + 1)).flatten := by
  rw [List.drop_eq_getElem_cons h, List.flatten_cons]
theorem cright_loops (v : Int) (hv : 0 ≤ v) (cs : List (List Int)) (hl : cs.length ≤ 9223372036854775807) (hg : ∀ c ∈ cs, c.length ≤ 9223372036854775807 ∧ ∀ x ∈ c, I32 x) :
    ∀ (d i n : Nat), i + d = cs.length → n ≤ 16777216 → Ev (fun k => cnf_Right.l0 k (n : Int) cs (cs.length : Int) (i : Int) v cs) (dRightL v n (cs.drop i).flatten) := by
  intro d
  induction d with
  | zero =>
    intro i n hi hn
    refine Ev.step (f := fun _ => some 0) (fun k => ?_) ?_
    · rw [cnf_Right.l0, if_neg (by omega)]
    · rw [List.drop_eq_nil_of_le (by omega)]
      have : dRightL v n [] = 0 := by cases n <;> rfl
      rw [List.flatten_nil, this]
      exact Ev.now 0
  | succ d ih =>
    intro i n hi hn
    have hlt : i < cs.length := by omega
    have hmem := hg cs[i] (List.getElem_mem hlt)
    obtain ⟨c, hc⟩ : ∃ c, c = cs[i] := ⟨_, rfl⟩
    rw [← hc] at hmem
    have inner : ∀ (e j n : Nat), j + e = c.length → n ≤ 16777216 → Ev (fun k => cnf_Right.l1 k (n : Int) cs (cs.length : Int) (i : Int) c (c.length : Int) (j : Int) v cs) (dRightL v n (c.drop j ++ (cs.drop (i + 1)).flatten)) := by
      intro e
      induction e with
      | zero =>
        intro j n hj hn
        refine Ev.step (f := fun k => cnf_Right.l0 k (n : Int) cs (cs.length : Int) ((i + 1 : Nat) : Int) v cs) (fun k => ?_) ?_
        · rw [cnf_Right.l1, if_neg (by omega), wrap_id (by omega) (by omega)]
          rfl
        · rw [List.drop_eq_nil_of_le (by omega), List.nil_append]
          exact ih (i + 1) n (by omega) hn
      | succ e ihe =>
        intro j n hj hn
        have hjl : j < c.length := by omega
        have hx := hmem.2 c[j] (List.getElem_mem hjl)
        rw [List.drop_eq_getElem_cons hjl, List.cons_append]
        obtain ⟨x, hxe⟩ : ∃ x, x = c[j] := ⟨_, rfl⟩
        rw [← hxe] at hx ⊢
        cases n with
        | zero =>
          refine Ev.step (f := fun _ => some 3) (fun k => ?_) (Ev.now 3)
          rw [cnf_Right.l1, if_pos (by omega), if_pos (by omega), if_pos (by omega), if_pos (show ((0 : Nat) : Int) = 0 from rfl)]
        | succ n =>
          have head : ∀ k, cnf_Right.l1 (k + 1) ((n + 1 : Nat) : Int) cs (cs.length : Int) (i : Int) c (c.length : Int) (j : Int) v cs = if x = 0 ∨ x < -v ∨ v < x then some 4 else cnf_Right.l1 k (n : Int) cs (cs.length : Int) (i : Int) c (c.length : Int) ((j + 1 : Nat) : Int) v cs := by
            intro k
            rw [cnf_Right.l1, if_pos (by omega), if_pos (by omega), if_pos (by omega), if_neg (by omega), rd_nat c j hjl, ← hxe, cvar_f x hx, Option.bind_some]
            have hw1 : wrap64 (((n + 1 : Nat) : Int) - 1) = (n : Int) := by rw [wrap_id (by omega) (by omega)]; omega
            have hw2 : wrap64 ((j : Int) + 1) = ((j + 1 : Nat) : Int) := by rw [wrap_id (by omega) (by omega)]; rfl
            rw [hw1, hw2]
            clear hw1 hw2
            by_cases h0 : x = 0
            · rw [if_pos h0, if_pos (.inl h0)]
            · rw [if_neg h0]
              by_cases hb : (if x < 0 then -x else x) > v
              · rw [if_pos hb, if_pos]
                by_cases hx0 : x < 0
                · rw [if_pos hx0] at hb; omega
                · rw [if_neg hx0] at hb; omega
              · rw [if_neg hb, if_neg]
                by_cases hx0 : x < 0
                · rw [if_pos hx0] at hb; omega
                · rw [if_neg hx0] at hb; omega
          rw [dRightL]
          by_cases hbad : x = 0 ∨ x < -v ∨ v < x
          · rw [if_pos hbad]
            refine Ev.step (f := fun _ => some 4) (fun k => ?_) (Ev.now 4)
            rw [head, if_pos hbad]
          · rw [if_neg hbad]
            refine Ev.step (f := fun k => cnf_Right.l1 k (n : Int) cs (cs.length : Int) (i : Int) c (c.length : Int) ((j + 1 : Nat) : Int) v cs) (fun k => ?_) (ihe (j + 1) n (by omega) (by omega))
            rw [head, if_neg hbad]
    refine Ev.step (f := fun k => cnf_Right.l1 k (n : Int) cs (cs.length : Int) (i : Int) c (c.length : Int) ((0 : Nat) : Int) v cs) (fun k => ?_) ?_
    · rw [cnf_Right.l0, if_pos (by omega), if_pos (by omega), if_pos (by omega), rdL6_nat cs i hlt, ← hc]
      rfl
    · have := inner c.length 0 n (by omega) hn
      rw [List.drop_zero] at this
      rw [left_cons cs i hlt, ← hc]
      exact this
theorem cright_ev (v : Int) (cs : List (List Int)) (hl : cs.length ≤ 9223372036854775807) (hg : ∀ c ∈ cs, c.length ≤ 9223372036854775807 ∧ ∀ x ∈ c, I32 x) : Ev (fun k => cnf_Right.f k v cs) (dRight v cs) := by
  unfold dRight
  by_cases h1 : v < 0
  · rw [if_pos (.inl h1)]
    refine Ev.congr (f := fun k => cnf_Right.j0 k true v cs) (fun k => ?_) (Ev.step (f := fun _ => some 2) (fun k => ?_) (Ev.now 2))
    · unfold cnf_Right.f
      rw [if_pos h1, decide_eq_true h1]
    · rw [cnf_Right.j0, if_pos rfl]
  · by_cases h2 : 1048576 < v
    · rw [if_pos (.inr h2)]
      refine Ev.congr (f := fun k => cnf_Right.j0 k true v cs) (fun k => ?_) (Ev.step (f := fun _ => some 2) (fun k => ?_) (Ev.now 2))
      · unfold cnf_Right.f
        rw [if_neg h1, decide_eq_true (by omega)]
      · rw [cnf_Right.j0, if_pos rfl]
    · rw [if_neg (by omega)]
      refine Ev.congr (f := fun k => cnf_Right.j0 k false v cs) (fun k => ?_) ?_
      · unfold cnf_Right.f
        rw [if_neg h1, decide_eq_false (by omega)]
      · by_cases h3 : 1048576 < cs.length
        · rw [if_pos h3]
          refine Ev.step (f := fun _ => some 3) (fun k => ?_) (Ev.now 3)
          rw [cnf_Right.j0, if_neg (by decide), if_pos (by omega)]
        · rw [if_neg h3]
          refine Ev.step (f := fun k => cnf_Right.l0 k ((16777216 : Nat) : Int) cs (cs.length : Int) ((0 : Nat) : Int) v cs) (fun k => ?_) ?_
          · rw [cnf_Right.j0, if_neg (by decide), if_neg (by omega)]
            rfl
          · have := cright_loops v (by omega) cs hl hg cs.length 0 16777216 (by omega) (Nat.le_refl _)
            rw [List.drop_zero] at this
            exact this
theorem rright_loops (v : Int) (hv : 0 ≤ v) (cs : List (List Int)) (hl : cs.length ≤ 9223372036854775806) (hg : ∀ c ∈ cs, c.length ≤ 9223372036854775806 ∧ ∀ x ∈ c, I32 x) :
    ∀ (d i n : Nat) (y : Int), i + d = cs.length → n ≤ 16777216 → y + (n : Int) = 16777216 → Ev (fun k => threshingref01_Right.l0 k y (i : Int) v cs) (dRightL v n (cs.drop i).flatten) := by
  intro d
  induction d with
  | zero =>
    intro i n y hi hn hy
    refine Ev.step (f := fun _ => some 0) (fun k => ?_) ?_
    · rw [threshingref01_Right.l0, if_neg (by omega)]
    · rw [List.drop_eq_nil_of_le (by omega)]
      have : dRightL v n [] = 0 := by cases n <;> rfl
      rw [List.flatten_nil, this]
      exact Ev.now 0
  | succ d ih =>
    intro i n y hi hn hy
    have hlt : i < cs.length := by omega
    have hmem := hg cs[i] (List.getElem_mem hlt)
    obtain ⟨c, hc⟩ : ∃ c, c = cs[i] := ⟨_, rfl⟩
    rw [← hc] at hmem
    have inner : ∀ (e j n : Nat) (y : Int), j + e = c.length → n ≤ 16777216 → y + (n : Int) = 16777216 → Ev (fun k => threshingref01_Right.l1 k y (i : Int) (j : Int) v cs) (dRightL v n (c.drop j ++ (cs.drop (i + 1)).flatten)) := by
      intro e
      induction e with
      | zero =>
        intro j n y hj hn hy
        refine Ev.step (f := fun k => threshingref01_Right.l0 k y ((i + 1 : Nat) : Int) v cs) (fun k => ?_) ?_
        · rw [threshingref01_Right.l1, if_pos (by omega), if_pos (by omega), rdL6_nat cs i hlt, ← hc, if_neg (by omega), wrap_id (x := (i : Int) + 1) (by omega) (by omega)]
          rfl
        · rw [List.drop_eq_nil_of_le (by omega), List.nil_append]
          exact ih (i + 1) n y (by omega) hn hy
      | succ e ihe =>
        intro j n y hj hn hy
        have hjl : j < c.length := by omega
        have hx := hmem.2 c[j] (List.getElem_mem hjl)
        rw [List.drop_eq_getElem_cons hjl, List.cons_append]
        obtain ⟨x, hxe⟩ : ∃ x, x = c[j] := ⟨_, rfl⟩
        rw [← hxe] at hx ⊢
        cases n with
        | zero =>
          refine Ev.step (f := fun _ => some 3) (fun k => ?_) (Ev.now 3)
          rw [threshingref01_Right.l1, if_pos (by omega), if_pos (by omega), rdL6_nat cs i hlt, ← hc, if_pos (by omega), wrap_id (x := y + 1) (by omega) (by omega), if_pos (by omega)]
        | succ n =>
          have head : ∀ k, threshingref01_Right.l1 (k + 1) y (i : Int) (j : Int) v cs = if x = 0 ∨ x < -v ∨ v < x then some 4 else threshingref01_Right.l1 k (y + 1) (i : Int) ((j + 1 : Nat) : Int) v cs := by
            intro k
            have b1 : ¬ (y + 1 > 16777216) := by omega
            have b2 : (0 : Int) ≤ (j : Int) := by omega
            have b3 : (0 : Int) ≤ (i : Int) := by omega
            have b4 : (i : Int) < (cs.length : Int) := by omega
            have b5 : (j : Int) < (c.length : Int) := by omega
            have hw2 : wrap64 ((j : Int) + 1) = ((j + 1 : Nat) : Int) := by rw [wrap_id (by omega) (by omega)]; rfl
            have hw1 : wrap64 (y + 1) = y + 1 := wrap_id (by omega) (by omega)
            rw [threshingref01_Right.l1, if_pos b3, if_pos b4, rdL6_nat cs i hlt, ← hc, if_pos b5, hw1, if_neg b1, if_pos b2, rd_nat c j hjl, ← hxe, rvar_f x hx, Option.bind_some, hw2]
            clear hw1 hw2
            by_cases h0 : x = 0
            · rw [if_pos h0, if_pos (.inl h0)]
            · rw [if_neg h0]
              by_cases hb : (if x < 0 then -x else x) > v
              · rw [if_pos hb, if_pos]
                by_cases hx0 : x < 0
                · rw [if_pos hx0] at hb; omega
                · rw [if_neg hx0] at hb; omega
              · rw [if_neg hb, if_neg]
                by_cases hx0 : x < 0
                · rw [if_pos hx0] at hb; omega
                · rw [if_neg hx0] at hb; omega
          rw [dRightL]
          by_cases hbad : x = 0 ∨ x < -v ∨ v < x
          · rw [if_pos hbad]
            refine Ev.step (f := fun _ => some 4) (fun k => ?_) (Ev.now 4)
            rw [head, if_pos hbad]
          · rw [if_neg hbad]
            refine Ev.step (f := fun k => threshingref01_Right.l1 k (y + 1) (i : Int) ((j + 1 : Nat) : Int) v cs) (fun k => ?_) (ihe (j + 1) n (y + 1) (by omega) (by omega) (by omega))
            rw [head, if_neg hbad]
    refine Ev.step (f := fun k => threshingref01_Right.l1 k y (i : Int) ((0 : Nat) : Int) v cs) (fun k => ?_) ?_
    · rw [threshingref01_Right.l0, if_pos (by omega)]
      rfl
    · have := inner c.length 0 n y (by omega) hn hy
      rw [List.drop_zero] at this
      rw [left_cons cs i hlt, ← hc]
      exact this
theorem rright_ev (v : Int) (cs : List (List Int)) (hl : cs.length ≤ 9223372036854775806) (hg : ∀ c ∈ cs, c.length ≤ 9223372036854775806 ∧ ∀ x ∈ c, I32 x) : Ev (fun k => threshingref01_Right.f k v cs) (dRight v cs) := by
  unfold dRight
  by_cases h1 : v < 0
  · rw [if_pos (.inl h1)]
    refine Ev.congr (f := fun k => threshingref01_Right.j0 k true v cs) (fun k => ?_) (Ev.step (f := fun _ => some 2) (fun k => ?_) (Ev.now 2))
    · unfold threshingref01_Right.f
      rw [if_pos h1]
    · rw [threshingref01_Right.j0, if_pos rfl]
  · by_cases h2 : 1048576 < v
    · rw [if_pos (.inr h2)]
      refine Ev.congr (f := fun k => threshingref01_Right.j0 k true v cs) (fun k => ?_) (Ev.step (f := fun _ => some 2) (fun k => ?_) (Ev.now 2))
      · unfold threshingref01_Right.f
        rw [if_neg h1, decide_eq_true (by omega)]
      · rw [threshingref01_Right.j0, if_pos rfl]
    · rw [if_neg (by omega)]
      refine Ev.congr (f := fun k => threshingref01_Right.j0 k false v cs) (fun k => ?_) ?_
      · unfold threshingref01_Right.f
        rw [if_neg h1, decide_eq_false (by omega)]
      · by_cases h3 : 1048576 < cs.length
        · rw [if_pos h3]
          refine Ev.step (f := fun _ => some 3) (fun k => ?_) (Ev.now 3)
          rw [threshingref01_Right.j0, if_neg (by decide), if_pos (by omega)]
        · rw [if_neg h3]
          refine Ev.step (f := fun k => threshingref01_Right.l0 k 0 ((0 : Nat) : Int) v cs) (fun k => ?_) ?_
          · rw [threshingref01_Right.j0, if_neg (by decide), if_neg (by omega)]
            rfl
          · have := rright_loops v (by omega) cs hl hg cs.length 0 16777216 0 (by omega) (Nat.le_refl _) (by omega)
            rw [List.drop_zero] at this
            exact this
/-! ### The same -/
theorem sameC_ev (c : List Int) (hl : c.length ≤ 9223372036854775806) : Ev (fun k => threshingkit_SameClause.f k c c) true := by
  have loop : ∀ (d i : Nat), i + d = c.length → Ev (fun k => threshingkit_SameClause.l0 k c c (i : Int)) true := by
    intro d
    induction d with
    | zero =>
      intro i hi
      refine Ev.step (f := fun _ => some true) (fun k => ?_) (Ev.now true)
      rw [threshingkit_SameClause.l0, if_neg (by omega)]
    | succ d ih =>
      intro i hi
      refine Ev.step (f := fun k => threshingkit_SameClause.l0 k c c ((i + 1 : Nat) : Int)) (fun k => ?_) (ih (i + 1) (by omega))
      rw [threshingkit_SameClause.l0, if_pos (by omega), if_pos (by omega), if_pos (by omega), if_pos rfl, wrap_id (by omega) (by omega)]
      rfl
  refine Ev.congr (f := fun k => threshingkit_SameClause.l0 k c c ((0 : Nat) : Int)) (fun k => ?_) (loop c.length 0 (by omega))
  unfold threshingkit_SameClause.f
  rw [if_pos rfl]
  rfl
theorem sameF_ev (v : Int) (cs : List (List Int)) (hl : cs.length ≤ 9223372036854775806) (hg : ∀ c ∈ cs, c.length ≤ 9223372036854775806) : Ev (fun k => threshingkit_SameFormula.f k v cs v cs) true := by
  have loop : ∀ (d i : Nat), i + d = cs.length → Ev (fun k => threshingkit_SameFormula.l0 k (i : Int) v cs v cs) true := by
    intro d
    induction d with
    | zero =>
      intro i hi
      refine Ev.step (f := fun _ => some true) (fun k => ?_) (Ev.now true)
      rw [threshingkit_SameFormula.l0, if_neg (by omega)]
    | succ d ih =>
      intro i hi
      have hlt : i < cs.length := by omega
      refine Ev.step (f := fun k => (threshingkit_SameClause.f k cs[i] cs[i]).bind fun t => if t = true then threshingkit_SameFormula.l0 k ((i + 1 : Nat) : Int) v cs v cs else some false) (fun k => ?_) (Ev.bind (f := fun k t => if t = true then threshingkit_SameFormula.l0 k ((i + 1 : Nat) : Int) v cs v cs else some false) (sameC_ev cs[i] (hg _ (List.getElem_mem hlt))) ?_)
      · rw [threshingkit_SameFormula.l0, if_pos (by omega), if_pos (by omega), if_pos (by omega), rdL6_nat cs i hlt, wrap_id (by omega) (by omega)]
        rfl
      · simp only [if_true]
        exact ih (i + 1) (by omega)
  refine Ev.congr (f := fun k => threshingkit_SameFormula.j0 k false v cs v cs) (fun k => ?_) (Ev.step (f := fun k => threshingkit_SameFormula.l0 k ((0 : Nat) : Int) v cs v cs) (fun k => ?_) (loop cs.length 0 (by omega)))
  · unfold threshingkit_SameFormula.f
    rw [if_pos rfl]
    congr 1
    simp
  · rw [threshingkit_SameFormula.j0, if_neg (by decide)]
    rfl
theorem sameM_ev (m : List Bool) (hl : m.length ≤ 9223372036854775806) : Ev (fun k => threshingkit_SameModel.f k m m) true := by
  have loop : ∀ (d i : Nat), i + d = m.length → Ev (fun k => threshingkit_SameModel.l0 k m m (i : Int)) true := by
    intro d
    induction d with
    | zero =>
      intro i hi
      refine Ev.step (f := fun _ => some true) (fun k => ?_) (Ev.now true)
      rw [threshingkit_SameModel.l0, if_neg (by omega)]
    | succ d ih =>
      intro i hi
      refine Ev.step (f := fun k => threshingkit_SameModel.l0 k m m ((i + 1 : Nat) : Int)) (fun k => ?_) (ih (i + 1) (by omega))
      rw [threshingkit_SameModel.l0, if_pos (by omega), if_pos (by omega), if_pos (by omega), if_neg (by simp), wrap_id (by omega) (by omega)]
      rfl
  refine Ev.congr (f := fun k => threshingkit_SameModel.l0 k m m ((0 : Nat) : Int)) (fun k => ?_) (loop m.length 0 (by omega))
  unfold threshingkit_SameModel.f
  rw [if_pos rfl]
  rfl
/-! ### Size -/
theorem size_ev (v : Int) (cs : List (List Int)) (hl : cs.length ≤ 140737488355328) (hg : ∀ c ∈ cs, c.length ≤ 140737488355328) : ∃ m : Int, Ev (fun k => threshingkit_Size.f k v cs 3000) m ∧ (m ≤ 3000 → (cs.map List.length).sum + cs.length ≤ 3000) := by
  have loop : ∀ (d i n : Nat), i + d = cs.length → n = cs.length + ((cs.take i).map List.length).sum → n ≤ 281474976710656 + 3000 → ∃ m : Int, Ev (fun k => threshingkit_Size.l0 k 3000 (n : Int) (i : Int) v cs) m ∧ (m ≤ 3000 → (cs.map List.length).sum + cs.length ≤ 3000) := by
    intro d
    induction d with
    | zero =>
      intro i n hi hn hb
      refine ⟨_, Ev.step (f := fun _ => some (mn (n : Int) 3001)) (fun k => ?_) (Ev.now _), fun hm => ?_⟩
      · rw [threshingkit_Size.l0, if_neg (by omega), wrap_id (x := 3000 + 1) (by omega) (by omega)]
        rfl
      · rw [List.take_of_length_le (by omega)] at hn
        unfold mn at hm
        split at hm <;> omega
    | succ d ih =>
      intro i n hi hn hb
      have hlt : i < cs.length := by omega
      by_cases h3 : (n : Int) ≤ 3000
      · have hc := hg _ (List.getElem_mem hlt)
        obtain ⟨m, h1, h2⟩ := ih (i + 1) (n + cs[i].length) (by omega) (by rw [List.take_succ_eq_append_getElem hlt, List.map_append, List.sum_append, hn]; simp only [List.map_cons, List.map_nil, List.sum_cons, List.sum_nil]; omega) (by omega)
        refine ⟨m, Ev.step (f := fun k => threshingkit_Size.l0 k 3000 ((n + cs[i].length : Nat) : Int) ((i + 1 : Nat) : Int) v cs) (fun k => ?_) h1, h2⟩
        rw [threshingkit_Size.l0, if_pos (by omega), if_pos h3, if_pos (by omega), rdL6_nat cs i hlt, wrap_id (x := (n : Int) + (cs[i].length : Int)) (by omega) (by omega), wrap_id (x := (i : Int) + 1) (by omega) (by omega)]
        rfl
      · refine ⟨_, Ev.step (f := fun _ => some (mn (n : Int) 3001)) (fun k => ?_) (Ev.now _), fun hm => ?_⟩
        · rw [threshingkit_Size.l0, if_pos (by omega), if_neg h3, wrap_id (x := 3000 + 1) (by omega) (by omega)]
          rfl
        · unfold mn at hm
          split at hm <;> omega
  obtain ⟨m, h1, h2⟩ := loop cs.length 0 cs.length (by omega) (by simp) (by omega)
  exact ⟨m, h1, h2⟩
end Go.Proofs.YtigloobbpcnnhaaDoor.PB
end

section
namespace Go.Proofs.YtigloobbpcnnhaaDoor.PB
open Go.RowKit Go.Proofs.YtigloobbpcnnhaaDoorW.PrintWords Go.Proofs.YtigloobbpcnnhaaDoorW.PrintLast Go.Proofs.YtigloobbpcnnhaaDoorW.PrintMore
set_option linter.unusedVariables false
set_option linter.unusedSimpArgs false
/-! ### Print -/
def print.T4 : Bool × List (List Nat × List Nat) := (true, [([], []), ([0], [0]), ([1], [1]), ([2], [2]), ([3], [3]), ([], []), ([5], [5]), ([6], [6]), ([7, 2], [7]), ([4, 8], [4, 8]), ([9], [9]), ([10], [10]), ([11, 8, 0, 1, 2, 3, 4, 5, 6, 7, 8, 9, 10, 11], [11])])
def print.B4 : List Nat := [0, 1, 3, 7, 15, 0, 32, 96, 231, 511, 1023, 2047, 4095]
theorem print.tab4 : rtab .any (opsOf Tryd.f12 4) = print.T4 := by kernel_rfl
theorem print.bits4 : waitsOk print.T4.2 print.B4 = true := by kernel_rfl
def dLits (c : List Int) : List UInt8 := c.flatMap fun x => Lib.itoa x ++ [32]
theorem dLits_snoc (c : List Int) (x : Int) : dLits (c ++ [x]) = dLits c ++ (Lib.itoa x ++ [32]) := by simp [dLits]
theorem dClause_lits (c : List Int) : dClause c = dLits c ++ [48, 10] := rfl
/-- What has been written: i clauses, j literals of the next. -/
def dPt (v : Int) (cs : List (List Int)) (i : Nat) (l : List Int) : List UInt8 := dHeadL v cs.length ++ [10] ++ (cs.take i).flatMap dClause ++ dLits l
theorem dPt_next (v : Int) (cs : List (List Int)) (i : Nat) (h : i < cs.length) : dPt v cs i cs[i] ++ [48, 10] = dPt v cs (i + 1) [] := by
  unfold dPt
  rw [List.take_succ_eq_append_getElem h, List.flatMap_append]
  simp [dClause_lits, dLits]
theorem dPt_end (v : Int) (cs : List (List Int)) : dPt v cs cs.length [] = dText v cs := by
  unfold dPt dText dHeadL
  rw [List.take_length]
  simp [dLits]
theorem dPt_len (v : Int) (cs : List (List Int)) (i : Nat) (h : i < cs.length) (j : Nat) (hj : j ≤ cs[i].length) : (dPt v cs i (cs[i].take j)).length + 2 ≤ (dText v cs).length := by
  have e : dText v cs = dPt v cs i (cs[i].take j) ++ (dLits (cs[i].drop j) ++ ([48, 10] ++ (cs.drop (i + 1)).flatMap dClause)) := by
    have hc : cs = cs.take i ++ cs[i] :: cs.drop (i + 1) := by rw [← List.drop_eq_getElem_cons h, List.take_append_drop]
    have h2 : cs.flatMap dClause = (cs.take i).flatMap dClause ++ (dClause cs[i] ++ (cs.drop (i + 1)).flatMap dClause) := by
      conv => lhs; rw [hc]
      rw [List.flatMap_append, List.flatMap_cons]
    have h3 : dLits cs[i] = dLits (cs[i].take j) ++ dLits (cs[i].drop j) := by
      unfold dLits
      rw [← List.flatMap_append, List.take_append_drop]
    have h4 : dText v cs = dHeadL v cs.length ++ [10] ++ cs.flatMap dClause := by simp [dText, dHeadL]
    rw [h4, h2, dClause_lits, h3]
    unfold dPt
    simp
  rw [e]
  simp only [List.length_append, List.length_cons, List.length_nil]
  omega
theorem head_bytes (v : Int) (n : Nat) : baOf [112, 32, 99, 110, 102, 32] ++ baOf (Lib.itoa v) ++ baOf [32] ++ baOf (Lib.itoa (n : Int)) ++ baOf [10] = baOf (dHeadL v n ++ [10]) := by
  simp only [baOf_append]
  rfl
set_option maxHeartbeats 4000000 in
set_option maxRecDepth 100000 in
theorem print_calls (v : Int) (A : Option Addr) (c : Nat) (cs : List (List Int)) (w : World) (hC : kcs.C w A cs.length cs) (hc : cs.length ≤ c) (hg : ∀ q ∈ cs, q.length ≤ 140737488355328 ∧ ∀ x ∈ q, I32 x) (hl : cs.length ≤ 140737488355328) (hz : (cs.map List.length).sum + cs.length ≤ 1000000) (hlt : LT w.heap.size w) :
    Calls Tryd.prog 12 #[.agg #[.int .i64 v, .slice A cs.length c]] w fun e w' => ∃ rv, e = .returned (.tuple #[rv, .int .i64 (dPrint v cs).2]) ∧ ((dRight v cs = 0 → EM w' w.heap.size rv (dText v cs)) ∧ (dRight v cs ≠ 0 → rv = .slice none 0 0)) ∧ Below w.heap.size w w' := by
  have HLT := Aside0.mk hlt
  have HC := Aside0.mk hC
  obtain ⟨kr, hkr⟩ := (cright_ev v cs (by omega) (fun q hq => ⟨by have := (hg q hq).1; omega, (hg q hq).2⟩)).rounds
  have HKR := Aside0.mk hkr
  clear hlt hC hkr hg hl
  obtain ⟨er, her⟩ : ∃ er, er = dRight v cs := ⟨_, rfl⟩
  rw [← her] at HKR
  by_cases h0 : er = 0
  · have hd := (dRight_zero v cs).1 (her ▸ h0)
    have HD := Aside0.mk hd
    have hv0 : -9223372036854775808 ≤ v := by have := hd.v0; omega
    have hv1 : v ≤ 9223372036854775807 := by have := hd.v1; omega
    have hn0 : -9223372036854775808 ≤ (cs.length : Int) := by omega
    have hn1 : (cs.length : Int) ≤ 9223372036854775807 := by have := hd.c; omega
    have hnl : (cs.length : Int) ≤ 1048576 := by have := hd.c; omega
    have HTL := Aside0.mk (show (dText v cs).length ≤ 30000000 by have := dText_len v cs hd; omega)
    obtain ⟨sv, hsv⟩ : ∃ sv, sv = baOf (Lib.itoa v) := ⟨_, rfl⟩
    obtain ⟨sn, hsn⟩ : ∃ sn, sn = baOf (Lib.itoa (cs.length : Int)) := ⟨_, rfl⟩
    have hsvz : sv.size ≤ 21 := by rw [hsv]; exact itoa_len v hv0 hv1
    have hsnz : sn.size ≤ 21 := by rw [hsn]; exact itoa_len (cs.length : Int) hn0 hn1
    have hb0 := head_bytes v cs.length
    rw [← hsv, ← hsn] at hb0
    have HHB := Aside0.mk (show baOf (dHeadL v cs.length ++ [10]) = (((((⟨#[112, 32, 99, 110, 102, 32]⟩ : ByteArray) ++ sv) ++ (⟨#[32]⟩ : ByteArray)) ++ sn) ++ (⟨#[10]⟩ : ByteArray)) from hb0.symm)
    have hbs : (((((⟨#[112, 32, 99, 110, 102, 32]⟩ : ByteArray) ++ sv) ++ (⟨#[32]⟩ : ByteArray)) ++ sn) ++ (⟨#[10]⟩ : ByteArray)).size = 8 + sv.size + sn.size := by
      simp only [ByteArray.size_append]
      show 6 + sv.size + 1 + sn.size + 1 = _
      omega
    obtain ⟨HBZ, hHBZ⟩ : ∃ z, z = (((((⟨#[112, 32, 99, 110, 102, 32]⟩ : ByteArray) ++ sv) ++ (⟨#[32]⟩ : ByteArray)) ++ sn) ++ (⟨#[10]⟩ : ByteArray)).size := ⟨_, rfl⟩
    have HHBZ := Aside0.mk hHBZ.symm
    have HHBS := Aside0.mk (show HBZ ≤ 9223372036854775807 by omega)
    have HHBL := Aside0.mk (show HBZ = (dHeadL v cs.length ++ [10]).length by rw [hHBZ, ← HHB.out]; rfl)
    have HSV := Aside0.mk hsv
    have HSN := Aside0.mk hsn
    have HP := Aside0.mk (show (dPrint v cs).2 = 0 by unfold dPrint; rw [if_pos (her ▸ h0)])
    have HE := Aside0.mk (show dRight v cs = 0 from her ▸ h0)
    clear hbs hb0 hHBZ hsv hsn
    subst h0
    clear her hd hz
    have z0 : 6 + sv.size ≤ 9223372036854775807 := by omega
    have z1 : decide (6 + sv.size ≤ 9223372036854775807) = true := decide_eq_true z0
    have z2 : (9223372036854775807 < 6 + sv.size) = False := eq_false (Nat.not_lt.2 z0)
    replace z0 := eq_true z0
    have q0 : ((⟨#[112, 32, 99, 110, 102, 32]⟩ : ByteArray) ++ sv).size + 1 ≤ 9223372036854775807 := by rw [ByteArray.size_append]; show 6 + sv.size + 1 ≤ _; omega
    have q1 : decide (((⟨#[112, 32, 99, 110, 102, 32]⟩ : ByteArray) ++ sv).size + 1 ≤ 9223372036854775807) = true := decide_eq_true q0
    have q2 : (9223372036854775807 < ((⟨#[112, 32, 99, 110, 102, 32]⟩ : ByteArray) ++ sv).size + 1) = False := eq_false (Nat.not_lt.2 q0)
    replace q0 := eq_true q0
    have qq0 : 6 + sv.size + 1 ≤ 9223372036854775807 := by omega
    have qq1 : decide (6 + sv.size + 1 ≤ 9223372036854775807) = true := decide_eq_true qq0
    have qq2 : (9223372036854775807 < 6 + sv.size + 1) = False := eq_false (Nat.not_lt.2 qq0)
    replace qq0 := eq_true qq0
    have y0 : (((⟨#[112, 32, 99, 110, 102, 32]⟩ : ByteArray) ++ sv) ++ (⟨#[32]⟩ : ByteArray)).size + sn.size ≤ 9223372036854775807 := by rw [ByteArray.size_append, ByteArray.size_append]; show 6 + sv.size + 1 + sn.size ≤ _; omega
    have y1 : decide ((((⟨#[112, 32, 99, 110, 102, 32]⟩ : ByteArray) ++ sv) ++ (⟨#[32]⟩ : ByteArray)).size + sn.size ≤ 9223372036854775807) = true := decide_eq_true y0
    have y2 : (9223372036854775807 < (((⟨#[112, 32, 99, 110, 102, 32]⟩ : ByteArray) ++ sv) ++ (⟨#[32]⟩ : ByteArray)).size + sn.size) = False := eq_false (Nat.not_lt.2 y0)
    replace y0 := eq_true y0
    have yy0 : 6 + sv.size + 1 + sn.size ≤ 9223372036854775807 := by omega
    have yy1 : decide (6 + sv.size + 1 + sn.size ≤ 9223372036854775807) = true := decide_eq_true yy0
    have yy2 : (9223372036854775807 < 6 + sv.size + 1 + sn.size) = False := eq_false (Nat.not_lt.2 yy0)
    replace yy0 := eq_true yy0
    have x_0 : ((((⟨#[112, 32, 99, 110, 102, 32]⟩ : ByteArray) ++ sv) ++ (⟨#[32]⟩ : ByteArray)) ++ sn).size + 1 ≤ 9223372036854775807 := by rw [ByteArray.size_append, ByteArray.size_append, ByteArray.size_append]; show 6 + sv.size + 1 + sn.size + 1 ≤ _; omega
    have x_1 : decide (((((⟨#[112, 32, 99, 110, 102, 32]⟩ : ByteArray) ++ sv) ++ (⟨#[32]⟩ : ByteArray)) ++ sn).size + 1 ≤ 9223372036854775807) = true := decide_eq_true x_0
    have x_2 : (9223372036854775807 < ((((⟨#[112, 32, 99, 110, 102, 32]⟩ : ByteArray) ++ sv) ++ (⟨#[32]⟩ : ByteArray)) ++ sn).size + 1) = False := eq_false (Nat.not_lt.2 x_0)
    replace x_0 := eq_true x_0
    have xx0 : 6 + sv.size + 1 + sn.size + 1 ≤ 9223372036854775807 := by omega
    have xx1 : decide (6 + sv.size + 1 + sn.size + 1 ≤ 9223372036854775807) = true := decide_eq_true xx0
    have xx2 : (9223372036854775807 < 6 + sv.size + 1 + sn.size + 1) = False := eq_false (Nat.not_lt.2 xx0)
    replace xx0 := eq_true xx0
    go_enter Tryd.func12, Tryd.ntmps12
    go_upto_region 4 with (first | ((with_reducible refine gate_dst (N := 1) rfl ?_); refine box_event ?hg (N := 1) ?hd (cs := #[.int .i64 v, .slice A cs.length c]) (t := 25) ?hr ?_; (case hd => rfl); (case hg => rfl); (case hr => first | (go_simp; done) | (go_simp; rfl)); intro g1 hgb w1 hbox hb; have HG1 := Aside0.mk hbox; have HB1 := Aside0.mk hb; have hcz0 := (blk_cell hbox 0).trans (show _ = some (Value.int .i64 v) from rfl); have hcz1 := (blk_cell hbox 1).trans (show _ = some (Value.slice A cs.length c) from rfl); clear hbox hb hgb) | (go_at_call 16; refine (cnf_Right.calls kr v A c cs 0 w1 (Kd.C_below HC.out HB1.out) hc HKR.out).mono ?_; rintro e w2 ⟨rfl, hb⟩; have HB2 := Aside0.mk (below_step HB1.out hb); have HG2 := Aside0.mk (blk_below HG1.out hb); clear hb hcz0 hcz1))
    refine start_ (n := 13) (S := fun w' => w'.heap[g1]? = some (.cells #[.int .i64 v, .slice A cs.length c] 25 (0, 0))) (ds := []) #[false, false, false, false, false, false, false, false, false, false, false, false, false] (by kernel_rfl) rfl rfl (blk_drew HG2.out) (fun hHeld => ?_); refine with_tabW print.tab4 print.bits4 (fun HT_ HW_ => ?_)
    have HB3 := Aside0.mk (below_drew1 HB2.out)
    have HG3 := Aside0.mk (blk_drew HG2.out)
    generalize w2.drew = w3 at HB3 HG3 hHeld ⊢
    refine pure_ (i := 0) (N := some 15) (v := ?_) (a' := ?_) #[true, false, false, false, false, false, false, false, false, false, false, false, false] rfl rfl (any_of HT_.out (by kernel_rfl)) (fun _ _ _ h => h) (Or.inl ⟨by rfl, ?_⟩) ?_ ?_
    rotate_left
    · intro w'
      go_simp
      with_reducible rfl
    rotate_left
    · simp only [Act.put, List.setIfInBounds_toArray, List.set_cons_zero, List.set_cons_succ, i64_w, i32_w]
      rfl
    refine take_ (i := 1) (N := some 16) (v := ?_) (a' := ?_) #[true, true, false, false, false, false, false, false, false, false, false, false, false] rfl rfl (take_ofW HT_.out HW_.out (by kernel_rfl)) (fun _ _ _ h => h) (Or.inl ⟨by rfl, ?_⟩) hHeld ?_ ?_
    rotate_left
    · rintro w' hS
      have hcz1 := (blk_cell hS 0).trans (show _ = some (Value.int .i64 v) from rfl)
      go_simp
      with_reducible rfl
    rotate_left
    · simp only [Act.put, List.setIfInBounds_toArray, List.set_cons_zero, List.set_cons_succ, i64_w, i32_w]
      rfl
    refine pure_ (i := 5) (N := some 20) (v := ?_) (a' := ?_) #[true, true, false, false, false, true, false, false, false, false, false, false, false] rfl rfl (any_of HT_.out (by kernel_rfl)) (fun _ _ _ h => h) (Or.inl ⟨by rfl, ?_⟩) ?_ ?_
    rotate_left
    · intro w'
      go_simp
      with_reducible rfl
    rotate_left
    · simp only [Act.put, List.setIfInBounds_toArray, List.set_cons_zero, List.set_cons_succ, i64_w, i32_w]
      rfl
    refine take_ (i := 6) (N := some 21) (v := ?_) (a' := ?_) #[true, true, false, false, false, true, true, false, false, false, false, false, false] rfl rfl (take_ofW HT_.out HW_.out (by kernel_rfl)) (fun _ _ _ h => h) (Or.inl ⟨by rfl, ?_⟩) hHeld ?_ ?_
    rotate_left
    · rintro w' hS
      have hcz1 := (blk_cell hS 1).trans (show _ = some (Value.slice A cs.length c) from rfl)
      go_simp
      with_reducible rfl
    rotate_left
    · simp only [Act.put, List.setIfInBounds_toArray, List.set_cons_zero, List.set_cons_succ, i64_w, i32_w]
      rfl
    refine pure_ (i := 7) (N := some 22) (v := ?_) (a' := ?_) #[true, true, false, false, false, true, true, true, false, false, false, false, false] rfl rfl (any_of HT_.out (by kernel_rfl)) (fun _ _ _ h => h) (Or.inl ⟨by rfl, ?_⟩) ?_ ?_
    rotate_left
    · intro w'
      go_simp
      with_reducible rfl
    rotate_left
    · simp only [Act.put, List.setIfInBounds_toArray, List.set_cons_zero, List.set_cons_succ, i64_w, i32_w]
      rfl
    refine one_ (i := 2) (N := some 17) #[true, true, true, false, false, true, true, true, false, false, false, false, false] rfl rfl (one_of HT_.out (by kernel_rfl)) (by decide) (fun K hK => ?_)
    refine goes_ Tryd.func28 (by kernel_rfl) rfl #[.int .i64 v] (by rfl) rfl rfl (by (try simp only [List.map_toArray, List.map_cons, List.map_nil]); first | done | rfl) ?_
    refine (itoa_calls v w3 hv0 hv1 (HLT.out.on HB3.out).here).mono ?_
    rw [← HSV.out]
    rintro e4 w4 ⟨rfl, hb⟩
    refine ⟨_, rfl, ?_⟩
    have HB4 := Aside0.mk (below_step HB3.out hb)
    have HG4 := Aside0.mk (blk_below HG3.out hb)
    clear hb
    refine hK.out _ _ HG4.out (fun hHeld => ?_)
    clear hK K
    refine norm_ (a' := ?_) ?_ ?_
    rotate_left
    · show Act.put _ (some 17) _ = _
      simp only [Act.put, List.setIfInBounds_toArray, List.set_cons_zero, List.set_cons_succ, i64_w, i32_w]
      rfl
    refine pure_ (i := 3) (N := some 18) (v := ?_) (a' := ?_) #[true, true, true, true, false, true, true, true, false, false, false, false, false] rfl rfl (any_of HT_.out (by kernel_rfl)) (fun _ _ _ h => h) (Or.inl ⟨by rfl, ?_⟩) ?_ ?_
    rotate_left
    · intro w'
      go_simp
      with_reducible rfl
    rotate_left
    · simp only [Act.put, List.setIfInBounds_toArray, List.set_cons_zero, List.set_cons_succ, i64_w, i32_w]
      rfl
    refine pure_ (i := 4) (N := some 19) (v := ?_) (a' := ?_) #[true, true, true, true, true, true, true, true, false, false, false, false, false] rfl rfl (any_of HT_.out (by kernel_rfl)) (fun _ _ _ h => h) (Or.inl ⟨by rfl, ?_⟩) ?_ ?_
    rotate_left
    · intro w'
      go_simp
      with_reducible rfl
    rotate_left
    · simp only [Act.put, List.setIfInBounds_toArray, List.set_cons_zero, List.set_cons_succ, i64_w, i32_w]
      rfl
    refine one_ (i := 8) (N := some 23) #[true, true, true, true, true, true, true, true, true, false, false, false, false] rfl rfl (one_of HT_.out (by kernel_rfl)) (by decide) (fun K hK => ?_)
    refine goes_ Tryd.func28 (by kernel_rfl) rfl #[.int .i64 (cs.length : Int)] (by rfl) rfl rfl (by (try simp only [List.map_toArray, List.map_cons, List.map_nil]); first | done | rfl) ?_
    refine (itoa_calls (cs.length : Int) w4 hn0 hn1 (HLT.out.on HB4.out).here).mono ?_
    rw [← HSN.out]
    rintro e5 w5 ⟨rfl, hb⟩
    refine ⟨_, rfl, ?_⟩
    have HB5 := Aside0.mk (below_step HB4.out hb)
    have HG5 := Aside0.mk (blk_below HG4.out hb)
    clear hb
    refine hK.out _ _ HG5.out (fun hHeld => ?_)
    clear hK K
    refine norm_ (a' := ?_) ?_ ?_
    rotate_left
    · show Act.put _ (some 23) _ = _
      simp only [Act.put, List.setIfInBounds_toArray, List.set_cons_zero, List.set_cons_succ, i64_w, i32_w]
      rfl
    refine pure_ (i := 9) (N := some 24) (v := ?_) (a' := ?_) #[true, true, true, true, true, true, true, true, true, true, false, false, false] rfl rfl (any_of HT_.out (by kernel_rfl)) (fun _ _ _ h => h) (Or.inl ⟨by rfl, ?_⟩) ?_ ?_
    rotate_left
    · intro w'
      go_simp
      with_reducible rfl
    rotate_left
    · simp only [Act.put, List.setIfInBounds_toArray, List.set_cons_zero, List.set_cons_succ, i64_w, i32_w]
      rfl
    refine pure_ (i := 10) (N := some 25) (v := ?_) (a' := ?_) #[true, true, true, true, true, true, true, true, true, true, true, false, false] rfl rfl (any_of HT_.out (by kernel_rfl)) (fun _ _ _ h => h) (Or.inl ⟨by rfl, ?_⟩) ?_ ?_
    rotate_left
    · intro w'
      go_simp
      with_reducible rfl
    rotate_left
    · simp only [Act.put, List.setIfInBounds_toArray, List.set_cons_zero, List.set_cons_succ, i64_w, i32_w]
      rfl
    refine one_ (i := 11) (N := some 26) #[true, true, true, true, true, true, true, true, true, true, true, true, false] rfl rfl (one_of HT_.out (by kernel_rfl)) (by decide) (fun K hK => ?_)
    refine value_ (w1 := Lib.bytesWorld w5 5 (((((⟨#[112, 32, 99, 110, 102, 32]⟩ : ByteArray) ++ sv) ++ (⟨#[32]⟩ : ByteArray)) ++ sn) ++ (⟨#[10]⟩ : ByteArray))) (v := .slice (some ⟨w5.heap.size, 0, none⟩) HBZ (grownCap w5 HBZ 0 5)) (by rfl) rfl ?_ ?_
    · have kb := print_bytes (P := Tryd.prog) 9 22 5 Tryd.underlying9 Tryd.underlying22 Tryd.underlying5 (((((⟨#[112, 32, 99, 110, 102, 32]⟩ : ByteArray) ++ sv) ++ (⟨#[32]⟩ : ByteArray)) ++ sn) ++ (⟨#[10]⟩ : ByteArray)) w5
      rw [HHBZ.out] at kb
      unfold execOp
      simp only [Act.eval]
      simp [kb, Sem.run_bind, Sem.run_pure, Result.andThen]
    have HEM := Aside0.mk (show EM (Lib.bytesWorld w5 5 (((((⟨#[112, 32, 99, 110, 102, 32]⟩ : ByteArray) ++ sv) ++ (⟨#[32]⟩ : ByteArray)) ++ sn) ++ (⟨#[10]⟩ : ByteArray))) w.heap.size (.slice (some ⟨w5.heap.size, 0, none⟩) HBZ (grownCap w5 HBZ 0 5)) (dHeadL v cs.length ++ [10]) from by
      have := em_bytes w5 (dHeadL v cs.length ++ [10]) (by rw [← HHBL.out]; exact HHBS.out)
      rw [← HHBL.out, HHB.out] at this
      obtain ⟨g, cap, cur, fz, e1, e2, e3⟩ := this
      exact ⟨g, cap, cur, fz, e1, Nat.le_trans HB5.out.size e2, e3⟩)
    have HB6 := Aside0.mk (below_step HB5.out (bytes_below (Below.refl _ w5) (Nat.le_refl _) 5 (((((⟨#[112, 32, 99, 110, 102, 32]⟩ : ByteArray) ++ sv) ++ (⟨#[32]⟩ : ByteArray)) ++ sn) ++ (⟨#[10]⟩ : ByteArray))))
    have HG6 := Aside0.mk (blk_below HG5.out (bytes_below (Below.refl _ w5) (Nat.le_refl _) 5 (((((⟨#[112, 32, 99, 110, 102, 32]⟩ : ByteArray) ++ sv) ++ (⟨#[32]⟩ : ByteArray)) ++ sn) ++ (⟨#[10]⟩ : ByteArray))))
    obtain ⟨bv0, hbv0⟩ : ∃ bv0, bv0 = Value.slice (some ⟨w5.heap.size, 0, none⟩) HBZ (grownCap w5 HBZ 0 5) := ⟨_, rfl⟩
    rw [← hbv0] at HEM ⊢
    clear hbv0
    refine hK.out _ _ HG6.out (fun hHeld => ?_)
    clear hK K
    refine norm_ (a' := ?_) ?_ ?_
    rotate_left
    · show Act.put _ (some 26) _ = _
      simp only [Act.put, List.setIfInBounds_toArray, List.set_cons_zero, List.set_cons_succ, i64_w, i32_w]
      rfl
    refine pure_ (i := 12) (N := some 5) (v := ?_) (a' := ?_) #[true, true, true, true, true, true, true, true, true, true, true, true, true] rfl rfl (any_of HT_.out (by kernel_rfl)) (fun _ _ _ h => h) (Or.inl ⟨by rfl, ?_⟩) ?_ ?_
    rotate_left
    · intro w'
      go_simp
      with_reducible rfl
    rotate_left
    · simp only [Act.put, List.setIfInBounds_toArray, List.set_cons_zero, List.set_cons_succ, i64_w, i32_w]
      rfl
    refine done_ (done_of HT_.out (by kernel_rfl)) ?_
    have hcz1 := (blk_cell HG6.out 1).trans (show _ = some (Value.slice A cs.length c) from rfl)
    have HEM0 := Aside0.mk (show EM _ w.heap.size bv0 (dPt v cs 0 []) from by
      have := HEM.out
      unfold dPt dLits
      simpa using this)
    clear HEM
    generalize Lib.bytesWorld w5 5 (((((⟨#[112, 32, 99, 110, 102, 32]⟩ : ByteArray) ++ sv) ++ (⟨#[32]⟩ : ByteArray)) ++ sn) ++ (⟨#[10]⟩ : ByteArray)) = w6 at HB6 HG6 hcz1 HEM0 ⊢
    go_wp2
    clear hcz1
    go_loopg [5, 30] cs.length (fun gf v5 v30 wr => ∃ i : Nat, v30 = .int .i64 (i : Int) ∧ i + gf = cs.length ∧ Aside0 (EM wr w.heap.size v5 (dPt v cs i [])) ∧ Aside0 (Below w.heap.size w wr))
    case atStart => exact ⟨0, rfl, by omega, HEM0, HB6⟩
    case round =>
      clear HEM0 HB6 HG6 HB5 HG5 HB4 HG4 HB3 HG3 HB2 HG2 HB1 HG1 hHeld
      obtain ⟨i, rfl, hi, HEM, HBW⟩ := hrel
      by_cases hlt : i < cs.length
      · have t5 : decide ((i : Int) < (cs.length : Int)) = true := decide_eq_true (by omega)
        have t6 : decide (i < cs.length) = true := decide_eq_true hlt
        have hi0 : (0 : Int) ≤ (i : Int) := Int.natCast_nonneg _
        have hil : (i : Int) < (cs.length : Int) := by omega
        have hi1 : (i : Int) + 1 ≤ 1048577 := by omega
        obtain ⟨ad, A1, c1, e1, hx, hl1, hC1⟩ := at_L6 HC.out (i : Int) hi0 hil
        cases e1
        replace hx := pw_cell_below HBW.out hx
        obtain ⟨q, hq⟩ : ∃ q, q = cs[i] := ⟨_, rfl⟩
        rw [rdL6_nat cs i hlt, ← hq] at hx hl1 hC1
        rw [Int.toNat_natCast] at hx
        have HCQ := Aside0.mk hC1
        have HQ := Aside0.mk hq
        have HGQ := Aside0.mk (show ∀ x ∈ q, Glit v x by rw [hq]; exact HD.out.g _ (List.getElem_mem hlt))
        have hql : q.length ≤ 30000000 := by
          have h1 := HD.out.l
          have h2 : q.length ≤ (cs.map List.length).sum := by
            rw [hq]
            have : ∀ (L : List (List Int)) (y : List Int), y ∈ L → y.length ≤ (L.map List.length).sum := by
              intro L
              induction L with
              | nil => intro y h; cases h
              | cons a L ih =>
                intro y h
                rw [List.map_cons, List.sum_cons]
                rcases List.mem_cons.1 h with rfl | h
                · omega
                · have := ih y h; omega
            exact this cs _ (List.getElem_mem hlt)
          omega
        have HLEN := Aside0.mk (show ∀ j, j ≤ q.length → (dPt v cs i (q.take j)).length + 2 ≤ 30000000 by intro j hj; have := dPt_len v cs i hlt j (by rw [← hq]; exact hj); rw [← hq] at this; have := HTL.out; omega)
        have HNX := Aside0.mk (show dPt v cs i q ++ [48, 10] = dPt v cs (i + 1) [] by rw [hq]; exact dPt_next v cs i hlt)
        clear hC1 hq
        go_wp2
        obtain ⟨wo, rfl⟩ : ∃ wo : World, wo = wr := ⟨_, rfl⟩
        obtain ⟨gko, hgko⟩ : ∃ gko, gko = gk := ⟨_, rfl⟩
        rw [← hgko] at hi
        have HGKO := Aside0.mk hgko
        clear hgko
        go_loopg [5, 36] q.length (fun gf v5 v36 wi => ∃ j : Nat, v36 = .int .i64 (j : Int) ∧ j + gf = q.length ∧ Aside0 (EM wi w.heap.size v5 (dPt v cs i (q.take j))) ∧ Aside0 (Below w.heap.size w wi))
        case atStart => exact ⟨0, rfl, by omega, HEM, HBW⟩
        case round =>
          clear HEM
          obtain ⟨j, rfl, hj, HEM, HBI⟩ := hrel
          have HCQ2 := HCQ
          have HEB := Aside0.mk HBI.out.size
          by_cases hjt : j < q.length
          · have t7 : decide ((j : Int) < (q.length : Int)) = true := decide_eq_true (by omega)
            have t8 : decide (j < q.length) = true := decide_eq_true hjt
            have hj0 : (0 : Int) ≤ (j : Int) := Int.natCast_nonneg _
            have hjl : (j : Int) < (q.length : Int) := by omega
            have hj1 : (j : Int) + 1 ≤ 30000001 := by omega
            obtain ⟨ad2, e2, hy⟩ := Kd.at_int (Kd.C_below HCQ.out HBI.out) (j : Int) hj0 hjl
            cases e2
            obtain ⟨x, hxe⟩ : ∃ x, x = q[j] := ⟨_, rfl⟩
            rw [Int.toNat_natCast, rd_nat q j hjt, ← hxe] at hy
            have hgl := HGQ.out x (by rw [hxe]; exact List.getElem_mem hjt)
            have hx0 : -1048576 ≤ x := by have := HD.out.v1; unfold Glit at hgl; omega
            have hx1 : x ≤ 1048576 := by have := HD.out.v1; unfold Glit at hgl; omega
            have HIT := Aside0.mk (itoa_len x (by omega) (by omega))
            have HTJ := Aside0.mk (show dPt v cs i (q.take j) ++ Lib.itoa x ++ [32] = dPt v cs i (q.take (j + 1)) by
              rw [List.take_succ_eq_append_getElem hjt, ← hxe]
              unfold dPt
              rw [dLits_snoc]
              simp)
            have HLJ := Aside0.mk (HLEN.out j (by omega))
            clear hgl hxe
            go_wp2_with (first | (go_at_call 29; refine (appendI_calls w.heap.size _ (dPt v cs i (q.take j)) x (by omega) (by omega) wr HEM.out HEB.out (by have := HLJ.out; omega) (HLT.out.on HBI.out)).mono ?_; rintro e w7 ⟨v7, rfl, he, hb⟩; have HE7 := Aside0.mk he; have HB7 := Aside0.mk (HBI.out.trans hb); clear he hb hy) | ((with_reducible refine gate_builtin (b := .append) (xs := #[.tmp 44, .tmp 45]) rfl ?_); refine em_cells rfl (.tmp 44) (.tmp 45) 22 rfl Tryd.underlying22 info5 rfl (EM.below HE7.out (below_alloc (Below.refl _ w7) (.cells #[.int .u8 32] 5))) ⟨w7.heap.size, 0, none⟩ 1 [32] rfl ?hr ?hl2 ?hb2 ?_; (case hr => intro k y hk; match k, hk with | 0, hk => exact (blk_cell (blk_new w7 (.cells #[.int .u8 32] 5 (0, 0))) 0).trans hk); (case hl2 => (have h1 := HLJ.out; have h2 := HIT.out; rw [List.length_append]; show _ + _ + 1 ≤ _; omega)); (case hb2 => exact Nat.le_trans HB7.out.size (below_alloc (Below.refl _ w7) (.cells #[.int .u8 32] 5)).size); intro v8 w8 he hbw hg; have HE8 := Aside0.mk he; have HB8 := Aside0.mk ((HB7.out.trans ((below_alloc (Below.refl _ w7) (.cells #[.int .u8 32] 5)).mono HB7.out.size)).trans hbw); clear he hbw hg))
            go_roundg (gk - 1)
            case measure => omega
            case rel => exact ⟨j + 1, by go_num, by omega, ⟨by rw [← HTJ.out]; exact HE8.out⟩, HB8⟩
          · have t7 : decide ((j : Int) < (q.length : Int)) = false := decide_eq_false (by omega)
            have t8 : decide (j < q.length) = false := decide_eq_false hjt
            obtain rfl : j = q.length := by omega
            have HLJ := Aside0.mk (HLEN.out q.length (Nat.le_refl _))
            have HQT := Aside0.mk (show dPt v cs i (q.take q.length) ++ [48, 10] = dPt v cs (i + 1) [] by rw [List.take_length]; exact HNX.out)
            go_wp2_with ((with_reducible refine gate_builtin (b := .append) (xs := #[.tmp 48, .const (.string ⟨#[48, 10]⟩)]) rfl ?_); refine em_string rfl (.tmp 48) (.const (.string ⟨#[48, 10]⟩)) 22 9 rfl Tryd.underlying22 Tryd.underlying9 info5 rfl HEM.out [48, 10] rfl (by have h1 := HLJ.out; show _ + 2 ≤ _; omega) HEB.out ?_; intro v8 w8 he hbw hg; have HE8 := Aside0.mk he; have HB8 := Aside0.mk (HBI.out.trans hbw); clear he hbw hg)
            go_roundg (gko - 1)
            case measure => have := HGKO.out; omega
            case rel => exact ⟨i + 1, by go_num, by omega, ⟨by rw [← HQT.out]; exact HE8.out⟩, HB8⟩
      · have t5 : decide ((i : Int) < (cs.length : Int)) = false := decide_eq_false (by omega)
        have t6 : decide (i < cs.length) = false := decide_eq_false hlt
        obtain rfl : i = cs.length := by omega
        go_wp2
        go_ret2
        refine ⟨_, by rw [HP.out]; rfl, ⟨fun _ => ?_, fun h => absurd HE.out h⟩, HBW.out⟩
        have := HEM.out
        rw [dPt_end] at this
        exact this
  · have t1 : (er == 0) = false := beq_eq_false_iff_ne.2 h0
    have t1n : (er != 0) = true := by rw [bne, t1]; rfl
    have HP := Aside0.mk (show (dPrint v cs).2 = er by unfold dPrint; rw [if_neg (her ▸ h0), her])
    have HE := Aside0.mk (show dRight v cs ≠ 0 from her ▸ h0)
    clear her h0 hz
    go_enter Tryd.func12, Tryd.ntmps12
    go_wp2_with (first | ((with_reducible refine gate_dst (N := 1) rfl ?_); refine box_event ?hg (N := 1) ?hd (cs := #[.int .i64 v, .slice A cs.length c]) (t := 25) ?hr ?_; (case hd => rfl); (case hg => rfl); (case hr => first | (go_simp; done) | (go_simp; rfl)); intro g1 hgb w1 hbox hb; have HG1 := Aside0.mk hbox; have HB1 := Aside0.mk hb; have hcz0 := (blk_cell hbox 0).trans (show _ = some (Value.int .i64 v) from rfl); have hcz1 := (blk_cell hbox 1).trans (show _ = some (Value.slice A cs.length c) from rfl); clear hbox hb hgb) | (go_at_call 16; refine (cnf_Right.calls kr v A c cs er w1 (Kd.C_below HC.out HB1.out) hc HKR.out).mono ?_; rintro e w2 ⟨rfl, hb⟩; have HB2 := Aside0.mk (below_step HB1.out hb); clear hb hcz0 hcz1))
    go_ret2
    exact ⟨_, by rw [HP.out]; rfl, ⟨fun h => absurd h HE.out, fun _ => rfl⟩, HB2.out⟩
end Go.Proofs.YtigloobbpcnnhaaDoor.PB
end
