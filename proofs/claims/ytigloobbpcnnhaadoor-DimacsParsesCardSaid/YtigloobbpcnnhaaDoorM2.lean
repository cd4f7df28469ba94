import Derived.Test.YtigloobbpcnnhaaDoorM1
import Derived.Lib.ItoaNum
import Derived.Lib.IndexMore
import Derived.Lib.ItoaLen
section
namespace Go.Proofs.YtigloobbpcnnhaaDoor.PB
set_option linter.unusedVariables false
set_option linter.unusedSimpArgs false
/-! ### What dimacs.Parse, Print, Values, Model say, over plain lists -/
/-- A text's lines. -/
def dLines : List UInt8 → List (List UInt8)
  | [] => []
  | b :: r => if b = 10 then [] :: dLines r else match dLines r with
    | [] => [[b]]
    | l :: ls => (b :: l) :: ls
theorem dLines_nil : dLines [] = [] := rfl
theorem dLines_no : ∀ (l : List UInt8), l ≠ [] → 10 ∉ l → dLines l = [l]
  | [], h, _ => absurd rfl h
  | [b], _, h => by
    have : b ≠ 10 := fun e => h (by rw [e]; exact List.mem_cons_self)
    rw [dLines, if_neg this]; rfl
  | b :: c :: r, _, h => by
    have h1 : b ≠ 10 := fun e => h (by rw [e]; exact List.mem_cons_self)
    rw [dLines, if_neg h1, dLines_no (c :: r) (by simp) (fun e => h (List.mem_cons_of_mem _ e))]
theorem dLines_cut : ∀ (l r : List UInt8), 10 ∉ l → dLines (l ++ 10 :: r) = l :: dLines r
  | [], r, _ => by rw [List.nil_append, dLines, if_pos rfl]
  | b :: l, r, h => by
    have h1 : b ≠ 10 := fun e => h (by rw [e]; exact List.mem_cons_self)
    rw [List.cons_append, dLines, if_neg h1, dLines_cut l r (fun e => h (List.mem_cons_of_mem _ e))]
theorem split_first : ∀ (s : List UInt8), (10 ∉ s) ∨ ∃ l r, s = l ++ 10 :: r ∧ 10 ∉ l
  | [] => .inl (by simp)
  | b :: s => by
    by_cases h : b = 10
    · exact .inr ⟨[], s, by rw [h]; rfl, by simp⟩
    · rcases split_first s with h2 | ⟨l, r, rfl, h3⟩
      · refine .inl fun e => ?_
        rcases List.mem_cons.1 e with e | e
        · exact h e.symm
        · exact h2 e
      · refine .inr ⟨b :: l, r, rfl, fun e => ?_⟩
        rcases List.mem_cons.1 e with e | e
        · exact h e.symm
        · exact h3 e
theorem occ_one (s : List UInt8) (c : UInt8) (i : Nat) : Lib.occAt s [c] i = decide (s[i]? = some c) := by
  unfold Lib.occAt
  cases h : s.drop i with
  | nil =>
    have : s[i]? = none := by rw [List.getElem?_eq_none_iff]; exact List.drop_eq_nil_iff.1 h
    rw [this]; rfl
  | cons x t =>
    have : s[i]? = some x := by
      have := List.getElem?_drop (xs := s) (i := i) (j := 0)
      rw [h] at this
      simpa using this.symm
    rw [this]
    simp only [List.isPrefixOf, Option.some.injEq, Bool.and_true]
    by_cases e : c = x
    · subst e; simp
    · rw [decide_eq_false (fun h => e h.symm)]; exact beq_eq_false_iff_ne.2 e
theorem index_at (a b : List UInt8) (c : UInt8) (ha : c ∉ a) : Lib.index (a ++ c :: b) [c] = (a.length : Int) := by
  refine Lib.index_first (by simp) ?_ ?_
  · rw [occ_one]; simp
  · intro j hj
    rw [occ_one, List.getElem?_append_left hj]
    refine decide_eq_false fun h => ha (List.mem_of_getElem? h)
theorem index_no (a : List UInt8) (c : UInt8) (ha : c ∉ a) : Lib.index a [c] = -1 := by
  refine Lib.index_none fun j hj => ?_
  rw [occ_one]
  exact decide_eq_false fun h => ha (List.mem_of_getElem? h)
/-- Induction by lines. -/
theorem by_lines {P : List UInt8 → Prop} (h0 : P []) (h1 : ∀ l, l ≠ [] → 10 ∉ l → P l) (h2 : ∀ l r, 10 ∉ l → P r → P (l ++ 10 :: r)) : ∀ s, P s := by
  have key : ∀ (n : Nat) (s : List UInt8), s.length ≤ n → P s := by
    intro n
    induction n with
    | zero =>
      intro s hs
      have e : s = [] := List.eq_nil_of_length_eq_zero (by omega)
      rw [e]; exact h0
    | succ n ih =>
      intro s hs
      rcases split_first s with h | ⟨l, r, rfl, h⟩
      · by_cases e : s = []
        · rw [e]; exact h0
        · exact h1 s e h
      · refine h2 l r h (ih r ?_)
        rw [List.length_append, List.length_cons] at hs
        omega
  exact fun s => key s.length s (Nat.le_refl _)
theorem dLines_sum : ∀ s : List UInt8, ((dLines s).map List.length).sum ≤ s.length ∧ (dLines s).length ≤ s.length := by
  refine by_lines ?_ ?_ ?_
  · simp [dLines]
  · intro l h1 h2
    rw [dLines_no l h1 h2]
    have : 0 < l.length := List.length_pos_iff.2 h1
    simp only [List.map_cons, List.map_nil, List.sum_cons, List.sum_nil, List.length_cons, List.length_nil]
    omega
  · intro l r h ih
    rw [dLines_cut l r h]
    simp only [List.map_cons, List.sum_cons, List.length_append, List.length_cons]
    omega
theorem dLines_mem (s l : List UInt8) (h : l ∈ dLines s) : l.length ≤ s.length := by
  have h1 := (dLines_sum s).1
  have h2 : ∀ (L : List (List UInt8)), l ∈ L → l.length ≤ (L.map List.length).sum := by
    intro L
    induction L with
    | nil => intro h; cases h
    | cons a L ih =>
      intro h
      rw [List.map_cons, List.sum_cons]
      rcases List.mem_cons.1 h with rfl | h
      · omega
      · have := ih h; omega
  have := h2 _ h
  omega
/-- The number of lines, as 'last' counts them. -/
theorem dLines_count : ∀ s : List UInt8, (dLines s).length = s.count 10 + (if s ≠ [] ∧ s.getLast? ≠ some 10 then 1 else 0) := by
  refine by_lines ?_ ?_ ?_
  · simp [dLines]
  · intro l h1 h2
    rw [dLines_no l h1 h2, List.count_eq_zero.2 h2, if_pos ⟨h1, fun e => h2 (List.mem_of_getLast? e)⟩]
    rfl
  · intro l r h ih
    rw [dLines_cut l r h, List.length_cons, ih, List.count_append, List.count_eq_zero.2 h, List.count_cons_self]
    cases r with
    | nil => simp
    | cons a r =>
      have e : (l ++ 10 :: a :: r).getLast? = (a :: r).getLast? := by
        rw [List.getLast?_append, List.getLast?_cons_cons]
        cases h : (a :: r).getLast? with
        | none => simp at h
        | some x => rfl
      rw [e]
      simp only [ne_eq, List.append_eq_nil_iff, reduceCtorEq, and_false, not_false_eq_true, true_and]
      omega

/-! ### Words -/
def dWords (l : List UInt8) : List (List UInt8) := if l.head? = some 99 then [] else dFields l []
theorem dFields_len : ∀ (l cur : List UInt8), (dFields l cur).length ≤ l.length + (if cur = [] then 0 else 1)
  | [], cur => by rw [dFields]; split <;> simp
  | b :: r, cur => by
    rw [dFields]
    split
    · have := dFields_len r []
      rw [if_pos rfl] at this
      split
      · rename_i h; simp only [List.length_cons]; omega
      · simp only [List.length_cons]; omega
    · have := dFields_len r (cur ++ [b])
      rw [if_neg (by simp)] at this
      simp only [List.length_cons]
      split <;> omega
theorem dFields_mem : ∀ (l cur x : List UInt8), x ∈ dFields l cur → x ≠ [] ∧ x.length ≤ l.length + cur.length
  | [], cur, x, h => by
    rw [dFields] at h
    split at h
    · cases h
    · rename_i hc
      rw [List.mem_singleton] at h
      subst h
      exact ⟨hc, by simp⟩
  | b :: r, cur, x, h => by
    rw [dFields] at h
    split at h
    · split at h
      · have := dFields_mem r [] x h
        simp only [List.length_cons, List.length_nil] at this ⊢
        exact ⟨this.1, by omega⟩
      · rename_i hc
        rcases List.mem_cons.1 h with rfl | h
        · exact ⟨hc, by simp only [List.length_cons]; omega⟩
        · have := dFields_mem r [] x h
          simp only [List.length_cons, List.length_nil] at this ⊢
          exact ⟨this.1, by omega⟩
    · have := dFields_mem r (cur ++ [b]) x h
      simp only [List.length_cons, List.length_append, List.length_nil] at this ⊢
      exact ⟨this.1, by omega⟩
theorem dWords_len (l : List UInt8) : (dWords l).length ≤ l.length := by
  unfold dWords
  split
  · simp
  · have := dFields_len l []
    rw [if_pos rfl] at this
    omega
theorem dWords_mem (l x : List UInt8) (h : x ∈ dWords l) : x ≠ [] ∧ x.length ≤ l.length := by
  unfold dWords at h
  split at h
  · cases h
  · have := dFields_mem l [] x h
    simpa using this

/-! ### The parser -/
theorem dNum_range (w : List UInt8) (minus : Bool) (top : Int) (h0 : 0 ≤ top) :
    ((dNum w minus top).2.2 = true → (dNum w minus top).2.1 = true) ∧ -top ≤ (dNum w minus top).1 ∧ (dNum w minus top).1 ≤ top ∧ (minus = false → 0 ≤ (dNum w minus top).1) ∧ ((dNum w minus top).2.2 = false → (dNum w minus top).1 = 0) := by
  obtain ⟨s, hs⟩ : ∃ s, s = (if (minus && Lib.hasPrefix w [45]) = true then w.drop 1 else w) := ⟨_, rfl⟩
  have e : dNum w minus top = if s = [] ∨ s.all isDig = false ∨ (1 < s.length ∧ s.head? = some 48) ∨ w = [45, 48] then (0, false, false)
    else if top < (dVal s : Int) then (0, true, false)
    else (if s.length < w.length then -(dVal s : Int) else (dVal s : Int), true, true) := by rw [hs]; rfl
  rw [e]
  by_cases h1 : s = [] ∨ s.all isDig = false ∨ (1 < s.length ∧ s.head? = some 48) ∨ w = [45, 48]
  · rw [if_pos h1]
    exact ⟨(fun h => by cases h), (by show -top ≤ 0; omega), h0, fun _ => Int.le_refl 0, fun _ => rfl⟩
  · rw [if_neg h1]
    by_cases h2 : top < (dVal s : Int)
    · rw [if_pos h2]
      exact ⟨(fun h => by cases h), (by show -top ≤ 0; omega), h0, fun _ => Int.le_refl 0, fun _ => rfl⟩
    · rw [if_neg h2]
      refine ⟨fun _ => rfl, ?_, ?_, ?_, (fun h => by cases h)⟩
      · simp only; split <;> omega
      · simp only; split <;> omega
      · intro hm
        subst hm
        have : s = w := by rw [hs]; rfl
        rw [this, if_neg (by omega)]
        exact Int.natCast_nonneg _
structure DP where
  vars : Int
  cls : List (List Int)
  want : Int
  opn : List Int
  lits : Nat
def DP.init : DP := ⟨0, [], 0, [], 0⟩
def dHead (p : DP) (ws : List (List UInt8)) : Int × DP :=
  match ws with
  | [a, b, c, d] =>
    if a ≠ [112] ∨ b ≠ [99, 110, 102] then (20, p)
    else if (dNum c false 1048576).2.1 = false ∨ (dNum d false 1048576).2.1 = false then (20, p)
    else if (dNum c false 1048576).2.2 = false ∨ (dNum d false 1048576).2.2 = false then (22, p)
    else (0, { p with vars := (dNum c false 1048576).1, want := (dNum d false 1048576).1 })
  | _ => (20, p)
def dWord (p : DP) (w : List UInt8) : Int × DP :=
  if (dNum w true p.vars).2.1 = false then (21, p)
  else if (p.cls.length : Int) = p.want then (24, p)
  else if (dNum w true p.vars).2.2 = false ∨ ((dNum w true p.vars).1 ≠ 0 ∧ p.lits = 16777216) then (22, p)
  else if (dNum w true p.vars).1 = 0 then (0, { p with cls := p.cls ++ [p.opn], opn := [] })
  else (0, { p with opn := p.opn ++ [(dNum w true p.vars).1], lits := p.lits + 1 })
def dWordsL : DP → List (List UInt8) → Int × DP
  | p, [] => (0, p)
  | p, w :: r => if (dWord p w).1 ≠ 0 then dWord p w else dWordsL (dWord p w).2 r
structure DS where
  err : Int
  n : Nat
  headed : Bool
  p : DP
def DS.init : DS := ⟨0, 0, false, DP.init⟩
def dLine (s : DS) (l : List UInt8) : DS :=
  if s.err ≠ 0 then s
  else if s.headed = false then
    if dWords l = [] then { s with n := s.n + 1 }
    else ⟨(dHead s.p (dWords l)).1, s.n + 1, true, (dHead s.p (dWords l)).2⟩
  else ⟨(dWordsL s.p (dWords l)).1, s.n + 1, true, (dWordsL s.p (dWords l)).2⟩
def dFinal (s : DS) : (Int × List (List Int)) × Int × Int :=
  if s.err ≠ 0 then ((0, []), s.err, (s.n : Int))
  else if s.headed = false then ((0, []), 20, (s.n : Int) + 1)
  else if s.p.opn ≠ [] ∨ (s.p.cls.length : Int) < s.p.want then ((0, []), 23, (s.n : Int) + 1)
  else ((s.p.vars, s.p.cls), 0, 0)
def dState (ls : List (List UInt8)) : DS := ls.foldl dLine DS.init
def dParse (b : List UInt8) : (Int × List (List Int)) × Int × Int := dFinal (dState (dLines b))
theorem dLine_err (ls : List (List UInt8)) : ∀ s : DS, s.err ≠ 0 → ls.foldl dLine s = s := by
  induction ls with
  | nil => intro s _; rfl
  | cons l ls ih =>
    intro s h
    rw [List.foldl_cons]
    have : dLine s l = s := by unfold dLine; rw [if_pos h]
    rw [this]
    exact ih s h
theorem dState_snoc (ls : List (List UInt8)) (l : List UInt8) : dState (ls ++ [l]) = dLine (dState ls) l := by
  unfold dState
  rw [List.foldl_append]
  rfl
theorem dState_pre (pre suf : List (List UInt8)) (h : (dState pre).err ≠ 0) : dState (pre ++ suf) = dState pre := by
  unfold dState
  rw [List.foldl_append]
  exact dLine_err suf _ h
theorem dState_ok (pre suf : List (List UInt8)) (h : (dState (pre ++ suf)).err = 0) : (dState pre).err = 0 := by
  by_cases e : (dState pre).err = 0
  · exact e
  · rw [dState_pre pre suf e] at h
    exact h
theorem dLine_n (s : DS) (l : List UInt8) (h : s.err = 0) : (dLine s l).n = s.n + 1 := by
  unfold dLine
  rw [if_neg (by simpa using h)]
  split
  · split <;> rfl
  · rfl
theorem dState_n : ∀ (k : Nat) (ls : List (List UInt8)), ls.length = k → (dState ls).err = 0 → (dState ls).n = ls.length
  | 0, ls, hk, _ => by rw [List.eq_nil_of_length_eq_zero hk]; rfl
  | k + 1, ls, hk, h => by
    have hne : ls ≠ [] := by intro e; rw [e] at hk; cases hk
    have hs : ls.dropLast ++ [ls.getLast hne] = ls := List.dropLast_concat_getLast hne
    have h1 : (dState ls.dropLast).err = 0 := dState_ok ls.dropLast [ls.getLast hne] (by rw [hs]; exact h)
    have h2 := dState_n k ls.dropLast (by rw [List.length_dropLast]; omega) h1
    have h3 := dLine_n _ (ls.getLast hne) h1
    rw [← dState_snoc, hs] at h3
    rw [h3, h2, List.length_dropLast]
    omega
/-- What holds of the parser. -/
def Glit (v x : Int) : Prop := x ≠ 0 ∧ -v ≤ x ∧ x ≤ v
structure DInv (p : DP) : Prop where
  v0 : 0 ≤ p.vars
  v1 : p.vars ≤ 1048576
  w0 : 0 ≤ p.want
  w1 : p.want ≤ 1048576
  c : (p.cls.length : Int) ≤ p.want
  l : p.lits ≤ 16777216
  t : p.lits = p.opn.length + (p.cls.map List.length).sum
  g : ∀ c ∈ p.cls, ∀ x ∈ c, Glit p.vars x
  go : ∀ x ∈ p.opn, Glit p.vars x
theorem DInv.init : DInv DP.init := ⟨by decide, by decide, by decide, by decide, by decide, by decide, rfl, fun c h => by simp [DP.init] at h, fun x h => by simp [DP.init] at h⟩
/-- .. ahead of the head: nothing is there yet. -/
def DPre (p : DP) : Prop := p = DP.init
theorem dHead_inv (p : DP) (ws : List (List UInt8)) (h : p = DP.init) : DInv (dHead p ws).2 := by
  subst h
  unfold dHead
  split
  · rename_i a b c d
    split
    · exact DInv.init
    · split
      · exact DInv.init
      · split
        · exact DInv.init
        · have h1 := dNum_range c false 1048576 (by decide)
          have h2 := dNum_range d false 1048576 (by decide)
          exact ⟨h1.2.2.2.1 rfl, h1.2.2.1, h2.2.2.2.1 rfl, h2.2.2.1, h2.2.2.2.1 rfl, Nat.zero_le _, rfl, fun c h => by simp [DP.init] at h, fun x h => by simp [DP.init] at h⟩
  · exact DInv.init
theorem dWord_inv (p : DP) (w : List UInt8) (h : DInv p) : DInv (dWord p w).2 := by
  unfold dWord
  split
  · exact h
  · split
    · exact h
    · rename_i hc
      split
      · exact h
      · rename_i h3
        have hf : (dNum w true p.vars).2.2 = true := by
          cases e : (dNum w true p.vars).2.2 with
          | true => rfl
          | false => exact absurd (.inl e) h3
        have hr := dNum_range w true p.vars h.v0
        split
        · refine ⟨h.v0, h.v1, h.w0, h.w1, ?_, h.l, ?_, ?_, fun x hx => by cases hx⟩
          · have := h.c
            show ((p.cls ++ [p.opn]).length : Int) ≤ p.want
            rw [List.length_append, List.length_singleton]
            omega
          · have := h.t
            show p.lits = 0 + ((p.cls ++ [p.opn]).map List.length).sum
            rw [List.map_append, List.sum_append]
            simp only [List.map_cons, List.map_nil, List.sum_cons, List.sum_nil]
            omega
          · intro c hm
            rcases List.mem_append.1 hm with hm | hm
            · exact h.g c hm
            · rw [List.mem_singleton] at hm
              subst hm
              exact h.go
        · rename_i hz
          have hl : p.lits ≠ 16777216 := fun e => h3 (.inr ⟨hz, e⟩)
          refine ⟨h.v0, h.v1, h.w0, h.w1, h.c, ?_, ?_, h.g, ?_⟩
          · have := h.l
            show p.lits + 1 ≤ _
            omega
          · have := h.t
            show p.lits + 1 = (p.opn ++ [(dNum w true p.vars).1]).length + _
            rw [List.length_append, List.length_singleton]
            show _ = _ + (p.cls.map List.length).sum
            omega
          · intro x hx
            rcases List.mem_append.1 hx with hx | hx
            · exact h.go x hx
            · rw [List.mem_singleton] at hx
              subst hx
              exact ⟨hz, hr.2.1, hr.2.2.1⟩
theorem dWordsL_inv : ∀ (ws : List (List UInt8)) (p : DP), DInv p → DInv (dWordsL p ws).2
  | [], p, h => h
  | w :: r, p, h => by
    rw [dWordsL]
    split
    · exact dWord_inv p w h
    · exact dWordsL_inv r _ (dWord_inv p w h)
structure DSInv (s : DS) : Prop where
  p : DInv s.p
  pre : s.headed = false → s.p = DP.init
theorem dLine_inv (s : DS) (l : List UInt8) (h : DSInv s) : DSInv (dLine s l) := by
  unfold dLine
  split
  · exact h
  · split
    · rename_i hh
      split
      · exact ⟨h.p, h.pre⟩
      · exact ⟨dHead_inv _ _ (h.pre hh), fun e => by cases e⟩
    · exact ⟨dWordsL_inv _ _ h.p, fun e => by cases e⟩
theorem dState_inv (ls : List (List UInt8)) : DSInv (dState ls) := by
  have : ∀ (ls : List (List UInt8)) (s : DS), DSInv s → DSInv (ls.foldl dLine s) := by
    intro ls
    induction ls with
    | nil => intro s h; exact h
    | cons l ls ih => intro s h; exact ih _ (dLine_inv s l h)
  exact this ls _ ⟨DInv.init, fun _ => rfl⟩
/-- What has been read counts no more than the words. -/
def DP.count (p : DP) : Nat := p.lits + p.cls.length
theorem dWord_count (p : DP) (w : List UInt8) : (dWord p w).2.count ≤ p.count + 1 := by
  unfold dWord DP.count
  split
  · simp
  · split
    · simp
    · split
      · simp
      · split
        · simp only [List.length_append, List.length_cons, List.length_nil]; omega
        · simp only; omega
theorem dWordsL_count : ∀ (ws : List (List UInt8)) (p : DP), (dWordsL p ws).2.count ≤ p.count + ws.length
  | [], p => Nat.le_refl _
  | w :: r, p => by
    rw [dWordsL]
    have h1 := dWord_count p w
    split
    · simp only [List.length_cons]; omega
    · have := dWordsL_count r (dWord p w).2
      simp only [List.length_cons]
      omega
theorem dHead_count (p : DP) (ws : List (List UInt8)) : (dHead p ws).2.count = p.count := by
  unfold dHead DP.count
  split
  · split
    · rfl
    · split
      · rfl
      · split <;> rfl
  · rfl
theorem dLine_count (s : DS) (l : List UInt8) : (dLine s l).p.count ≤ s.p.count + l.length := by
  have hw := dWords_len l
  unfold dLine
  split
  · omega
  · split
    · split
      · show s.p.count ≤ _; omega
      · show (dHead s.p (dWords l)).2.count ≤ _
        rw [dHead_count]; omega
    · have := dWordsL_count (dWords l) s.p
      show (dWordsL s.p (dWords l)).2.count ≤ _
      omega
theorem dState_count (b : List UInt8) : (dState (dLines b)).p.count ≤ b.length := by
  have : ∀ (ls : List (List UInt8)) (s : DS), (ls.foldl dLine s).p.count ≤ s.p.count + (ls.map List.length).sum := by
    intro ls
    induction ls with
    | nil => intro s; simp
    | cons l ls ih =>
      intro s
      have h1 := ih (dLine s l)
      have h2 := dLine_count s l
      rw [List.foldl_cons, List.map_cons, List.sum_cons]
      omega
  have h1 := this (dLines b) DS.init
  have h2 := (dLines_sum b).1
  have h3 : DS.init.p.count = 0 := rfl
  unfold dState
  omega
/-! ### A formula's text -/
def dRightL (v : Int) : Nat → List Int → Int
  | _, [] => 0
  | 0, _ :: _ => 3
  | n + 1, l :: r => if l = 0 ∨ l < -v ∨ v < l then 4 else dRightL v n r
def dRight (v : Int) (cs : List (List Int)) : Int :=
  if v < 0 ∨ 1048576 < v then 2 else if 1048576 < cs.length then 3 else dRightL v 16777216 cs.flatten
def dClause (c : List Int) : List UInt8 := (c.flatMap fun x => Lib.itoa x ++ [32]) ++ [48, 10]
def dText (v : Int) (cs : List (List Int)) : List UInt8 :=
  [112, 32, 99, 110, 102, 32] ++ Lib.itoa v ++ [32] ++ Lib.itoa cs.length ++ [10] ++ cs.flatMap dClause
def dPrint (v : Int) (cs : List (List Int)) : List UInt8 × Int := if dRight v cs = 0 then (dText v cs, 0) else ([], dRight v cs)
/-! ### A model's text -/
def dPut (s : List UInt8 × List UInt8) (w : List UInt8) : List UInt8 × List UInt8 :=
  if 78 < s.2.length + 1 + w.length ∧ s.2 ≠ [118] then (s.1 ++ s.2 ++ [10], [118, 32] ++ w) else (s.1, s.2 ++ [32] ++ w)
def dVWord (n : Nat) (b : Bool) : List UInt8 := if b then Lib.itoa n else 45 :: Lib.itoa n
def dVW : Nat → List Bool → List (List UInt8)
  | _, [] => []
  | n, b :: r => dVWord n b :: dVW (n + 1) r
def dVState (m : List Bool) : List UInt8 × List UInt8 := (dVW 1 m ++ [[48]]).foldl dPut ([], [118])
def dValues (m : List Bool) : List UInt8 := (dVState m).1 ++ (dVState m).2 ++ [10]
def dMark (vars : Int) (m : List Bool) (w : List UInt8) : List Bool :=
  if (dNum w true vars).2.1 = true ∧ (dNum w true vars).2.2 = true ∧ 0 < (dNum w true vars).1 then m.set ((dNum w true vars).1 - 1).toNat true else m
def dModel (s : List UInt8) (vars : Int) : List Bool × Int :=
  if vars < 0 ∨ 1048576 < vars then ([], 2)
  else if dValues (((dLines s).flatMap dWords).foldl (dMark vars) (List.replicate vars.toNat false)) = s then (((dLines s).flatMap dWords).foldl (dMark vars) (List.replicate vars.toNat false), 0)
  else ([], 21)
end Go.Proofs.YtigloobbpcnnhaaDoor.PB
end

section
namespace Go.Proofs.YtigloobbpcnnhaaDoor.PB
set_option linter.unusedVariables false
set_option linter.unusedSimpArgs false
/-! ### Numbers, there and back -/
theorem dec_byte (d : Nat) (h : d < 10) : (UInt8.ofNat (48 + d)).toNat = 48 + d := by
  rw [UInt8.toNat_ofNat']
  omega
theorem dec_digits (u : Nat) : ∀ b ∈ Lib.decDigits u, 48 ≤ b.toNat ∧ b.toNat ≤ 57 := by
  induction u using Nat.strongRecOn with
  | _ u ih =>
    by_cases h : u < 10
    · rw [Lib.decDigits, dif_pos h]
      intro b hb
      rw [List.mem_singleton.1 hb, dec_byte u h]
      omega
    · rw [Lib.decDigits, dif_neg h]
      intro b hb
      rcases List.mem_append.1 hb with hb | hb
      · exact ih (u / 10) (by omega) b hb
      · rw [List.mem_singleton.1 hb, dec_byte (u % 10) (by omega)]
        omega
theorem dec_ne (u : Nat) : Lib.decDigits u ≠ [] := by
  rw [Lib.decDigits]
  split <;> simp
theorem dec_all (u : Nat) : (Lib.decDigits u).all isDig = true := by
  rw [List.all_eq_true]
  exact fun b hb => (isDig_iff b).2 (dec_digits u b hb)
theorem dVal_dec (u : Nat) : dVal (Lib.decDigits u) = u := by
  induction u using Nat.strongRecOn with
  | _ u ih =>
    by_cases h : u < 10
    · rw [Lib.decDigits, dif_pos h]
      show 0 * 10 + ((UInt8.ofNat (48 + u)).toNat - 48) = u
      rw [dec_byte u h]
      omega
    · rw [Lib.decDigits, dif_neg h]
      have h1 := ih (u / 10) (by omega)
      unfold dVal dValF at h1 ⊢
      rw [List.foldl_append, h1]
      show u / 10 * 10 + ((UInt8.ofNat (48 + u % 10)).toNat - 48) = u
      rw [dec_byte _ (by omega)]
      omega
theorem dec_head (u : Nat) : (Lib.decDigits u).head? = some 48 → u = 0 := by
  induction u using Nat.strongRecOn with
  | _ u ih =>
    by_cases h : u < 10
    · rw [Lib.decDigits, dif_pos h]
      intro e
      have e2 := congrArg UInt8.toNat (Option.some.inj e)
      rw [dec_byte u h] at e2
      have : (48 : UInt8).toNat = 48 := rfl
      omega
    · rw [Lib.decDigits, dif_neg h]
      intro e
      rw [List.head?_append] at e
      have h2 := dec_ne (u / 10)
      cases hd : (Lib.decDigits (u / 10)).head? with
      | none => rw [List.head?_eq_none_iff] at hd; exact absurd hd h2
      | some x =>
        rw [hd] at e
        have := ih (u / 10) (by omega) (by rw [hd]; exact e)
        omega
theorem dec_zero : Lib.decDigits 0 = [48] := by
  rw [Lib.decDigits, dif_pos (by omega)]
  rfl
theorem dec_lead (u : Nat) : ¬ (1 < (Lib.decDigits u).length ∧ (Lib.decDigits u).head? = some 48) := by
  rintro ⟨h1, h2⟩
  rw [dec_head u h2, dec_zero] at h1
  exact absurd h1 (by decide)
theorem itoa_bytes (v : Int) : ∀ b ∈ Lib.itoa v, b = 45 ∨ (48 ≤ b.toNat ∧ b.toNat ≤ 57) := by
  unfold Lib.itoa
  split
  · intro b hb
    rcases List.mem_cons.1 hb with rfl | hb
    · exact .inl rfl
    · exact .inr (dec_digits _ b hb)
  · intro b hb
    exact .inr (dec_digits _ b hb)
theorem itoa_no (v : Int) (c : UInt8) (hc : c ≠ 45) (hc2 : c.toNat < 48 ∨ 57 < c.toNat) : c ∉ Lib.itoa v := by
  intro h
  rcases itoa_bytes v c h with h | h
  · exact hc h
  · omega
theorem itoa_zero : Lib.itoa 0 = [48] := by
  unfold Lib.itoa
  rw [if_neg (by omega), show (0 : Int).toNat = 0 from rfl, dec_zero]
theorem itoa_ne (v : Int) : Lib.itoa v ≠ [] := by
  unfold Lib.itoa
  split
  · simp
  · exact dec_ne _
theorem dNum_of (w : List UInt8) (minus : Bool) (top : Int) (s : List UInt8) (hs : s = (if (minus && Lib.hasPrefix w [45]) = true then w.drop 1 else w)) :
    dNum w minus top = if s = [] ∨ s.all isDig = false ∨ (1 < s.length ∧ s.head? = some 48) ∨ w = [45, 48] then (0, false, false)
    else if top < (dVal s : Int) then (0, true, false)
    else (if s.length < w.length then -(dVal s : Int) else (dVal s : Int), true, true) := by rw [hs]; rfl
theorem hasPrefix_minus (w : List UInt8) : Lib.hasPrefix w [45] = decide (w.head? = some 45) := by
  unfold Lib.hasPrefix
  cases w with
  | nil => rfl
  | cons a r =>
    simp only [List.isPrefixOf, List.head?_cons, Option.some.injEq, Bool.and_true]
    by_cases e : a = 45
    · subst e; rfl
    · rw [decide_eq_false e]; exact beq_eq_false_iff_ne.2 (fun h => e h.symm)
theorem dNum_dec (u : Nat) (minus : Bool) (top : Int) (h : (u : Int) ≤ top) : dNum (Lib.decDigits u) minus top = ((u : Int), true, true) := by
  have hp : Lib.hasPrefix (Lib.decDigits u) [45] = false := by
    rw [hasPrefix_minus]
    refine decide_eq_false fun e => ?_
    have := dec_digits u 45 (List.mem_of_mem_head? e)
    exact absurd this (by decide)
  rw [dNum_of _ minus top (Lib.decDigits u) (by rw [hp, Bool.and_false]; rfl), dVal_dec, if_neg ?_, if_neg (by omega), if_neg (by omega)]
  rintro (h1 | h1 | h1 | h1)
  · exact dec_ne u h1
  · rw [dec_all] at h1; cases h1
  · exact dec_lead u h1
  · have := dec_digits u 45 (by rw [h1]; exact List.mem_cons_self)
    exact absurd this (by decide)
theorem dNum_neg (u : Nat) (top : Int) (h0 : 0 < u) (h : (u : Int) ≤ top) : dNum (45 :: Lib.decDigits u) true top = (-(u : Int), true, true) := by
  rw [dNum_of _ true top (Lib.decDigits u) (by rw [hasPrefix_minus]; rfl), dVal_dec, if_neg ?_, if_neg (by omega), if_pos (by simp)]
  rintro (h1 | h1 | h1 | h1)
  · exact dec_ne u h1
  · rw [dec_all] at h1; cases h1
  · exact dec_lead u h1
  · have : Lib.decDigits u = [48] := by injection h1
    have h2 := dVal_dec u
    rw [this] at h2
    have h3 : dVal [48] = 0 := rfl
    omega
theorem dNum_itoa (x top : Int) (h0 : -top ≤ x) (h1 : x ≤ top) : dNum (Lib.itoa x) true top = (x, true, true) := by
  unfold Lib.itoa
  by_cases h : x < 0
  · rw [if_pos h, dNum_neg _ _ (by omega) (by omega)]
    congr 1
    omega
  · rw [if_neg h, dNum_dec _ _ _ (by omega)]
    congr 1
    omega
/-! ### Words, there and back -/
theorem dF_word : ∀ (w r cur : List UInt8), (∀ b ∈ w, isBl b = false) → dFields (w ++ r) cur = dFields r (cur ++ w)
  | [], r, cur, _ => by simp
  | b :: w, r, cur, h => by
    rw [List.cons_append, dFields, h b List.mem_cons_self]
    simp only [Bool.false_eq_true, if_false]
    rw [dF_word w r (cur ++ [b]) (fun c hc => h c (List.mem_cons_of_mem _ hc))]
    simp
theorem dF_sp (w r : List UInt8) (hw : w ≠ []) (h : ∀ b ∈ w, isBl b = false) : dFields (w ++ 32 :: r) [] = w :: dFields r [] := by
  rw [dF_word w _ [] h, List.nil_append, dFields, show isBl 32 = true from rfl, if_pos rfl, if_neg hw]
theorem dF_end (w : List UInt8) (hw : w ≠ []) (h : ∀ b ∈ w, isBl b = false) : dFields w [] = [w] := by
  have := dF_word w [] [] h
  rw [List.append_nil, List.nil_append] at this
  rw [this, dFields, if_neg hw]
theorem bl_no {w : List UInt8} (h32 : 32 ∉ w) (h9 : 9 ∉ w) (h13 : 13 ∉ w) : ∀ b ∈ w, isBl b = false := by
  intro b hb
  unfold isBl
  have h1 : (b == 32) = false := beq_eq_false_iff_ne.2 (fun e => h32 (e ▸ hb))
  have h2 : (b == 9) = false := beq_eq_false_iff_ne.2 (fun e => h9 (e ▸ hb))
  have h3 : (b == 13) = false := beq_eq_false_iff_ne.2 (fun e => h13 (e ▸ hb))
  rw [h1, h2, h3]
  rfl
theorem itoa_bl (v : Int) : ∀ b ∈ Lib.itoa v, isBl b = false := bl_no (itoa_no v 32 (by decide) (by decide)) (itoa_no v 9 (by decide) (by decide)) (itoa_no v 13 (by decide) (by decide))
/-- A clause's line, without its end. -/
def dClauseL (c : List Int) : List UInt8 := (c.flatMap fun x => Lib.itoa x ++ [32]) ++ [48]
theorem dClauseL_words : ∀ c : List Int, dFields (dClauseL c) [] = c.map Lib.itoa ++ [[48]]
  | [] => rfl
  | x :: c => by
    have e : dClauseL (x :: c) = Lib.itoa x ++ 32 :: dClauseL c := by simp [dClauseL]
    rw [e, dF_sp _ _ (itoa_ne x) (itoa_bl x), dClauseL_words c]
    rfl
theorem dClauseL_no (c : List Int) (b : UInt8) (hb : b ≠ 45) (hb2 : b.toNat < 48 ∨ 57 < b.toNat) (hs : b ≠ 32) : b ∉ dClauseL c := by
  unfold dClauseL
  intro h
  rcases List.mem_append.1 h with h | h
  · obtain ⟨x, _, h⟩ := List.mem_flatMap.1 h
    rcases List.mem_append.1 h with h | h
    · exact itoa_no x b hb hb2 h
    · exact hs (List.mem_singleton.1 h)
  · rw [List.mem_singleton] at h
    subst h
    revert hb2
    decide
theorem dClauseL_head (c : List Int) : (dClauseL c).head? ≠ some 99 := by
  intro h
  exact dClauseL_no c 99 (by decide) (by decide) (by decide) (List.mem_of_mem_head? h)
theorem dClause_eq (c : List Int) : dClause c = dClauseL c ++ [10] := by simp [dClause, dClauseL]
def dHeadL (v : Int) (n : Nat) : List UInt8 := [112, 32, 99, 110, 102, 32] ++ Lib.itoa v ++ [32] ++ Lib.itoa n
theorem dHeadL_no (v : Int) (n : Nat) : 10 ∉ dHeadL v n := by
  unfold dHeadL
  intro h
  simp only [List.mem_append] at h
  rcases h with ((h | h) | h) | h
  · revert h; decide
  · exact itoa_no v 10 (by decide) (by decide) h
  · revert h; decide
  · exact itoa_no n 10 (by decide) (by decide) h
theorem dHeadL_words (v : Int) (n : Nat) : dWords (dHeadL v n) = [[112], [99, 110, 102], Lib.itoa v, Lib.itoa n] := by
  have e : dHeadL v n = [112] ++ 32 :: ([99, 110, 102] ++ 32 :: (Lib.itoa v ++ 32 :: Lib.itoa n)) := by simp [dHeadL]
  unfold dWords
  rw [if_neg (by rw [e]; show ¬ (some (112 : UInt8) = some 99); decide), e, dF_sp _ _ (by decide) (by decide), dF_sp _ _ (by decide) (by decide), dF_sp _ _ (itoa_ne v) (itoa_bl v), dF_end _ (itoa_ne _) (itoa_bl _)]
theorem dText_lines (v : Int) (cs : List (List Int)) : dLines (dText v cs) = dHeadL v cs.length :: cs.map dClauseL := by
  have e : dText v cs = dHeadL v cs.length ++ 10 :: cs.flatMap dClause := by simp [dText, dHeadL]
  rw [e, dLines_cut _ _ (dHeadL_no v _)]
  congr 1
  generalize cs = l
  induction l with
  | nil => rfl
  | cons c l ih =>
    rw [List.flatMap_cons, dClause_eq, List.append_assoc, List.singleton_append, dLines_cut _ _ (dClauseL_no c 10 (by decide) (by decide) (by decide)), ih]
    rfl
/-! ### Right formulas -/
theorem dRightL_zero (v : Int) : ∀ (l : List Int) (n : Nat), dRightL v n l = 0 ↔ l.length ≤ n ∧ ∀ x ∈ l, Glit v x
  | [], n => by
    have e : dRightL v n [] = 0 := by cases n <;> rfl
    rw [e]
    exact ⟨fun _ => ⟨Nat.zero_le _, fun x hx => by cases hx⟩, fun _ => rfl⟩
  | a :: l, 0 => by
    have e : dRightL v 0 (a :: l) = 3 := rfl
    rw [e]
    constructor
    · intro h; cases h
    · intro h; exact absurd h.1 (by simp)
  | a :: l, n + 1 => by
    rw [dRightL]
    by_cases h : a = 0 ∨ a < -v ∨ v < a
    · rw [if_pos h]
      constructor
      · intro h; cases h
      · intro h2
        have := h2.2 a List.mem_cons_self
        unfold Glit at this
        omega
    · rw [if_neg h, dRightL_zero v l n]
      constructor
      · rintro ⟨h1, h2⟩
        refine ⟨by simp only [List.length_cons]; omega, fun x hx => ?_⟩
        rcases List.mem_cons.1 hx with rfl | hx
        · unfold Glit; omega
        · exact h2 x hx
      · rintro ⟨h1, h2⟩
        exact ⟨by simp only [List.length_cons] at h1; omega, fun x hx => h2 x (List.mem_cons_of_mem _ hx)⟩
structure DRight (v : Int) (cs : List (List Int)) : Prop where
  v0 : 0 ≤ v
  v1 : v ≤ 1048576
  c : cs.length ≤ 1048576
  l : (cs.map List.length).sum ≤ 16777216
  g : ∀ c ∈ cs, ∀ x ∈ c, Glit v x
theorem flatten_len : ∀ cs : List (List Int), cs.flatten.length = (cs.map List.length).sum
  | [] => rfl
  | c :: cs => by rw [List.flatten_cons, List.length_append, flatten_len cs, List.map_cons, List.sum_cons]
theorem dRight_zero (v : Int) (cs : List (List Int)) : dRight v cs = 0 ↔ DRight v cs := by
  unfold dRight
  by_cases h1 : v < 0 ∨ 1048576 < v
  · rw [if_pos h1]
    exact ⟨(fun h => by cases h), fun h => by have := h.v0; have := h.v1; omega⟩
  · rw [if_neg h1]
    by_cases h2 : 1048576 < cs.length
    · rw [if_pos h2]
      exact ⟨(fun h => by cases h), fun h => by have := h.c; omega⟩
    · rw [if_neg h2, dRightL_zero, flatten_len]
      constructor
      · rintro ⟨h3, h4⟩
        exact ⟨by omega, by omega, by omega, h3, fun c hc x hx => h4 x (List.mem_flatten.2 ⟨c, hc, hx⟩)⟩
      · intro h
        refine ⟨h.l, fun x hx => ?_⟩
        obtain ⟨c, hc, hx⟩ := List.mem_flatten.1 hx
        exact h.g c hc x hx
/-! ### A text that was printed is parsed as itself -/
theorem lits_back (v : Int) : ∀ (c : List Int) (p : DP), p.vars = v → (∀ x ∈ c, Glit v x) → (p.cls.length : Int) ≠ p.want → p.lits + c.length ≤ 16777216 → 0 ≤ v →
    dWordsL p (c.map Lib.itoa ++ [[48]]) = (0, { p with cls := p.cls ++ [p.opn ++ c], opn := [], lits := p.lits + c.length })
  | [], p, hv, _, hw, hl, h0v => by
    have e : dWord p [48] = (0, { p with cls := p.cls ++ [p.opn], opn := [] }) := by
      have h0 : dNum [48] true p.vars = (0, true, true) := by
        have := dNum_dec 0 true p.vars (by rw [hv]; exact h0v)
        rw [dec_zero] at this
        exact this
      unfold dWord
      rw [h0, if_neg (by decide), if_neg hw, if_neg (by simp), if_pos rfl]
    rw [List.map_nil, List.nil_append, dWordsL, e, if_neg (fun h => h rfl), dWordsL, List.append_nil]
    rfl
  | x :: c, p, hv, hg, hw, hl, h0v => by
    have hx := hg x List.mem_cons_self
    subst hv
    have hn := dNum_itoa x p.vars hx.2.1 hx.2.2
    have e : dWord p (Lib.itoa x) = (0, { p with opn := p.opn ++ [x], lits := p.lits + 1 }) := by
      unfold dWord
      rw [hn, if_neg (fun h => by cases h), if_neg hw, if_neg ?_, if_neg hx.1]
      rintro (h | ⟨_, h⟩)
      · cases h
      · simp only [List.length_cons] at hl; omega
    rw [List.map_cons, List.cons_append, dWordsL, e, if_neg (fun h => h rfl)]
    have := lits_back p.vars c { p with opn := p.opn ++ [x], lits := p.lits + 1 } rfl (fun y hy => hg y (List.mem_cons_of_mem _ hy)) hw (by simp only [List.length_cons] at hl; show p.lits + 1 + c.length ≤ _; omega) h0v
    rw [this]
    simp only [List.append_assoc, List.singleton_append, List.length_cons]
    congr 2
    omega
theorem dLine_clause (s : DS) (c : List Int) (he : s.err = 0) (hh : s.headed = true) (hg : ∀ x ∈ c, Glit s.p.vars x) (hw : (s.p.cls.length : Int) ≠ s.p.want) (hl : s.p.lits + c.length ≤ 16777216) (h0v : 0 ≤ s.p.vars) :
    dLine s (dClauseL c) = ⟨0, s.n + 1, true, { s.p with cls := s.p.cls ++ [s.p.opn ++ c], opn := [], lits := s.p.lits + c.length }⟩ := by
  have hw2 : dWords (dClauseL c) = c.map Lib.itoa ++ [[48]] := by
    unfold dWords
    rw [if_neg (dClauseL_head c), dClauseL_words]
  unfold dLine
  rw [if_neg (by rw [he]; exact fun h => h rfl), hh, if_neg (by decide), hw2, lits_back s.p.vars c s.p rfl hg hw hl h0v]
theorem clauses_back (v : Int) (h0v : 0 ≤ v) : ∀ (cs : List (List Int)) (s : DS), s.err = 0 → s.headed = true → s.p.vars = v → s.p.opn = [] → (∀ c ∈ cs, ∀ x ∈ c, Glit v x) → ((s.p.cls.length + cs.length : Nat) : Int) ≤ s.p.want → s.p.lits + (cs.map List.length).sum ≤ 16777216 →
    ∃ n, (cs.map dClauseL).foldl dLine s = ⟨0, n, true, ⟨v, s.p.cls ++ cs, s.p.want, [], s.p.lits + (cs.map List.length).sum⟩⟩
  | [], s, he, hh, hv, ho, _, _, _ => by
    refine ⟨s.n, ?_⟩
    obtain ⟨e, n, h, p⟩ := s
    obtain ⟨a, b, c, d, l⟩ := p
    simp only at he hh hv ho
    subst he hh hv ho
    simp
  | c :: cs, s, he, hh, hv, ho, hg, hw, hl => by
    subst hv
    simp only [List.map_cons, List.sum_cons, List.length_cons] at hl hw
    have e := dLine_clause s c he hh (hg c List.mem_cons_self) (by omega) (by omega) h0v
    rw [ho, List.nil_append] at e
    obtain ⟨n, ih⟩ := clauses_back s.p.vars h0v cs (dLine s (dClauseL c)) (by rw [e]) (by rw [e]) (by rw [e]) (by rw [e]) (fun d hd => hg d (List.mem_cons_of_mem _ hd)) (by rw [e]; simp only [List.length_append, List.length_singleton]; omega) (by rw [e]; simp only; omega)
    refine ⟨n, ?_⟩
    rw [List.map_cons, List.foldl_cons, ih, e]
    simp only [List.append_assoc, List.singleton_append, List.map_cons, List.sum_cons]
    congr 2
    omega
theorem parse_text (v : Int) (cs : List (List Int)) (h : DRight v cs) : dParse (dText v cs) = ((v, cs), 0, 0) := by
  have h0 := h.v0
  have hn : dNum (Lib.itoa v) false 1048576 = (v, true, true) := by
    have := dNum_dec v.toNat false 1048576 (by have := h.v1; omega)
    unfold Lib.itoa
    rw [if_neg (by omega), this, Int.toNat_of_nonneg h0]
  have hn2 : dNum (Lib.itoa (cs.length : Int)) false 1048576 = ((cs.length : Int), true, true) := by
    have := dNum_dec cs.length false 1048576 (by have := h.c; omega)
    unfold Lib.itoa
    rw [if_neg (by omega), Int.toNat_natCast, this]
  have e1 : dLine DS.init (dHeadL v cs.length) = ⟨0, 1, true, ⟨v, [], cs.length, [], 0⟩⟩ := by
    unfold dLine
    rw [if_neg (fun h => h rfl), if_pos (show DS.init.headed = false from rfl), dHeadL_words, if_neg (by simp)]
    have e2 : dHead DS.init.p [[112], [99, 110, 102], Lib.itoa v, Lib.itoa (cs.length : Int)] = (0, ⟨v, [], cs.length, [], 0⟩) := by
      unfold dHead
      simp only [hn, hn2]
      rfl
    rw [e2]
    rfl
  obtain ⟨n, e3⟩ := clauses_back v h0 cs ⟨0, 1, true, ⟨v, [], cs.length, [], 0⟩⟩ rfl rfl rfl rfl h.g (by simp) (by have := h.l; simp only; omega)
  unfold dParse dState
  rw [dText_lines, List.foldl_cons, e1, e3]
  unfold dFinal
  simp
/-! ### What is parsed is right -/
theorem dState_n1 (ls : List (List UInt8)) (h : (dState ls).err ≠ 0) : 1 ≤ (dState ls).n := by
  have key : ∀ (k : Nat) (ls : List (List UInt8)), ls.length = k → (dState ls).err ≠ 0 → 1 ≤ (dState ls).n := by
    intro k
    induction k with
    | zero =>
      intro ls hk h
      rw [List.eq_nil_of_length_eq_zero hk] at h
      exact absurd rfl h
    | succ k ih =>
      intro ls hk h
      have hne : ls ≠ [] := by intro e; rw [e] at hk; cases hk
      have hs : ls.dropLast ++ [ls.getLast hne] = ls := List.dropLast_concat_getLast hne
      have hd := dState_snoc ls.dropLast (ls.getLast hne)
      rw [hs] at hd
      by_cases e : (dState ls.dropLast).err = 0
      · rw [hd, dLine_n _ _ e]
        omega
      · have h1 := ih ls.dropLast (by rw [List.length_dropLast]; omega) e
        rw [hd]
        have : dLine (dState ls.dropLast) (ls.getLast hne) = dState ls.dropLast := by unfold dLine; rw [if_pos e]
        rw [this]
        exact h1
  exact key _ ls rfl h
theorem dState_nle : ∀ (ls : List (List UInt8)) (s : DS), (ls.foldl dLine s).n ≤ s.n + ls.length
  | [], s => Nat.le_refl _
  | l :: ls, s => by
    have h1 := dState_nle ls (dLine s l)
    have h2 : (dLine s l).n ≤ s.n + 1 := by
      unfold dLine
      split
      · omega
      · split
        · split <;> exact Nat.le_refl _
        · exact Nat.le_refl _
    rw [List.foldl_cons, List.length_cons]
    omega
/-- What Parse answers: an error at its line, or a right formula. -/
theorem dParse_kinds (b : List UInt8) : (∃ e n : Int, dParse b = ((0, []), e, n) ∧ e ≠ 0 ∧ 1 ≤ n ∧ n ≤ b.length + 1) ∨
    ∃ v cs, dParse b = ((v, cs), 0, 0) ∧ DRight v cs ∧ (cs.map List.length).sum + cs.length ≤ b.length := by
  have hi := dState_inv (dLines b)
  have hc := dState_count b
  have hn := dState_nle (dLines b) DS.init
  have hl := (dLines_sum b).2
  have hn0 : DS.init.n = 0 := rfl
  have hn' : (dState (dLines b)).n ≤ b.length := by unfold dState; omega
  unfold dParse dFinal
  by_cases h1 : (dState (dLines b)).err ≠ 0
  · rw [if_pos h1]
    exact .inl ⟨_, _, rfl, h1, by have := dState_n1 _ h1; omega, by omega⟩
  · rw [if_neg h1]
    by_cases h2 : (dState (dLines b)).headed = false
    · rw [if_pos h2]
      exact .inl ⟨_, _, rfl, by decide, by omega, by omega⟩
    · rw [if_neg h2]
      by_cases h3 : (dState (dLines b)).p.opn ≠ [] ∨ ((dState (dLines b)).p.cls.length : Int) < (dState (dLines b)).p.want
      · rw [if_pos h3]
        exact .inl ⟨_, _, rfl, by decide, by omega, by omega⟩
      · rw [if_neg h3]
        have hp := hi.p
        have ho : (dState (dLines b)).p.opn = [] := by
          by_cases e : (dState (dLines b)).p.opn = []
          · exact e
          · exact absurd (.inl e) h3
        have ht := hp.t
        rw [ho, List.length_nil] at ht
        refine .inr ⟨_, _, rfl, ⟨hp.v0, hp.v1, ?_, ?_, hp.g⟩, ?_⟩
        · have := hp.c; have := hp.w1; omega
        · have := hp.l; omega
        · unfold DP.count at hc; omega
theorem itoa_len (v : Int) (h0 : -9223372036854775808 ≤ v) (h1 : v ≤ 9223372036854775807) : (Lib.itoa v).length ≤ 21 := Lib.itoa_length_le v h0 h1
theorem dText_len (v : Int) (cs : List (List Int)) (h : DRight v cs) : (dText v cs).length ≤ 50 + 22 * ((cs.map List.length).sum + cs.length) := by
  have h1 := itoa_len v (by have := h.v0; omega) (by have := h.v1; omega)
  have h2 := itoa_len (cs.length : Int) (by omega) (by have := h.c; omega)
  have h3 : (cs.flatMap dClause).length ≤ 22 * ((cs.map List.length).sum + cs.length) := by
    have hg := h.g
    have hv0 := h.v0
    have hv1 := h.v1
    clear h h1 h2
    induction cs with
    | nil => simp
    | cons c cs ih =>
      have h4 := ih (fun d hd => hg d (List.mem_cons_of_mem _ hd))
      have h5 : (c.flatMap fun x => Lib.itoa x ++ [32]).length ≤ 22 * c.length := by
        have hc := hg c List.mem_cons_self
        clear h4 hg ih
        induction c with
        | nil => simp
        | cons x c ih2 =>
          have h6 := ih2 (fun y hy => hc y (List.mem_cons_of_mem _ hy))
          have h7 := hc x List.mem_cons_self
          have h8 := itoa_len x (by unfold Glit at h7; omega) (by unfold Glit at h7; omega)
          rw [List.flatMap_cons, List.length_append, List.length_append, List.length_singleton, List.length_cons]
          omega
      have h9 : (dClause c).length = (c.flatMap fun x => Lib.itoa x ++ [32]).length + 2 := by
        unfold dClause
        rw [List.length_append]
        rfl
      rw [List.flatMap_cons, List.length_append, List.map_cons, List.sum_cons, List.length_cons, h9]
      omega
  unfold dText
  simp only [List.length_append, List.length_cons, List.length_nil]
  omega
/-! ### A line without words ahead -/
theorem dParse_blank (l s : List UInt8) (hl : 10 ∉ l) (hw : dWords l = []) : (dParse (l ++ 10 :: s)).1 = (dParse s).1 ∧ (dParse (l ++ 10 :: s)).2.1 = (dParse s).2.1 ∧ (dParse (l ++ 10 :: s)).2.2 = if (dParse s).2.1 = 0 then 0 else (dParse s).2.2 + 1 := by
  have sh : ∀ (ls : List (List UInt8)) (t : DS), ls.foldl dLine { t with n := t.n + 1 } = { ls.foldl dLine t with n := (ls.foldl dLine t).n + 1 } := by
    intro ls
    induction ls with
    | nil => intro t; rfl
    | cons a ls ih =>
      intro t
      have e : dLine { t with n := t.n + 1 } a = { dLine t a with n := (dLine t a).n + 1 } := by
        unfold dLine
        by_cases h1 : t.err ≠ 0
        · rw [if_pos h1, if_pos h1]
        · rw [if_neg h1, if_neg h1]
          by_cases h2 : t.headed = false
          · rw [if_pos h2, if_pos h2]
            by_cases h3 : dWords a = []
            · rw [if_pos h3, if_pos h3]
            · rw [if_neg h3, if_neg h3]
          · rw [if_neg h2, if_neg h2]
      rw [List.foldl_cons, List.foldl_cons, e, ih]
  have e1 : dLine DS.init l = { DS.init with n := DS.init.n + 1 } := by
    unfold dLine
    rw [if_neg (fun h => h rfl), if_pos (show DS.init.headed = false from rfl), if_pos hw]
  have e2 : dState (dLines (l ++ 10 :: s)) = { dState (dLines s) with n := (dState (dLines s)).n + 1 } := by
    unfold dState
    rw [dLines_cut _ _ hl, List.foldl_cons, e1, sh]
  have hn1 := dState_n1 (dLines s)
  unfold dParse
  rw [e2]
  generalize dState (dLines s) = t at *
  unfold dFinal
  simp only
  by_cases h1 : t.err ≠ 0
  · simp only [if_pos h1]
    exact ⟨trivial, trivial, by rw [if_neg h1]; omega⟩
  · simp only [if_neg h1]
    by_cases h2 : t.headed = false
    · simp only [if_pos h2]
      exact ⟨trivial, trivial, by rw [if_neg (by decide)]; omega⟩
    · simp only [if_neg h2]
      by_cases h3 : t.p.opn ≠ [] ∨ (t.p.cls.length : Int) < t.p.want
      · simp only [if_pos h3]
        exact ⟨trivial, trivial, by rw [if_neg (by decide)]; omega⟩
      · simp only [if_neg h3]
        exact ⟨trivial, trivial, by simp⟩
end Go.Proofs.YtigloobbpcnnhaaDoor.PB
end

section
namespace Go.Proofs.YtigloobbpcnnhaaDoor.PB
open Go.RowKit
set_option linter.unusedVariables false
set_option linter.unusedSimpArgs false
/-! ### A model's text is read as that model -/
theorem dF_split (b : List UInt8) : ∀ (a cur : List UInt8), dFields (a ++ 32 :: b) cur = dFields a cur ++ dFields b []
  | [], cur => by
    rw [List.nil_append, dFields.eq_def (32 :: b), dFields.eq_def []]
    simp only [show isBl 32 = true from rfl, if_true]
    split <;> simp
  | c :: a, cur => by
    rw [List.cons_append, dFields.eq_def (c :: (a ++ 32 :: b)), dFields.eq_def (c :: a)]
    simp only
    split
    · split
      · exact dF_split b a []
      · rw [dF_split b a [], List.cons_append]
    · exact dF_split b a _
/-- A word of a row of values. -/
structure VWd (w : List UInt8) : Prop where
  ne : w ≠ []
  bl : ∀ b ∈ w, isBl b = false
  nl : 10 ∉ w
theorem itoa_vwd (v : Int) : VWd (Lib.itoa v) := ⟨itoa_ne v, itoa_bl v, itoa_no v 10 (by decide) (by decide)⟩
theorem dVWord_vwd (n : Nat) (b : Bool) : VWd (dVWord n b) := by
  unfold dVWord
  cases b with
  | true => exact itoa_vwd n
  | false =>
    refine ⟨by simp, fun c hc => ?_, fun h => ?_⟩
    · rcases List.mem_cons.1 hc with rfl | hc
      · rfl
      · exact itoa_bl n c hc
    · rcases List.mem_cons.1 h with h | h
      · exact absurd h (by decide)
      · exact (itoa_vwd n).nl h
theorem dVW_vwd : ∀ (n : Nat) (m : List Bool), ∀ w ∈ dVW n m, VWd w
  | _, [], w, h => by cases h
  | n, b :: r, w, h => by
    rcases List.mem_cons.1 h with rfl | h
    · exact dVWord_vwd n b
    · exact dVW_vwd (n + 1) r w h
/-- What rows of values come to when they are read: the words so far. -/
structure RowsOf (vars : Int) (s : List UInt8 × List UInt8) (ws : List (List UInt8)) : Prop where
  ex : ∃ rows : List (List UInt8), s.1 = rows.flatMap (· ++ [10]) ∧ (∀ r ∈ rows, 10 ∉ r) ∧ 10 ∉ s.2 ∧ s.2.head? = some 118 ∧ ∀ m0, (rows.flatMap dWords ++ dWords s.2).foldl (dMark vars) m0 = ws.foldl (dMark vars) m0
theorem dMark_v (vars : Int) (m : List Bool) : dMark vars m [118] = m := by
  unfold dMark
  have : (dNum [118] true vars).2.1 = false := by
    rw [dNum_of [118] true vars [118] (by rw [hasPrefix_minus]; rfl), if_pos (.inr (.inl (by decide)))]
  rw [if_neg (fun h => by rw [this] at h; exact absurd h.1 (by decide))]
theorem dWords_v {l : List UInt8} (h : l.head? = some 118) : dWords l = dFields l [] := by
  unfold dWords
  rw [if_neg (by rw [h]; decide)]
theorem rows_put (vars : Int) (s : List UInt8 × List UInt8) (ws : List (List UInt8)) (w : List UInt8) (h : RowsOf vars s ws) (hw : VWd w) : RowsOf vars (dPut s w) (ws ++ [w]) := by
  obtain ⟨rows, h1, h2, h3, h4, h5⟩ := h.ex
  unfold dPut
  split
  · refine ⟨rows ++ [s.2], ?_, ?_, ?_, rfl, ?_⟩
    · simp [h1]
    · intro r hr
      rcases List.mem_append.1 hr with hr | hr
      · exact h2 r hr
      · rw [List.mem_singleton] at hr; rw [hr]; exact h3
    · intro hm
      rcases List.mem_append.1 hm with hm | hm
      · exact absurd hm (by decide)
      · exact hw.nl hm
    · intro m0
      have e : dWords ([118, 32] ++ w) = [118] :: [w] := by
        rw [dWords_v rfl, show [118, 32] ++ w = [118] ++ 32 :: w from rfl, dF_split, dF_end w hw.ne hw.bl]
        rfl
      rw [e, List.flatMap_append, List.flatMap_cons, List.flatMap_nil, List.append_nil, List.foldl_append, h5, List.foldl_append, List.foldl_cons, dMark_v]
  · refine ⟨rows, h1, h2, ?_, ?_, ?_⟩
    · intro hm
      rw [List.append_assoc] at hm
      rcases List.mem_append.1 hm with hm | hm
      · exact h3 hm
      · rcases List.mem_append.1 hm with hm | hm
        · exact absurd hm (by decide)
        · exact hw.nl hm
    · show (s.2 ++ [32] ++ w).head? = some 118
      cases hs : s.2 with
      | nil => rw [hs] at h4; cases h4
      | cons a r => rw [hs] at h4; exact h4
    · intro m0
      have hh : (s.2 ++ [32] ++ w).head? = some 118 := by
        cases hs : s.2 with
        | nil => rw [hs] at h4; cases h4
        | cons a r => rw [hs] at h4; exact h4
      have e : dWords (s.2 ++ [32] ++ w) = dWords s.2 ++ [w] := by
        rw [dWords_v hh, dWords_v h4, show s.2 ++ [32] ++ w = s.2 ++ 32 :: w by simp, dF_split, dF_end w hw.ne hw.bl]
      show (rows.flatMap dWords ++ dWords (s.2 ++ [32] ++ w)).foldl (dMark vars) m0 = _
      rw [e, ← List.append_assoc, List.foldl_append, h5, List.foldl_append]
theorem rows_all (vars : Int) : ∀ (ws : List (List UInt8)) (s : List UInt8 × List UInt8) (done : List (List UInt8)), RowsOf vars s done → (∀ w ∈ ws, VWd w) → RowsOf vars (ws.foldl dPut s) (done ++ ws) := by
  intro ws
  induction ws with
  | nil => intro s done h _; rw [List.append_nil]; exact h
  | cons w ws ih =>
    intro s done h hw
    have := ih (dPut s w) (done ++ [w]) (rows_put vars s done w h (hw w List.mem_cons_self)) (fun x hx => hw x (List.mem_cons_of_mem _ hx))
    rw [List.append_assoc] at this
    exact this
theorem rows_lines : ∀ (rows : List (List UInt8)) (t : List UInt8), (∀ r ∈ rows, 10 ∉ r) → dLines (rows.flatMap (· ++ [10]) ++ t) = rows ++ dLines t := by
  intro rows
  induction rows with
  | nil => intro t _; rfl
  | cons r rows ih =>
    intro t h
    rw [List.flatMap_cons, List.append_assoc, List.append_assoc, show ([10] : List UInt8) ++ (rows.flatMap (· ++ [10]) ++ t) = 10 :: (rows.flatMap (· ++ [10]) ++ t) from rfl, dLines_cut r _ (h r List.mem_cons_self), ih t (fun x hx => h x (List.mem_cons_of_mem _ hx))]
    rfl
theorem values_words (vars : Int) (m : List Bool) (m0 : List Bool) : ((dLines (dValues m)).flatMap dWords).foldl (dMark vars) m0 = (dVW 1 m ++ [[48]]).foldl (dMark vars) m0 := by
  have h := rows_all vars (dVW 1 m ++ [[48]]) ([], [118]) [] ⟨[], rfl, (fun r h => by cases h), by decide, rfl, fun m1 => by
    show (dWords [118]).foldl (dMark vars) m1 = m1
    rw [show dWords [118] = [[118]] from rfl, List.foldl_cons, dMark_v]
    rfl⟩ (fun w hw => by
      rcases List.mem_append.1 hw with hw | hw
      · exact dVW_vwd 1 m w hw
      · rw [List.mem_singleton] at hw
        subst hw
        exact ⟨by decide, by decide, by decide⟩)
  rw [List.nil_append] at h
  obtain ⟨rows, h1, h2, h3, h4, h5⟩ := h.ex
  unfold dValues
  change ((dLines ((dVState m).1 ++ (dVState m).2 ++ [10])).flatMap dWords).foldl (dMark vars) m0 = _
  have e : dLines ((dVState m).1 ++ (dVState m).2 ++ [10]) = rows ++ [(dVState m).2] := by
    rw [List.append_assoc, show (dVState m).1 = rows.flatMap (· ++ [10]) from h1, rows_lines rows _ h2, show (dVState m).2 ++ [10] = (dVState m).2 ++ 10 :: [] from rfl, dLines_cut (dVState m).2 [] h3]
    rfl
  rw [e, List.flatMap_append, List.flatMap_cons, List.flatMap_nil, List.append_nil]
  exact h5 m0
theorem dMark_word (vars : Int) (k : Nat) (b : Bool) (m : List Bool) (hk : ((k + 1 : Nat) : Int) ≤ vars) : dMark vars m (dVWord (k + 1) b) = if b = true then m.set k true else m := by
  have hi := dNum_itoa ((k + 1 : Nat) : Int) vars (by omega) hk
  cases b with
  | true =>
    unfold dMark dVWord
    rw [if_pos rfl, hi, if_pos ⟨rfl, rfl, by show (0 : Int) < ((k + 1 : Nat) : Int); omega⟩, if_pos rfl]
    congr 1
    show (((k + 1 : Nat) : Int) - 1).toNat = k
    omega
  | false =>
    have hn : (45 :: Lib.itoa ((k + 1 : Nat) : Int)) = 45 :: Lib.decDigits (k + 1) := by rw [Lib.itoa_nonneg]
    have hm := dNum_neg (k + 1) vars (by omega) hk
    unfold dMark dVWord
    rw [if_neg (show ¬ (false = true) by decide), hn, hm, if_neg ?_, if_neg (show ¬ (false = true) by decide)]
    rintro ⟨_, _, h⟩
    have : (0 : Int) < -((k + 1 : Nat) : Int) := h
    omega
theorem dMark_zero (vars : Int) (m : List Bool) (h0 : 0 ≤ vars) : dMark vars m [48] = m := by
  unfold dMark
  have hi := dNum_itoa 0 vars (by omega) h0
  rw [itoa_zero] at hi
  rw [hi, if_neg ?_]
  rintro ⟨_, _, h⟩
  exact absurd h (by decide)
theorem marks_back (vars : Int) : ∀ (bs pre : List Bool), ((pre.length + bs.length : Nat) : Int) ≤ vars → (dVW (pre.length + 1) bs).foldl (dMark vars) (pre ++ List.replicate bs.length false) = pre ++ bs := by
  intro bs
  induction bs with
  | nil => intro pre _; rfl
  | cons b bs ih =>
    intro pre h
    rw [List.length_cons] at h
    rw [dVW, List.foldl_cons, dMark_word vars pre.length b _ (by omega)]
    have e : (if b = true then (pre ++ List.replicate (b :: bs).length false).set pre.length true else pre ++ List.replicate (b :: bs).length false) = (pre ++ [b]) ++ List.replicate bs.length false := by
      rw [List.length_cons, List.replicate_succ]
      cases b with
      | true =>
        rw [if_pos rfl, List.set_append_right _ _ (Nat.le_refl _), Nat.sub_self, List.set_cons_zero, List.append_assoc]
        rfl
      | false =>
        rw [if_neg (by decide), List.append_assoc]
        rfl
    rw [e]
    have := ih (pre ++ [b]) (by rw [List.length_append, List.length_singleton]; omega)
    rw [List.length_append, List.length_singleton] at this
    rw [this, List.append_assoc]
    rfl
theorem model_back (m : List Bool) (hm : m.length ≤ 1048576) : dModel (dValues m) (m.length : Int) = (m, 0) := by
  have h : ((dLines (dValues m)).flatMap dWords).foldl (dMark (m.length : Int)) (List.replicate m.length false) = m := by
    rw [values_words, List.foldl_append]
    have := marks_back (m.length : Int) m [] (by simp)
    rw [List.nil_append, List.nil_append] at this
    rw [show (1 : Nat) = ([] : List Bool).length + 1 from rfl, this, List.foldl_cons, dMark_zero _ _ (Int.natCast_nonneg _)]
    rfl
  unfold dModel
  rw [if_neg (by omega), Int.toNat_natCast, h, if_pos rfl]
end Go.Proofs.YtigloobbpcnnhaaDoor.PB
end
