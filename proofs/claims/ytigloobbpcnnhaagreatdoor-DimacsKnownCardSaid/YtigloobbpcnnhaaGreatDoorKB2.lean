import Derived.Test.YtigloobbpcnnhaaGreatDoorKB1
import Derived.Lib.ItoaLen
import Derived.RangeFuncNested
import Derived.RangeFuncBound
import Derived.RangeFuncCalls
import Derived.RangeFuncLeaves
import Derived.OrdersIn
import Derived.Shelf.Abstract
import Derived.Shelf.RegionOpen
import Derived.WalkKit
import Derived.OwnWalkIn
import Derived.TacticsInMore
import Derived.LoopNIn
import Derived.LoopIn
import Derived.Outline
import Derived.Lib.AppendStr
import Derived.Shelf.Strconv.AppendUint10
import Derived.Lib.ItoaMem
-- texts of this claim, packed, what nothing reaches struck (wip/tools/prune.py): HDback HDnumber HDwords HDword HDhead HDrange HDlines HDlast HDput HDvalues HDmark HDappend FCnfLitVariable FCnfVar FCnfRight FThreshingref01Var
section
namespace Go.Proofs.YtigloobbpcnnhaaGreatDoor.PB
set_option linter.unusedVariables false
set_option linter.unusedSimpArgs false
theorem dec_byte (d : Nat) (h : d < 10) : (UInt8.ofNat (48 + d)).toNat = 48 + d := by
  rw [UInt8.toNat_ofNat']
  omega
theorem dec_digits (u : Nat) : ∀ b ∈ Lib.decDigits u, 48 ≤ b.toNat ∧ b.toNat ≤ 57 := by
  induction u using Nat.strongRecOn with
  | _ u ih =>
    by_cases h : u < 10
    · rw [Lib.decDigits, dif_pos h]
      intro b hb
      rw [List.mem_singleton.1 hb, dec_byte u h]
      omega
    · rw [Lib.decDigits, dif_neg h]
      intro b hb
      rcases List.mem_append.1 hb with hb | hb
      · exact ih (u / 10) (by omega) b hb
      · rw [List.mem_singleton.1 hb, dec_byte (u % 10) (by omega)]
        omega
theorem dec_ne (u : Nat) : Lib.decDigits u ≠ [] := by
  rw [Lib.decDigits]
  split <;> simp
theorem dec_all (u : Nat) : (Lib.decDigits u).all isDig = true := by
  rw [List.all_eq_true]
  exact fun b hb => (isDig_iff b).2 (dec_digits u b hb)
theorem dVal_dec (u : Nat) : dVal (Lib.decDigits u) = u := by
  induction u using Nat.strongRecOn with
  | _ u ih =>
    by_cases h : u < 10
    · rw [Lib.decDigits, dif_pos h]
      show 0 * 10 + ((UInt8.ofNat (48 + u)).toNat - 48) = u
      rw [dec_byte u h]
      omega
    · rw [Lib.decDigits, dif_neg h]
      have h1 := ih (u / 10) (by omega)
      unfold dVal dValF at h1 ⊢
      rw [List.foldl_append, h1]
      show u / 10 * 10 + ((UInt8.ofNat (48 + u % 10)).toNat - 48) = u
      rw [dec_byte _ (by omega)]
      omega
theorem dec_head (u : Nat) : (Lib.decDigits u).head? = some 48 → u = 0 := by
  induction u using Nat.strongRecOn with
  | _ u ih =>
    by_cases h : u < 10
    · rw [Lib.decDigits, dif_pos h]
      intro e
      have e2 := congrArg UInt8.toNat (Option.some.inj e)
      rw [dec_byte u h] at e2
      have : (48 : UInt8).toNat = 48 := rfl
      omega
    · rw [Lib.decDigits, dif_neg h]
      intro e
      rw [List.head?_append] at e
      have h2 := dec_ne (u / 10)
      cases hd : (Lib.decDigits (u / 10)).head? with
      | none => rw [List.head?_eq_none_iff] at hd; exact absurd hd h2
      | some x =>
        rw [hd] at e
        have := ih (u / 10) (by omega) (by rw [hd]; exact e)
        omega
theorem dec_zero : Lib.decDigits 0 = [48] := by
  rw [Lib.decDigits, dif_pos (by omega)]
  rfl
theorem dec_lead (u : Nat) : ¬ (1 < (Lib.decDigits u).length ∧ (Lib.decDigits u).head? = some 48) := by
  rintro ⟨h1, h2⟩
  rw [dec_head u h2, dec_zero] at h1
  exact absurd h1 (by decide)
theorem itoa_bytes (v : Int) : ∀ b ∈ Lib.itoa v, b = 45 ∨ (48 ≤ b.toNat ∧ b.toNat ≤ 57) := by
  unfold Lib.itoa
  split
  · intro b hb
    rcases List.mem_cons.1 hb with rfl | hb
    · exact .inl rfl
    · exact .inr (dec_digits _ b hb)
  · intro b hb
    exact .inr (dec_digits _ b hb)
theorem itoa_no (v : Int) (c : UInt8) (hc : c ≠ 45) (hc2 : c.toNat < 48 ∨ 57 < c.toNat) : c ∉ Lib.itoa v := by
  intro h
  rcases itoa_bytes v c h with h | h
  · exact hc h
  · omega
theorem itoa_zero : Lib.itoa 0 = [48] := by
  unfold Lib.itoa
  rw [if_neg (by omega), show (0 : Int).toNat = 0 from rfl, dec_zero]
theorem itoa_ne (v : Int) : Lib.itoa v ≠ [] := by
  unfold Lib.itoa
  split
  · simp
  · exact dec_ne _
theorem dNum_of (w : List UInt8) (minus : Bool) (top : Int) (s : List UInt8) (hs : s = (if (minus && Lib.hasPrefix w [45]) = true then w.drop 1 else w)) :
    dNum w minus top = if s = [] ∨ s.all isDig = false ∨ (1 < s.length ∧ s.head? = some 48) ∨ w = [45, 48] then (0, false, false)
    else if top < (dVal s : Int) then (0, true, false)
    else (if s.length < w.length then -(dVal s : Int) else (dVal s : Int), true, true) := by rw [hs]; rfl
theorem hasPrefix_minus (w : List UInt8) : Lib.hasPrefix w [45] = decide (w.head? = some 45) := by
  unfold Lib.hasPrefix
  cases w with
  | nil => rfl
  | cons a r =>
    simp only [List.isPrefixOf, List.head?_cons, Option.some.injEq, Bool.and_true]
    by_cases e : a = 45
    · subst e; rfl
    · rw [decide_eq_false e]; exact beq_eq_false_iff_ne.2 (fun h => e h.symm)
theorem dNum_dec (u : Nat) (minus : Bool) (top : Int) (h : (u : Int) ≤ top) : dNum (Lib.decDigits u) minus top = ((u : Int), true, true) := by
  have hp : Lib.hasPrefix (Lib.decDigits u) [45] = false := by
    rw [hasPrefix_minus]
    refine decide_eq_false fun e => ?_
    have := dec_digits u 45 (List.mem_of_mem_head? e)
    exact absurd this (by decide)
  rw [dNum_of _ minus top (Lib.decDigits u) (by rw [hp, Bool.and_false]; rfl), dVal_dec, if_neg ?_, if_neg (by omega), if_neg (by omega)]
  rintro (h1 | h1 | h1 | h1)
  · exact dec_ne u h1
  · rw [dec_all] at h1; cases h1
  · exact dec_lead u h1
  · have := dec_digits u 45 (by rw [h1]; exact List.mem_cons_self)
    exact absurd this (by decide)
theorem dNum_neg (u : Nat) (top : Int) (h0 : 0 < u) (h : (u : Int) ≤ top) : dNum (45 :: Lib.decDigits u) true top = (-(u : Int), true, true) := by
  rw [dNum_of _ true top (Lib.decDigits u) (by rw [hasPrefix_minus]; rfl), dVal_dec, if_neg ?_, if_neg (by omega), if_pos (by simp)]
  rintro (h1 | h1 | h1 | h1)
  · exact dec_ne u h1
  · rw [dec_all] at h1; cases h1
  · exact dec_lead u h1
  · have : Lib.decDigits u = [48] := by injection h1
    have h2 := dVal_dec u
    rw [this] at h2
    have h3 : dVal [48] = 0 := rfl
    omega
theorem dNum_itoa (x top : Int) (h0 : -top ≤ x) (h1 : x ≤ top) : dNum (Lib.itoa x) true top = (x, true, true) := by
  unfold Lib.itoa
  by_cases h : x < 0
  · rw [if_pos h, dNum_neg _ _ (by omega) (by omega)]
    congr 1
    omega
  · rw [if_neg h, dNum_dec _ _ _ (by omega)]
    congr 1
    omega
theorem dF_word : ∀ (w r cur : List UInt8), (∀ b ∈ w, isBl b = false) → dFields (w ++ r) cur = dFields r (cur ++ w)
  | [], r, cur, _ => by simp
  | b :: w, r, cur, h => by
    rw [List.cons_append, dFields, h b List.mem_cons_self]
    simp only [Bool.false_eq_true, if_false]
    rw [dF_word w r (cur ++ [b]) (fun c hc => h c (List.mem_cons_of_mem _ hc))]
    simp
theorem dF_sp (w r : List UInt8) (hw : w ≠ []) (h : ∀ b ∈ w, isBl b = false) : dFields (w ++ 32 :: r) [] = w :: dFields r [] := by
  rw [dF_word w _ [] h, List.nil_append, dFields, show isBl 32 = true from rfl, if_pos rfl, if_neg hw]
theorem dF_end (w : List UInt8) (hw : w ≠ []) (h : ∀ b ∈ w, isBl b = false) : dFields w [] = [w] := by
  have := dF_word w [] [] h
  rw [List.append_nil, List.nil_append] at this
  rw [this, dFields, if_neg hw]
theorem bl_no {w : List UInt8} (h32 : 32 ∉ w) (h9 : 9 ∉ w) (h13 : 13 ∉ w) : ∀ b ∈ w, isBl b = false := by
  intro b hb
  unfold isBl
  have h1 : (b == 32) = false := beq_eq_false_iff_ne.2 (fun e => h32 (e ▸ hb))
  have h2 : (b == 9) = false := beq_eq_false_iff_ne.2 (fun e => h9 (e ▸ hb))
  have h3 : (b == 13) = false := beq_eq_false_iff_ne.2 (fun e => h13 (e ▸ hb))
  rw [h1, h2, h3]
  rfl
theorem itoa_bl (v : Int) : ∀ b ∈ Lib.itoa v, isBl b = false := bl_no (itoa_no v 32 (by decide) (by decide)) (itoa_no v 9 (by decide) (by decide)) (itoa_no v 13 (by decide) (by decide))
/-- A clause's line, without its end. -/
def dClauseL (c : List Int) : List UInt8 := (c.flatMap fun x => Lib.itoa x ++ [32]) ++ [48]
theorem dClauseL_words : ∀ c : List Int, dFields (dClauseL c) [] = c.map Lib.itoa ++ [[48]]
  | [] => rfl
  | x :: c => by
    have e : dClauseL (x :: c) = Lib.itoa x ++ 32 :: dClauseL c := by simp [dClauseL]
    rw [e, dF_sp _ _ (itoa_ne x) (itoa_bl x), dClauseL_words c]
    rfl
theorem dClauseL_no (c : List Int) (b : UInt8) (hb : b ≠ 45) (hb2 : b.toNat < 48 ∨ 57 < b.toNat) (hs : b ≠ 32) : b ∉ dClauseL c := by
  unfold dClauseL
  intro h
  rcases List.mem_append.1 h with h | h
  · obtain ⟨x, _, h⟩ := List.mem_flatMap.1 h
    rcases List.mem_append.1 h with h | h
    · exact itoa_no x b hb hb2 h
    · exact hs (List.mem_singleton.1 h)
  · rw [List.mem_singleton] at h
    subst h
    revert hb2
    decide
theorem dClauseL_head (c : List Int) : (dClauseL c).head? ≠ some 99 := by
  intro h
  exact dClauseL_no c 99 (by decide) (by decide) (by decide) (List.mem_of_mem_head? h)
theorem dClause_eq (c : List Int) : dClause c = dClauseL c ++ [10] := by simp [dClause, dClauseL]
def dHeadL (v : Int) (n : Nat) : List UInt8 := [112, 32, 99, 110, 102, 32] ++ Lib.itoa v ++ [32] ++ Lib.itoa n
theorem dHeadL_no (v : Int) (n : Nat) : 10 ∉ dHeadL v n := by
  unfold dHeadL
  intro h
  simp only [List.mem_append] at h
  rcases h with ((h | h) | h) | h
  · revert h; decide
  · exact itoa_no v 10 (by decide) (by decide) h
  · revert h; decide
  · exact itoa_no n 10 (by decide) (by decide) h
theorem dHeadL_words (v : Int) (n : Nat) : dWords (dHeadL v n) = [[112], [99, 110, 102], Lib.itoa v, Lib.itoa n] := by
  have e : dHeadL v n = [112] ++ 32 :: ([99, 110, 102] ++ 32 :: (Lib.itoa v ++ 32 :: Lib.itoa n)) := by simp [dHeadL]
  unfold dWords
  rw [if_neg (by rw [e]; show ¬ (some (112 : UInt8) = some 99); decide), e, dF_sp _ _ (by decide) (by decide), dF_sp _ _ (by decide) (by decide), dF_sp _ _ (itoa_ne v) (itoa_bl v), dF_end _ (itoa_ne _) (itoa_bl _)]
theorem dText_lines (v : Int) (cs : List (List Int)) : dLines (dText v cs) = dHeadL v cs.length :: cs.map dClauseL := by
  have e : dText v cs = dHeadL v cs.length ++ 10 :: cs.flatMap dClause := by simp [dText, dHeadL]
  rw [e, dLines_cut _ _ (dHeadL_no v _)]
  congr 1
  generalize cs = l
  induction l with
  | nil => rfl
  | cons c l ih =>
    rw [List.flatMap_cons, dClause_eq, List.append_assoc, List.singleton_append, dLines_cut _ _ (dClauseL_no c 10 (by decide) (by decide) (by decide)), ih]
    rfl
theorem dRightL_zero (v : Int) : ∀ (l : List Int) (n : Nat), dRightL v n l = 0 ↔ l.length ≤ n ∧ ∀ x ∈ l, Glit v x
  | [], n => by
    have e : dRightL v n [] = 0 := by cases n <;> rfl
    rw [e]
    exact ⟨fun _ => ⟨Nat.zero_le _, fun x hx => by cases hx⟩, fun _ => rfl⟩
  | a :: l, 0 => by
    have e : dRightL v 0 (a :: l) = 3 := rfl
    rw [e]
    constructor
    · intro h; cases h
    · intro h; exact absurd h.1 (by simp)
  | a :: l, n + 1 => by
    rw [dRightL]
    by_cases h : a = 0 ∨ a < -v ∨ v < a
    · rw [if_pos h]
      constructor
      · intro h; cases h
      · intro h2
        have := h2.2 a List.mem_cons_self
        unfold Glit at this
        omega
    · rw [if_neg h, dRightL_zero v l n]
      constructor
      · rintro ⟨h1, h2⟩
        refine ⟨by simp only [List.length_cons]; omega, fun x hx => ?_⟩
        rcases List.mem_cons.1 hx with rfl | hx
        · unfold Glit; omega
        · exact h2 x hx
      · rintro ⟨h1, h2⟩
        exact ⟨by simp only [List.length_cons] at h1; omega, fun x hx => h2 x (List.mem_cons_of_mem _ hx)⟩
structure DRight (v : Int) (cs : List (List Int)) : Prop where
  v0 : 0 ≤ v
  v1 : v ≤ 1048576
  c : cs.length ≤ 1048576
  l : (cs.map List.length).sum ≤ 16777216
  g : ∀ c ∈ cs, ∀ x ∈ c, Glit v x
theorem flatten_len : ∀ cs : List (List Int), cs.flatten.length = (cs.map List.length).sum
  | [] => rfl
  | c :: cs => by rw [List.flatten_cons, List.length_append, flatten_len cs, List.map_cons, List.sum_cons]
theorem dRight_zero (v : Int) (cs : List (List Int)) : dRight v cs = 0 ↔ DRight v cs := by
  unfold dRight
  by_cases h1 : v < 0 ∨ 1048576 < v
  · rw [if_pos h1]
    exact ⟨(fun h => by cases h), fun h => by have := h.v0; have := h.v1; omega⟩
  · rw [if_neg h1]
    by_cases h2 : 1048576 < cs.length
    · rw [if_pos h2]
      exact ⟨(fun h => by cases h), fun h => by have := h.c; omega⟩
    · rw [if_neg h2, dRightL_zero, flatten_len]
      constructor
      · rintro ⟨h3, h4⟩
        exact ⟨by omega, by omega, by omega, h3, fun c hc x hx => h4 x (List.mem_flatten.2 ⟨c, hc, hx⟩)⟩
      · intro h
        refine ⟨h.l, fun x hx => ?_⟩
        obtain ⟨c, hc, hx⟩ := List.mem_flatten.1 hx
        exact h.g c hc x hx
theorem lits_back (v : Int) : ∀ (c : List Int) (p : DP), p.vars = v → (∀ x ∈ c, Glit v x) → (p.cls.length : Int) ≠ p.want → p.lits + c.length ≤ 16777216 → 0 ≤ v →
    dWordsL p (c.map Lib.itoa ++ [[48]]) = (0, { p with cls := p.cls ++ [p.opn ++ c], opn := [], lits := p.lits + c.length })
  | [], p, hv, _, hw, hl, h0v => by
    have e : dWord p [48] = (0, { p with cls := p.cls ++ [p.opn], opn := [] }) := by
      have h0 : dNum [48] true p.vars = (0, true, true) := by
        have := dNum_dec 0 true p.vars (by rw [hv]; exact h0v)
        rw [dec_zero] at this
        exact this
      unfold dWord
      rw [h0, if_neg (by decide), if_neg hw, if_neg (by simp), if_pos rfl]
    rw [List.map_nil, List.nil_append, dWordsL, e, if_neg (fun h => h rfl), dWordsL, List.append_nil]
    rfl
  | x :: c, p, hv, hg, hw, hl, h0v => by
    have hx := hg x List.mem_cons_self
    subst hv
    have hn := dNum_itoa x p.vars hx.2.1 hx.2.2
    have e : dWord p (Lib.itoa x) = (0, { p with opn := p.opn ++ [x], lits := p.lits + 1 }) := by
      unfold dWord
      rw [hn, if_neg (fun h => by cases h), if_neg hw, if_neg ?_, if_neg hx.1]
      rintro (h | ⟨_, h⟩)
      · cases h
      · simp only [List.length_cons] at hl; omega
    rw [List.map_cons, List.cons_append, dWordsL, e, if_neg (fun h => h rfl)]
    have := lits_back p.vars c { p with opn := p.opn ++ [x], lits := p.lits + 1 } rfl (fun y hy => hg y (List.mem_cons_of_mem _ hy)) hw (by simp only [List.length_cons] at hl; show p.lits + 1 + c.length ≤ _; omega) h0v
    rw [this]
    simp only [List.append_assoc, List.singleton_append, List.length_cons]
    congr 2
    omega
theorem dLine_clause (s : DS) (c : List Int) (he : s.err = 0) (hh : s.headed = true) (hg : ∀ x ∈ c, Glit s.p.vars x) (hw : (s.p.cls.length : Int) ≠ s.p.want) (hl : s.p.lits + c.length ≤ 16777216) (h0v : 0 ≤ s.p.vars) :
    dLine s (dClauseL c) = ⟨0, s.n + 1, true, { s.p with cls := s.p.cls ++ [s.p.opn ++ c], opn := [], lits := s.p.lits + c.length }⟩ := by
  have hw2 : dWords (dClauseL c) = c.map Lib.itoa ++ [[48]] := by
    unfold dWords
    rw [if_neg (dClauseL_head c), dClauseL_words]
  unfold dLine
  rw [if_neg (by rw [he]; exact fun h => h rfl), hh, if_neg (by decide), hw2, lits_back s.p.vars c s.p rfl hg hw hl h0v]
theorem clauses_back (v : Int) (h0v : 0 ≤ v) : ∀ (cs : List (List Int)) (s : DS), s.err = 0 → s.headed = true → s.p.vars = v → s.p.opn = [] → (∀ c ∈ cs, ∀ x ∈ c, Glit v x) → ((s.p.cls.length + cs.length : Nat) : Int) ≤ s.p.want → s.p.lits + (cs.map List.length).sum ≤ 16777216 →
    ∃ n, (cs.map dClauseL).foldl dLine s = ⟨0, n, true, ⟨v, s.p.cls ++ cs, s.p.want, [], s.p.lits + (cs.map List.length).sum⟩⟩
  | [], s, he, hh, hv, ho, _, _, _ => by
    refine ⟨s.n, ?_⟩
    obtain ⟨e, n, h, p⟩ := s
    obtain ⟨a, b, c, d, l⟩ := p
    simp only at he hh hv ho
    subst he hh hv ho
    simp
  | c :: cs, s, he, hh, hv, ho, hg, hw, hl => by
    subst hv
    simp only [List.map_cons, List.sum_cons, List.length_cons] at hl hw
    have e := dLine_clause s c he hh (hg c List.mem_cons_self) (by omega) (by omega) h0v
    rw [ho, List.nil_append] at e
    obtain ⟨n, ih⟩ := clauses_back s.p.vars h0v cs (dLine s (dClauseL c)) (by rw [e]) (by rw [e]) (by rw [e]) (by rw [e]) (fun d hd => hg d (List.mem_cons_of_mem _ hd)) (by rw [e]; simp only [List.length_append, List.length_singleton]; omega) (by rw [e]; simp only; omega)
    refine ⟨n, ?_⟩
    rw [List.map_cons, List.foldl_cons, ih, e]
    simp only [List.append_assoc, List.singleton_append, List.map_cons, List.sum_cons]
    congr 2
    omega
theorem parse_text (v : Int) (cs : List (List Int)) (h : DRight v cs) : dParse (dText v cs) = ((v, cs), 0, 0) := by
  have h0 := h.v0
  have hn : dNum (Lib.itoa v) false 1048576 = (v, true, true) := by
    have := dNum_dec v.toNat false 1048576 (by have := h.v1; omega)
    unfold Lib.itoa
    rw [if_neg (by omega), this, Int.toNat_of_nonneg h0]
  have hn2 : dNum (Lib.itoa (cs.length : Int)) false 1048576 = ((cs.length : Int), true, true) := by
    have := dNum_dec cs.length false 1048576 (by have := h.c; omega)
    unfold Lib.itoa
    rw [if_neg (by omega), Int.toNat_natCast, this]
  have e1 : dLine DS.init (dHeadL v cs.length) = ⟨0, 1, true, ⟨v, [], cs.length, [], 0⟩⟩ := by
    unfold dLine
    rw [if_neg (fun h => h rfl), if_pos (show DS.init.headed = false from rfl), dHeadL_words, if_neg (by simp)]
    have e2 : dHead DS.init.p [[112], [99, 110, 102], Lib.itoa v, Lib.itoa (cs.length : Int)] = (0, ⟨v, [], cs.length, [], 0⟩) := by
      unfold dHead
      simp only [hn, hn2]
      rfl
    rw [e2]
    rfl
  obtain ⟨n, e3⟩ := clauses_back v h0 cs ⟨0, 1, true, ⟨v, [], cs.length, [], 0⟩⟩ rfl rfl rfl rfl h.g (by simp) (by have := h.l; simp only; omega)
  unfold dParse dState
  rw [dText_lines, List.foldl_cons, e1, e3]
  unfold dFinal
  simp
theorem dState_n1 (ls : List (List UInt8)) (h : (dState ls).err ≠ 0) : 1 ≤ (dState ls).n := by
  have key : ∀ (k : Nat) (ls : List (List UInt8)), ls.length = k → (dState ls).err ≠ 0 → 1 ≤ (dState ls).n := by
    intro k
    induction k with
    | zero =>
      intro ls hk h
      rw [List.eq_nil_of_length_eq_zero hk] at h
      exact absurd rfl h
    | succ k ih =>
      intro ls hk h
      have hne : ls ≠ [] := by intro e; rw [e] at hk; cases hk
      have hs : ls.dropLast ++ [ls.getLast hne] = ls := List.dropLast_concat_getLast hne
      have hd := dState_snoc ls.dropLast (ls.getLast hne)
      rw [hs] at hd
      by_cases e : (dState ls.dropLast).err = 0
      · rw [hd, dLine_n _ _ e]
        omega
      · have h1 := ih ls.dropLast (by rw [List.length_dropLast]; omega) e
        rw [hd]
        have : dLine (dState ls.dropLast) (ls.getLast hne) = dState ls.dropLast := by unfold dLine; rw [if_pos e]
        rw [this]
        exact h1
  exact key _ ls rfl h
theorem dState_nle : ∀ (ls : List (List UInt8)) (s : DS), (ls.foldl dLine s).n ≤ s.n + ls.length
  | [], s => Nat.le_refl _
  | l :: ls, s => by
    have h1 := dState_nle ls (dLine s l)
    have h2 : (dLine s l).n ≤ s.n + 1 := by
      unfold dLine
      split
      · omega
      · split
        · split <;> exact Nat.le_refl _
        · exact Nat.le_refl _
    rw [List.foldl_cons, List.length_cons]
    omega
/-- What Parse answers: an error at its line, or a right formula. -/
theorem dParse_kinds (b : List UInt8) : (∃ e n : Int, dParse b = ((0, []), e, n) ∧ e ≠ 0 ∧ 1 ≤ n ∧ n ≤ b.length + 1) ∨
    ∃ v cs, dParse b = ((v, cs), 0, 0) ∧ DRight v cs ∧ (cs.map List.length).sum + cs.length ≤ b.length := by
  have hi := dState_inv (dLines b)
  have hc := dState_count b
  have hn := dState_nle (dLines b) DS.init
  have hl := (dLines_sum b).2
  have hn0 : DS.init.n = 0 := rfl
  have hn' : (dState (dLines b)).n ≤ b.length := by unfold dState; omega
  unfold dParse dFinal
  by_cases h1 : (dState (dLines b)).err ≠ 0
  · rw [if_pos h1]
    exact .inl ⟨_, _, rfl, h1, by have := dState_n1 _ h1; omega, by omega⟩
  · rw [if_neg h1]
    by_cases h2 : (dState (dLines b)).headed = false
    · rw [if_pos h2]
      exact .inl ⟨_, _, rfl, by decide, by omega, by omega⟩
    · rw [if_neg h2]
      by_cases h3 : (dState (dLines b)).p.opn ≠ [] ∨ ((dState (dLines b)).p.cls.length : Int) < (dState (dLines b)).p.want
      · rw [if_pos h3]
        exact .inl ⟨_, _, rfl, by decide, by omega, by omega⟩
      · rw [if_neg h3]
        have hp := hi.p
        have ho : (dState (dLines b)).p.opn = [] := by
          by_cases e : (dState (dLines b)).p.opn = []
          · exact e
          · exact absurd (.inl e) h3
        have ht := hp.t
        rw [ho, List.length_nil] at ht
        refine .inr ⟨_, _, rfl, ⟨hp.v0, hp.v1, ?_, ?_, hp.g⟩, ?_⟩
        · have := hp.c; have := hp.w1; omega
        · have := hp.l; omega
        · unfold DP.count at hc; omega
theorem itoa_len (v : Int) (h0 : -9223372036854775808 ≤ v) (h1 : v ≤ 9223372036854775807) : (Lib.itoa v).length ≤ 21 := Lib.itoa_length_le v h0 h1
theorem dText_len (v : Int) (cs : List (List Int)) (h : DRight v cs) : (dText v cs).length ≤ 50 + 22 * ((cs.map List.length).sum + cs.length) := by
  have h1 := itoa_len v (by have := h.v0; omega) (by have := h.v1; omega)
  have h2 := itoa_len (cs.length : Int) (by omega) (by have := h.c; omega)
  have h3 : (cs.flatMap dClause).length ≤ 22 * ((cs.map List.length).sum + cs.length) := by
    have hg := h.g
    have hv0 := h.v0
    have hv1 := h.v1
    clear h h1 h2
    induction cs with
    | nil => simp
    | cons c cs ih =>
      have h4 := ih (fun d hd => hg d (List.mem_cons_of_mem _ hd))
      have h5 : (c.flatMap fun x => Lib.itoa x ++ [32]).length ≤ 22 * c.length := by
        have hc := hg c List.mem_cons_self
        clear h4 hg ih
        induction c with
        | nil => simp
        | cons x c ih2 =>
          have h6 := ih2 (fun y hy => hc y (List.mem_cons_of_mem _ hy))
          have h7 := hc x List.mem_cons_self
          have h8 := itoa_len x (by unfold Glit at h7; omega) (by unfold Glit at h7; omega)
          rw [List.flatMap_cons, List.length_append, List.length_append, List.length_singleton, List.length_cons]
          omega
      have h9 : (dClause c).length = (c.flatMap fun x => Lib.itoa x ++ [32]).length + 2 := by
        unfold dClause
        rw [List.length_append]
        rfl
      rw [List.flatMap_cons, List.length_append, List.map_cons, List.sum_cons, List.length_cons, h9]
      omega
  unfold dText
  simp only [List.length_append, List.length_cons, List.length_nil]
  omega
theorem dParse_blank (l s : List UInt8) (hl : 10 ∉ l) (hw : dWords l = []) : (dParse (l ++ 10 :: s)).1 = (dParse s).1 ∧ (dParse (l ++ 10 :: s)).2.1 = (dParse s).2.1 ∧ (dParse (l ++ 10 :: s)).2.2 = if (dParse s).2.1 = 0 then 0 else (dParse s).2.2 + 1 := by
  have sh : ∀ (ls : List (List UInt8)) (t : DS), ls.foldl dLine { t with n := t.n + 1 } = { ls.foldl dLine t with n := (ls.foldl dLine t).n + 1 } := by
    intro ls
    induction ls with
    | nil => intro t; rfl
    | cons a ls ih =>
      intro t
      have e : dLine { t with n := t.n + 1 } a = { dLine t a with n := (dLine t a).n + 1 } := by
        unfold dLine
        by_cases h1 : t.err ≠ 0
        · rw [if_pos h1, if_pos h1]
        · rw [if_neg h1, if_neg h1]
          by_cases h2 : t.headed = false
          · rw [if_pos h2, if_pos h2]
            by_cases h3 : dWords a = []
            · rw [if_pos h3, if_pos h3]
            · rw [if_neg h3, if_neg h3]
          · rw [if_neg h2, if_neg h2]
      rw [List.foldl_cons, List.foldl_cons, e, ih]
  have e1 : dLine DS.init l = { DS.init with n := DS.init.n + 1 } := by
    unfold dLine
    rw [if_neg (fun h => h rfl), if_pos (show DS.init.headed = false from rfl), if_pos hw]
  have e2 : dState (dLines (l ++ 10 :: s)) = { dState (dLines s) with n := (dState (dLines s)).n + 1 } := by
    unfold dState
    rw [dLines_cut _ _ hl, List.foldl_cons, e1, sh]
  have hn1 := dState_n1 (dLines s)
  unfold dParse
  rw [e2]
  generalize dState (dLines s) = t at *
  unfold dFinal
  simp only
  by_cases h1 : t.err ≠ 0
  · simp only [if_pos h1]
    exact ⟨trivial, trivial, by rw [if_neg h1]; omega⟩
  · simp only [if_neg h1]
    by_cases h2 : t.headed = false
    · simp only [if_pos h2]
      exact ⟨trivial, trivial, by rw [if_neg (by decide)]; omega⟩
    · simp only [if_neg h2]
      by_cases h3 : t.p.opn ≠ [] ∨ (t.p.cls.length : Int) < t.p.want
      · simp only [if_pos h3]
        exact ⟨trivial, trivial, by rw [if_neg (by decide)]; omega⟩
      · simp only [if_neg h3]
        exact ⟨trivial, trivial, by simp⟩
end Go.Proofs.YtigloobbpcnnhaaGreatDoor.PB
end
section
namespace Go.Proofs.YtigloobbpcnnhaaGreatDoor.PB
open Go.RowKit Go.Proofs.YtigloobbpcnnhaaGreatDoorW.PrintWords Go.Proofs.YtigloobbpcnnhaaGreatDoorW.PrintLast Go.Proofs.YtigloobbpcnnhaaGreatDoorW.PrintMore
set_option linter.unusedVariables false
set_option linter.unusedSimpArgs false
/-- What is left of a word when its sign is taken. -/
def dSign (w : List UInt8) (minus : Bool) : List UInt8 := if minus && Lib.hasPrefix w [45] then w.drop 1 else w
theorem trimPrefix_minus (w : List UInt8) : Lib.trimPrefix w [45] = dSign w true := by
  unfold Lib.trimPrefix dSign
  simp
theorem bw_below (w : World) (e : TypeId) (s : ByteArray) : Below w.heap.size w (Lib.bytesWorld w e s) :=
  ⟨rfl, rfl, rfl, by rw [Lib.bytesWorld_size]; omega, fun k hk => Lib.bytesWorld_at_old w e s k hk⟩
theorem atoi_calls (s : ByteArray) (w : World) (hlt : LT w.heap.size w) (hs : s.size ≤ 100000) (hne : s.data.toList ≠ []) (hd : s.data.toList.all isDig = true) :
    Calls Tryz.prog 37 #[.string s] w fun e w' => ∃ v er, e = .returned (.tuple #[.int .i64 v, er]) ∧ Below w.heap.size w w' ∧ ((er = .nilIface ∧ v = (dVal s.data.toList : Int) ∧ dVal s.data.toList < 9223372036854775808) ∨ ((∃ te pe, er = .iface te pe) ∧ 9223372036854775808 ≤ dVal s.data.toList)) := by
  have h := atoi_digs s.data.toList hne hd
  by_cases hv : dVal s.data.toList < 9223372036854775808
  · rw [if_pos hv] at h
    refine (Tryz.strconv_Atoi_ok s (by omega) _ h w).mono ?_
    rintro e w' ⟨rfl, hw⟩
    refine ⟨_, _, rfl, ?_, .inl ⟨rfl, rfl, hv⟩⟩
    rcases hw with rfl | ⟨t, rfl⟩
    · exact Below.refl _ _
    · exact bw_below _ _ _
  · rw [if_neg hv] at h
    obtain ⟨te, pe, he⟩ := hlt.here.er
    refine (Tryz.strconv_Atoi_range s (by omega) h _ w he (.inr ⟨te, pe, rfl⟩)).mono ?_
    rintro e w' ⟨M, rfl, _, _, hb⟩
    exact ⟨_, _, rfl, hb, .inr ⟨⟨_, _, rfl⟩, by omega⟩⟩
theorem dNum_eq (w : List UInt8) (minus : Bool) (top : Int) : dNum w minus top = if dSign w minus = [] ∨ (dSign w minus).all isDig = false ∨ (1 < (dSign w minus).length ∧ (dSign w minus).head? = some 48) ∨ w = [45, 48] then (0, false, false)
  else if top < (dVal (dSign w minus) : Int) then (0, true, false)
  else (if (dSign w minus).length < w.length then -(dVal (dSign w minus) : Int) else (dVal (dSign w minus) : Int), true, true) := rfl
set_option maxHeartbeats 1000000 in
set_option maxRecDepth 100000 in
theorem number_calls (t : ByteArray) (minus : Bool) (top : Int) (h0 : 0 ≤ top) (h1 : top ≤ 4611686018427387904) (hs : t.size ≤ 100000) (w : World) (hlt : LT w.heap.size w) :
    Calls Tryz.prog 16 #[.string t, .bool minus, .int .i64 top] w fun e w' => e = .returned (.tuple #[.int .i64 (dNum t.data.toList minus top).1, .bool (dNum t.data.toList minus top).2.1, .bool (dNum t.data.toList minus top).2.2]) ∧ Below w.heap.size w w' := by
  have HLT := Aside0.mk hlt
  obtain ⟨s, hsg⟩ : ∃ s, s = dSign t.data.toList minus := ⟨_, rfl⟩
  obtain ⟨sB, hsB⟩ : ∃ sB : ByteArray, sB = ⟨s.toArray⟩ := ⟨_, rfl⟩
  have hle : s.length ≤ t.size := by
    rw [hsg]
    unfold dSign
    have : t.data.toList.length = t.size := rfl
    split
    · rw [List.length_drop]; omega
    · omega
  have hsz : sB.size = s.length := by rw [hsB]; rfl
  have hsd : sB.data.toList = s := by rw [hsB]
  have HSG := Aside0.mk hsg
  have HSB := Aside0.mk hsB
  have HSD := Aside0.mk hsd
  clear hlt
  go_enter Tryz.func16, Tryz.ntmps16
  go_upto_if 12 with (fail)
  go_cut [9] (fun v9 wc => v9 = .string sB ∧ wc = w)
  case first =>
    cases minus with
    | true =>
      have ht := Aside0.mk (show (⟨(Lib.trimPrefix t.data.toList [45]).toArray⟩ : ByteArray) = sB by rw [trimPrefix_minus, ← HSG.out, HSB.out])
      clear hsg hsB hsd
      go_wp2_with fail
      refine (Tryz.strings_TrimPrefix t ⟨#[45]⟩ w).mono ?_
      rintro e w2 ⟨rfl, rfl⟩
      rw [show (⟨#[45]⟩ : ByteArray).data.toList = [45] from rfl, ht.out]
      go_wp2
      go_meet
      case rel => exact ⟨rfl, rfl⟩
    | false =>
      have ht := Aside0.mk (show t = sB by rw [HSB.out, HSG.out]; rfl)
      clear hsg hsB hsd
      go_wp2
      go_meet
      case rel => exact ⟨by rw [ht.out], rfl⟩
  case rest =>
    obtain ⟨rfl, hwc⟩ := hcut
    obtain rfl : w = wc := hwc.symm
    by_cases hs0 : s = []
    · have hr := Aside0.mk (show dNum t.data.toList minus top = (0, false, false) by rw [dNum_eq, ← HSG.out, if_pos (.inl hs0)])
      have z1 : sB.toList = [] := by rw [Lib.toList_data, HSD.out, hs0]
      have z2 : sB.toList.isEmpty = true := by rw [z1]; rfl
      clear hsg hsB hsd
      go_wp2
      go_ret3
      exact ⟨by rw [hr.out]; rfl, Below.refl _ _⟩
    · have z2 : sB.toList.isEmpty = false := by rw [Lib.toList_data, HSD.out]; cases s with | nil => exact absurd rfl hs0 | cons a r => rfl
      obtain ⟨tr, htr⟩ : ∃ tr : ByteArray, tr = ⟨(Lib.trimS s digs).toArray⟩ := ⟨_, rfl⟩
      have HTR := Aside0.mk htr
      cases hall : s.all isDig with
      | false =>
        have hr := Aside0.mk (show dNum t.data.toList minus top = (0, false, false) by rw [dNum_eq, ← HSG.out, if_pos (.inr (.inl hall))])
        have z3 : tr.toList.isEmpty = false := by
          rw [Lib.toList_data, htr]
          cases h : Lib.trimS s digs with
          | nil => rw [(trim_nil s).1 h] at hall; cases hall
          | cons a r => rfl
        clear hsg hsB hsd htr
        go_wp2_with fail
        refine (trim_calls sB w (by omega)).mono ?_
        rw [HSD.out, ← HTR.out]
        rintro e w2 ⟨rfl, hb⟩
        have HB := Aside0.mk hb
        clear hb
        go_wp2
        go_ret3
        exact ⟨by rw [hr.out]; rfl, HB.out⟩
      | true =>
        have z3 : tr.toList.isEmpty = true := by rw [Lib.toList_data, htr, (trim_nil s).2 hall]; rfl
        have hpos : 0 < sB.size := by rw [hsz]; cases s with | nil => exact absurd rfl hs0 | cons a r => simp
        have hi0 : (0 : Int) < (sB.size : Int) := by omega
        have hhd : s.head? = some sB[0] := by
          have e := HSB.out
          subst e
          cases s with
          | nil => exact absurd rfl hs0
          | cons a r => rfl
        by_cases hz : 1 < s.length ∧ s.head? = some 48
        · have hr := Aside0.mk (show dNum t.data.toList minus top = (0, false, false) by rw [dNum_eq, ← HSG.out, if_pos (.inr (.inr (.inl hz)))])
          have hszl : sB.size ≤ 100000 := by omega
          have y1 : decide ((1 : Int) < (sB.size : Int)) = true := decide_eq_true (by omega)
          have y2 : decide (1 < sB.size) = true := decide_eq_true (by omega)
          have y3 : (((sB[0]).toNat : Int) == 48) = true := by
            have := hz.2
            rw [hhd] at this
            rw [Option.some.inj this]
            rfl
          clear hsg hsB hsd htr hz hhd hsz hle
          go_wp2_with fail
          refine (trim_calls sB w (by omega)).mono ?_
          rw [HSD.out, ← HTR.out]
          rintro e w2 ⟨rfl, hb⟩
          have HB := Aside0.mk hb
          clear hb
          go_wp2
          go_ret3
          exact ⟨by rw [hr.out]; rfl, HB.out⟩
        · have hszl : sB.size ≤ 100000 := by omega
          have hsl : s.length = sB.size := hsz.symm
          have cond : ∃ b1 : Bool, decide ((1 : Int) < (sB.size : Int)) = b1 ∧ (b1 = true → (((sB[0]).toNat : Int) == 48) = false) := by
            refine ⟨_, rfl, fun h => ?_⟩
            have h1 : 1 < s.length := by have := of_decide_eq_true h; omega
            rw [beq_eq_false_iff_ne]
            intro e
            refine hz ⟨h1, ?_⟩
            rw [hhd]
            exact congrArg some (UInt8.toNat_inj.1 (by show (sB[0]).toNat = 48; omega))
          obtain ⟨b1, y1, y3⟩ := cond
          by_cases hm : t.data.toList = [45, 48]
          · have hr := Aside0.mk (show dNum t.data.toList minus top = (0, false, false) by rw [dNum_eq, if_pos (.inr (.inr (.inr hm)))])
            have y4 : (t.toList == ([45, 48] : List UInt8)) = true := by rw [Lib.toList_data, hm]; rfl
            cases b1 with
            | true =>
              have y5 := y3 rfl
              clear hsg hsB hsd htr hz hhd hsz hle hsl y3
              go_wp2_with fail
              refine (trim_calls sB w (by omega)).mono ?_
              rw [HSD.out, ← HTR.out]
              rintro e w2 ⟨rfl, hb⟩
              have HB := Aside0.mk hb
              clear hb
              go_wp2
              go_ret3
              exact ⟨by rw [hr.out]; rfl, HB.out⟩
            | false =>
              clear hsg hsB hsd htr hz hhd hsz hle hsl y3
              go_wp2_with fail
              refine (trim_calls sB w (by omega)).mono ?_
              rw [HSD.out, ← HTR.out]
              rintro e w2 ⟨rfl, hb⟩
              have HB := Aside0.mk hb
              clear hb
              go_wp2
              go_ret3
              exact ⟨by rw [hr.out]; rfl, HB.out⟩
          · have y4 : (t.toList == ([45, 48] : List UInt8)) = false := by rw [Lib.toList_data]; exact beq_eq_false_iff_ne.2 hm
            obtain ⟨v, hv⟩ : ∃ v, v = dVal s := ⟨_, rfl⟩
            have hdn := dNum_eq t.data.toList minus top
            rw [← HSG.out, if_neg (by rintro (h | h | h | h); exact hs0 h; (rw [hall] at h; cases h); exact hz h; exact hm h), ← hv] at hdn
            have HDN := Aside0.mk hdn
            have HV := Aside0.mk hv
            have HNE := Aside0.mk (show sB.data.toList ≠ [] by rw [HSD.out]; exact hs0)
            have HALL := Aside0.mk (show sB.data.toList.all isDig = true by rw [HSD.out]; exact hall)
            have HSS := Aside0.mk (show sB.size ≤ 100000 from hszl)
            have hTT : t.data.toList.length = t.size := rfl
            have hle2 : sB.size ≤ t.size := by omega
            have hts : t.size ≤ 100000 := hs
            have hcon : Aside0 (b1 = true → (((sB[0]).toNat : Int) == 48) = false) := ⟨y3⟩
            by_cases h1 : top < (v : Int)
            · have hr := Aside0.mk (show dNum t.data.toList minus top = (0, true, false) by rw [HDN.out, if_pos h1])
              have c1 : decide (top < (v : Int)) = true := decide_eq_true h1
              clear hsg hsB hsd htr hz hhd hsz hsl y3 hdn hv hall hs0 hm h1 hTT
              cases b1 with
              | true =>
                have y5 := hcon.out rfl
                go_wp2_with (first | (go_at_call 36; refine (trim_calls sB w (by omega)).mono ?_; rw [HSD.out, ← HTR.out]; rintro e w2 ⟨rfl, hb⟩; have HB := Aside0.mk hb; clear hb) | (go_at_call 37; refine (atoi_calls sB w2 (HLT.out.pay HB.out) HSS.out HNE.out HALL.out).mono ?_; rw [HSD.out, ← HV.out]; rintro e w3 ⟨q, er, rfl, hb, hcases⟩; have HB3 := Aside0.mk hb; clear hb; rcases hcases with ⟨rfl, rfl, _⟩ | ⟨⟨te, pe, rfl⟩, _⟩))
                all_goals
                  go_ret3
                  exact ⟨by rw [hr.out]; rfl, HB.out.trans (HB3.out.mono HB.out.size)⟩
              | false =>
                go_wp2_with (first | (go_at_call 36; refine (trim_calls sB w (by omega)).mono ?_; rw [HSD.out, ← HTR.out]; rintro e w2 ⟨rfl, hb⟩; have HB := Aside0.mk hb; clear hb) | (go_at_call 37; refine (atoi_calls sB w2 (HLT.out.pay HB.out) HSS.out HNE.out HALL.out).mono ?_; rw [HSD.out, ← HV.out]; rintro e w3 ⟨q, er, rfl, hb, hcases⟩; have HB3 := Aside0.mk hb; clear hb; rcases hcases with ⟨rfl, rfl, _⟩ | ⟨⟨te, pe, rfl⟩, _⟩))
                all_goals
                  go_ret3
                  exact ⟨by rw [hr.out]; rfl, HB.out.trans (HB3.out.mono HB.out.size)⟩
            · have c1 : decide (top < (v : Int)) = false := decide_eq_false h1
              have hv1 : (v : Int) ≤ top := by omega
              have HVL := Aside0.mk (show ¬ 9223372036854775808 ≤ v by omega)
              by_cases h2 : s.length < t.data.toList.length
              · have hr := Aside0.mk (show dNum t.data.toList minus top = (-(v : Int), true, true) by rw [HDN.out, if_neg h1, if_pos h2])
                have c2 : decide ((sB.size : Int) < (t.size : Int)) = true := decide_eq_true (by omega)
                have c3 : decide (sB.size < t.size) = true := decide_eq_true (by omega)
                clear hsg hsB hsd htr hz hhd hsz hsl y3 hdn hv hall hs0 hm h1 h2 hTT
                cases b1 with
                | true =>
                  have y5 := hcon.out rfl
                  go_wp2_with (first | (go_at_call 36; refine (trim_calls sB w (by omega)).mono ?_; rw [HSD.out, ← HTR.out]; rintro e w2 ⟨rfl, hb⟩; have HB := Aside0.mk hb; clear hb) | (go_at_call 37; refine (atoi_calls sB w2 (HLT.out.pay HB.out) HSS.out HNE.out HALL.out).mono ?_; rw [HSD.out, ← HV.out]; rintro e w3 ⟨q, er, rfl, hb, hcases⟩; have HB3 := Aside0.mk hb; clear hb; rcases hcases with ⟨rfl, rfl, _⟩ | ⟨_, hbig⟩; rotate_left; exact absurd hbig HVL.out))
                  all_goals
                    go_ret3
                    exact ⟨by rw [hr.out]; rfl, HB.out.trans (HB3.out.mono HB.out.size)⟩
                | false =>
                  go_wp2_with (first | (go_at_call 36; refine (trim_calls sB w (by omega)).mono ?_; rw [HSD.out, ← HTR.out]; rintro e w2 ⟨rfl, hb⟩; have HB := Aside0.mk hb; clear hb) | (go_at_call 37; refine (atoi_calls sB w2 (HLT.out.pay HB.out) HSS.out HNE.out HALL.out).mono ?_; rw [HSD.out, ← HV.out]; rintro e w3 ⟨q, er, rfl, hb, hcases⟩; have HB3 := Aside0.mk hb; clear hb; rcases hcases with ⟨rfl, rfl, _⟩ | ⟨_, hbig⟩; rotate_left; exact absurd hbig HVL.out))
                  all_goals
                    go_ret3
                    exact ⟨by rw [hr.out]; rfl, HB.out.trans (HB3.out.mono HB.out.size)⟩
              · have hr := Aside0.mk (show dNum t.data.toList minus top = ((v : Int), true, true) by rw [HDN.out, if_neg h1, if_neg h2])
                have c2 : decide ((sB.size : Int) < (t.size : Int)) = false := decide_eq_false (by omega)
                have c3 : decide (sB.size < t.size) = false := decide_eq_false (by omega)
                clear hsg hsB hsd htr hz hhd hsz hsl y3 hdn hv hall hs0 hm h1 h2 hTT
                cases b1 with
                | true =>
                  have y5 := hcon.out rfl
                  go_wp2_with (first | (go_at_call 36; refine (trim_calls sB w (by omega)).mono ?_; rw [HSD.out, ← HTR.out]; rintro e w2 ⟨rfl, hb⟩; have HB := Aside0.mk hb; clear hb) | (go_at_call 37; refine (atoi_calls sB w2 (HLT.out.pay HB.out) HSS.out HNE.out HALL.out).mono ?_; rw [HSD.out, ← HV.out]; rintro e w3 ⟨q, er, rfl, hb, hcases⟩; have HB3 := Aside0.mk hb; clear hb; rcases hcases with ⟨rfl, rfl, _⟩ | ⟨_, hbig⟩; rotate_left; exact absurd hbig HVL.out))
                  all_goals
                    go_ret3
                    exact ⟨by rw [hr.out]; rfl, HB.out.trans (HB3.out.mono HB.out.size)⟩
                | false =>
                  go_wp2_with (first | (go_at_call 36; refine (trim_calls sB w (by omega)).mono ?_; rw [HSD.out, ← HTR.out]; rintro e w2 ⟨rfl, hb⟩; have HB := Aside0.mk hb; clear hb) | (go_at_call 37; refine (atoi_calls sB w2 (HLT.out.pay HB.out) HSS.out HNE.out HALL.out).mono ?_; rw [HSD.out, ← HV.out]; rintro e w3 ⟨q, er, rfl, hb, hcases⟩; have HB3 := Aside0.mk hb; clear hb; rcases hcases with ⟨rfl, rfl, _⟩ | ⟨_, hbig⟩; rotate_left; exact absurd hbig HVL.out))
                  all_goals
                    go_ret3
                    exact ⟨by rw [hr.out]; rfl, HB.out.trans (HB3.out.mono HB.out.size)⟩
end Go.Proofs.YtigloobbpcnnhaaGreatDoor.PB
end
section
namespace Go.Proofs.YtigloobbpcnnhaaGreatDoor.PB
open Go.RowKit Go.Proofs.YtigloobbpcnnhaaGreatDoorW.PrintWords Go.Proofs.YtigloobbpcnnhaaGreatDoorW.PrintLast Go.Proofs.YtigloobbpcnnhaaGreatDoorW.PrintMore
set_option linter.unusedVariables false
set_option linter.unusedSimpArgs false
/-- A list of bytes as whole numbers. -/
def bI (l : List UInt8) : List Int := l.map fun b => (b.toNat : Int)
theorem bI_length (l : List UInt8) : (bI l).length = l.length := List.length_map _
theorem bI_str (l : List UInt8) : strOfNums (bI l) = baOf l := by
  unfold strOfNums bI baOf
  rw [List.map_map]
  congr 2
  have : ((fun n : Int => UInt8.ofNat n.toNat) ∘ fun b : UInt8 => (b.toNat : Int)) = id := by
    funext b
    simp
  rw [this, List.map_id]
theorem bI_back (l : List UInt8) : Lib.bytesOf (bI l) = l := by
  unfold Lib.bytesOf bI
  rw [List.map_map]
  have : ((fun n : Int => UInt8.ofNat n.toNat) ∘ fun b : UInt8 => (b.toNat : Int)) = id := by
    funext b
    simp
  rw [this, List.map_id]
theorem baOf_data (l : List UInt8) : (baOf l).data.toList = l := rfl
theorem bI_rd (l : List UInt8) (h : 0 < l.length) : rd (bI l) 0 = ((l.head?.getD 0).toNat : Int) := by
  cases l with
  | nil => exact absurd h (by decide)
  | cons a r => rfl
theorem blank_calls (x : Nat) (w : World) (hx : x ≤ 1114111) : Calls Tryz.prog 33 #[.int .i32 (x : Int)] w fun e w' => e = .returned (.bool (pBl x)) ∧ w = w' := by
  obtain ⟨b1, h1⟩ : ∃ b : Bool, ((x : Int) == 32) = b := ⟨_, rfl⟩
  obtain ⟨b2, h2⟩ : ∃ b : Bool, ((x : Int) == 9) = b := ⟨_, rfl⟩
  obtain ⟨b3, h3⟩ : ∃ b : Bool, ((x : Int) == 13) = b := ⟨_, rfl⟩
  have e : pBl x = (b1 || b2 || b3) := by
    have hh : ∀ n : Nat, ((x : Int) == (n : Int)) = (x == n) := by
      intro n
      rw [Bool.eq_iff_iff, beq_iff_eq, beq_iff_eq]
      omega
    unfold pBl
    rw [← h1, ← h2, ← h3, ← hh 32, ← hh 9, ← hh 13]
    rfl
  have E := Aside0.mk e
  clear e
  cases b1
  · cases b2
    · cases b3
      all_goals
        go_enter Tryz.func33, Tryz.ntmps33
        go_wp2
        go_ret
        exact ⟨by rw [E.out]; rfl, rfl⟩
    · go_enter Tryz.func33, Tryz.ntmps33
      go_wp2
      go_ret
      exact ⟨by rw [E.out]; rfl, rfl⟩
  · go_enter Tryz.func33, Tryz.ntmps33
    go_wp2
    go_ret
    exact ⟨by rw [E.out]; rfl, rfl⟩
theorem blank_grows (w : World) : PredGrows Tryz.prog 33 #[] pBl w := by
  intro W x hx _
  refine (blank_calls x W hx).mono ?_
  rintro e w' ⟨rfl, rfl⟩
  exact ⟨rfl, Below.refl _ _⟩
/-- The words as the call hands them out. -/
theorem fields_calls (l : List UInt8) (w : World) (hs : l.length ≤ 100000) :
    Calls Tryz.prog 34 #[.string (baOf l), .func (.func 33) #[] #[]] w fun e w' => ∃ v, e = .returned v ∧ Kd.string.R 9 w' w.heap.size (fun _ => True) v ((dFields l []).map baOf) ∧ Below w.heap.size w w' := by
  refine (Tryz.strings_FieldsFunc_grows 33 #[] (enters_of Tryz.func33 (by kernel_rfl) rfl) pBl (baOf l) w (by show l.length ≤ _; omega) (blank_grows w)).mono ?_
  rw [fields_blank, baOf_data]
  rintro e w' ⟨A, rfl, _, ho, hb⟩
  exact ⟨_, rfl, Kd.R_of_own ho (fun _ _ => trivial), hb⟩
set_option maxHeartbeats 1000000 in
set_option maxRecDepth 100000 in
theorem words_calls (A : Option Addr) (c : Nat) (l : List UInt8) (w : World) (hC : (Kd.int .u8).C w A l.length (bI l)) (hc : l.length ≤ c) (hs : l.length ≤ 100000) :
    Calls Tryz.prog 15 #[.slice A l.length c] w fun e w' => ∃ v, e = .returned v ∧ Kd.string.R 9 w' w.heap.size (fun _ => True) v ((dWords l).map baOf) ∧ Below w.heap.size w w' := by
  have HC := Aside0.mk hC
  have hcv := Kd.C_string (P := Tryz.prog) (c := c) Tryz.underlying46 Tryz.underlying5 Tryz.underlying9 HC.out
  rw [bI_str] at hcv
  by_cases h0 : 0 < l.length
  · obtain ⟨ad, rfl, hx⟩ := Kd.at_int HC.out 0 (by omega) (by omega)
    rw [bI_rd l h0, show (ad.add (0 : Int).toNat) = ad from by cases ad; rfl] at hx
    obtain ⟨b, hb⟩ : ∃ b, b = l.head?.getD 0 := ⟨_, rfl⟩
    rw [← hb] at hx
    have hhd : l.head? = some b := by
      cases l with
      | nil => exact absurd h0 (by decide)
      | cons a r => rw [hb]; rfl
    have hp1 : decide (0 < (l.length : Int)) = true := decide_eq_true (by omega)
    have hp2 : decide (0 < l.length) = true := decide_eq_true h0
    have hp3 : (0 : Int) < (l.length : Int) := by omega
    by_cases h99 : b = 99
    · have hw := Aside0.mk (show dWords l = [] by unfold dWords; rw [if_pos (by rw [hhd, h99])])
      have t1 : ((b.toNat : Int) == 99) = true := by rw [h99]; rfl
      clear hC hhd hb h99 hcv
      go_enter Tryz.func15, Tryz.ntmps15
      go_wp2
      go_ret
      exact ⟨_, rfl, by rw [hw.out]; exact Kd.R_nil _ _ _ _ _, Below.refl _ _⟩
    · have hw := Aside0.mk (show dWords l = dFields l [] by unfold dWords; rw [if_neg (by rw [hhd]; intro e; exact h99 (Option.some.inj e))])
      have t1 : ((b.toNat : Int) == 99) = false := by
        rw [beq_eq_false_iff_ne]
        intro e
        exact h99 (UInt8.toNat_inj.1 (by show b.toNat = 99; omega))
      clear hC hhd hb h99
      go_enter Tryz.func15, Tryz.ntmps15
      go_wp2_with (go_at_call 34; refine (fields_calls l w hs).mono ?_; rintro e w2 ⟨v, rfl, hR, hb⟩; have HR := Aside0.mk hR; have HB := Aside0.mk hb; clear hR hb)
      go_ret
      exact ⟨_, rfl, by rw [hw.out]; exact HR.out, HB.out⟩
  · have hl : l = [] := List.eq_nil_of_length_eq_zero (by omega)
    have hp1 : decide (0 < (l.length : Int)) = false := decide_eq_false (by omega)
    have hp2 : decide (0 < l.length) = false := decide_eq_false h0
    have hw := Aside0.mk (show dWords l = dFields l [] by rw [hl]; rfl)
    clear hC hl h0
    go_enter Tryz.func15, Tryz.ntmps15
    go_wp2_with (go_at_call 34; refine (fields_calls l w hs).mono ?_; rintro e w2 ⟨v, rfl, hR, hb⟩; have HR := Aside0.mk hR; have HB := Aside0.mk hb; clear hR hb)
    go_ret
    exact ⟨_, rfl, by rw [hw.out]; exact HR.out, HB.out⟩
end Go.Proofs.YtigloobbpcnnhaaGreatDoor.PB
end
section
namespace Go.Proofs.YtigloobbpcnnhaaGreatDoor.PB
open Go.RowKit Go.Proofs.YtigloobbpcnnhaaGreatDoorW.PrintWords Go.Proofs.YtigloobbpcnnhaaGreatDoorW.PrintLast Go.Proofs.YtigloobbpcnnhaaGreatDoorW.PrintMore
set_option linter.unusedVariables false
set_option linter.unusedSimpArgs false
/-- Blocks that hold no cells of the types of T are as they were. -/
structure KO (T : List Nat) (w w' : World) : Prop where
  size : w.heap.size ≤ w'.heap.size
  blk : ∀ (i : Nat) (o : Obj), w.heap[i]? = some o → (∀ cs t fr, o = .cells cs t fr → t ∉ T) → w'.heap[i]? = some o
theorem KO.refl (T : List Nat) (w : World) : KO T w w := ⟨Nat.le_refl _, fun _ _ h _ => h⟩
theorem KO.trans {T : List Nat} {a b c : World} (h : KO T a b) (k : KO T b c) : KO T a c := ⟨Nat.le_trans h.size k.size, fun i o hi ht => k.blk i o (h.blk i o hi ht) ht⟩
theorem KO.below {T : List Nat} {a b c : World} (h : KO T a b) (k : Below b.heap.size b c) : KO T a c := h.trans ⟨k.size, fun i o hi _ => (k.block i (Array.getElem?_eq_some_iff.1 hi).1).trans hi⟩
theorem KO.drewN {T : List Nat} {a b : World} (h : KO T a b) (n : Nat) : KO T a (b.drewN n) := ⟨h.size, h.blk⟩
theorem KO.same {T : List Nat} {g t : Nat} {a w w' : World} {cs : Array Value} (hk : KO T a w) (h : SameBut g w w') (hb : w.heap[g]? = some (.cells cs t (0, 0))) (ht : t ∈ T) : KO T a w' :=
  hk.trans ⟨Nat.le_of_eq h.size.symm, fun i o hi ht' => by
    by_cases e : i = g
    · subst e
      rw [hb] at hi
      injection hi with hi
      exact absurd ht (ht' _ _ _ hi.symm)
    · exact (h.blk i e).trans hi⟩
theorem KO.grown {T : List Nat} {a b c : World} (h : KO T a b) {row : Option Nat} (hg : b.grownBy c row) (hr : ∀ k, row = some k → ∃ cells t, b.heap[k]? = some (.cells cells t (0, 0)) ∧ t ∈ T) : KO T a c :=
  h.trans ⟨hg.size, fun i o hi ht => by
    refine (hg.block i (Array.getElem?_eq_some_iff.1 hi).1 ?_).trans hi
    intro e
    obtain ⟨cells, t', h1, h2⟩ := hr i e.symm
    rw [hi] at h1
    injection h1 with h1
    exact ht _ _ _ h1 h2⟩
theorem KO.cells {T : List Nat} {a b : World} (h : KO T a b) {i : Nat} {cs : Array Value} {t : TypeId} (hi : a.heap[i]? = some (.cells cs t (0, 0))) (ht : t ∉ T) : b.heap[i]? = some (.cells cs t (0, 0)) :=
  h.blk i _ hi (fun cs' t' fr e => by injection e with _ e _; subst e; exact ht)
/-- Below block number B all is as it was, but block g. -/
structure But (B g : Nat) (w w' : World) : Prop where
  size : w.heap.size ≤ w'.heap.size
  blk : ∀ k, k < B → k ≠ g → w'.heap[k]? = w.heap[k]?
theorem But.refl (B g : Nat) (w : World) : But B g w w := ⟨Nat.le_refl _, fun _ _ _ => rfl⟩
theorem But.trans {B g : Nat} {a b c : World} (h : But B g a b) (k : But B g b c) : But B g a c := ⟨Nat.le_trans h.size k.size, fun i hi hne => (k.blk i hi hne).trans (h.blk i hi hne)⟩
theorem But.same {B g : Nat} {w a b : World} (h : But B g w a) (k : SameBut g a b) : But B g w b := ⟨Nat.le_trans h.size (Nat.le_of_eq k.size.symm), fun i hi hne => (k.blk i hne).trans (h.blk i hi hne)⟩
theorem But.grown {B g : Nat} {w a b : World} (h : But B g w a) {row : Option Nat} (k : a.grownBy b row) (hB : B ≤ a.heap.size) (hr : ∀ i, row = some i → B ≤ i) : But B g w b :=
  ⟨Nat.le_trans h.size k.size, fun i hi hne => (k.block i (by omega) (fun e => by have := hr i e.symm; omega)).trans (h.blk i hi hne)⟩
theorem But.below {B g : Nat} {w a b : World} (h : But B g w a) (k : Below a.heap.size a b) (hB : B ≤ a.heap.size) : But B g w b := ⟨Nat.le_trans h.size k.size, fun i hi hne => (k.block i (by omega)).trans (h.blk i hi hne)⟩
theorem But.drewN {B g : Nat} {a b : World} (h : But B g a b) (n : Nat) : But B g a (b.drewN n) := ⟨h.size, h.blk⟩
def TP : List Nat := [42, 40, 83]
theorem nsz3 : (Tryz.prog.info? 3).map (·.size) = some 1 := by kernel_rfl
theorem nsz23 : (Tryz.prog.info? 33).map (·.size) = some 1 := by kernel_rfl
theorem nsz50 : (Tryz.prog.info? 42).map (·.size) = some 1 := by kernel_rfl
theorem info67 : (Tryz.prog.info? 40).map (fun i => (i.zero, i.size, i.bytes)) = some (some (.int .i32 0), 1, 4) := by kernel_rfl
theorem info50 : (Tryz.prog.info? 42).map (fun i => (i.zero, i.size, i.bytes)) = some (some (.slice none 0 0), 1, 24) := by kernel_rfl
abbrev kcs : Kd (List Int) := Kd.slice 40 (Kd.int .i32)
def DP.cells (p : DP) (v1 v3 : Value) : Array Value := #[.int .i64 p.vars, v1, .int .i64 p.want, v3, .int .i64 (p.lits : Nat)]
structure PRS (b1 base g : Nat) (p : DP) (W : World) : Prop where
  ex : ∃ v1 v3, W.heap[g]? = some (.cells (p.cells v1 v3) 83 (0, 0)) ∧ kcs.R 42 W b1 (fun k => some k ≠ v3.ownBlock) v1 p.cls ∧ (Kd.int .i32).R 40 W b1 (fun _ => True) v3 p.opn
  bs : base ≤ g
  bl : base ≤ b1
  top : b1 ≤ W.heap.size
theorem PRS.lt {b1 base g : Nat} {p : DP} {W : World} (h : PRS b1 base g p W) : g < W.heap.size := by
  obtain ⟨_, _, hg, _⟩ := h.ex
  exact blk_lt hg
theorem PRS.below {b1 base g : Nat} {p : DP} {W W' : World} (h : PRS b1 base g p W) (hb : Below W.heap.size W W') : PRS b1 base g p W' := by
  obtain ⟨v1, v3, hg, h1, h3⟩ := h.ex
  exact ⟨⟨v1, v3, blk_below hg hb, Kd.R_below h1 hb, Kd.R_below h3 hb⟩, h.bs, h.bl, Nat.le_trans h.top hb.size⟩
theorem PRS.drewN {b1 base g : Nat} {p : DP} {W : World} (h : PRS b1 base g p W) (n : Nat) : PRS b1 base g p (W.drewN n) := h.below (pw_below_drewN (Below.refl _ _) n)
theorem PRS.other {b1 base g : Nat} {p : DP} {W W' : World} {g2 t : Nat} {cs : Array Value} (h : PRS b1 base g p W) (hs : SameBut g2 W W') (hb : W.heap[g2]? = some (.cells cs t (0, 0))) (ht : t ≠ 42 ∧ t ≠ 40 ∧ t ≠ 83) : PRS b1 base g p W' := by
  obtain ⟨v1, v3, hg, h1, h3⟩ := h.ex
  refine ⟨⟨v1, v3, (hs.blk g (blk_ne hg hb (fun e => ht.2.2 e.symm))).trans hg, hs.Rt h1 hb ?_, hs.Rt h3 hb ?_⟩, h.bs, h.bl, by rw [hs.size]; exact h.top⟩
  · intro q hq
    simp only [Kd.slice, Kd.int, Kd.scalar, List.mem_cons, List.not_mem_nil, or_false] at hq
    rcases hq with rfl | rfl
    · exact fun e => ht.1 e.symm
    · exact fun e => ht.2.1 e.symm
  · intro q hq
    simp only [Kd.int, Kd.scalar, List.mem_cons, List.not_mem_nil, or_false] at hq
    subst hq
    exact fun e => ht.2.1 e.symm
theorem wrap32_lit {v x : Int} (h0 : 0 ≤ v) (h : v ≤ 1048576) (h1 : -v ≤ x) (h2 : x ≤ v) : wrap32 x = x := by unfold wrap32; omega
/-- What a call has done. -/
def PPost (b1 base g : Nat) (r : Int × DP) (W : World) (e : Ending) (w' : World) : Prop := e = .returned (.int .i64 r.1) ∧ PRS b1 base g r.2 w' ∧ Below base W w' ∧ KO TP W w' ∧ But b1 g W w'
def word.T12 : Bool × List (List Nat × List Nat) := (true, [([], []), ([], []), ([1], [1]), ([2], [2]), ([3], [3]), ([4], [4]), ([], []), ([6], [6]), ([7], [7]), ([8], [8]), ([9], [9]), ([5, 10], [5, 10]), ([0, 0, 1, 2, 3, 4, 5, 6, 7, 8, 9, 10, 11], [0]), ([12, 0, 1, 2, 3, 4, 5, 6, 7, 8, 9, 10, 11], [12]), ([13, 0, 1, 2, 3, 4, 5, 6, 7, 8, 9, 10, 11], [13]), ([14, 11, 11, 0, 1, 2, 3, 4, 5, 6, 7, 8, 9, 10, 11], [11, 14])])
def word.B12 : List Nat := [0, 0, 2, 6, 14, 30, 0, 64, 192, 448, 960, 2046, 4095, 8191, 16383, 32767]
theorem word.tab12 : rtab .any (opsOf Tryz.f41 12) = word.T12 := by kernel_rfl
theorem word.bits12 : waitsOk word.T12.2 word.B12 = true := by kernel_rfl
theorem dWord_of (p : DP) (x : List UInt8) (n : Int) (is fits : Bool) (h : dNum x true p.vars = (n, is, fits)) : dWord p x =
    if is = false then (21, p) else if (p.cls.length : Int) = p.want then (24, p) else if fits = false ∨ (n ≠ 0 ∧ p.lits = 16777216) then (22, p)
    else if n = 0 then (0, { p with cls := p.cls ++ [p.opn], opn := [] }) else (0, { p with opn := p.opn ++ [n], lits := p.lits + 1 }) := by
  unfold dWord
  rw [h]
set_option maxHeartbeats 2000000 in
set_option maxRecDepth 100000 in
theorem word_calls (b1 base g : Nat) (p : DP) (x : List UInt8) (W : World) (hp : PRS b1 base g p W) (hi : DInv p) (hx : x.length ≤ 100000) (hlt : LT base W) :
    Calls Tryz.prog 41 #[.pointer (some ⟨g, 0, none⟩), .string (baOf x)] W (PPost b1 base g (dWord p x) W) := by
  have h0 := hi.v0
  have h1 := hi.v1
  have HLT := Aside0.mk hlt
  have HP := Aside0.mk hp
  have HBW := Aside0.mk (show base ≤ W.heap.size from Nat.le_trans hp.bs (Nat.le_of_lt hp.lt))
  have HCL := Aside0.mk (show p.cls.length ≤ 1048576 by have := hi.c; have := hi.w1; omega)
  have hl0 : p.lits ≤ 16777216 := hi.l
  have HOL := Aside0.mk (show p.opn.length ≤ 16777216 by have := hi.t; omega)
  obtain ⟨v1, v3, hg, hc, ho⟩ := hp.ex
  obtain ⟨A1, c1, rfl⟩ := Kd.R_slice hc
  obtain ⟨A3, c3, rfl⟩ := Kd.R_slice ho
  have HG := Aside0.mk hg
  have HC := Aside0.mk hc
  have HO := Aside0.mk ho
  have hc0 := (blk_cell hg 0).trans (show _ = some (Value.int .i64 p.vars) from rfl)
  have hc1 := (blk_cell hg 1).trans (show _ = some (Value.slice A1 p.cls.length c1) from rfl)
  have hc2 := (blk_cell hg 2).trans (show _ = some (Value.int .i64 p.want) from rfl)
  have hc3 := (blk_cell hg 3).trans (show _ = some (Value.slice A3 p.opn.length c3) from rfl)
  have hc4 := (blk_cell hg 4).trans (show _ = some (Value.int .i64 (p.lits : Nat)) from rfl)
  obtain ⟨n, is, fits, hn⟩ : ∃ n is fits, dNum x true p.vars = (n, is, fits) := ⟨_, _, _, rfl⟩
  have hw := dWord_of p x n is fits hn
  have hr := dNum_range x true p.vars h0
  rw [hn] at hr
  have HN := Aside0.mk (show dNum (baOf x).data.toList true p.vars = (n, is, fits) from hn)
  have hr1 : -p.vars ≤ n := hr.2.1
  have hr2 : n ≤ p.vars := hr.2.2.1
  clear hlt hp hg hc ho hn hr hi
  cases is with
  | false =>
    have HW := Aside0.mk (show dWord p x = (21, p) by rw [hw, if_pos rfl])
    clear hw
    go_enter Tryz.func41, Tryz.ntmps41
    go_wp2_with fail
    refine (number_calls (baOf x) true p.vars h0 (by omega) hx W (HLT.out.up HBW.out)).mono ?_
    rw [HN.out]
    rintro e w2 ⟨rfl, hb⟩
    have HB := Aside0.mk hb
    have HG2 := Aside0.mk (blk_below HG.out hb)
    have HP2 := Aside0.mk (HP.out.below hb)
    have HC2 := Aside0.mk (Kd.R_below HC.out hb)
    have HO2 := Aside0.mk (Kd.R_below HO.out hb)
    clear hb hc0 hc1 hc2 hc3 hc4
    have hc1 := (blk_cell HG2.out 1).trans (show _ = some (Value.slice A1 p.cls.length c1) from rfl)
    have hc2 := (blk_cell HG2.out 2).trans (show _ = some (Value.int .i64 p.want) from rfl)
    have hc3 := (blk_cell HG2.out 3).trans (show _ = some (Value.slice A3 p.opn.length c3) from rfl)
    have hc4 := (blk_cell HG2.out 4).trans (show _ = some (Value.int .i64 (p.lits : Nat)) from rfl)
    have hf1 := blk_frozen HG2.out 1
    have hf3 := blk_frozen HG2.out 3
    have hf4 := blk_frozen HG2.out 4
    go_wp2
    go_ret
    rw [HW.out]
    exact ⟨rfl, HP2.out, HB.out.mono HBW.out, (KO.refl TP W).below HB.out, (But.refl b1 g W).below HB.out HP.out.top⟩
  | true =>
    by_cases hcw : (p.cls.length : Int) = p.want
    · have HW := Aside0.mk (show dWord p x = (24, p) by rw [hw, if_neg (by decide), if_pos hcw])
      have t1 : ((p.cls.length : Int) == p.want) = true := beq_iff_eq.2 hcw
      clear hw hcw
      go_enter Tryz.func41, Tryz.ntmps41
      go_wp2_with fail
      refine (number_calls (baOf x) true p.vars h0 (by omega) hx W (HLT.out.up HBW.out)).mono ?_
      rw [HN.out]
      rintro e w2 ⟨rfl, hb⟩
      have HB := Aside0.mk hb
      have HG2 := Aside0.mk (blk_below HG.out hb)
      have HP2 := Aside0.mk (HP.out.below hb)
      have HC2 := Aside0.mk (Kd.R_below HC.out hb)
      have HO2 := Aside0.mk (Kd.R_below HO.out hb)
      clear hb hc0 hc1 hc2 hc3 hc4
      have hc1 := (blk_cell HG2.out 1).trans (show _ = some (Value.slice A1 p.cls.length c1) from rfl)
      have hc2 := (blk_cell HG2.out 2).trans (show _ = some (Value.int .i64 p.want) from rfl)
      have hc3 := (blk_cell HG2.out 3).trans (show _ = some (Value.slice A3 p.opn.length c3) from rfl)
      have hc4 := (blk_cell HG2.out 4).trans (show _ = some (Value.int .i64 (p.lits : Nat)) from rfl)
      have hf1 := blk_frozen HG2.out 1
      have hf3 := blk_frozen HG2.out 3
      have hf4 := blk_frozen HG2.out 4
      go_wp2
      go_quiet (fail)
      go_wp2
      go_ret
      rw [HW.out]
      exact ⟨rfl, HP2.out.drewN _, (HB.out.mono HBW.out).trans (pw_below_drewN (Below.refl _ _) _), ((KO.refl TP W).below HB.out).drewN _, ((But.refl b1 g W).below HB.out HP.out.top).drewN _⟩
    · have t1 : ((p.cls.length : Int) == p.want) = false := beq_eq_false_iff_ne.2 hcw
      rw [if_neg (by decide), if_neg hcw] at hw
      clear hcw
      cases fits with
      | false =>
        have HW := Aside0.mk (show dWord p x = (22, p) by rw [hw, if_pos (.inl rfl)])
        clear hw
        go_enter Tryz.func41, Tryz.ntmps41
        go_wp2_with fail
        refine (number_calls (baOf x) true p.vars h0 (by omega) hx W (HLT.out.up HBW.out)).mono ?_
        rw [HN.out]
        rintro e w2 ⟨rfl, hb⟩
        have HB := Aside0.mk hb
        have HG2 := Aside0.mk (blk_below HG.out hb)
        have HP2 := Aside0.mk (HP.out.below hb)
        have HC2 := Aside0.mk (Kd.R_below HC.out hb)
        have HO2 := Aside0.mk (Kd.R_below HO.out hb)
        clear hb hc0 hc1 hc2 hc3 hc4
        have hc1 := (blk_cell HG2.out 1).trans (show _ = some (Value.slice A1 p.cls.length c1) from rfl)
        have hc2 := (blk_cell HG2.out 2).trans (show _ = some (Value.int .i64 p.want) from rfl)
        have hc3 := (blk_cell HG2.out 3).trans (show _ = some (Value.slice A3 p.opn.length c3) from rfl)
        have hc4 := (blk_cell HG2.out 4).trans (show _ = some (Value.int .i64 (p.lits : Nat)) from rfl)
        have hf1 := blk_frozen HG2.out 1
        have hf3 := blk_frozen HG2.out 3
        have hf4 := blk_frozen HG2.out 4
        go_wp2
        go_quiet (fail)
        go_wp2
        go_ret
        rw [HW.out]
        exact ⟨rfl, HP2.out.drewN _, (HB.out.mono HBW.out).trans (pw_below_drewN (Below.refl _ _) _), ((KO.refl TP W).below HB.out).drewN _, ((But.refl b1 g W).below HB.out HP.out.top).drewN _⟩
      | true =>
        by_cases hz : n = 0
        · subst hz
          have HW := Aside0.mk (show dWord p x = (0, { p with cls := p.cls ++ [p.opn], opn := [] }) by rw [hw, if_neg (by simp), if_pos rfl])
          clear hw
          obtain ⟨LN, hln⟩ : ∃ L, L = (p.cls ++ [p.opn]).length := ⟨_, rfl⟩
          have HLN := Aside0.mk hln
          clear hln
          go_enter Tryz.func41, Tryz.ntmps41
          go_wp2_with fail
          refine (number_calls (baOf x) true p.vars h0 (by omega) hx W (HLT.out.up HBW.out)).mono ?_
          rw [HN.out]
          rintro e w2 ⟨rfl, hb⟩
          have HB := Aside0.mk hb
          have HG2 := Aside0.mk (blk_below HG.out hb)
          have HP2 := Aside0.mk (HP.out.below hb)
          have HC2 := Aside0.mk (Kd.R_below HC.out hb)
          have HO2 := Aside0.mk (Kd.R_below HO.out hb)
          clear hb hc0 hc1 hc2 hc3 hc4
          have hc1 := (blk_cell HG2.out 1).trans (show _ = some (Value.slice A1 p.cls.length c1) from rfl)
          have hc2 := (blk_cell HG2.out 2).trans (show _ = some (Value.int .i64 p.want) from rfl)
          have hc3 := (blk_cell HG2.out 3).trans (show _ = some (Value.slice A3 p.opn.length c3) from rfl)
          have hc4 := (blk_cell HG2.out 4).trans (show _ = some (Value.int .i64 (p.lits : Nat)) from rfl)
          have hf1 := blk_frozen HG2.out 1
          have hf3 := blk_frozen HG2.out 3
          have hf4 := blk_frozen HG2.out 4
          go_upto_region 6 with fail
          go_quiet (fail)
          go_upto_region 12 with fail
          have HB3 := Aside0.mk (show Below base W (w2.drewN nq) from (HB.out.mono HBW.out).trans (pw_below_drewN (Below.refl _ _) _))
          have HG3 := Aside0.mk (blk_drewN HG2.out nq)
          have HC3 := Aside0.mk (Kd.R_drewN HC2.out nq)
          have HO3 := Aside0.mk (Kd.R_drewN HO2.out nq)
          have HK3 := Aside0.mk (((KO.refl TP W).below HB.out).drewN nq)
          have HT3 := Aside0.mk (((But.refl b1 g W).below HB.out HP.out.top).drewN nq)
          have HS3 := Aside0.mk (show b1 ≤ (w2.drewN nq).heap.size from Nat.le_trans HP.out.top HB.out.size)
          clear hc1 hc2 hc3 hc4 hf1 hf3 hf4
          generalize w2.drewN nq = w3 at HB3 HG3 HC3 HO3 HK3 HT3 HS3 ⊢
          refine start_ (n := 16) (S := fun w' => w'.heap[g]? = some (.cells (p.cells (.slice A1 p.cls.length c1) (.slice A3 p.opn.length c3)) 83 (0, 0))) (ds := [15]) #[false, false, false, false, false, false, false, false, false, false, false, false, false, false, false, false] (by kernel_rfl) rfl rfl (blk_drew HG3.out) (fun hHeld => ?_); refine with_tabW word.tab12 word.bits12 (fun HT_ HW_ => ?_)
          have HB4 := Aside0.mk (below_drew1 HB3.out)
          have HG4 := Aside0.mk (blk_drew HG3.out)
          have HC4 := Aside0.mk (Kd.R_drew HC3.out)
          have HO4 := Aside0.mk (Kd.R_drew HO3.out)
          have HK4 := Aside0.mk (HK3.out.drewN 1)
          have HT4 := Aside0.mk (HT3.out.drewN 1)
          have HS4 := Aside0.mk (show b1 ≤ w3.drew.heap.size from HS3.out)
          have e1 : w3.drewN 1 = w3.drew := rfl
          rw [e1] at HK4 HT4
          clear e1
          generalize w3.drew = w4 at HB4 HG4 HC4 HO4 HK4 HT4 HS4 hHeld ⊢
          refine pure_ (i := 0) (N := some 67) (v := ?_) (a' := ?_) #[true, false, false, false, false, false, false, false, false, false, false, false, false, false, false, false] rfl rfl (any_of HT_.out (by kernel_rfl)) (fun _ _ _ h => h) (Or.inl ⟨by rfl, ?_⟩) ?_ ?_
          rotate_left
          · intro w'
            go_simp
            with_reducible rfl
          rotate_left
          · simp only [Act.put, List.setIfInBounds_toArray, List.set_cons_zero, List.set_cons_succ, i64_w, i32_w]
            rfl
          refine pure_ (i := 1) (N := some 68) (v := ?_) (a' := ?_) #[true, true, false, false, false, false, false, false, false, false, false, false, false, false, false, false] rfl rfl (any_of HT_.out (by kernel_rfl)) (fun _ _ _ h => h) (Or.inl ⟨by rfl, ?_⟩) ?_ ?_
          rotate_left
          · intro w'
            go_simp
            with_reducible rfl
          rotate_left
          · simp only [Act.put, List.setIfInBounds_toArray, List.set_cons_zero, List.set_cons_succ, i64_w, i32_w]
            rfl
          refine pure_ (i := 2) (N := some 69) (v := ?_) (a' := ?_) #[true, true, true, false, false, false, false, false, false, false, false, false, false, false, false, false] rfl rfl (any_of HT_.out (by kernel_rfl)) (fun _ _ _ h => h) (Or.inl ⟨by rfl, ?_⟩) ?_ ?_
          rotate_left
          · intro w'
            go_simp
            with_reducible rfl
          rotate_left
          · simp only [Act.put, List.setIfInBounds_toArray, List.set_cons_zero, List.set_cons_succ, i64_w, i32_w]
            rfl
          refine pure_ (i := 3) (N := some 70) (v := ?_) (a' := ?_) #[true, true, true, true, false, false, false, false, false, false, false, false, false, false, false, false] rfl rfl (any_of HT_.out (by kernel_rfl)) (fun _ _ _ h => h) (Or.inl ⟨by rfl, ?_⟩) ?_ ?_
          rotate_left
          · intro w'
            go_simp
            with_reducible rfl
          rotate_left
          · simp only [Act.put, List.setIfInBounds_toArray, List.set_cons_zero, List.set_cons_succ, i64_w, i32_w]
            rfl
          refine pure_ (i := 4) (N := some 71) (v := ?_) (a' := ?_) #[true, true, true, true, true, false, false, false, false, false, false, false, false, false, false, false] rfl rfl (any_of HT_.out (by kernel_rfl)) (fun _ _ _ h => h) (Or.inl ⟨by rfl, ?_⟩) ?_ ?_
          rotate_left
          · intro w'
            go_simp
            with_reducible rfl
          rotate_left
          · simp only [Act.put, List.setIfInBounds_toArray, List.set_cons_zero, List.set_cons_succ, i64_w, i32_w]
            rfl
          refine take_ (i := 5) (N := some 72) (v := ?_) (a' := ?_) #[true, true, true, true, true, true, false, false, false, false, false, false, false, false, false, false] rfl rfl (take_ofW HT_.out HW_.out (by kernel_rfl)) (fun _ _ _ h => h) (Or.inl ⟨by rfl, ?_⟩) hHeld ?_ ?_
          rotate_left
          · rintro w' hS
            have hcz1 := (blk_cell hS 1).trans (show _ = some (Value.slice A1 p.cls.length c1) from rfl)
            go_simp
            with_reducible rfl
          rotate_left
          · simp only [Act.put, List.setIfInBounds_toArray, List.set_cons_zero, List.set_cons_succ, i64_w, i32_w]
            rfl
          refine pure_ (i := 6) (N := some 73) (v := ?_) (a' := ?_) #[true, true, true, true, true, true, true, false, false, false, false, false, false, false, false, false] rfl rfl (any_of HT_.out (by kernel_rfl)) (fun _ _ _ h => h) (Or.inl ⟨by rfl, ?_⟩) ?_ ?_
          rotate_left
          · intro w'
            go_simp
            with_reducible rfl
          rotate_left
          · simp only [Act.put, List.setIfInBounds_toArray, List.set_cons_zero, List.set_cons_succ, i64_w, i32_w]
            rfl
          refine pure_ (i := 7) (N := some 74) (v := ?_) (a' := ?_) #[true, true, true, true, true, true, true, true, false, false, false, false, false, false, false, false] rfl rfl (any_of HT_.out (by kernel_rfl)) (fun _ _ _ h => h) (Or.inl ⟨by rfl, ?_⟩) ?_ ?_
          rotate_left
          · intro w'
            go_simp
            with_reducible rfl
          rotate_left
          · simp only [Act.put, List.setIfInBounds_toArray, List.set_cons_zero, List.set_cons_succ, i64_w, i32_w]
            rfl
          refine pure_ (i := 8) (N := some 75) (v := ?_) (a' := ?_) #[true, true, true, true, true, true, true, true, true, false, false, false, false, false, false, false] rfl rfl (any_of HT_.out (by kernel_rfl)) (fun _ _ _ h => h) (Or.inl ⟨by rfl, ?_⟩) ?_ ?_
          rotate_left
          · intro w'
            go_simp
            with_reducible rfl
          rotate_left
          · simp only [Act.put, List.setIfInBounds_toArray, List.set_cons_zero, List.set_cons_succ, i64_w, i32_w]
            rfl
          refine take_ (i := 9) (N := some 76) (v := ?_) (a' := ?_) #[true, true, true, true, true, true, true, true, true, true, false, false, false, false, false, false] rfl rfl (take_ofW HT_.out HW_.out (by kernel_rfl)) (fun _ _ _ h => h) (Or.inl ⟨by rfl, ?_⟩) hHeld ?_ ?_
          rotate_left
          · rintro w' hS
            have hcz1 := (blk_cell hS 3).trans (show _ = some (Value.slice A3 p.opn.length c3) from rfl)
            go_simp
            with_reducible rfl
          rotate_left
          · simp only [Act.put, List.setIfInBounds_toArray, List.set_cons_zero, List.set_cons_succ, i64_w, i32_w]
            rfl
          refine one_ (i := 10) (N := some 77) #[true, true, true, true, true, true, true, true, true, true, true, false, false, false, false, false] rfl rfl (one_of HT_.out (by kernel_rfl)) (by decide) (fun K hK => ?_)
          refine value_ (w1 := ?_) (v := ?_) (by rfl) rfl ?_ ?_
          rotate_left 2
          · go_simp
            constructor
            · rfl
            · rfl
          refine hK.out _ _ (blk_alloc HG4.out _) (fun hHeld => ?_)
          clear hK K
          refine norm_ (a' := ?_) ?_ ?_
          rotate_left
          · show Act.put _ (some 77) _ = _
            simp only [Act.put, List.setIfInBounds_toArray, List.set_cons_zero, List.set_cons_succ, i64_w, i32_w]
            rfl
          refine one_ (i := 11) (N := some 78) #[true, true, true, true, true, true, true, true, true, true, true, true, false, false, false, false] rfl rfl (one_of HT_.out (by kernel_rfl)) (by decide) (fun K hK => ?_)
          refine Kd.R_append_step kcs (w0 := w4) b1 (by rfl) (.tmp 72) (.tmp 77) 33 42 (.slice none 0 0) 24 rfl Tryz.underlying33 info50 rfl (by decide) (by omega) (.slice A1 p.cls.length c1) p.cls p.opn [.slice A3 p.opn.length c3] (fun _ => True) (fun k => some k ≠ (Value.slice A1 p.cls.length c1).ownBlock) rfl rfl ?aP (fun k hk => ⟨trivial, hk⟩) ?aF ?aO (Below.refl _ _) HS4.out ?aL ?_
          (case aP => exact ⟨_, rfl, Kd.R_mono (Kd.R_apart' HO4.out (Kd.R_typed HC4.out) (by decide)) (fun k hk => hk.2)⟩)
          (case aF => exact (fun _ _ => trivial))
          (case aO => exact Kd.R_mono HC4.out (fun _ _ => trivial))
          (case aL => have := HCL.out; omega)
          intro v9 w9 ho hb hg hat
          obtain ⟨A9, c9, e9⟩ := Kd.R_slice ho
          rw [← HLN.out] at e9
          subst e9
          have HR9 := Aside0.mk ho
          have HB9 := Aside0.mk (HB4.out.trans (hb.mono HP.out.bl))
          have HS9 := Aside0.mk (show b1 ≤ w9.heap.size from Nat.le_trans HS4.out hb.size)
          have HG9 := Aside0.mk (blk_grown HG4.out hg (Kd.R_ne HC4.out HG4.out (by decide)))
          have HT9 := Aside0.mk (HT4.out.grown hg HS4.out (fun k hk => Kd.R_base HC4.out k hk))
          have HK9 := Aside0.mk (HK4.out.grown hg (fun k hk => by obtain ⟨cells, hc⟩ := Kd.R_typed HC4.out k hk; exact ⟨cells, 42, hc, by decide⟩))
          clear ho hb hg hat
          refine hK.out _ _ HG9.out (fun hHeld => ?_)
          clear hK K
          refine norm_ (a' := ?_) ?_ ?_
          rotate_left
          · show Act.put _ (some 78) _ = _
            simp only [Act.put, List.setIfInBounds_toArray, List.set_cons_zero, List.set_cons_succ, i64_w, i32_w]
            rfl
          refine pure_ (i := 12) (N := some 79) (v := ?_) (a' := ?_) #[true, true, true, true, true, true, true, true, true, true, true, true, true, false, false, false] rfl rfl (any_of HT_.out (by kernel_rfl)) (fun _ _ _ h => h) (Or.inl ⟨by rfl, ?_⟩) ?_ ?_
          rotate_left
          · intro w'
            go_simp
            with_reducible rfl
          rotate_left
          · simp only [Act.put, List.setIfInBounds_toArray, List.set_cons_zero, List.set_cons_succ, i64_w, i32_w]
            rfl
          refine pure_ (i := 13) (N := some 80) (v := ?_) (a' := ?_) #[true, true, true, true, true, true, true, true, true, true, true, true, true, true, false, false] rfl rfl (any_of HT_.out (by kernel_rfl)) (fun _ _ _ h => h) (Or.inl ⟨by rfl, ?_⟩) ?_ ?_
          rotate_left
          · intro w'
            go_simp
            with_reducible rfl
          rotate_left
          · simp only [Act.put, List.setIfInBounds_toArray, List.set_cons_zero, List.set_cons_succ, i64_w, i32_w]
            rfl
          refine pure_ (i := 14) (N := some 81) (v := ?_) (a' := ?_) #[true, true, true, true, true, true, true, true, true, true, true, true, true, true, true, false] rfl rfl (any_of HT_.out (by kernel_rfl)) (fun _ _ _ h => h) (Or.inl ⟨by rfl, ?_⟩) ?_ ?_
          rotate_left
          · intro w'
            go_simp
            with_reducible rfl
          rotate_left
          · simp only [Act.put, List.setIfInBounds_toArray, List.set_cons_zero, List.set_cons_succ, i64_w, i32_w]
            rfl
          refine last_ (i := 15) (N := none) #[true, true, true, true, true, true, true, true, true, true, true, true, true, true, true, true] rfl rfl (one_of HT_.out (by kernel_rfl)) (by decide) (fun K hK => ?_)
          have hs1 := (blk_cell HG9.out 1).trans (show _ = some (Value.slice A1 p.cls.length c1) from rfl)
          have hfs1 := blk_frozen HG9.out 1
          refine skip_ (w1 := ?_) (by rfl) rfl ?_ ?_
          rotate_left
          · go_simp
            rfl
          have HG10 := Aside0.mk (show (w9.setCell ⟨g, 1, none⟩ (.slice A9 LN c9)).heap[g]? = some (.cells #[.int .i64 p.vars, .slice A9 LN c9, .int .i64 p.want, .slice A3 p.opn.length c3, .int .i64 (p.lits : Nat)] 83 (0, 0)) from blk_put HG9.out 1 _ rfl)
          have HSB10 := Aside0.mk (show SameBut g w9 (w9.setCell ⟨g, 1, none⟩ (.slice A9 LN c9)) from ⟨rfl, rfl, rfl, by simp [World.setCell], fun k hk => Below.heap_setCell w9 ⟨g, 1, none⟩ _ k hk⟩)
          clear hs1 hfs1
          refine hK.out _ _ ?_
          clear hK K
          generalize w9.setCell ⟨g, 1, none⟩ (.slice A9 LN c9) = w10 at HG10 HSB10 ⊢
          refine done_ (done_of HT_.out (by kernel_rfl)) ?_
          go_wp2_with ((with_reducible refine gate_store (t := 42) (p := 84) rfl ?_); refine store_one 42 84 (.const (.slice none 0 0)) rfl rfl rfl (.slice none 0 0) #[.int .i64 p.vars, .slice A9 LN c9, .int .i64 p.want, .slice none 0 0, .int .i64 (p.lits : Nat)] rfl rfl HG10.out rfl nsz50 (show 3 + 1 ≤ 5 by omega) rfl rfl ?_; intro w11 hw hsb; have HG11 := Aside0.mk hw; have HSB11 := Aside0.mk hsb; clear hw hsb)
          go_ret
          rw [HW.out]
          refine ⟨rfl, ⟨⟨_, _, HG11.out, ?_, Kd.R_nil _ _ _ _ _⟩, HP2.out.bs, HP2.out.bl, by rw [HSB11.out.size, HSB10.out.size]; exact HS9.out⟩, HSB11.out.below (HSB10.out.below HB9.out HP2.out.bs) HP2.out.bs, (HK9.out.same HSB10.out HG9.out (by decide)).same HSB11.out HG10.out (by decide), (HT9.out.same HSB10.out).same HSB11.out⟩
          exact Kd.R_mono (HSB11.out.Rt (HSB10.out.Rt HR9.out HG9.out (by decide)) HG10.out (by decide)) (fun k _ => by simp [Value.ownBlock])
        · by_cases hm : p.lits = 16777216
          · have HW := Aside0.mk (show dWord p x = (22, p) by rw [hw, if_pos (.inr ⟨hz, hm⟩)])
            have t2 : (n == 0) = false := beq_eq_false_iff_ne.2 hz
            have t2b : (n != 0) = true := by rw [bne, t2]; rfl
            have t3 : ((p.lits : Int) == 16777216) = true := beq_iff_eq.2 (by omega)
            clear hw hz hm
            go_enter Tryz.func41, Tryz.ntmps41
            go_wp2_with fail
            refine (number_calls (baOf x) true p.vars h0 (by omega) hx W (HLT.out.up HBW.out)).mono ?_
            rw [HN.out]
            rintro e w2 ⟨rfl, hb⟩
            have HB := Aside0.mk hb
            have HG2 := Aside0.mk (blk_below HG.out hb)
            have HP2 := Aside0.mk (HP.out.below hb)
            have HC2 := Aside0.mk (Kd.R_below HC.out hb)
            have HO2 := Aside0.mk (Kd.R_below HO.out hb)
            clear hb hc0 hc1 hc2 hc3 hc4
            have hc1 := (blk_cell HG2.out 1).trans (show _ = some (Value.slice A1 p.cls.length c1) from rfl)
            have hc2 := (blk_cell HG2.out 2).trans (show _ = some (Value.int .i64 p.want) from rfl)
            have hc3 := (blk_cell HG2.out 3).trans (show _ = some (Value.slice A3 p.opn.length c3) from rfl)
            have hc4 := (blk_cell HG2.out 4).trans (show _ = some (Value.int .i64 (p.lits : Nat)) from rfl)
            have hf1 := blk_frozen HG2.out 1
            have hf3 := blk_frozen HG2.out 3
            have hf4 := blk_frozen HG2.out 4
            go_wp2
            go_quiet (fail)
            go_wp2
            go_ret
            rw [HW.out]
            exact ⟨rfl, HP2.out.drewN _, (HB.out.mono HBW.out).trans (pw_below_drewN (Below.refl _ _) _), ((KO.refl TP W).below HB.out).drewN _, ((But.refl b1 g W).below HB.out HP.out.top).drewN _⟩
          · have HW := Aside0.mk (show dWord p x = (0, { p with opn := p.opn ++ [n], lits := p.lits + 1 }) by rw [hw, if_neg (by rintro (h | ⟨_, h⟩); cases h; exact hm h), if_neg hz])
            have t2 : (n == 0) = false := beq_eq_false_iff_ne.2 hz
            have t2b : (n != 0) = true := by rw [bne, t2]; rfl
            have t3 : ((p.lits : Int) == 16777216) = false := beq_eq_false_iff_ne.2 (by omega)
            have hwr := wrap32_lit h0 h1 hr1 hr2
            have hll : (p.lits : Int) + 1 = ((p.lits + 1 : Nat) : Int) := by omega
            have HLL := Aside0.mk hll
            have hl1 : p.lits + 1 ≤ 16777216 := by omega
            clear hw hz hm hll
            go_enter Tryz.func41, Tryz.ntmps41
            go_wp2_with fail
            refine (number_calls (baOf x) true p.vars h0 (by omega) hx W (HLT.out.up HBW.out)).mono ?_
            rw [HN.out]
            rintro e w2 ⟨rfl, hb⟩
            have HB := Aside0.mk hb
            have HG2 := Aside0.mk (blk_below HG.out hb)
            have HP2 := Aside0.mk (HP.out.below hb)
            have HC2 := Aside0.mk (Kd.R_below HC.out hb)
            have HO2 := Aside0.mk (Kd.R_below HO.out hb)
            clear hb hc0 hc1 hc2 hc3 hc4
            have hc1 := (blk_cell HG2.out 1).trans (show _ = some (Value.slice A1 p.cls.length c1) from rfl)
            have hc2 := (blk_cell HG2.out 2).trans (show _ = some (Value.int .i64 p.want) from rfl)
            have hc3 := (blk_cell HG2.out 3).trans (show _ = some (Value.slice A3 p.opn.length c3) from rfl)
            have hc4 := (blk_cell HG2.out 4).trans (show _ = some (Value.int .i64 (p.lits : Nat)) from rfl)
            have hf1 := blk_frozen HG2.out 1
            have hf3 := blk_frozen HG2.out 3
            have hf4 := blk_frozen HG2.out 4
            go_upto_region 6 with fail
            go_quiet (fail)
            go_upto_region 2 with fail
            have HB3 := Aside0.mk (show Below base W (w2.drewN nq) from (HB.out.mono HBW.out).trans (pw_below_drewN (Below.refl _ _) _))
            have HG3 := Aside0.mk (blk_drewN HG2.out nq)
            have HC3 := Aside0.mk (Kd.R_drewN HC2.out nq)
            have HO3 := Aside0.mk (Kd.R_drewN HO2.out nq)
            have HK3 := Aside0.mk (((KO.refl TP W).below HB.out).drewN nq)
            have HT3 := Aside0.mk (((But.refl b1 g W).below HB.out HP.out.top).drewN nq)
            have HS3 := Aside0.mk (show b1 ≤ (w2.drewN nq).heap.size from Nat.le_trans HP.out.top HB.out.size)
            clear hc1 hc2 hc3 hc4 hf1 hf3 hf4
            generalize w2.drewN nq = w3 at HB3 HG3 HC3 HO3 HK3 HT3 HS3 ⊢
            have hc3 := (blk_cell HG3.out 3).trans (show _ = some (Value.slice A3 p.opn.length c3) from rfl)
            go_wp2_with (first | ((with_reducible refine gate_builtin (b := .append) (xs := #[.tmp 23, .tmp 26]) rfl ?_); at_builtin; refine Kd.R_append (Kd.int .i32) (w0 := w3) b1 rfl (.tmp 23) (.tmp 26) 42 40 (.int .i32 0) 4 rfl Tryz.underlying42 info67 rfl (by decide) (by omega) _ p.opn n [.int .i32 n] (fun _ => True) (fun _ => False) rfl rfl ?aP (fun _ hk => hk.elim) (fun _ _ => trivial) HO3.out (Below.refl _ _) HS3.out ?aL ?_; (case aP => exact rfl); (case aL => have := HOL.out; omega); intro v9 w9 ho hb hg1 hat; obtain ⟨A9, c9, rfl⟩ := Kd.R_slice ho; have HG9 := Aside0.mk (blk_grown HG3.out hg1 (Kd.R_ne HO3.out HG3.out (by decide))); have HR9 := Aside0.mk ho; have HB9 := Aside0.mk (HB3.out.trans (hb.mono HP.out.bl)); have HS9 := Aside0.mk (show b1 ≤ w9.heap.size from Nat.le_trans HS3.out hb.size); have HT9 := Aside0.mk (HT3.out.grown hg1 HS3.out (fun k hk => Kd.R_base HO3.out k hk)); have HK9 := Aside0.mk (HK3.out.grown hg1 (fun k hk => by obtain ⟨cells, hc⟩ := Kd.R_typed HO3.out k hk; exact ⟨cells, 40, hc, by decide⟩)); have HC9 := Aside0.mk (Kd.R_mono (Kd.R_after (Kd.R_mono HC3.out (fun k hk => ⟨trivial, hk⟩) : kcs.R 42 w3 b1 (fun k => True ∧ some k ≠ (Value.slice A3 p.opn.length c3).ownBlock) _ p.cls) hg1 hat) (fun k hk => hk.2)); clear ho hb hg1 hat hc3) | ((with_reducible refine gate_store (t := 42) (p := 29) rfl ?_); refine store_one 42 29 (.tmp 27) rfl rfl rfl (.slice A9 (p.opn ++ [n]).length c9) #[.int .i64 p.vars, .slice A1 p.cls.length c1, .int .i64 p.want, .slice A9 (p.opn ++ [n]).length c9, .int .i64 (p.lits : Nat)] rfl (by first | rfl | (simp; rfl)) HG9.out rfl nsz50 (show 3 + 1 ≤ 5 by omega) rfl rfl ?_; intro w10 hw10 hsb; have HG10 := Aside0.mk hw10; have HSB10 := Aside0.mk hsb; clear hw10 hsb; have hc4 := (blk_cell HG10.out 4).trans (show _ = some (Value.int .i64 (p.lits : Nat)) from rfl)) | ((with_reducible refine gate_store (t := 3) (p := 36) rfl ?_); refine store_one 3 36 (.tmp 34) rfl rfl rfl (.int .i64 ((p.lits : Nat) + 1)) #[.int .i64 p.vars, .slice A1 p.cls.length c1, .int .i64 p.want, .slice A9 (p.opn ++ [n]).length c9, .int .i64 ((p.lits : Nat) + 1)] rfl rfl HG10.out rfl nsz3 (show 4 + 1 ≤ 5 by omega) rfl rfl ?_; intro w11 hw11 hsb; have HG11 := Aside0.mk hw11; have HSB11 := Aside0.mk hsb; clear hw11 hsb hc4))
            go_ret
            rw [HW.out]
            refine ⟨rfl, ⟨⟨_, _, (by rw [HG11.out, HLL.out]; rfl), ?_, HSB11.out.Rt (HSB10.out.Rt HR9.out HG9.out (by decide)) HG10.out (by decide)⟩, HP2.out.bs, HP2.out.bl, by rw [HSB11.out.size, HSB10.out.size]; exact HS9.out⟩, HSB11.out.below (HSB10.out.below HB9.out HP2.out.bs) HP2.out.bs, (HK9.out.same HSB10.out HG9.out (by decide)).same HSB11.out HG10.out (by decide), (HT9.out.same HSB10.out).same HSB11.out⟩
            exact HSB11.out.Rt (HSB10.out.Rt HC9.out HG9.out (by decide)) HG10.out (by decide)
end Go.Proofs.YtigloobbpcnnhaaGreatDoor.PB
end
section
namespace Go.Proofs.YtigloobbpcnnhaaGreatDoor.PB
open Go.RowKit Go.Proofs.YtigloobbpcnnhaaGreatDoorW.PrintWords Go.Proofs.YtigloobbpcnnhaaGreatDoorW.PrintLast Go.Proofs.YtigloobbpcnnhaaGreatDoorW.PrintMore
set_option linter.unusedVariables false
set_option linter.unusedSimpArgs false
theorem dHead_no (p : DP) (ws : List (List UInt8)) (h : ws.length ≠ 4) : dHead p ws = (20, p) := by
  unfold dHead
  split
  · exact absurd rfl h
  · rfl
theorem dHead_four (p : DP) (a b c d : List UInt8) (n1 n2 : Int) (i1 i2 f1 f2 : Bool) (h1 : dNum c false 1048576 = (n1, i1, f1)) (h2 : dNum d false 1048576 = (n2, i2, f2)) : dHead p [a, b, c, d] =
    if a ≠ [112] ∨ b ≠ [99, 110, 102] then (20, p) else if i1 = false ∨ i2 = false then (20, p) else if f1 = false ∨ f2 = false then (22, p) else (0, { p with vars := n1, want := n2 }) := by
  unfold dHead
  simp only [h1, h2]
theorem four_of {α : Type} (ws : List α) (h : ws.length = 4) : ∃ a b c d, ws = [a, b, c, d] := by
  match ws, h with
  | [a, b, c, d], _ => exact ⟨a, b, c, d, rfl⟩
theorem word_eq (a k : List UInt8) : ((baOf a).toList == k) = decide (a = k) := by
  rw [Lib.toList_data, baOf_data]
  by_cases h : a = k
  · rw [decide_eq_true h]; exact beq_iff_eq.2 h
  · rw [decide_eq_false h]; exact beq_eq_false_iff_ne.2 h
set_option maxHeartbeats 2000000 in
set_option maxRecDepth 100000 in
theorem head_calls (b1 base g : Nat) (p : DP) (A : Option Addr) (c : Nat) (ws : List (List UInt8)) (W : World) (hp : PRS b1 base g p W) (hC : Kd.string.C W A ws.length (ws.map baOf)) (hc : ws.length ≤ c) (hx : ∀ x ∈ ws, x.length ≤ 100000) (hlt : LT base W) :
    Calls Tryz.prog 40 #[.pointer (some ⟨g, 0, none⟩), .slice A ws.length c] W (PPost b1 base g (dHead p ws) W) := by
  have HLT := Aside0.mk hlt
  have HP := Aside0.mk hp
  have HBW := Aside0.mk (show base ≤ W.heap.size from Nat.le_trans hp.bs (Nat.le_of_lt hp.lt))
  have HCW := Aside0.mk hC
  by_cases h4 : ws.length = 4
  · obtain ⟨a, b, x3, x4, rfl⟩ := four_of ws h4
    have hxa := Aside0.mk (hx x3 (by simp))
    have hxb := Aside0.mk (hx x4 (by simp))
    have at_ : ∀ (i : Nat) (x : List UInt8), i < 4 → ([a, b, x3, x4] : List (List UInt8))[i]? = some x → ∃ ad, A = some ad ∧ W.cell? (ad.add i) = some (.string (baOf x)) := by
      intro i x hi hx
      obtain ⟨ad, e, h⟩ := Kd.at_string hC (i : Int) (by omega) (by show (i : Int) < 4; omega)
      refine ⟨ad, e, ?_⟩
      rw [Int.toNat_natCast] at h
      rw [h]
      congr 2
      unfold rdOf
      rw [Int.toNat_natCast, List.getD_eq_getElem?_getD, List.getElem?_map, hx]
      rfl
    obtain ⟨ad, rfl, q0⟩ := at_ 0 a (by omega) rfl
    obtain ⟨ad', e1, q1⟩ := at_ 1 b (by omega) rfl
    cases e1
    obtain ⟨ad', e1, q2⟩ := at_ 2 x3 (by omega) rfl
    cases e1
    obtain ⟨ad', e1, q3⟩ := at_ 3 x4 (by omega) rfl
    cases e1
    have af : ∀ i, 0 < i → ad.add i = ⟨ad.block, ad.off + i, none⟩ := fun i hi => by
      have := add_field ad 0 i hi
      rw [Nat.zero_add, show ad.add 0 = ad from by cases ad; rfl] at this
      exact this
    rw [af 1 (by omega)] at q1
    rw [af 2 (by omega)] at q2
    rw [af 3 (by omega)] at q3
    clear af
    have Q2 := Aside0.mk q2
    have Q3 := Aside0.mk q3
    rw [show ad.add 0 = ad from by cases ad; rfl] at q0
    have hlen : (([a, b, x3, x4] : List (List UInt8)).length : Int) = 4 := rfl
    obtain ⟨L, hL⟩ : ∃ L, L = ([a, b, x3, x4] : List (List UInt8)).length := ⟨_, rfl⟩
    rw [← hL] at hlen hc ⊢
    have hL4 : L = 4 := hL
    clear hL
    subst hL4
    obtain ⟨n1, i1, f1, hn1⟩ : ∃ n is fits, dNum x3 false 1048576 = (n, is, fits) := ⟨_, _, _, rfl⟩
    obtain ⟨n2, i2, f2, hn2⟩ : ∃ n is fits, dNum x4 false 1048576 = (n, is, fits) := ⟨_, _, _, rfl⟩
    have hw := dHead_four p a b x3 x4 n1 n2 i1 i2 f1 f2 hn1 hn2
    have HN1 := Aside0.mk (show dNum (baOf x3).data.toList false 1048576 = (n1, i1, f1) from hn1)
    have HN2 := Aside0.mk (show dNum (baOf x4).data.toList false 1048576 = (n2, i2, f2) from hn2)
    have wa := word_eq a [112]
    have wb := word_eq b [99, 110, 102]
    clear hn1 hn2 at_ hx hC hlt hp h4 hlen q2 q3
    by_cases ha : a = [112]
    · have t1 : ((baOf a).toList == ([112] : List UInt8)) = true := by rw [wa]; exact decide_eq_true ha
      have t1n : ((baOf a).toList != ([112] : List UInt8)) = false := by rw [bne, t1]; rfl
      by_cases hb : b = [99, 110, 102]
      · have t2 : ((baOf b).toList == ([99, 110, 102] : List UInt8)) = true := by rw [wb]; exact decide_eq_true hb
        have t2n : ((baOf b).toList != ([99, 110, 102] : List UInt8)) = false := by rw [bne, t2]; rfl
        rw [if_neg (by simp [ha, hb])] at hw
        clear wa wb ha hb
        by_cases hi : i1 = false ∨ i2 = false
        · have HW := Aside0.mk (show dHead p [a, b, x3, x4] = (20, p) by rw [hw, if_pos hi])
          clear hw
          have hh : i1 = false ∨ (i1 = true ∧ i2 = false) := by
            cases i1 with
            | false => exact .inl rfl
            | true => exact .inr ⟨rfl, by rcases hi with h | h; cases h; exact h⟩
          clear hi
          rcases hh with rfl | ⟨rfl, rfl⟩
          · go_enter Tryz.func40, Tryz.ntmps40
            have q2 := Q2.out
            go_wp2_with fail
            refine (number_calls (baOf x3) false 1048576 (by omega) (by omega) hxa.out W (HLT.out.up HBW.out)).mono ?_
            rw [HN1.out]
            rintro e w2 ⟨rfl, hb⟩
            have HB := Aside0.mk hb
            have q3 := pw_cell_below hb Q3.out
            clear hb q2
            go_wp2_with fail
            refine (number_calls (baOf x4) false 1048576 (by omega) (by omega) hxb.out w2 (HLT.out.on (HB.out.mono HBW.out) |>.up (Nat.le_trans HBW.out HB.out.size))).mono ?_
            rw [HN2.out]
            rintro e w3 ⟨rfl, hb⟩
            have HB3 := Aside0.mk (below_step HB.out hb)
            clear hb q3
            go_wp2
            go_ret
            rw [HW.out]
            exact ⟨rfl, HP.out.below HB3.out, HB3.out.mono HBW.out, (KO.refl TP W).below HB3.out, (But.refl b1 g W).below HB3.out HP.out.top⟩
          · go_enter Tryz.func40, Tryz.ntmps40
            have q2 := Q2.out
            go_wp2_with fail
            refine (number_calls (baOf x3) false 1048576 (by omega) (by omega) hxa.out W (HLT.out.up HBW.out)).mono ?_
            rw [HN1.out]
            rintro e w2 ⟨rfl, hb⟩
            have HB := Aside0.mk hb
            have q3 := pw_cell_below hb Q3.out
            clear hb q2
            go_wp2_with fail
            refine (number_calls (baOf x4) false 1048576 (by omega) (by omega) hxb.out w2 (HLT.out.on (HB.out.mono HBW.out) |>.up (Nat.le_trans HBW.out HB.out.size))).mono ?_
            rw [HN2.out]
            rintro e w3 ⟨rfl, hb⟩
            have HB3 := Aside0.mk (below_step HB.out hb)
            clear hb q3
            go_wp2
            go_ret
            rw [HW.out]
            exact ⟨rfl, HP.out.below HB3.out, HB3.out.mono HBW.out, (KO.refl TP W).below HB3.out, (But.refl b1 g W).below HB3.out HP.out.top⟩
        · obtain ⟨rfl, rfl⟩ : i1 = true ∧ i2 = true := by
            constructor
            · cases i1 with
              | true => rfl
              | false => exact absurd (.inl rfl) hi
            · cases i2 with
              | true => rfl
              | false => exact absurd (.inr rfl) hi
          rw [if_neg hi] at hw
          clear hi
          by_cases hf : f1 = false ∨ f2 = false
          · have HW := Aside0.mk (show dHead p [a, b, x3, x4] = (22, p) by rw [hw, if_pos hf])
            clear hw
            have hh : f1 = false ∨ (f1 = true ∧ f2 = false) := by
              cases f1 with
              | false => exact .inl rfl
              | true => exact .inr ⟨rfl, by rcases hf with h | h; cases h; exact h⟩
            clear hf
            rcases hh with rfl | ⟨rfl, rfl⟩
            · go_enter Tryz.func40, Tryz.ntmps40
              have q2 := Q2.out
              go_wp2_with fail
              refine (number_calls (baOf x3) false 1048576 (by omega) (by omega) hxa.out W (HLT.out.up HBW.out)).mono ?_
              rw [HN1.out]
              rintro e w2 ⟨rfl, hb⟩
              have HB := Aside0.mk hb
              have q3 := pw_cell_below hb Q3.out
              clear hb q2
              go_wp2_with fail
              refine (number_calls (baOf x4) false 1048576 (by omega) (by omega) hxb.out w2 (HLT.out.on (HB.out.mono HBW.out) |>.up (Nat.le_trans HBW.out HB.out.size))).mono ?_
              rw [HN2.out]
              rintro e w3 ⟨rfl, hb⟩
              have HB3 := Aside0.mk (below_step HB.out hb)
              clear hb q3
              go_wp2
              go_ret
              rw [HW.out]
              exact ⟨rfl, HP.out.below HB3.out, HB3.out.mono HBW.out, (KO.refl TP W).below HB3.out, (But.refl b1 g W).below HB3.out HP.out.top⟩
            · go_enter Tryz.func40, Tryz.ntmps40
              have q2 := Q2.out
              go_wp2_with fail
              refine (number_calls (baOf x3) false 1048576 (by omega) (by omega) hxa.out W (HLT.out.up HBW.out)).mono ?_
              rw [HN1.out]
              rintro e w2 ⟨rfl, hb⟩
              have HB := Aside0.mk hb
              have q3 := pw_cell_below hb Q3.out
              clear hb q2
              go_wp2_with fail
              refine (number_calls (baOf x4) false 1048576 (by omega) (by omega) hxb.out w2 (HLT.out.on (HB.out.mono HBW.out) |>.up (Nat.le_trans HBW.out HB.out.size))).mono ?_
              rw [HN2.out]
              rintro e w3 ⟨rfl, hb⟩
              have HB3 := Aside0.mk (below_step HB.out hb)
              clear hb q3
              go_wp2
              go_ret
              rw [HW.out]
              exact ⟨rfl, HP.out.below HB3.out, HB3.out.mono HBW.out, (KO.refl TP W).below HB3.out, (But.refl b1 g W).below HB3.out HP.out.top⟩
          · obtain ⟨rfl, rfl⟩ : f1 = true ∧ f2 = true := by
              constructor
              · cases f1 with
                | true => rfl
                | false => exact absurd (.inl rfl) hf
              · cases f2 with
                | true => rfl
                | false => exact absurd (.inr rfl) hf
            rw [if_neg hf] at hw
            have HW := Aside0.mk hw
            clear hw hf
            go_enter Tryz.func40, Tryz.ntmps40
            have q2 := Q2.out
            go_wp2_with fail
            refine (number_calls (baOf x3) false 1048576 (by omega) (by omega) hxa.out W (HLT.out.up HBW.out)).mono ?_
            rw [HN1.out]
            rintro e w2 ⟨rfl, hb⟩
            have HB := Aside0.mk hb
            have q3 := pw_cell_below hb Q3.out
            clear hb q2
            go_wp2_with fail
            refine (number_calls (baOf x4) false 1048576 (by omega) (by omega) hxb.out w2 (HLT.out.on (HB.out.mono HBW.out) |>.up (Nat.le_trans HBW.out HB.out.size))).mono ?_
            rw [HN2.out]
            rintro e w3 ⟨rfl, hb⟩
            have HB3 := Aside0.mk (below_step HB.out hb)
            clear hb q3
            obtain ⟨v1, v3, hg, hcc, hoo⟩ := HP.out.ex
            have HG3 := Aside0.mk (blk_below hg HB3.out)
            have HC3 := Aside0.mk (Kd.R_below hcc HB3.out)
            have HO3 := Aside0.mk (Kd.R_below hoo HB3.out)
            clear hg hcc hoo
            go_wp2_with (first | ((with_reducible refine gate_store (t := 3) (p := 58) rfl ?_); refine store_one 3 58 (.tmp 54) rfl rfl rfl (.int .i64 n1) #[.int .i64 n1, v1, .int .i64 p.want, v3, .int .i64 (p.lits : Nat)] rfl rfl HG3.out rfl nsz3 (show 0 + 1 ≤ 5 by omega) rfl rfl ?_; intro w10 hw10 hsb; have HG10 := Aside0.mk hw10; have HSB10 := Aside0.mk hsb; clear hw10 hsb) | ((with_reducible refine gate_store (t := 3) (p := 60) rfl ?_); refine store_one 3 60 (.tmp 55) rfl rfl rfl (.int .i64 n2) #[.int .i64 n1, v1, .int .i64 n2, v3, .int .i64 (p.lits : Nat)] rfl rfl HG10.out rfl nsz3 (show 2 + 1 ≤ 5 by omega) rfl rfl ?_; intro w11 hw11 hsb; have HG11 := Aside0.mk hw11; have HSB11 := Aside0.mk hsb; clear hw11 hsb))
            go_ret
            rw [HW.out]
            exact ⟨rfl, ⟨⟨_, _, HG11.out, HSB11.out.Rt (HSB10.out.Rt HC3.out HG3.out (by decide)) HG10.out (by decide), HSB11.out.Rt (HSB10.out.Rt HO3.out HG3.out (by decide)) HG10.out (by decide)⟩, HP.out.bs, HP.out.bl, by rw [HSB11.out.size, HSB10.out.size]; exact Nat.le_trans HP.out.top HB3.out.size⟩, HSB11.out.below (HSB10.out.below (HB3.out.mono HBW.out) HP.out.bs) HP.out.bs, (((KO.refl TP W).below HB3.out).same HSB10.out HG3.out (by decide)).same HSB11.out HG10.out (by decide), (((But.refl b1 g W).below HB3.out HP.out.top).same HSB10.out).same HSB11.out⟩
      · have t2 : ((baOf b).toList == ([99, 110, 102] : List UInt8)) = false := by rw [wb]; exact decide_eq_false hb
        have t2n : ((baOf b).toList != ([99, 110, 102] : List UInt8)) = true := by rw [bne, t2]; rfl
        have HW := Aside0.mk (show dHead p [a, b, x3, x4] = (20, p) by rw [hw, if_pos (.inr hb)])
        clear wa wb ha hb hw
        go_enter Tryz.func40, Tryz.ntmps40
        go_wp2
        go_ret
        rw [HW.out]
        exact ⟨rfl, HP.out, Below.refl _ _, KO.refl _ _, But.refl _ _ _⟩
    · have t1 : ((baOf a).toList == ([112] : List UInt8)) = false := by rw [wa]; exact decide_eq_false ha
      have t1n : ((baOf a).toList != ([112] : List UInt8)) = true := by rw [bne, t1]; rfl
      have HW := Aside0.mk (show dHead p [a, b, x3, x4] = (20, p) by rw [hw, if_pos (.inl ha)])
      clear wa wb ha hw
      go_enter Tryz.func40, Tryz.ntmps40
      go_wp2
      go_ret
      rw [HW.out]
      exact ⟨rfl, HP.out, Below.refl _ _, KO.refl _ _, But.refl _ _ _⟩
  · have HW := Aside0.mk (dHead_no p ws h4)
    have t1 : ((ws.length : Int) == 4) = false := beq_eq_false_iff_ne.2 (by omega)
    have t1n : ((ws.length : Int) != 4) = true := by rw [bne, t1]; rfl
    have t2 : (ws.length == 4) = false := beq_eq_false_iff_ne.2 h4
    have t2n : (ws.length != 4) = true := by rw [bne, t2]; rfl
    clear hC hlt hp hx h4
    go_enter Tryz.func40, Tryz.ntmps40
    go_wp2
    go_ret
    rw [HW.out]
    exact ⟨rfl, HP.out, Below.refl _ _, KO.refl _ _, But.refl _ _ _⟩
end Go.Proofs.YtigloobbpcnnhaaGreatDoor.PB
end
section
section
namespace Go.Proofs.YtigloobbpcnnhaaGreatDoor.PB
open Go.RowKit
set_option linter.unusedVariables false
set_option linter.unusedSimpArgs false
/-- What is said holds on when block Bn alone is written. -/
def AbidesBox {β : Type} (Bn : Nat) (J : β → World → Prop) : Prop :=
  ∀ s W W' row, J s W → W.grownBy W' row → (∀ r, row = some r → r = Bn) → J s W'
/-- .. or blocks from B on that hold no cells. -/
def OwnBox {β : Type} (B Bn : Nat) (I : β → World → Prop) : Prop :=
  ∀ s W W' row, I s W → W.grownBy W' row → (∀ r, row = some r → r = Bn ∨ (B ≤ r ∧ ∃ o : Obj, W.heap[r]? = some o ∧ o.isCells = false)) → I s W'
theorem OwnBox.put {β : Type} {B Bn : Nat} {I : β → World → Prop} (h : OwnBox B Bn I) {s : β} {W : World} {l : Nat} {o : Obj} (o' : Obj) (hs : I s W) (hB : B ≤ l) (hl : W.heap[l]? = some o) (ho : o.isCells = false) : I s (W.putObj l o') :=
  h s W _ (some l) hs (grownBy_putObj' W l o') (fun r e => by cases e; exact .inr ⟨hB, o, hl, ho⟩)
theorem OwnBox.new {β : Type} {B Bn : Nat} {I : β → World → Prop} (h : OwnBox B Bn I) {s : β} {W : World} (o : Obj) (hs : I s W) : I s (W.alloc o) :=
  h s W _ none hs (World.grownBy_alloc W o none) (fun r e => by cases e)
/-- The iterator's word, where it writes its own variable. -/
def SeqBox {α : Type} (F : Fence) (n : Nat) (P : Program) (g : Nat) (lb : Array Value) (encs : α → Array Value) (Kp : World → World → Prop) (S Sp : List α → Prop) (Bn : Nat) (w : World) : Prop :=
  ∀ (l : Nat) (J Jx : List α → World → Prop) (W : World), Below w.heap.size w W → AbidesBox Bn J → AbidesBox Bn Jx →
    (∀ pre x W1, J pre W1 → Sp (pre ++ [x]) → YieldAt F (n - 1) P l (encs x) W1 fun e W' =>
      (e = .returned (.bool true) ∧ J (pre ++ [x]) W' ∧ Kp W1 W') ∨ (e = .returned (.bool false) ∧ Jx (pre ++ [x]) W')) →
    J [] W →
    CallsIn F n P g (#[.func (.yield l) #[] #[]] ++ lb) W fun e W' => (∃ v, e = .returned v) ∧ ((∃ xs, S xs ∧ J xs W') ∨ (∃ pre, Sp pre ∧ Jx pre W'))
variable {F : Fence} {n : Nat} {P : Program}
theorem wpIn_range_box {α : Type} {g : Operand} {ps : Array Tmp} {assign body : Code} {Q : Exit → Act → World → Prop} {a : Act} {w : World}
    (hro : F.round = none) (h1 : 1 ≤ n) {gf : Nat} {lb : Array Value} (hg : a.eval g = .func (.func gf) #[] lb) (hFg : F.fn gf) (eg : ∀ args w, (callFunc gf args).run P w = .ok (.enter gf args) w)
    {encs : α → Array Value} {Kp : World → World → Prop} {S Sp : List α → Prop} {Bn : Nat} (hBn : Bn < w.heap.size) (hseq : SeqBox F (n - 1) P gf lb encs Kp S Sp Bn w)
    (hKt : ∀ {A B C : World}, Kp A B → Kp B C → Kp A C) (hKb : ∀ (W : World) (l : Nat) (o o' : Obj), w.heap.size ≤ l → W.heap[l]? = some o → o.isCells = false → o.isWalk = false → Kp W (W.putObj l o')) (hps : ∀ x, (encs x).size = ps.size)
    (I : List α → World → Prop) (Ix : Code → List α → World → Prop) (hI : OwnBox w.heap.size Bn I) (hIx : ∀ c, OwnBox w.heap.size Bn (Ix c)) (h0 : I [] w) (a₁ : α → Act)
    (hassign : ∀ (l : Nat) (x : α) (W : World) (K : Act → World → Prop), K (a₁ x) W →
      assign.wpIn (F.inRound l) (n - 1 - 1) P (Exit.then K (fun _ _ _ => False)) { tmps := (ps.zip (encs x)).foldl (fun t (p, v) => t.setIfInBounds p v) a.tmps, defers := [] } W)
    (hbody : ∀ (l : Nat) (pre : List α) (x : α) (W : World), I pre W → Sp (pre ++ [x]) → body.wpIn (F.inRound l) (n - 1 - 1) P (ownPostG w.heap.size Kp I Ix (pre ++ [x]) W) (a₁ x) W)
    (hdone : ∀ (D : Nat) (xs : List α) (W : World), w.heap.size ≤ D → S xs → I xs W → W.heap[D]? = some (.deferred (some [])) → Q .normal { a with defers := { target := .collected D, args := #[] } :: a.defers } W)
    (hstop : ∀ (D : Nat) (c : Code) (pre : List α) (W : World), w.heap.size ≤ D → Sp pre → Ix c pre W → W.heap[D]? = some (.deferred (some [])) → c.wpIn F n P Q { a with defers := { target := .collected D, args := #[] } :: a.defers } W) :
    (Code.rangeFunc g ps assign body).wpIn F n P Q a w := by
  refine wpIn_rangeFunc ?_
  intro fn hfn
  rw [hro]
  obtain ⟨rec, hrec⟩ : ∃ rec : LoopState → Option Code → Loop, rec = fun st pe => { state := st, pending := pe, fn, tmps := a.tmps, params := ps, assign, body, defers := w.heap.size } := ⟨_, rfl⟩
  obtain ⟨W1, hW1⟩ : ∃ W1, (w.alloc (.deferred (some []))).alloc (.loop (rec .ready none)) = W1 := ⟨_, rfl⟩
  have hL1 : W1.heap[w.heap.size + 1]? = some (.loop (rec .ready none)) := by
    rw [← hW1]; have := World.alloc_heap_new (w.alloc (.deferred (some []))) (.loop (rec .ready none)); rwa [World.size_alloc] at this
  have hK1 : W1.heap[w.heap.size]? = some (.deferred (some [])) := by
    rw [← hW1]; exact (Below.heap_alloc _ _ _ (by simp)).trans (World.alloc_heap_new w _)
  have hI1 : I [] W1 := by rw [← hW1]; exact hI.new _ (hI.new _ h0)
  have hb1 : Below w.heap.size w W1 := by
    rw [← hW1]; exact ((Below.refl _ w).alloc (Nat.le_refl _) _).alloc (by simp) _
  have stay : ∀ {A B : World} {row : Option Nat} {k : Nat} {o : Obj}, w.heap.size ≤ k → A.grownBy B row → (∀ r, row = some r → r = Bn) → A.heap[k]? = some o → B.heap[k]? = some o := by
    intro A B row k o hk hg' hr hA
    exact (hg'.block k (Array.getElem?_eq_some_iff.1 hA).1 (fun e => by have := hr k e.symm; omega)).trans hA
  refine ⟨w.heap.size + 1, [{ target := .collected w.heap.size, args := #[] }], W1, { target := .fn (.func gf) lb, args := #[.func (.yield (w.heap.size + 1)) #[] #[]] }, W1, gf,
    #[.func (.yield (w.heap.size + 1)) #[] #[]] ++ lb, W1, ?_, ?_, ?_, ?_, fun _ => h1, ?_⟩
  · rw [← hW1, hrec]; exact run_enterLoop_outer _ _ _ _ _
  · simp only [resolve, hg]
    simp [go_sem]
  · intro f' hf'; simp [Target.leads] at hf'; subst hf'; exact hFg
  · simp [invoke, go_sem, eg]
  · refine (hseq (w.heap.size + 1)
      (fun pre W => I pre W ∧ W.heap[w.heap.size + 1]? = some (.loop (rec .ready none)) ∧ W.heap[w.heap.size]? = some (.deferred (some [])))
      (fun pre W => ∃ c, Ix c pre W ∧ W.heap[w.heap.size + 1]? = some (.loop (rec .done (some c))) ∧ W.heap[w.heap.size]? = some (.deferred (some [])))
      W1 hb1
      (fun s A B row hs hg' hr => ⟨hI s A B row hs.1 hg' (fun r e => .inl (hr r e)), stay (by omega) hg' hr hs.2.1, stay (Nat.le_refl _) hg' hr hs.2.2⟩)
      (fun s A B row hs hg' hr => by
        obtain ⟨c, hc, hl, hk⟩ := hs
        exact ⟨c, hIx c s A B row hc hg' (fun r e => .inl (hr r e)), stay (by omega) hg' hr hl, stay (Nat.le_refl _) hg' hr hk⟩)
      ?_ ⟨hI1, hL1, hK1⟩).mono ?_
    · rintro pre x W ⟨hi, hl, hk⟩ hlen
      have hlt : w.heap.size + 1 < W.heap.size := (Array.getElem?_eq_some_iff.1 hl).1
      have hy := run_yield (P := P) (args := encs x) hl (by rw [hrec]; exact hps x)
      rw [hrec] at hy
      refine ⟨fn, _, assign, body, hy, roundIn_of_wpIn hfn (hassign _ x W _ ⟨_, run_beginRound hl (by rw [hrec]), ?_⟩)⟩
      have hl2 : (W.putObj (w.heap.size + 1) (.loop { rec .ready none with state := .busy })).heap[w.heap.size + 1]? = some (.loop { rec .ready none with state := .busy }) := World.putObj_heap_same hlt
      have hk2 : (W.putObj (w.heap.size + 1) (.loop { rec .ready none with state := .busy })).heap[w.heap.size]? = some (.deferred (some [])) := (World.putObj_heap_other (by omega)).trans hk
      have hw2 : Kp W (W.putObj (w.heap.size + 1) (.loop { rec .ready none with state := .busy })) := hKb _ _ _ _ (by omega) hl rfl rfl
      refine wpIn_mono (hbody _ pre x _ (hI.put _ hi (by omega) hl rfl) hlen) ?_
      have fin : ∀ (jump : Option Code) (W3 : World), KeepsFrom w.heap.size (W.putObj (w.heap.size + 1) (.loop { rec .ready none with state := .busy })) W3 →
          (Instr.endRound (w.heap.size + 1) jump).run P W3 = .ok (.bool jump.isNone) (W3.putObj (w.heap.size + 1) (.loop (rec (if jump.isNone then .ready else .done) jump))) ∧
          W3.heap[w.heap.size + 1]? = some (.loop { rec .ready none with state := .busy }) ∧
          (W3.putObj (w.heap.size + 1) (.loop (rec (if jump.isNone then .ready else .done) jump))).heap[w.heap.size + 1]? = some (.loop (rec (if jump.isNone then .ready else .done) jump)) ∧
          (W3.putObj (w.heap.size + 1) (.loop (rec (if jump.isNone then .ready else .done) jump))).heap[w.heap.size]? = some (.deferred (some [])) := fun jump W3 hk3 => by
        have hl3 := hk3.same _ _ (by omega) hl2 rfl
        have := run_endRound (P := P) jump hl3
        rw [hrec] at this ⊢
        exact ⟨this, by rw [hrec] at hl3; exact hl3, World.putObj_heap_same (Array.getElem?_eq_some_iff.1 hl3).1, (World.putObj_heap_other (by omega)).trans (hk3.same _ _ (Nat.le_refl _) hk2 rfl)⟩
      rintro e a3 W3 hp
      cases e with
      | normal =>
        obtain ⟨hk3, hkp3, hi3⟩ := hp
        obtain ⟨hr, hl3, hl4, hk4⟩ := fin none W3 hk3
        exact ⟨_, _, hr, .inl ⟨rfl, ⟨hI.put _ hi3 (by omega) hl3 rfl, hl4, hk4⟩, hKt (hKt hw2 hkp3) (hKb _ _ _ _ (by omega) hl3 rfl rfl)⟩⟩
      | ret =>
        obtain ⟨hk3, hi3⟩ := hp
        obtain ⟨hr, hl3, hl4, hk4⟩ := fin (some .ret) W3 hk3
        exact ⟨_, _, hr, .inr ⟨rfl, .ret, (hIx _).put _ hi3 (by omega) hl3 rfl, hl4, hk4⟩⟩
      | exit id =>
        obtain ⟨hk3, hi3⟩ := hp
        obtain ⟨hr, hl3, hl4, hk4⟩ := fin (some (.exit id)) W3 hk3
        exact ⟨_, _, hr, .inr ⟨rfl, .exit id, (hIx _).put _ hi3 (by omega) hl3 rfl, hl4, hk4⟩⟩
      | goto t =>
        obtain ⟨hk3, hi3⟩ := hp
        obtain ⟨hr, hl3, hl4, hk4⟩ := fin (some (.goto t)) W3 hk3
        exact ⟨_, _, hr, .inr ⟨rfl, .goto t, (hIx _).put _ hi3 (by omega) hl3 rfl, hl4, hk4⟩⟩
      | panic ch => exact hp.elim
      | outgrown => exact hp.elim
    · rintro e W2 ⟨⟨v, rfl⟩, (⟨xs, hS, hi, hl, hk⟩ | ⟨pre, hSp, c, hi, hl, hk⟩)⟩
      · exact ⟨none, _, by have := run_endLoop (P := P) hl (by rw [hrec]; simp); rw [hrec] at this; exact this, hdone _ xs _ (Nat.le_refl _) hS (hI.put _ hi (by omega) hl rfl) ((World.putObj_heap_other (by omega)).trans hk)⟩
      · exact ⟨some c, _, by have := run_endLoop (P := P) hl (by rw [hrec]; simp); rw [hrec] at this; exact this, hstop _ c pre _ (Nat.le_refl _) hSp ((hIx c).put _ hi (by omega) hl rfl) ((World.putObj_heap_other (by omega)).trans hk)⟩
end Go.Proofs.YtigloobbpcnnhaaGreatDoor.PB
end
section
namespace Go.Proofs.YtigloobbpcnnhaaGreatDoor.PB
open Go.RowKit Go.Shelf Go.Proofs.YtigloobbpcnnhaaGreatDoorW.PrintWords Go.Proofs.YtigloobbpcnnhaaGreatDoorW.PrintLast Go.Proofs.YtigloobbpcnnhaaGreatDoorW.PrintMore
set_option linter.unusedVariables false
set_option linter.unusedSimpArgs false
attribute [local go_sem] Oper.semAt_some
/-- What a round keeps. -/
def KpBox (b0 Bn : Nat) (W W' : World) : Prop := Below b0 W W' ∧ W'.heap[Bn]? = W.heap[Bn]?
theorem below_set_box {b0 Bn : Nat} {W : World} (h : b0 ≤ Bn) (v : Value) : Below b0 W (W.setCell ⟨Bn, 0, none⟩ v) := (Below.refl b0 W).setCell (p := ⟨Bn, 0, none⟩) h v
theorem grown_drewN (W : World) (n : Nat) : W.grownBy (W.drewN n) none := ⟨rfl, rfl, rfl, Nat.le_refl _, fun _ _ _ => rfl⟩
theorem grown_set (W : World) (Bn j : Nat) (v : Value) : W.grownBy (W.setCell ⟨Bn, j, none⟩ v) (some Bn) := ⟨rfl, rfl, rfl, by simp [World.setCell], fun k _ hk => Below.heap_setCell W ⟨Bn, j, none⟩ v k (fun e => hk (by rw [e]))⟩
section
variable {P : Program} {n l : Nat} {ops ops0 : Array Oper} {rest : List Oper} {o : Oper} {a : Act} {W : World} {Q : Exit → Act → World → Prop}
/-- The wide fence, or a round within it. -/
def WF (F : Fence) : Prop := F = Fence.wide ∨ ∃ l, F = Fence.wide.inRound l
theorem WF.fn {F : Fence} (h : WF F) (f : FuncId) : F.fn f := by
  rcases h with rfl | ⟨l, rfl⟩ <;> trivial
theorem WF.depth {F : Fence} (h : WF F) : ¬ F.depth.isSome = true := by
  rcases h with rfl | ⟨l, rfl⟩ <;> (intro hd; cases hd)
theorem WF.calls {F : Fence} (h : WF F) {m : Nat} {f : FuncId} {args : Array Value} {w : World} {R : Ending → World → Prop} (hc : Calls P f args w R) : CallsIn F m P f args w R := by
  rcases h with rfl | ⟨l, rfl⟩
  · exact callsIn_wide.2 hc
  · exact CallsIn.inRound l (callsIn_wide.2 hc)
theorem WF.rows {F : Fence} (h : WF F) {m : Nat} {row : String} {args : Array Value} {w : World} {R : Value → World → Prop} (hc : Rows P row args w R) : RowsIn F m P row args w R := by
  rcases h with rfl | ⟨l, rfl⟩
  · exact fun c cs _ => let ⟨v, w', r, s⟩ := hc c cs; ⟨v, w', r, stepsIn_wide.2 s⟩
  · exact fun c cs _ => let ⟨v, w', r, s⟩ := hc c cs; ⟨v, w', r, stepsIn_wide.2 s⟩
variable {F : Fence}
theorem op_in (hF : WF F) {next φ : Act → World → Prop} {Q0 : Exit → Act → World → Prop} (hnd : ∀ c, o.op ≠ .defer c) (h : o.wp P a W φ Q0) (hp : ∀ ch a' w', ¬ Q0 (.panic ch) a' w') (ho : ¬ LetsOut Q0) (hn : ∀ a' w', φ a' w' → next a' w') : o.wpIn F n P a W next Q := by
  refine ⟨fun f _ => hF.fn f, ?_⟩
  rw [Oper.semAt_plain F _ _ hnd]
  unfold Oper.wp at h
  revert h
  generalize (execOp a.eval o).run P W = r
  intro h
  unfold Oper.upon at h
  unfold Oper.uponIn
  split at h
  · exact hn _ _ h
  · exact hn _ _ h
  · exact hn _ _ h
  · refine ⟨(fun hd => (hF.depth hd).elim), hF.calls (h.mono ?_)⟩
    intro e w' hR
    cases e with
    | returned v => exact hn _ _ hR
    | panicked ch => exact (hp _ _ _ hR).elim
    | outgrown => exact (ho hR).elim
  · exact ⟨(fun hd => (hF.depth hd).elim), hF.rows (h.mono fun v w' r => hn _ _ r)⟩
  · exact (hp _ _ _ h).elim
  · exact h.elim
theorem list_in (hF : WF F) {φ : Act → World → Prop} (hgd : o.guard = none) (hnd : ∀ c, o.op ≠ .defer c) (hlaw : wpList P ops0 (fun e a' w' => e = Exit.normal ∧ φ a' w') [o] a W) (h : ∀ a' w', φ a' w' → wpListIn F n P ops Q rest a' w') : wpListIn F n P ops Q (o :: rest) a W := by
  refine wpListIn_plain hgd fun K hK => ?_
  have hw : Region.wanted o (yielded ops0 a.tmps) = true := by simp [Region.wanted, hgd]
  unfold wpList at hlaw
  rw [if_pos hw] at hlaw
  rcases hlaw with hl | ⟨_, _, _, he, _⟩
  · refine op_in hF hnd hl (fun _ _ _ he => by cases he.1) (fun ⟨_, _, he, _⟩ => by cases he) (fun a' w' hq => hK _ _ (h a' w' ?_))
    unfold wpList at hq
    exact hq.2
  · cases he
theorem box_in (hF : WF F) (hgd : o.guard = none) (hnd : ∀ c, o.op ≠ .defer c) {N : Tmp} (hd : o.dst = some N) {cs : Array Value} {t : TypeId}
    (hrun : (execOp a.eval o).run P W = .ok (.value (.pointer (some ⟨W.heap.size, 0, none⟩))) (W.alloc (.cells cs t (0, 0))))
    (h : ∀ g, g = W.heap.size → ∀ w1, w1.heap[g]? = some (.cells cs t (0, 0)) → Below W.heap.size W w1 → wpListIn F n P ops Q rest (a.put o.dst (.pointer (some ⟨g, 0, none⟩))) w1) : wpListIn F n P ops Q (o :: rest) a W :=
  list_in hF (ops0 := #[]) hgd hnd (φ := fun a' w' => ∃ g, g = W.heap.size ∧ a' = a.put o.dst (.pointer (some ⟨g, 0, none⟩)) ∧ w'.heap[g]? = some (.cells cs t (0, 0)) ∧ Below W.heap.size W w') (box_event hgd hd hrun (fun g hg w1 h1 h2 => ⟨rfl, g, hg, rfl, h1, h2⟩)) (by rintro a' w' ⟨g, hg, rfl, h1, h2⟩; exact h g hg w' h1 h2)
theorem store_one_in (hF : WF F) (t : TypeId) (p : Tmp) (v : Operand) (ho : o.op = .store t (.tmp p) v) (hgd : o.guard = none) (hN : o.dst = none) {g off : Nat} {e : TypeId} {cur : Array Value} (u : Value) (cur' : Array Value)
    (haddr : a.eval (.tmp p) = .pointer (some ⟨g, off, none⟩)) (hv : a.eval v = u) (hh : W.heap[g]? = some (.cells cur e (0, 0))) (hu : u.cells.toList = [u]) (ht : (P.info? t).map (·.size) = some 1) (hfit : off + 1 ≤ cur.size)
    (h1 : u.oneCell' = true) (hcur : cur.setIfInBounds off u = cur')
    (h : ∀ w1, w1.heap[g]? = some (.cells cur' e (0, 0)) → SameBut g W w1 → wpListIn F n P ops Q rest a w1) : wpListIn F n P ops Q (o :: rest) a W :=
  list_in hF (ops0 := #[]) hgd (by intro c hc; rw [ho] at hc; cases hc) (φ := fun a' w' => a' = a ∧ w'.heap[g]? = some (.cells cur' e (0, 0)) ∧ SameBut g W w') (store_one t p v ho hgd hN u cur' haddr hv hh hu ht hfit h1 hcur (fun w1 e1 e2 => ⟨rfl, rfl, e1, e2⟩)) (by rintro a' w' ⟨rfl, e1, e2⟩; exact h w' e1 e2)
theorem keeps_same {B g : Nat} {A C : World} {cs : Array Value} {t : TypeId} (h : SameBut g A C) (hg : A.heap[g]? = some (.cells cs t (0, 0))) : KeepsFrom B A C :=
  ⟨Nat.le_of_eq h.size.symm, fun k o _ hk ho => by
    by_cases e : k = g
    · subst e; rw [hg] at hk; cases hk; cases ho
    · exact (h.blk k e).trans hk⟩
theorem gin_dst {N : Tmp} (_hN : o.dst = some N) (h : wpListIn F n P ops Q (o :: rest) a W) : wpListIn F n P ops Q (o :: rest) a W := h
theorem gin_store {t : TypeId} {p : Tmp} {v : Operand} (_ho : o.op = .store t (.tmp p) v) (h : wpListIn F n P ops Q (o :: rest) a W) : wpListIn F n P ops Q (o :: rest) a W := h
end
theorem blk_row {W W' : World} {row : Option Nat} {B Bn k : Nat} {cs : Array Value} {t : TypeId} (hg : W.grownBy W' row) (hr : ∀ r, row = some r → r = Bn ∨ (B ≤ r ∧ ∃ o : Obj, W.heap[r]? = some o ∧ o.isCells = false)) (h : W.heap[k]? = some (.cells cs t (0, 0))) (hk : k ≠ Bn) : W'.heap[k]? = some (.cells cs t (0, 0)) := by
  refine (hg.block k (blk_lt h) (fun e => ?_)).trans h
  rcases hr k e.symm with e2 | ⟨_, o, ho, hc⟩
  · exact hk e2
  · rw [h] at ho
    cases ho
    cases hc
end Go.Proofs.YtigloobbpcnnhaaGreatDoor.PB
end
end
section
namespace Go.Proofs.YtigloobbpcnnhaaGreatDoor.PB
open Go.RowKit Go.Shelf Go.Proofs.YtigloobbpcnnhaaGreatDoorW.PrintWords Go.Proofs.YtigloobbpcnnhaaGreatDoorW.PrintLast Go.Proofs.YtigloobbpcnnhaaGreatDoorW.PrintMore
set_option linter.unusedVariables false
set_option linter.unusedSimpArgs false
attribute [local go_sem] Oper.semAt_some
theorem bI_mem (l : List UInt8) : ∀ x ∈ bI l, 0 ≤ x ∧ x < 256 := by
  intro x hx
  obtain ⟨b, _, rfl⟩ := List.mem_map.1 hx
  have := b.toNat_lt
  omega
theorem bI_take (l : List UInt8) (k : Nat) : (bI l).take k = bI (l.take k) := by unfold bI; rw [List.map_take]
theorem bI_drop (l : List UInt8) (k : Nat) : (bI l).drop k = bI (l.drop k) := by unfold bI; rw [List.map_drop]
theorem bytesIn_C {w : World} {A : Option Addr} {l : List UInt8} (h : (Kd.int .u8).C w A l.length (bI l)) : Lib.BytesIn w A l.length (bI l) := by
  intro hn
  obtain ⟨ad, rfl, hc⟩ := (Kd.reads_of_C (enc := Value.int .u8) (d := (0 : Int)) (h1 := fun _ => rfl) h).2.2 hn
  exact Lib.BytesIn.of_cells hc hn
theorem cut_calls (A : Option Addr) (c b2 d2 : Nat) (t : List UInt8) (w0 w : World) (hw : Below w0.heap.size w0 w) (hC : (Kd.int .u8).C w0 A t.length (bI t)) (hc : t.length ≤ c) (hne : t ≠ []) (hs : t.length ≤ 100000) (hlt : LF w) (hb2 : w.heap[b2]? = some (.cells #[.int .u8 10] 5 (0, 0))) :
    Calls Tryz.prog 32 #[.slice A t.length c, .slice (some ⟨b2, 0, none⟩) 1 d2] w fun e w' => ∃ (l r : List UInt8) (A2 : Option Addr) (c2 : Nat) (fl : Bool), e = .returned (.tuple #[.slice A l.length c, .slice A2 r.length c2, .bool fl]) ∧ dLines t = l :: dLines r ∧ (Kd.int .u8).C w0 A l.length (bI l) ∧ l.length ≤ c ∧ (Kd.int .u8).C w0 A2 r.length (bI r) ∧ r.length ≤ c2 ∧ r.length < t.length ∧ ∃ q, w' = w.drewN q := by
  obtain ⟨m, hm⟩ := hlt.m
  have hpos : 0 < t.length := List.length_pos_iff.2 hne
  have hin2 : Lib.BytesIn w (some ⟨b2, 0, none⟩) 1 [10] := fun _ => ⟨b2, 0, rfl, fun i hi => by
    obtain rfl : i = 0 := by omega
    exact (blk_cell hb2 0).trans rfl⟩
  obtain ⟨ad, rfl, _⟩ := Kd.at_int hC 0 (by omega) (by omega)
  refine (Tryz.bytes_Cut_all (some ad) (some ⟨b2, 0, none⟩) t.length c 1 d2 (bI t) [10] m w (bI_length t) rfl (bI_mem t) (by intro y hy; rw [List.mem_singleton.1 hy]; omega) (bytesIn_C (Kd.C_below hC hw)) hin2 (fun e => by cases e) hc (by omega) (by omega) hm).mono ?_
  rw [bI_back, show Lib.bytesOf [10] = [10] from rfl]
  rintro e w' ⟨rfl, q, rfl⟩
  rcases split_first t with h | ⟨l, r, ht, h⟩
  · refine ⟨t, [], none, 0, false, ?_, by rw [dLines_no t hne h]; rfl, hC, hc, Kd.C_nil _ _, Nat.le_refl _, by simpa using hpos, q, rfl⟩
    unfold Lib.cutV
    rw [index_no t 10 h, if_neg (by omega)]
    rfl
  · have hlen : t.length = l.length + 1 + r.length := by rw [ht, List.length_append, List.length_cons]; omega
    have hix : Lib.index t [10] = (l.length : Int) := by rw [ht]; exact index_at l r 10 h
    have hl : t.take l.length = l := by rw [ht, List.take_left]
    have hr : t.drop (l.length + 1) = r := by
      rw [ht, ← List.drop_drop, List.drop_left]
      rfl
    have hC' := hC
    rw [← bI_length t] at hC'
    have hCl := Kd.C_take (m := l.length) hC' (by rw [bI_length]; omega)
    have hCr := Kd.C_drop (m := l.length + 1) (c := c) hC' (by rw [bI_length]; omega) (by rw [bI_length]; exact hc)
    rw [bI_take, hl, bI_length] at hCl
    rw [bI_drop, hr, bI_length, show (Kd.int .u8).sz = 1 from rfl, Nat.mul_one] at hCr
    refine ⟨l, r, _, c - (l.length + 1), true, ?_, by rw [ht]; exact dLines_cut l r h, hCl, by omega, hCr, by omega, by omega, q, rfl⟩
    unfold Lib.cutV Lib.fromV
    rw [hix, if_pos (Int.natCast_nonneg _), Int.toNat_natCast, show t.length - (l.length + 1) = r.length by omega]
/-- A line as the iterator hands it out. -/
structure LR where
  n : Nat
  A : Option Addr
  c : Nat
  l : List UInt8
def LR.enc (x : LR) : Array Value := #[.int .i64 (x.n : Int), .slice x.A x.l.length x.c]
/-- What has been handed out of a text. -/
structure LOK (w : World) (s : List UInt8) (pre : List LR) : Prop where
  px : pre.map (·.l) <+: dLines s
  at_ : ∀ x ∈ pre, (Kd.int .u8).C w x.A x.l.length (bI x.l) ∧ x.l.length ≤ x.c
  num : pre.map (·.n) = (List.range pre.length).map (· + 1)
theorem LOK.nil (w : World) (s : List UInt8) : LOK w s [] := ⟨List.nil_prefix, (fun x h => by cases h), rfl⟩
theorem LOK.snoc {w : World} {s : List UInt8} {pre : List LR} {x : LR} (h : LOK w s pre) (hp : pre.map (·.l) ++ [x.l] <+: dLines s) (hx : (Kd.int .u8).C w x.A x.l.length (bI x.l) ∧ x.l.length ≤ x.c) (hn : x.n = pre.length + 1) : LOK w s (pre ++ [x]) :=
  ⟨by rw [List.map_append]; exact hp, fun y hy => by
    rcases List.mem_append.1 hy with hy | hy
    · exact h.at_ y hy
    · rw [List.mem_singleton] at hy; subst hy; exact hx, by
    rw [List.map_append, h.num, List.length_append, List.length_singleton, List.range_succ, List.map_append, List.map_singleton, List.map_singleton, hn]⟩
theorem LOK.last {w : World} {s : List UInt8} {pre : List LR} {x : LR} (h : LOK w s (pre ++ [x])) : x.n = pre.length + 1 := by
  have := h.num
  rw [List.map_append, List.length_append, List.length_singleton, List.range_succ, List.map_append] at this
  have := List.append_inj_right' this rfl
  simpa using this
def boxLen (Bn : Nat) (W : World) : Nat := match W.cell? ⟨Bn, 0, none⟩ with | some (.slice _ n _) => n | _ => 0
theorem boxLen_eq {Bn : Nat} {W : World} {A : Option Addr} {n c : Nat} (h : W.heap[Bn]? = some (.cells #[.slice A n c] 46 (0, 0))) : boxLen Bn W = n := by
  unfold boxLen
  rw [(blk_cell h 0).trans (show _ = some (Value.slice A n c) from rfl)]
theorem lines_calls (A : Option Addr) (n c : Nat) (w : World) : Calls Tryz.prog 14 #[.slice A n c] w fun e w' => ∃ g, g = w.heap.size ∧ e = .returned (.func (.func 31) #[] #[.pointer (some ⟨g, 0, none⟩)]) ∧ w'.heap[g]? = some (.cells #[.slice A n c] 46 (0, 0)) ∧ Below w.heap.size w w' := by
  go_enter Tryz.func14, Tryz.ntmps14
  go_wp2
  go_ret
  exact ⟨_, rfl, rfl, blk_new w _, below_alloc (Below.refl _ _) _⟩
set_option maxRecDepth 100000 in
set_option maxHeartbeats 1000000 in
theorem lines_in (n : Nat) (hn : 1 ≤ n) (l Bn : Nat) (w0 : World) (A0 : Option Addr) (c0 : Nat) (s : List UInt8) (hs : s.length ≤ 100000) (hC0 : (Kd.int .u8).C w0 A0 s.length (bI s)) (hc0 : s.length ≤ c0) (J Jx : List LR → World → Prop) (hJ : AbidesBox Bn J)
    (hY : ∀ pre x W, J pre W → LOK w0 s (pre ++ [x]) → YieldAt Fence.wide (n - 1) Tryz.prog l x.enc W fun e W' =>
      (e = .returned (.bool true) ∧ J (pre ++ [x]) W' ∧ KpBox w0.heap.size Bn W W') ∨ (e = .returned (.bool false) ∧ Jx (pre ++ [x]) W'))
    (W : World) (hB : w0.heap.size ≤ Bn) (hBn : W.heap[Bn]? = some (.cells #[.slice A0 s.length c0] 46 (0, 0))) (hW : Below w0.heap.size w0 W) (hlt : LT w0.heap.size w0) (h0 : J [] W) :
    CallsIn Fence.wide n Tryz.prog 31 #[.func (.yield l) #[] #[], .pointer (some ⟨Bn, 0, none⟩)] W fun e W' => (∃ v, e = .returned v) ∧
      ((∃ ys, (ys.map (·.l) = dLines s ∧ LOK w0 s ys) ∧ J ys W') ∨ (∃ pre, LOK w0 s pre ∧ Jx pre W')) := by
  refine callsIn_of_wp Tryz.func31 rfl trivial ?_ rfl
  simp only [Tryz.ntmps31, List.size_toArray, List.length_cons, List.length_nil, Nat.reduceAdd, Nat.reduceSub, Array.replicate_succ, Array.replicate_zero, List.push_toArray, List.append_toArray, List.nil_append, List.cons_append]
  have HBN := Aside0.mk hBn
  have HLT := Aside0.mk hlt
  have HS := Aside0.mk hs
  have H0 := Aside0.mk h0
  have HY := Aside0.mk hY
  have HJ := Aside0.mk hJ
  have HC0 := Aside0.mk hC0
  have HL0 := Aside0.mk hc0
  have HW := Aside0.mk hW
  clear hBn hlt hs h0 hY hJ hC0 hc0 hW
  gi_wp2
  gi_loopw [3] (fun v wr => ∃ (pre : List LR) (t : List UInt8) (A : Option Addr) (c : Nat), v = .int .i64 ((pre.length : Int) + 1) ∧ Aside0 (t.length ≤ s.length ∧ pre.length + t.length ≤ s.length) ∧ Aside0 (dLines s = pre.map (·.l) ++ dLines t) ∧ Aside0 (LOK w0 s pre) ∧ Aside0 ((Kd.int .u8).C w0 A t.length (bI t)) ∧ t.length ≤ c ∧ Aside0 (wr.heap[Bn]? = some (.cells #[.slice A t.length c] 46 (0, 0))) ∧ Aside0 (Below w0.heap.size w0 wr) ∧ Aside0 (J pre wr))
    (fun _ wr => boxLen Bn wr)
  case atStart => exact ⟨[], s, A0, c0, rfl, ⟨Nat.le_refl _, by simp⟩, ⟨rfl⟩, ⟨LOK.nil _ _⟩, HC0, HL0.out, HBN, HW, H0⟩
  case round =>
    clear HBN H0 HC0 HL0 HW
    obtain ⟨pre, t, A, c, rfl, HT, HQ, HOK, HC, hc, HBN, HW, HJJ⟩ := hrel
    have hcz := (blk_cell HBN.out 0).trans (show _ = some (Value.slice A t.length c) from rfl)
    have hf := blk_frozen HBN.out 0
    have hps : pre.length ≤ 100000 := by have := HT.out; have := HS.out; omega
    have hts : t.length ≤ 100000 := by have := HT.out; have := HS.out; omega
    by_cases hz : t = []
    · have hz1 : decide (0 < (t.length : Int)) = false := by rw [hz]; rfl
      have hz2 : decide (0 < t.length) = false := by rw [hz]; rfl
      have hz3 := Aside0.mk hz
      clear hz
      gi_wp2
      go_end0
      exact ⟨⟨_, rfl⟩, .inl ⟨pre, ⟨by rw [HQ.out, hz3.out, dLines_nil, List.append_nil], HOK.out⟩, HJJ.out⟩⟩
    · have hpos : 0 < t.length := List.length_pos_iff.2 hz
      have hz1 : decide (0 < (t.length : Int)) = true := decide_eq_true (by omega)
      have hz2 : decide (0 < t.length) = true := decide_eq_true hpos
      have HNE := Aside0.mk hz
      clear hz
      gi_wp2_with ((refine ⟨trivial, ?_⟩; gi_at_call 32; refine (callsIn_wide.2 (cut_calls A c wr.heap.size 1 t w0 _ (below_alloc HW.out _) HC.out hc HNE.out hts ((HLT.out.on (below_alloc HW.out _)).here) (blk_new wr _))).mono ?_; rintro e w2 ⟨q, r, A2, c2, fl, rfl, hd, hCl, hlc, hCr, hrc, hrt, nd, rfl⟩; have HD := Aside0.mk hd; have HRT := Aside0.mk hrt; have HOKX := Aside0.mk (show LOK w0 s (pre ++ [⟨pre.length + 1, A, c, q⟩]) from HOK.out.snoc ⟨dLines r, by rw [HQ.out, HD.out]; simp⟩ ⟨hCl, hlc⟩ rfl); obtain ⟨fn, tmps, assign, body, hy, hR⟩ := HY.out pre ⟨pre.length + 1, A, c, q⟩ _ (HJ.out _ _ _ none (HJ.out _ _ _ none HJJ.out (World.grownBy_alloc wr (.cells #[.int .u8 10] 5) none) (fun r e => by cases e)) (grown_drewN (wr.alloc (.cells #[.int .u8 10] 5)) nd) (fun r e => by cases e)) HOKX.out; have HRR := Aside0.mk hR; replace hy : (Instr.yield l #[.int .i64 ((pre.length : Int) + 1), .slice A q.length c]).run Tryz.prog _ = _ := hy; have HRC := Aside0.mk hCr; clear hR hd hCr hCl hrt))
      refine HRR.out.mono ?_
      have HB2 := Aside0.mk (show Below w0.heap.size w0 ((wr.alloc (.cells #[.int .u8 10] 5)).drewN nd) from pw_below_drewN (below_alloc HW.out _) nd)
      have HBN2 := Aside0.mk (show ((wr.alloc (.cells #[.int .u8 10] 5)).drewN nd).heap[Bn]? = some (.cells #[.slice A t.length c] 46 (0, 0)) from blk_drewN (blk_alloc HBN.out _) nd)
      rintro e W3 (⟨rfl, hJ3, hk3, hb3⟩ | ⟨rfl, hJx3⟩)
      · have HB3 := Aside0.mk (show W3.heap[Bn]? = some (.cells #[.slice A t.length c] 46 (0, 0)) from hb3.trans HBN2.out)
        have HW3 := Aside0.mk (HB2.out.trans hk3)
        have hc3 := (blk_cell HB3.out 0).trans (show _ = some (Value.slice A t.length c) from rfl)
        have hf3 := blk_frozen HB3.out 0
        have HJ3 := Aside0.mk hJ3
        clear hJ3 hk3 hb3
        gi_wp2
        go_roundw
        case rel => exact ⟨pre ++ [⟨pre.length + 1, A, c, q⟩], r, A2, c2, (by rw [List.length_append, List.length_singleton]; rfl), ⟨by have h1 := HRT.out; have h2 := HT.out; rw [List.length_append, List.length_singleton]; omega⟩, ⟨by rw [HQ.out, HD.out]; simp⟩, HOKX, HRC, hrc, ⟨blk_put HB3.out 0 _ rfl⟩, ⟨HW3.out.trans (below_set_box hB _)⟩, ⟨HJ.out _ _ _ (some Bn) HJ3.out (grown_set W3 Bn 0 _) (fun r e => by cases e; rfl)⟩⟩
        case measure => rw [boxLen_eq (blk_put HB3.out 0 _ rfl), boxLen_eq HBN.out]; exact HRT.out
      · gi_wp2
        refine bodyPost_ret (results_none rfl _ _ _) rfl ?_
        exact ⟨⟨_, rfl⟩, .inr ⟨pre ++ [⟨pre.length + 1, A, c, q⟩], HOKX.out, hJx3⟩⟩
end Go.Proofs.YtigloobbpcnnhaaGreatDoor.PB
end
section
namespace Go.Proofs.YtigloobbpcnnhaaGreatDoor.PB
open Go.RowKit Go.Proofs.YtigloobbpcnnhaaGreatDoorW.PrintWords Go.Proofs.YtigloobbpcnnhaaGreatDoorW.PrintLast Go.Proofs.YtigloobbpcnnhaaGreatDoorW.PrintMore
set_option linter.unusedVariables false
set_option linter.unusedSimpArgs false
theorem count_calls (ad : Addr) (c b2 d : Nat) (b : List UInt8) (w : World) (hC : (Kd.int .u8).C w (some ad) b.length (bI b)) (hb2 : w.heap[b2]? = some (.cells #[.int .u8 10] 5 (0, 0))) :
    Calls Tryz.prog 61 #[.slice (some ad) b.length c, .slice (some ⟨b2, 0, none⟩) 1 d] w fun e w' => e = .returned (.int .i64 ((b.count 10 : Nat) : Int)) ∧ w = w' := by
  refine (Tryz.bytes_Count_one_at ad b.length c b2 0 d (bI b) 10 w (bI_length b) ?_ ((blk_cell hb2 0).trans rfl)).mono ?_
  · intro i hi
    obtain ⟨ad', e, h⟩ := Kd.at_int hC (i : Int) (by omega) (by omega)
    cases e
    rw [Int.toNat_natCast] at h
    rw [h]
    unfold rd
    rw [Int.toNat_natCast]
  · rintro e w' ⟨rfl, rfl⟩
    refine ⟨?_, rfl⟩
    rw [bI_back]
    rfl
theorem bI_last (b : List UInt8) (h : b ≠ []) : rd (bI b) ((b.length : Int) - 1) = ((b.getLast h).toNat : Int) := by
  have hp : 0 < b.length := List.length_pos_iff.2 h
  unfold rd
  rw [show ((b.length : Int) - 1).toNat = b.length - 1 by omega, List.getLast_eq_getElem, List.getD_eq_getElem?_getD]
  unfold bI
  rw [List.getElem?_map, List.getElem?_eq_getElem (by omega)]
  rfl
set_option maxHeartbeats 1000000 in
set_option maxRecDepth 100000 in
theorem last_calls (ad : Addr) (c : Nat) (b : List UInt8) (w : World) (hC : (Kd.int .u8).C w (some ad) b.length (bI b)) (hc : b.length ≤ c) (hs : b.length ≤ 100000) :
    Calls Tryz.prog 42 #[.slice (some ad) b.length c] w fun e w' => e = .returned (.int .i64 (((dLines b).length : Nat) : Int)) ∧ Below w.heap.size w w' := by
  have HC := Aside0.mk hC
  have hcl : b.count 10 ≤ 100000 := Nat.le_trans (List.count_le_length) hs
  obtain ⟨k, hk⟩ : ∃ k, k = b.count 10 := ⟨_, rfl⟩
  have HK := Aside0.mk hk
  rw [← hk] at hcl
  have hl := dLines_count b
  rw [← hk] at hl
  by_cases h0 : b = []
  · have hd := Aside0.mk (show (dLines b).length = k by rw [hl, if_neg (fun h => h.1 h0)]; rfl)
    have t1 : decide (0 < (b.length : Int)) = false := by rw [h0]; rfl
    have t2 : decide (0 < b.length) = false := by rw [h0]; rfl
    clear hC hk hl h0
    go_enter Tryz.func42, Tryz.ntmps42
    go_wp2_with (go_at_call 61; refine (count_calls ad c w.heap.size 1 b _ (Kd.C_below HC.out (below_alloc (Below.refl _ _) _)) (blk_new w _)).mono ?_; rw [← HK.out]; rintro e w2 ⟨rfl, rfl⟩)
    go_ret
    exact ⟨by rw [hd.out]; rfl, below_alloc (Below.refl _ _) _⟩
  · have hp : 0 < b.length := List.length_pos_iff.2 h0
    have t1 : decide (0 < (b.length : Int)) = true := decide_eq_true (by omega)
    have t2 : decide (0 < b.length) = true := decide_eq_true hp
    have p0 : (0 : Int) ≤ (b.length : Int) - 1 := by omega
    have p1 : (b.length : Int) - 1 < (b.length : Int) := by omega
    have p2 : b.length - 1 < b.length := by omega
    obtain ⟨ad', e, hx⟩ := Kd.at_int hC ((b.length : Int) - 1) p0 p1
    cases e
    rw [bI_last b h0] at hx
    obtain ⟨y, hy⟩ : ∃ y, y = b.getLast h0 := ⟨_, rfl⟩
    rw [← hy, show ((b.length : Int) - 1).toNat = b.length - 1 by omega] at hx
    have hgl : b.getLast? = some y := by rw [hy, List.getLast?_eq_some_getLast h0]
    have HX := Aside0.mk hx
    by_cases h10 : y = 10
    · have hd := Aside0.mk (show (dLines b).length = k by rw [hl, if_neg (fun h => h.2 (by rw [hgl, h10]))]; rfl)
      have t3 : ((y.toNat : Int) == 10) = true := by rw [h10]; rfl
      have t3n : ((y.toNat : Int) != 10) = false := by rw [bne, t3]; rfl
      clear hC hk hl h0 hy hgl h10 hx
      go_enter Tryz.func42, Tryz.ntmps42
      go_wp2_with (go_at_call 61; refine (count_calls ad c w.heap.size 1 b _ (Kd.C_below HC.out (below_alloc (Below.refl _ _) _)) (blk_new w _)).mono ?_; rw [← HK.out]; rintro e w2 ⟨rfl, rfl⟩; have hx := pw_cell_below (below_alloc (Below.refl _ w) (.cells #[.int .u8 10] 5)) HX.out)
      go_ret
      exact ⟨by rw [hd.out]; rfl, below_alloc (Below.refl _ _) _⟩
    · have hd := Aside0.mk (show (((dLines b).length : Nat) : Int) = (k : Int) + 1 by rw [hl, if_pos ⟨h0, by rw [hgl]; intro e; exact h10 (Option.some.inj e)⟩]; rfl)
      have t3 : ((y.toNat : Int) == 10) = false := by
        rw [beq_eq_false_iff_ne]
        intro e
        exact h10 (UInt8.toNat_inj.1 (by show y.toNat = 10; omega))
      have t3n : ((y.toNat : Int) != 10) = true := by rw [bne, t3]; rfl
      clear hC hk hl h0 hy hgl h10 hx
      go_enter Tryz.func42, Tryz.ntmps42
      go_wp2_with (go_at_call 61; refine (count_calls ad c w.heap.size 1 b _ (Kd.C_below HC.out (below_alloc (Below.refl _ _) _)) (blk_new w _)).mono ?_; rw [← HK.out]; rintro e w2 ⟨rfl, rfl⟩; have hx := pw_cell_below (below_alloc (Below.refl _ w) (.cells #[.int .u8 10] 5)) HX.out)
      go_ret
      exact ⟨by rw [hd.out]; rfl, below_alloc (Below.refl _ _) _⟩
end Go.Proofs.YtigloobbpcnnhaaGreatDoor.PB
end
section
namespace Go.Proofs.YtigloobbpcnnhaaGreatDoor.PB
open Go.RowKit Go.Proofs.YtigloobbpcnnhaaGreatDoorW.PrintWords Go.Proofs.YtigloobbpcnnhaaGreatDoorW.PrintLast Go.Proofs.YtigloobbpcnnhaaGreatDoorW.PrintMore
set_option linter.unusedVariables false
set_option linter.unusedSimpArgs false
theorem nsz9 : (Tryz.prog.info? 9).map (·.size) = some 1 := by kernel_rfl
theorem baOf_append (a b : List UInt8) : baOf a ++ baOf b = baOf (a ++ b) := by
  apply ByteArray.ext
  rw [ByteArray.data_append]
  apply Array.ext'
  simp [baOf]
theorem bI_append (a b : List UInt8) : bI (a ++ b) = bI a ++ bI b := by unfold bI; rw [List.map_append]
theorem bytesOf_baOf (l : List UInt8) : bytesOf (baOf l) = bI l := rfl
theorem baOf_size (l : List UInt8) : (baOf l).size = l.length := rfl
/-- What is written, and the row that is open. -/
structure VS (base g3 g4 : Nat) (st : List UInt8 × List UInt8) (W : World) : Prop where
  bd : BD base g3 (bI st.1) W
  row : W.heap[g4]? = some (.cells #[.string (baOf st.2)] 9 (0, 0))
  b4 : base ≤ g4
theorem VS.below {base g3 g4 : Nat} {st : List UInt8 × List UInt8} {W W' : World} (h : VS base g3 g4 st W) (hb : Below W.heap.size W W') : VS base g3 g4 st W' := ⟨h.bd.below hb, blk_below h.row hb, h.b4⟩
theorem KT.cells {T : List Nat} {a b : World} (h : KT T a b) {i : Nat} {cs : Array Value} {t : TypeId} (hi : a.heap[i]? = some (.cells cs t (0, 0))) (ht : t ∉ T) : b.heap[i]? = some (.cells cs t (0, 0)) := h.blk i cs t _ hi ht
set_option maxHeartbeats 1000000 in
set_option maxRecDepth 100000 in
theorem put_calls (base g3 g4 : Nat) (st : List UInt8 × List UInt8) (x : List UInt8) (W : World) (h : VS base g3 g4 st W) (hr : st.2.length ≤ 1000) (hx : x.length ≤ 1000) (ho : st.1.length ≤ 1000000000) :
    Calls Tryz.prog 26 #[.string (baOf x), .pointer (some ⟨g4, 0, none⟩), .pointer (some ⟨g3, 0, none⟩)] W fun e w' => e = .returned (.tuple #[]) ∧ VS base g3 g4 (dPut st x) w' ∧ Below base W w' := by
  have H := Aside0.mk h
  obtain ⟨r, hrB⟩ : ∃ r, r = baOf st.2 := ⟨_, rfl⟩
  obtain ⟨y, hyB⟩ : ∃ y, y = baOf x := ⟨_, rfl⟩
  have hrs : r.size = st.2.length := by rw [hrB]; rfl
  have hys : y.size = x.length := by rw [hyB]; rfl
  have hrz : r.size ≤ 1000 := by omega
  have hyz : y.size ≤ 1000 := by omega
  have hrow := h.row
  rw [← hrB] at hrow
  have hc4 := (blk_cell hrow 0).trans (show _ = some (Value.string r) from rfl)
  have hf4 := blk_frozen hrow 0
  have HROW := Aside0.mk hrow
  have HRB := Aside0.mk hrB
  have HYB := Aside0.mk hyB
  have hw : (r.toList == ([118] : List UInt8)) = decide (st.2 = [118]) := by rw [hrB]; exact word_eq st.2 [118]
  rw [← hyB]
  by_cases h1 : 78 < st.2.length + 1 + x.length
  · have t1 : decide ((78 : Int) < (r.size : Int) + 1 + (y.size : Int)) = true := decide_eq_true (by omega)
    have t1b : decide (78 < r.size + 1 + y.size) = true := decide_eq_true (by omega)
    by_cases h2 : st.2 = [118]
    · have hp := Aside0.mk (show dPut st x = (st.1, st.2 ++ [32] ++ x) by unfold dPut; rw [if_neg (fun h => h.2 h2)])
      have t2 : (r.toList == ([118] : List UInt8)) = true := by rw [hw]; exact decide_eq_true h2
      have t2n : (r.toList != ([118] : List UInt8)) = false := by rw [bne, t2]; rfl
      clear hw h1 h2 hrow hrB hyB h hrs hys ho hr hx
      have z0 : 1 + y.size ≤ 9223372036854775807 := by omega
      have z1 : decide (1 + y.size ≤ 9223372036854775807) = true := decide_eq_true z0
      have z2 : (9223372036854775807 < 1 + y.size) = False := eq_false (Nat.not_lt.2 z0)
      replace z0 := eq_true z0
      have q0 : r.size + (1 + y.size) ≤ 9223372036854775807 := by omega
      have q1 : decide (r.size + (1 + y.size) ≤ 9223372036854775807) = true := decide_eq_true q0
      have q2 : (9223372036854775807 < r.size + (1 + y.size)) = False := eq_false (Nat.not_lt.2 q0)
      replace q0 := eq_true q0
      go_enter Tryz.func26, Tryz.ntmps26
      go_wp2_with ((with_reducible refine gate_store (t := 9) (p := 1) rfl ?_); refine store_one 9 1 (.tmp 21) rfl rfl rfl (.string (r ++ ((⟨#[32]⟩ : ByteArray) ++ y))) #[.string (r ++ ((⟨#[32]⟩ : ByteArray) ++ y))] rfl rfl HROW.out rfl nsz9 (show 0 + 1 ≤ 1 by omega) rfl rfl ?_; intro w2 hw2 hsb; have HW2 := Aside0.mk hw2; have HSB := Aside0.mk hsb; clear hw2 hsb)
      go_end0
      refine ⟨rfl, ?_, HSB.out.below (Below.refl _ _) H.out.b4⟩
      rw [hp.out]
      refine ⟨H.out.bd.same HSB.out HROW.out (by decide) (by decide), ?_, H.out.b4⟩
      rw [HW2.out, HRB.out, HYB.out, show (⟨#[32]⟩ : ByteArray) = baOf [32] from rfl, baOf_append, baOf_append, List.append_assoc]
    · have hp := Aside0.mk (show dPut st x = (st.1 ++ st.2 ++ [10], [118, 32] ++ x) by unfold dPut; rw [if_pos ⟨h1, h2⟩])
      have t2 : (r.toList == ([118] : List UInt8)) = false := by rw [hw]; exact decide_eq_false h2
      have t2n : (r.toList != ([118] : List UInt8)) = true := by rw [bne, t2]; rfl
      have HL := Aside0.mk (show (bI st.1).length + (r ++ ⟨#[10]⟩ : ByteArray).size ≤ 140737488355328 by rw [bI_length, ByteArray.size_append]; show st.1.length + (r.size + 1) ≤ _; omega)
      clear hw h1 h2 hrow hrB hyB h hrs hys ho hr hx
      have z0 : 1 + y.size ≤ 9223372036854775807 := by omega
      have z1 : decide (1 + y.size ≤ 9223372036854775807) = true := decide_eq_true z0
      have z2 : (9223372036854775807 < 1 + y.size) = False := eq_false (Nat.not_lt.2 z0)
      replace z0 := eq_true z0
      have q0 : r.size + 1 ≤ 9223372036854775807 := by omega
      have q1 : decide (r.size + 1 ≤ 9223372036854775807) = true := decide_eq_true q0
      have q2 : (9223372036854775807 < r.size + 1) = False := eq_false (Nat.not_lt.2 q0)
      replace q0 := eq_true q0
      have x_0 : 1 + (1 + y.size) ≤ 9223372036854775807 := by omega
      have x_1 : decide (1 + (1 + y.size) ≤ 9223372036854775807) = true := decide_eq_true x_0
      have x_2 : (9223372036854775807 < 1 + (1 + y.size)) = False := eq_false (Nat.not_lt.2 x_0)
      replace x_0 := eq_true x_0
      go_enter Tryz.func26, Tryz.ntmps26
      go_wp2_with (first | (go_at_call 27; refine (ws_calls base g3 (bI st.1) (r ++ (⟨#[10]⟩ : ByteArray)) W H.out.bd HL.out).mono ?_; rintro e w2 ⟨rfl, hbd, hb, hk⟩; have HBD := Aside0.mk hbd; have HB := Aside0.mk hb; have HR2 := Aside0.mk (hk.cells HROW.out (by decide)); clear hbd hb hk hc4 hf4) | ((with_reducible refine gate_store (t := 9) (p := 1) rfl ?_); refine store_one 9 1 (.const (.string ⟨#[118]⟩)) rfl rfl rfl (.string ⟨#[118]⟩) #[.string ⟨#[118]⟩] rfl rfl HR2.out rfl nsz9 (show 0 + 1 ≤ 1 by omega) rfl rfl ?_; intro w3 hw2 hsb; have HW3 := Aside0.mk hw2; have HSB3 := Aside0.mk hsb; have hc4 := (blk_cell hw2 0).trans (show _ = some (Value.string ⟨#[118]⟩) from rfl); have hf4 := blk_frozen hw2 0; clear hw2 hsb))
      have HW4 := Aside0.mk (blk_put HW3.out 0 (.string ((⟨#[118]⟩ : ByteArray) ++ ((⟨#[32]⟩ : ByteArray) ++ y))) (show _ = #[.string ((⟨#[118]⟩ : ByteArray) ++ ((⟨#[32]⟩ : ByteArray) ++ y))] from rfl))
      have HSB4 := Aside0.mk (show SameBut g4 w3 (w3.setCell ⟨g4, 0, none⟩ (.string ((⟨#[118]⟩ : ByteArray) ++ ((⟨#[32]⟩ : ByteArray) ++ y)))) from ⟨rfl, rfl, rfl, by simp [World.setCell], fun k hk => Below.heap_setCell w3 ⟨g4, 0, none⟩ _ k hk⟩)
      go_end0
      refine ⟨rfl, ?_, HSB4.out.below (HSB3.out.below HB.out H.out.b4) H.out.b4⟩
      rw [hp.out]
      refine ⟨?_, ?_, H.out.b4⟩
      · have := (HBD.out.same HSB3.out HR2.out (by decide) (by decide)).same HSB4.out HW3.out (by decide) (by decide)
        rw [HRB.out, show (⟨#[10]⟩ : ByteArray) = baOf [10] from rfl, baOf_append, bytesOf_baOf, ← bI_append, ← List.append_assoc] at this
        exact this
      · rw [HW4.out, HYB.out, show (⟨#[32]⟩ : ByteArray) = baOf [32] from rfl, show (⟨#[118]⟩ : ByteArray) = baOf [118] from rfl, baOf_append, baOf_append]
        rfl
  · have t1 : decide ((78 : Int) < (r.size : Int) + 1 + (y.size : Int)) = false := decide_eq_false (by omega)
    have t1b : decide (78 < r.size + 1 + y.size) = false := decide_eq_false (by omega)
    have hp := Aside0.mk (show dPut st x = (st.1, st.2 ++ [32] ++ x) by unfold dPut; rw [if_neg (fun h => h1 h.1)])
    clear hw h1 hrow hrB hyB h hrs hys ho hr hx
    have z0 : 1 + y.size ≤ 9223372036854775807 := by omega
    have z1 : decide (1 + y.size ≤ 9223372036854775807) = true := decide_eq_true z0
    have z2 : (9223372036854775807 < 1 + y.size) = False := eq_false (Nat.not_lt.2 z0)
    replace z0 := eq_true z0
    have q0 : r.size + (1 + y.size) ≤ 9223372036854775807 := by omega
    have q1 : decide (r.size + (1 + y.size) ≤ 9223372036854775807) = true := decide_eq_true q0
    have q2 : (9223372036854775807 < r.size + (1 + y.size)) = False := eq_false (Nat.not_lt.2 q0)
    replace q0 := eq_true q0
    go_enter Tryz.func26, Tryz.ntmps26
    go_wp2_with ((with_reducible refine gate_store (t := 9) (p := 1) rfl ?_); refine store_one 9 1 (.tmp 21) rfl rfl rfl (.string (r ++ ((⟨#[32]⟩ : ByteArray) ++ y))) #[.string (r ++ ((⟨#[32]⟩ : ByteArray) ++ y))] rfl rfl HROW.out rfl nsz9 (show 0 + 1 ≤ 1 by omega) rfl rfl ?_; intro w2 hw2 hsb; have HW2 := Aside0.mk hw2; have HSB := Aside0.mk hsb; clear hw2 hsb)
    go_end0
    refine ⟨rfl, ?_, HSB.out.below (Below.refl _ _) H.out.b4⟩
    rw [hp.out]
    refine ⟨H.out.bd.same HSB.out HROW.out (by decide) (by decide), ?_, H.out.b4⟩
    rw [HW2.out, HRB.out, HYB.out, show (⟨#[32]⟩ : ByteArray) = baOf [32] from rfl, baOf_append, baOf_append, List.append_assoc]
end Go.Proofs.YtigloobbpcnnhaaGreatDoor.PB
end
section
namespace Go.Proofs.YtigloobbpcnnhaaGreatDoor.PB
open Go.RowKit Go.Proofs.YtigloobbpcnnhaaGreatDoorW.PrintWords Go.Proofs.YtigloobbpcnnhaaGreatDoorW.PrintLast Go.Proofs.YtigloobbpcnnhaaGreatDoorW.PrintMore
set_option linter.unusedVariables false
set_option linter.unusedSimpArgs false
theorem itoa_calls (n : Int) (w : World) (h0 : -9223372036854775808 ≤ n) (h1 : n ≤ 9223372036854775807) (hlt : LF w) :
    Calls Tryz.prog 28 #[.int .i64 n] w fun e w' => e = .returned (.string (baOf (Lib.itoa n))) ∧ Below w.heap.size w w' := by
  refine (Tryz.strconv_Itoa n h0 h1 w hlt.tab).mono ?_
  rintro e w' ⟨he, k, os, rfl⟩
  exact ⟨he, Lib.below_grow _ w (Nat.le_refl _) k os⟩
theorem bI_cells (l : List UInt8) : encs (Value.int .u8) (bI l) = Lib.byteCells l := by
  unfold encs bI Lib.byteCells
  rw [List.map_map]
  rfl
theorem bstring_calls (base g : Nat) (l : List UInt8) (w : World) (h : BD base g (bI l) w) :
    Calls Tryz.prog 29 #[.pointer (some ⟨g, 0, none⟩)] w fun e w' => e = .returned (.string (baOf l)) ∧ Below base w w' ∧ Lib.OthersKept 5 (some g) w w' := by
  obtain ⟨p, v, hg, hp, hR⟩ := h.ex
  have ho := Kd.own_of_R hR
  rw [bI_cells] at ho
  have hl : (Lib.byteCells l).length = (bI l).length := by rw [← bI_cells, encs_length]
  have hat : Lib.BuilderAtF 63 5 base g (.pointer p) (Lib.byteCells l) w := ⟨h.lt, v, hg, World.ownsRowF_of (by rw [hl]; exact ho), (Kd.R_ne hR hg (by decide)).symm⟩
  have hb : Lib.IsBuilderF 63 5 base g (Lib.byteCells l) w := by
    rcases hp with rfl | rfl
    · exact .inl hat
    · exact .inr hat
  refine (Tryz.Builder_String_any_k base g l w hb (Nat.le_trans h.lt (Nat.le_of_lt (blk_lt hg)))).mono ?_
  rintro e w' ⟨rfl, _, h1, h2⟩
  exact ⟨rfl, h1, h2⟩
theorem dVW_snoc (b : Bool) : ∀ (l : List Bool) (n : Nat), dVW n (l ++ [b]) = dVW n l ++ [dVWord (n + l.length) b]
  | [], n => rfl
  | a :: l, n => by
    rw [List.cons_append, dVW, dVW, dVW_snoc b l (n + 1), List.length_cons, show n + 1 + l.length = n + (l.length + 1) by omega]
    rfl
/-- Behind k values. -/
def dVSt (m : List Bool) (k : Nat) : List UInt8 × List UInt8 := (dVW 1 (m.take k)).foldl dPut ([], [118])
theorem dVSt_succ (m : List Bool) (k : Nat) (h : k < m.length) : dVSt m (k + 1) = dPut (dVSt m k) (dVWord (k + 1) m[k]) := by
  unfold dVSt
  rw [List.take_succ_eq_append_getElem h, dVW_snoc, List.foldl_append, List.length_take, Nat.min_eq_left (by omega), show 1 + k = k + 1 by omega]
  rfl
theorem dVState_eq (m : List Bool) : dVState m = dPut (dVSt m m.length) [48] := by
  unfold dVState dVSt
  rw [List.take_length, List.foldl_append]
  rfl
theorem dPut_size (s : List UInt8 × List UInt8) (x : List UInt8) (h : s.2.length ≤ 78) (hx : x.length ≤ 22) : (dPut s x).2.length ≤ 78 ∧ (dPut s x).1.length ≤ s.1.length + 79 := by
  unfold dPut
  split
  · simp only [List.length_append, List.length_cons, List.length_nil]
    omega
  · rename_i hn
    by_cases e : s.2 = [118]
    · simp only [e, List.length_append, List.length_cons, List.length_nil]
      omega
    · have : ¬ (78 < s.2.length + 1 + x.length) := fun h => hn ⟨h, e⟩
      simp only [List.length_append, List.length_cons, List.length_nil]
      omega
theorem dVWord_len (n : Nat) (b : Bool) (h : n ≤ 4611686018427387904) : (dVWord n b).length ≤ 22 := by
  have := itoa_len (n : Int) (by omega) (by omega)
  unfold dVWord
  split
  · omega
  · rw [List.length_cons]; omega
theorem dVSt_size (m : List Bool) (hm : m.length ≤ 1100000) : ∀ k, k ≤ m.length → (dVSt m k).2.length ≤ 78 ∧ (dVSt m k).1.length ≤ 79 * k
  | 0, _ => by
    have : dVSt m 0 = ([], [118]) := by unfold dVSt; rw [List.take_zero]; rfl
    rw [this]
    exact ⟨by decide, by decide⟩
  | k + 1, h => by
    obtain ⟨h1, h2⟩ := dVSt_size m hm k (by omega)
    rw [dVSt_succ m k (by omega)]
    have := dPut_size (dVSt m k) (dVWord (k + 1) m[k]) h1 (dVWord_len _ _ (by omega))
    omega
def values.T13 : Bool × List (List Nat × List Nat) := (true, [([], []), ([], []), ([0, 1], [0, 1]), ([2], [2]), ([3, 0, 0, 1, 2, 3], [3])])
def values.B13 : List Nat := [0, 0, 3, 7, 15]
theorem values.tab13 : rtab .any (opsOf Tryz.f12 13) = values.T13 := by kernel_rfl
theorem values.bits13 : waitsOk values.T13.2 values.B13 = true := by kernel_rfl
set_option maxHeartbeats 2000000 in
set_option maxRecDepth 100000 in
theorem values_calls (A : Option Addr) (c : Nat) (m : List Bool) (w : World) (hC : Kd.bool.C w A m.length m) (hc : m.length ≤ c) (hm : m.length ≤ 1100000) (hlt : LT w.heap.size w) :
    Calls Tryz.prog 12 #[.slice A m.length c] w fun e w' => e = .returned (.string (baOf (dValues m))) ∧ Below w.heap.size w w' := by
  have HLT := Aside0.mk hlt
  have HC := Aside0.mk hC
  have HM := Aside0.mk hm
  have hml : (m.length : Int) ≤ 1100000 := by omega
  clear hlt hC
  go_enter Tryz.func12, Tryz.ntmps12
  go_wp2_with (first | ((with_reducible refine gate_dst (N := 3) rfl ?_); refine box_event ?hg (N := 3) ?hd (cs := #[.pointer none, .slice none 0 0]) (t := 63) ?hr ?_; (case hd => rfl); (case hg => rfl); (case hr => first | (go_simp; done) | (go_simp; rfl)); intro g3 hgb w1 hbox hb; have HG3 := Aside0.mk hbox; have HB1 := Aside0.mk hb; have HL3 := Aside0.mk (show w.heap.size ≤ g3 by rw [hgb]; exact Nat.le_refl _); clear hbox hb hgb) | ((with_reducible refine gate_dst (N := 4) rfl ?_); refine box_event ?hg (N := 4) ?hd (cs := #[.string ⟨#[]⟩]) (t := 9) ?hr ?_; (case hd => rfl); (case hg => rfl); (case hr => first | (go_simp; done) | (go_simp; rfl)); intro g4 hgb w2 hbox hb; have HG4 := Aside0.mk hbox; have HB2 := Aside0.mk (below_step HB1.out hb); have HL4 := Aside0.mk (show w.heap.size ≤ g4 by rw [hgb]; exact HB1.out.size); have HG3' := Aside0.mk (blk_below HG3.out hb); clear hbox hb hgb) | ((with_reducible refine gate_store (t := 9) (p := 4) rfl ?_); refine store_one 9 4 (.const (.string ⟨#[118]⟩)) rfl rfl rfl (.string ⟨#[118]⟩) #[.string ⟨#[118]⟩] rfl rfl HG4.out rfl nsz9 (show 0 + 1 ≤ 1 by omega) rfl rfl ?_; intro w3 hw2 hsb; have HW3 := Aside0.mk hw2; have HB3 := Aside0.mk (hsb.below HB2.out HL4.out); have HG33 := Aside0.mk (hsb.other HG3'.out (blk_ne HG3'.out HG4.out (by decide))); clear hw2 hsb))
  have HVS := Aside0.mk (show VS w.heap.size g3 g4 (dVSt m 0) w3 from by
    have : dVSt m 0 = ([], [118]) := by unfold dVSt; rw [List.take_zero]; rfl
    rw [this]
    exact ⟨⟨⟨none, .slice none 0 0, HG33.out, .inl rfl, Kd.R_nil _ _ _ _ _⟩, HL3.out⟩, HW3.out, HL4.out⟩)
  clear HG3 HG4 HG3' HG33 HW3 HB1 HB2
  go_loopg [12] m.length (fun gf v12 wr => ∃ k : Nat, v12 = .int .i64 (k : Int) ∧ k + gf = m.length ∧ Aside0 (VS w.heap.size g3 g4 (dVSt m k) wr) ∧ Aside0 (Below w.heap.size w wr))
  case atStart => exact ⟨0, rfl, by omega, HVS, HB3⟩
  case round =>
    clear HVS HB3
    obtain ⟨k, rfl, hk, HVS, HB3⟩ := hrel
    by_cases hlt : k < m.length
    · have t5 : decide ((k : Int) < (m.length : Int)) = true := decide_eq_true (by omega)
      have t6 : decide (k < m.length) = true := decide_eq_true hlt
      have hk0 : (0 : Int) ≤ (k : Int) := Int.natCast_nonneg _
      have hkl : (k : Int) < (m.length : Int) := by omega
      have hk1 : (k : Int) + 1 ≤ 1100000 := by omega
      obtain ⟨ad, e1, hx⟩ := Kd.at_bool (Kd.C_below HC.out HB3.out) (k : Int) hk0 hkl
      cases e1
      obtain ⟨bb, hbb⟩ : ∃ bb, bb = m[k] := ⟨_, rfl⟩
      rw [Int.toNat_natCast, show rdOf false m (k : Int) = bb by unfold rdOf; rw [Int.toNat_natCast, List.getD_eq_getElem?_getD, List.getElem?_eq_getElem hlt, hbb]; rfl] at hx
      have HX := Aside0.mk hx
      have HS := Aside0.mk (dVSt_size m HM.out k (by omega))
      have hsu := dVSt_succ m k hlt
      rw [← hbb] at hsu
      have HSU := Aside0.mk hsu
      obtain ⟨sB, hsB⟩ : ∃ sB, sB = baOf (Lib.itoa ((k : Int) + 1)) := ⟨_, rfl⟩
      have HSB := Aside0.mk hsB
      have hsz : sB.size ≤ 21 := by rw [hsB]; exact itoa_len ((k : Int) + 1) (by omega) (by omega)
      have HWL := Aside0.mk (show (dVWord (k + 1) bb).length ≤ 1000 from Nat.le_trans (dVWord_len _ _ (by omega)) (by omega))
      have HVSU := Aside0.mk (show ∀ W, VS w.heap.size g3 g4 (dVSt m k) W → Calls Tryz.prog 26 #[.string (baOf (dVWord (k + 1) bb)), .pointer (some ⟨g4, 0, none⟩), .pointer (some ⟨g3, 0, none⟩)] W fun e w' => e = .returned (.tuple #[]) ∧ VS w.heap.size g3 g4 (dPut (dVSt m k) (dVWord (k + 1) bb)) w' ∧ Below w.heap.size W w' from fun W hv => put_calls w.heap.size g3 g4 (dVSt m k) (dVWord (k + 1) bb) W hv (by have := HS.out.1; omega) HWL.out (by have := HS.out.2; omega))
      clear hsu hbb
      cases bb with
      | true =>
        have HWD := Aside0.mk (show baOf (dVWord (k + 1) true) = sB by rw [hsB]; rfl)
        clear hsB
        go_wp2_with (first | (go_at_call 28; refine (itoa_calls ((k : Int) + 1) wr (by omega) (by omega) (HLT.out.on HB3.out).here).mono ?_; rw [← HSB.out]; rintro e w4 ⟨rfl, hb⟩; have HB4 := Aside0.mk (below_step HB3.out hb); have HV4 := Aside0.mk (HVS.out.below hb); clear hb hx) | (go_at_call 26; have hp := HVSU.out w4 HV4.out; rw [HWD.out] at hp; refine hp.mono ?_; clear hp; rintro e w5 ⟨rfl, hv, hb⟩; have HV5 := Aside0.mk hv; have HB5 := Aside0.mk (HB4.out.trans hb); clear hv hb))
        go_roundg (gk - 1)
        case measure => omega
        case rel => exact ⟨k + 1, by go_num, by omega, ⟨by rw [HSU.out]; exact HV5.out⟩, HB5⟩
      | false =>
        have HWD := Aside0.mk (show baOf (dVWord (k + 1) false) = (⟨#[45]⟩ : ByteArray) ++ sB by rw [hsB, show (⟨#[45]⟩ : ByteArray) = baOf [45] from rfl, baOf_append]; rfl)
        clear hsB
        have z0 : 1 + sB.size ≤ 9223372036854775807 := by omega
        have z1 : decide (1 + sB.size ≤ 9223372036854775807) = true := decide_eq_true z0
        have z2 : (9223372036854775807 < 1 + sB.size) = False := eq_false (Nat.not_lt.2 z0)
        replace z0 := eq_true z0
        go_wp2_with (first | (go_at_call 28; refine (itoa_calls ((k : Int) + 1) wr (by omega) (by omega) (HLT.out.on HB3.out).here).mono ?_; rw [← HSB.out]; rintro e w4 ⟨rfl, hb⟩; have HB4 := Aside0.mk (below_step HB3.out hb); have HV4 := Aside0.mk (HVS.out.below hb); clear hb hx) | (go_at_call 26; have hp := HVSU.out w4 HV4.out; rw [HWD.out] at hp; refine hp.mono ?_; clear hp; rintro e w5 ⟨rfl, hv, hb⟩; have HV5 := Aside0.mk hv; have HB5 := Aside0.mk (HB4.out.trans hb); clear hv hb))
        go_roundg (gk - 1)
        case measure => omega
        case rel => exact ⟨k + 1, by go_num, by omega, ⟨by rw [HSU.out]; exact HV5.out⟩, HB5⟩
    · have t5 : decide ((k : Int) < (m.length : Int)) = false := decide_eq_false (by omega)
      have t6 : decide (k < m.length) = false := decide_eq_false hlt
      obtain rfl : k = m.length := by omega
      have HS := Aside0.mk (dVSt_size m HM.out m.length (Nat.le_refl _))
      have HVSU := Aside0.mk (show Calls Tryz.prog 26 #[.string ⟨#[48]⟩, .pointer (some ⟨g4, 0, none⟩), .pointer (some ⟨g3, 0, none⟩)] wr fun e w' => e = .returned (.tuple #[]) ∧ VS w.heap.size g3 g4 (dVState m) w' ∧ Below w.heap.size wr w' from by
        rw [dVState_eq]
        exact put_calls w.heap.size g3 g4 (dVSt m m.length) [48] wr HVS.out (by have := HS.out.1; omega) (by decide) (by have := HS.out.2; omega))
      have HS2 := Aside0.mk (show (dVState m).2.length ≤ 78 ∧ (dVState m).1.length ≤ 79 * m.length + 79 from by
        have := dPut_size (dVSt m m.length) [48] HS.out.1 (by decide)
        rw [dVState_eq]
        have := HS.out.2
        omega)
      obtain ⟨rB, hrB⟩ : ∃ rB, rB = baOf (dVState m).2 := ⟨_, rfl⟩
      obtain ⟨oB, hoB⟩ : ∃ oB, oB = baOf (dVState m).1 := ⟨_, rfl⟩
      have HRB := Aside0.mk hrB
      have HOB := Aside0.mk hoB
      have hrz : rB.size ≤ 78 := by rw [hrB]; exact HS2.out.1
      have hoz : oB.size ≤ 100000000 := by rw [hoB]; have := HS2.out.2; show (dVState m).1.length ≤ _; omega
      clear hrB hoB
      have z0 : oB.size + rB.size ≤ 9223372036854775807 := by omega
      have z1 : decide (oB.size + rB.size ≤ 9223372036854775807) = true := decide_eq_true z0
      have z2 : (9223372036854775807 < oB.size + rB.size) = False := eq_false (Nat.not_lt.2 z0)
      replace z0 := eq_true z0
      have q0 : (oB ++ rB).size + 1 ≤ 9223372036854775807 := by rw [ByteArray.size_append]; omega
      have q1 : decide ((oB ++ rB).size + 1 ≤ 9223372036854775807) = true := decide_eq_true q0
      have q2 : (9223372036854775807 < (oB ++ rB).size + 1) = False := eq_false (Nat.not_lt.2 q0)
      replace q0 := eq_true q0
      have x_0 : oB.size + rB.size + 1 ≤ 9223372036854775807 := by omega
      have x_1 : decide (oB.size + rB.size + 1 ≤ 9223372036854775807) = true := decide_eq_true x_0
      have x_2 : (9223372036854775807 < oB.size + rB.size + 1) = False := eq_false (Nat.not_lt.2 x_0)
      replace x_0 := eq_true x_0
      go_upto_region 13 with (go_at_call 26; refine HVSU.out.mono ?_; rintro e wf ⟨rfl, hv, hb⟩; have HVF := Aside0.mk hv; have HBF := Aside0.mk (HB3.out.trans hb); clear hv hb)
      have HROW := Aside0.mk (show wf.heap[g4]? = some (.cells #[.string rB] 9 (0, 0)) by rw [HRB.out]; exact HVF.out.row)
      refine start_ (n := 5) (S := fun w' => w'.heap[g4]? = some (.cells #[.string rB] 9 (0, 0))) (ds := []) #[false, false, false, false, false] (by kernel_rfl) rfl rfl (blk_drew HROW.out) (fun hHeld => ?_); refine with_tabW values.tab13 values.bits13 (fun HT_ HW_ => ?_)
      have HB6 := Aside0.mk (below_drew1 HBF.out)
      have HV6 := Aside0.mk (show VS w.heap.size g3 g4 (dVState m) wf.drew from HVF.out.below (below_drew1 (Below.refl _ _)))
      have HROW6 := Aside0.mk (blk_drew HROW.out)
      generalize wf.drew = w6 at HB6 HV6 HROW6 hHeld ⊢
      refine take_ (i := 1) (N := some 31) (v := ?_) (a' := ?_) #[false, true, false, false, false] rfl rfl (take_ofW HT_.out HW_.out (by kernel_rfl)) (fun _ _ _ h => h) (Or.inl ⟨by rfl, ?_⟩) hHeld ?_ ?_
      rotate_left
      · rintro w' hS
        have hcz1 := (blk_cell hS 0).trans (show _ = some (Value.string rB) from rfl)
        go_simp
        with_reducible rfl
      rotate_left
      · simp only [Act.put, List.setIfInBounds_toArray, List.set_cons_zero, List.set_cons_succ, i64_w, i32_w]
        rfl
      refine one_ (i := 0) (N := some 30) #[true, true, false, false, false] rfl rfl (one_of HT_.out (by kernel_rfl)) (by decide) (fun K hK => ?_)
      refine goes_ Tryz.func29 (by kernel_rfl) rfl #[.pointer (some ⟨g3, 0, none⟩)] (by rfl) rfl rfl (by (try simp only [List.map_toArray, List.map_cons, List.map_nil]); first | done | rfl) ?_
      refine (bstring_calls w.heap.size g3 (dVState m).1 w6 HV6.out.bd).mono ?_
      rw [← HOB.out]
      rintro e7 w7 ⟨rfl, hb, hk⟩
      refine ⟨_, rfl, ?_⟩
      have HB7 := Aside0.mk (HB6.out.trans hb)
      have HROW7 := Aside0.mk (show w7.heap[g4]? = some (.cells #[.string rB] 9 (0, 0)) from hk g4 _ HROW6.out (by intro e; injection e with e; obtain ⟨p, v, hg, _⟩ := HV6.out.bd.ex; exact absurd e (blk_ne HROW6.out hg (by decide))) (by intro c fz e; injection e with _ e _; exact absurd e (by decide)))
      clear hb hk
      refine hK.out _ _ HROW7.out (fun hHeld => ?_)
      clear hK K
      refine norm_ (a' := ?_) ?_ ?_
      rotate_left
      · show Act.put _ (some 30) _ = _
        simp only [Act.put, List.setIfInBounds_toArray, List.set_cons_zero, List.set_cons_succ, i64_w, i32_w]
        rfl
      refine pure_ (i := 2) (N := some 32) (v := ?_) (a' := ?_) #[true, true, true, false, false] rfl rfl (any_of HT_.out (by kernel_rfl)) (fun _ _ _ h => h) (Or.inl ⟨by rfl, ?_⟩) ?_ ?_
      rotate_left
      · intro w'
        go_simp
        with_reducible rfl
      rotate_left
      · simp only [Act.put, List.setIfInBounds_toArray, List.set_cons_zero, List.set_cons_succ, i64_w, i32_w]
        rfl
      refine pure_ (i := 3) (N := some 33) (v := ?_) (a' := ?_) #[true, true, true, true, false] rfl rfl (any_of HT_.out (by kernel_rfl)) (fun _ _ _ h => h) (Or.inl ⟨by rfl, ?_⟩) ?_ ?_
      rotate_left
      · intro w'
        go_simp
        with_reducible rfl
      rotate_left
      · simp only [Act.put, List.setIfInBounds_toArray, List.set_cons_zero, List.set_cons_succ, i64_w, i32_w]
        rfl
      refine pure_ (i := 4) (N := some 2) (v := ?_) (a' := ?_) #[true, true, true, true, true] rfl rfl (any_of HT_.out (by kernel_rfl)) (fun _ _ _ h => h) (Or.inl ⟨by rfl, ?_⟩) ?_ ?_
      rotate_left
      · intro w'
        go_simp
        with_reducible rfl
      rotate_left
      · simp only [Act.put, List.setIfInBounds_toArray, List.set_cons_zero, List.set_cons_succ, i64_w, i32_w]
        rfl
      refine done_ (done_of HT_.out (by kernel_rfl)) ?_
      go_wp2
      go_ret
      exact ⟨by rw [HOB.out, HRB.out, show (⟨#[10]⟩ : ByteArray) = baOf [10] from rfl, baOf_append, baOf_append]; rfl, HB7.out⟩
end Go.Proofs.YtigloobbpcnnhaaGreatDoor.PB
end
section
namespace Go.Proofs.YtigloobbpcnnhaaGreatDoor.PB
open Go.RowKit Go.Proofs.YtigloobbpcnnhaaGreatDoorW.PrintWords Go.Proofs.YtigloobbpcnnhaaGreatDoorW.PrintLast Go.Proofs.YtigloobbpcnnhaaGreatDoorW.PrintMore
set_option linter.unusedVariables false
set_option linter.unusedSimpArgs false
theorem byteCells_append (a b : List UInt8) : Lib.byteCells (a ++ b) = Lib.byteCells a ++ Lib.byteCells b := by unfold Lib.byteCells; rw [List.map_append]
theorem byteCells_one (l : List UInt8) : ∀ u ∈ Lib.byteCells l, u.oneCell' = true := by
  intro u hu
  obtain ⟨b, _, rfl⟩ := List.mem_map.1 hu
  rfl
theorem strCells_baOf (l : List UInt8) : Lib.strCells (baOf l) = Lib.byteCells l := by
  unfold Lib.strCells Lib.byteCells baOf
  simp
/-- The mark is none, or behind the cells. -/
def Clear (n : Nat) (fz : Nat × Nat) : Prop := fz.2 = 0 ∨ n ≤ fz.1
theorem store_clear (P : Program) (g o : Nat) (t : TypeId) (fz : Nat × Nat) : ∀ (vs : List Value) (i : Nat) (cur : Array Value) (w : World), w.heap[g]? = some (.cells cur t fz) → Clear cur.size fz → o + i + vs.length ≤ cur.size → (∀ v ∈ vs, v.oneCell' = true) →
    (storeCells ⟨g, o, none⟩ vs i).run P w = .ok () (w.setRow g (cur.toList.take (o + i) ++ vs ++ cur.toList.drop (o + i + vs.length)).toArray)
  | [], i, cur, w, hg, _, _, _ => by
    simp only [storeCells, List.append_nil, List.length_nil, Nat.add_zero, List.take_append_drop, Array.toArray_toList]
    rw [setRow_self w g cur t fz hg]
    rfl
  | v :: rest, i, cur, w, hg, hfz, hl, h1 => by
    have hlt : o + i < cur.size := by simp only [List.length_cons] at hl; omega
    have hat : (⟨g, o, none⟩ : Addr).add i = ⟨g, o + i, none⟩ := by unfold Addr.add; split <;> simp_all
    have hfree : w.frozen? ⟨g, o + i, none⟩ = false := by
      obtain ⟨lo, hi⟩ := fz
      unfold Clear at hfz
      simp only at hfz
      simp only [World.frozen?, hg, Bool.and_eq_false_iff, decide_eq_false_iff_not]
      rcases hfz with h | h
      · right; omega
      · left; omega
    have hst : (store ((⟨g, o, none⟩ : Addr).add i) v).run P w = .ok () (w.setRow g (cur.setIfInBounds (o + i) v)) := by
      rw [hat, run_store P w _ v _ (h1 v List.mem_cons_self), show w.cell? ⟨g, o + i, none⟩ = some cur[o + i] by simp [World.cell?, hg, hlt]]
      simp [hfree, setCell_eq_setRow w g (o + i) cur t fz v hg]
    have next := store_clear P g o t fz rest (i + 1) (cur.setIfInBounds (o + i) v) _ (setRow_heap w g cur _ t _ hg) (by rw [Array.size_setIfInBounds]; exact hfz) (by rw [Array.size_setIfInBounds]; simp only [List.length_cons] at hl; omega) (fun x hx => h1 x (List.mem_cons_of_mem _ hx))
    simp only [storeCells, Sem.run_bind, hst, Result.andThen_ok, next, setRow_setRow]
    congr 3
    have e := list_seg_step cur.toList (o + i) v rest (by simp only [List.length_cons] at hl; simp only [Array.length_toList]; omega)
    simpa [Array.toList_setIfInBounds, Nat.add_assoc] using e
/-- A value that owns the bytes l. -/
def EM (w : World) (base : Nat) (v : Value) (l : List UInt8) : Prop :=
  ∃ g cap cur fz, v = .slice (some ⟨g, 0, none⟩) l.length cap ∧ base ≤ g ∧ w.heap[g]? = some (.cells cur 5 fz) ∧ Clear cur.size fz ∧ l.length ≤ cap ∧ cap ≤ maxLen ∧ cur.size = cap ∧ cur.toList.take l.length = Lib.byteCells l
theorem EM.below {w w' : World} {base : Nat} {v : Value} {l : List UInt8} (h : EM w base v l) (hb : Below w.heap.size w w') : EM w' base v l := by
  obtain ⟨g, cap, cur, fz, rfl, h1, h2, h3⟩ := h
  exact ⟨g, cap, cur, fz, rfl, h1, blk_below h2 hb, h3⟩
theorem EM.same {w w' : World} {base : Nat} {v : Value} {l : List UInt8} {g t : Nat} {cs : Array Value} (h : EM w base v l) (hs : SameBut g w w') (hg : w.heap[g]? = some (.cells cs t (0, 0))) (ht : t ≠ 5) : EM w' base v l := by
  obtain ⟨g2, cap, cur, fz, rfl, h1, h2, h3⟩ := h
  refine ⟨g2, cap, cur, fz, rfl, h1, (hs.blk g2 (fun e => ?_)).trans h2, h3⟩
  subst e
  rw [hg] at h2
  injection h2 with h2
  injection h2 with _ h2 _
  exact ht h2
theorem EM.lt {w : World} {base : Nat} {v : Value} {l : List UInt8} (h : EM w base v l) : ∀ k, v.ownBlock = some k → base ≤ k ∧ k < w.heap.size := by
  obtain ⟨g, cap, cur, fz, rfl, h1, h2, _⟩ := h
  intro k hk
  simp only [Value.ownBlock, Option.some.injEq] at hk
  subst hk
  exact ⟨h1, blk_lt h2⟩
theorem EM.slice {w : World} {base : Nat} {v : Value} {l : List UInt8} (h : EM w base v l) : ∃ g c, v = .slice (some ⟨g, 0, none⟩) l.length c ∧ base ≤ g ∧ g < w.heap.size ∧ l.length ≤ c := by
  obtain ⟨g, cap, cur, fz, rfl, h1, h2, _, h4, _⟩ := h
  exact ⟨g, cap, rfl, h1, blk_lt h2, h4⟩
theorem EM.cells {w : World} {base g c : Nat} {l : List UInt8} (h : EM w base (.slice (some ⟨g, 0, none⟩) l.length c) l) : ∀ j u, (Lib.byteCells l)[j]? = some u → w.cell? ((⟨g, 0, none⟩ : Addr).add j) = some u := by
  obtain ⟨g', cap, cur, fz, e, h1, h2, _, h4, _, h5, h6⟩ := h
  injection e with e _ _
  injection e with e
  injection e with e
  subst e
  intro j u hu
  rw [add_plain, cell_of_row w g j cur 5 fz h2]
  rw [← h6, List.getElem?_take] at hu
  split at hu
  · simpa using hu
  · cases hu
theorem EM.C {w : World} {base g c : Nat} {l : List UInt8} (h : EM w base (.slice (some ⟨g, 0, none⟩) l.length c) l) : (Kd.int .u8).C w (some ⟨g, 0, none⟩) l.length (bI l) := by
  have hm : l.length ≤ 9223372036854775807 := by
    obtain ⟨_, cap, _, _, _, _, _, _, h4, h5, _⟩ := h
    simp only [maxLen] at h5
    omega
  refine Kd.C_of_reads (d := (0 : Int)) (h1 := fun _ => rfl) ⟨bI_length l, hm, fun hp => ⟨_, rfl, fun j hj => ?_⟩⟩
  refine h.cells j _ ?_
  unfold Lib.byteCells bI
  rw [List.getElem?_map, List.getElem?_eq_getElem hj, List.getD_eq_getElem?_getD, List.getElem?_map, List.getElem?_eq_getElem hj]
  rfl
theorem em_new (w : World) (base : Nat) (hb : base ≤ w.heap.size) (l r : List UInt8) (old : Nat) (h63 : l.length + r.length ≤ maxLen) :
    EM (w.drew.alloc (.cells ((Lib.byteCells l).toArray ++ (Lib.byteCells r).toArray ++ Builtin.zeroCells (Value.int .u8 0).cells (grownCap w (l.length + r.length) old 5 - (l.length + r.length))) 5)) base (.slice (some ⟨w.heap.size, 0, none⟩) (l.length + r.length) (grownCap w (l.length + r.length) old 5)) (l ++ r) := by
  have hge := grownCap_ge w (l.length + r.length) old 5
  have hcm := grownCap_le_maxLen w (l.length + r.length) old 5 h63
  have hz1 : (Value.int IntKind.u8 0).cells.size = 1 := rfl
  refine ⟨w.heap.size, _, _, (0, 0), by rw [List.length_append], hb, heap_alloc_new w.drew _, .inl rfl, by rw [List.length_append]; exact hge, hcm, ?_, ?_⟩
  · simp only [Array.size_append, List.size_toArray, size_zeroCells, hz1, Lib.byteCells_length]
    omega
  · simp only [Array.toList_append, List.append_assoc]
    rw [← List.append_assoc, byteCells_append, ← Lib.byteCells_length (l ++ r), byteCells_append]
    exact List.take_left
theorem em_run_cells {P : Program} {w : World} {base : Nat} {v : Value} {l : List UInt8} (h : EM w base v l) (t ty : TypeId) (i : TypeInfo) (ht : P.underlying t = some (.slice 5)) (hi : P.info? 5 = some i) (hz : i.zero = some (.int .u8 0)) (hs : i.size = 1) (hby : i.bytes = 1)
    (a : Addr) (c : Nat) (r : List UInt8) (hr : ∀ j u, (Lib.byteCells r)[j]? = some u → w.cell? (a.add j) = some u) (hl : l.length + r.length ≤ 140737488355328) (hb : base ≤ w.heap.size) :
    ∃ v' w', (Builtin.append_ #[t, t] ty #[v, .slice (some a) r.length c]).run P w = .ok v' w' ∧ EM w' base v' (l ++ r) ∧ w.grownBy w' v.ownBlock := by
  have h' := h
  obtain ⟨g, cap, cur, fz, rfl, h1, h2, h3, h4, h5, h6, h7⟩ := h'
  have hm : l.length + r.length ≤ maxLen := by simp only [maxLen]; omega
  have hn : (Lib.byteCells r).length = r.length * i.size := by rw [hs, Nat.mul_one, Lib.byteCells_length]
  by_cases hroom : l.length + r.length ≤ cap
  · have hf := run_firstCells_some (P := P) w i.size r.length a r.length c (Lib.byteCells r) hn hr
    have hst := store_clear P g (l.length * i.size) 5 fz (Lib.byteCells r) 0 cur w h2 h3 (by rw [hs, Lib.byteCells_length]; omega) (byteCells_one r)
    simp only [Nat.add_zero] at hst
    have hrun : (Builtin.append_ #[t, t] ty #[.slice (some ⟨g, 0, none⟩) l.length cap, .slice (some a) r.length c]).run P w = .ok (.slice (some ⟨g, 0, none⟩) (l.length + r.length) cap) (w.setRow g (cur.toList.take (l.length * i.size) ++ Lib.byteCells r ++ cur.toList.drop (l.length * i.size + (Lib.byteCells r).length)).toArray) := by
      simp [Builtin.append_, run_underlying ht, sizeOf, typeInfo, hi, Builtin.lenOf, hroom, hf, Addr.add_lit, hst]
    refine ⟨_, _, hrun, ⟨g, cap, _, fz, by rw [List.length_append], h1, setRow_heap w g cur _ 5 _ h2, ?_, by rw [List.length_append]; exact hroom, h5, ?_, ?_⟩, ⟨rfl, rfl, rfl, by simp, fun k _ hk => setRow_other w g k _ (fun e => hk (by simp [Value.ownBlock, e]))⟩⟩
    · refine h3.imp id (fun h => ?_)
      simp only [List.size_toArray, List.length_append, List.length_take, List.length_drop, Array.length_toList, hs, Nat.mul_one, Lib.byteCells_length]
      omega
    · simp only [List.size_toArray, List.length_append, List.length_take, List.length_drop, Array.length_toList, hs, Nat.mul_one, Lib.byteCells_length]
      omega
    · rw [hs, Nat.mul_one, h7, byteCells_append, ← Lib.byteCells_length (l ++ r), byteCells_append]
      exact List.take_left
  · have hrun := run_append_grow (P := P) w t ty 5 i (.int .u8 0) ht hi hz ⟨g, 0, none⟩ l.length cap (Lib.byteCells l) (by rw [hs, Nat.mul_one, Lib.byteCells_length]) h.cells a r.length c (Lib.byteCells r) hn hr (by omega) (by simp only [maxLen] at hm; omega) (by rw [hby]; exact growslice_fits (by omega) (by omega))
    exact ⟨_, _, hrun, em_new w base hb l r cap hm, ⟨rfl, rfl, rfl, by simp, fun k hk _ => Below.heap_alloc w.drew _ k hk⟩⟩
theorem em_run_string {P : Program} {w : World} {base : Nat} {v : Value} {l : List UInt8} (h : EM w base v l) (t u ty : TypeId) (i : TypeInfo) (ht : P.underlying t = some (.slice 5)) (hu : P.underlying u = some .string) (hi : P.info? 5 = some i) (hz : i.zero = some (.int .u8 0)) (hs : i.size = 1) (hby : i.bytes = 1)
    (r : List UInt8) (hl : l.length + r.length ≤ 140737488355328) (hb : base ≤ w.heap.size) :
    ∃ v' w', (Builtin.append_ #[t, u] ty #[v, .string (baOf r)]).run P w = .ok v' w' ∧ EM w' base v' (l ++ r) ∧ w.grownBy w' v.ownBlock := by
  have h' := h
  obtain ⟨g, cap, cur, fz, rfl, h1, h2, h3, h4, h5, h6, h7⟩ := h'
  have hm : l.length + r.length ≤ maxLen := by simp only [maxLen]; omega
  have hsz : (baOf r).size = r.length := rfl
  by_cases hroom : l.length + r.length ≤ cap
  · have hf := Lib.run_firstCells_string (P := P) w 1 (baOf r)
    rw [strCells_baOf, hsz] at hf
    have hst := store_clear P g l.length 5 fz (Lib.byteCells r) 0 cur w h2 h3 (by rw [Lib.byteCells_length]; omega) (byteCells_one r)
    simp only [Nat.add_zero] at hst
    have hrun : (Builtin.append_ #[t, u] ty #[.slice (some ⟨g, 0, none⟩) l.length cap, .string (baOf r)]).run P w = .ok (.slice (some ⟨g, 0, none⟩) (l.length + r.length) cap) (w.setRow g (cur.toList.take l.length ++ Lib.byteCells r ++ cur.toList.drop (l.length + (Lib.byteCells r).length)).toArray) := by
      simp [Builtin.append_, run_underlying ht, run_underlying hu, sizeOf, typeInfo, hi, hs, Builtin.lenOf, hsz, hroom, hf, Addr.add_lit, hst]
    refine ⟨_, _, hrun, ⟨g, cap, _, fz, by rw [List.length_append], h1, setRow_heap w g cur _ 5 _ h2, ?_, by rw [List.length_append]; exact hroom, h5, ?_, ?_⟩, ⟨rfl, rfl, rfl, by simp, fun k _ hk => setRow_other w g k _ (fun e => hk (by simp [Value.ownBlock, e]))⟩⟩
    · refine h3.imp id (fun h => ?_)
      simp only [List.size_toArray, List.length_append, List.length_take, List.length_drop, Array.length_toList, Lib.byteCells_length]
      omega
    · simp only [List.size_toArray, List.length_append, List.length_take, List.length_drop, Array.length_toList, Lib.byteCells_length]
      omega
    · rw [h7, byteCells_append, ← Lib.byteCells_length (l ++ r), byteCells_append]
      exact List.take_left
  · have hrun := Lib.run_append_grow_string (P := P) w t u ty 5 i (.int .u8 0) ht hu hi hz ⟨g, 0, none⟩ l.length cap (Lib.byteCells l) (by rw [hs, Nat.mul_one, Lib.byteCells_length]) h.cells (baOf r) (by rw [hsz]; omega) (by simp only [maxLen] at hm; rw [hsz]; omega) (by rw [hby, hsz]; exact growslice_fits (by omega) (by omega))
    rw [strCells_baOf, hsz] at hrun
    exact ⟨_, _, hrun, em_new w base hb l r cap hm, ⟨rfl, rfl, rfl, by simp, fun k hk _ => Below.heap_alloc w.drew _ k hk⟩⟩
section
variable {P : Program} {ops : Array Oper} {rest : List Oper} {o : Oper} {a : Act} {Q : Exit → Act → World → Prop}
theorem em_cells {w : World} (hgd : o.guard = none) (s x : Operand) (t : TypeId) (ho : o.op = .call { callee := .builtin .append, args := #[s, x], argTypes := #[t, t] })
    (ht : P.underlying t = some (.slice 5)) (hinfo : (P.info? 5).map (fun i => (i.zero, i.size, i.bytes)) = some (some (.int .u8 0), 1, 1)) {base : Nat} {v : Value} {l : List UInt8} (hs : a.eval s = v) (h : EM w base v l)
    (ad : Addr) (c : Nat) (r : List UInt8) (hx : a.eval x = .slice (some ad) r.length c) (hr : ∀ j u, (Lib.byteCells r)[j]? = some u → w.cell? (ad.add j) = some u) (hl : l.length + r.length ≤ 140737488355328) (hb : base ≤ w.heap.size)
    (hk : ∀ v' w', EM w' base v' (l ++ r) → Below base w w' → w.grownBy w' v.ownBlock → wpList P ops Q rest (a.put o.dst v') w') : wpList P ops Q (o :: rest) a w := by
  obtain ⟨i, hi, hzz⟩ := Option.map_eq_some_iff.1 hinfo
  simp only [Prod.mk.injEq] at hzz
  obtain ⟨hz0, hz1, hz2⟩ := hzz
  obtain ⟨v', w', hrun, h1, h2⟩ := em_run_cells (P := P) h t o.type i ht hi hz0 hz1 hz2 ad c r hr hl hb
  refine wpList_plain hgd fun K hK => ?_
  unfold Oper.wp execOp
  simp only [ho, resolve, invoke, builtin, Sem.run_bind, Sem.run_pure, Result.andThen_ok, List.map_toArray, List.map_cons, List.map_nil, hs, hx, hrun]
  exact hK _ _ (hk v' w' h1 ((Below.refl base w).grown h2 hb (fun k hk => (h.lt k hk).1)) h2)
theorem em_string {w : World} (hgd : o.guard = none) (s x : Operand) (t u : TypeId) (ho : o.op = .call { callee := .builtin .append, args := #[s, x], argTypes := #[t, u] })
    (ht : P.underlying t = some (.slice 5)) (hu : P.underlying u = some .string) (hinfo : (P.info? 5).map (fun i => (i.zero, i.size, i.bytes)) = some (some (.int .u8 0), 1, 1)) {base : Nat} {v : Value} {l : List UInt8} (hs : a.eval s = v) (h : EM w base v l)
    (r : List UInt8) (hx : a.eval x = .string (baOf r)) (hl : l.length + r.length ≤ 140737488355328) (hb : base ≤ w.heap.size)
    (hk : ∀ v' w', EM w' base v' (l ++ r) → Below base w w' → w.grownBy w' v.ownBlock → wpList P ops Q rest (a.put o.dst v') w') : wpList P ops Q (o :: rest) a w := by
  obtain ⟨i, hi, hzz⟩ := Option.map_eq_some_iff.1 hinfo
  simp only [Prod.mk.injEq] at hzz
  obtain ⟨hz0, hz1, hz2⟩ := hzz
  obtain ⟨v', w', hrun, h1, h2⟩ := em_run_string (P := P) h t u o.type i ht hu hi hz0 hz1 hz2 r hl hb
  refine wpList_plain hgd fun K hK => ?_
  unfold Oper.wp execOp
  simp only [ho, resolve, invoke, builtin, Sem.run_bind, Sem.run_pure, Result.andThen_ok, List.map_toArray, List.map_cons, List.map_nil, hs, hx, hrun]
  exact hK _ _ (hk v' w' h1 ((Below.refl base w).grown h2 hb (fun k hk => (h.lt k hk).1)) h2)
end
/-- []byte(s): such a row. -/
theorem em_bytes (w : World) (l : List UInt8) (hl : l.length ≤ 9223372036854775807) : EM (Lib.bytesWorld w 5 (baOf l)) w.heap.size (.slice (some ⟨w.heap.size, 0, none⟩) l.length (grownCap w l.length 0 5)) l := by
  have hm : l.length ≤ maxLen := by simp only [maxLen]; omega
  have hge := grownCap_ge w l.length 0 5
  have hcm := grownCap_le_maxLen w l.length 0 5 hm
  have hsz : (baOf l).size = l.length := rfl
  have hcs : (Lib.bytesCells w 5 (baOf l)).size = grownCap w l.length 0 5 := by
    unfold Lib.bytesCells
    rw [hsz]
    simp only [Array.size_append, Array.size_map, Array.size_replicate]
    show (baOf l).size + _ = _
    rw [hsz]
    omega
  refine ⟨w.heap.size, _, _, _, rfl, Nat.le_refl _, Lib.bytesWorld_at_new w 5 (baOf l), .inr (Nat.le_refl _), hge, hcm, hcs, ?_⟩
  unfold Lib.bytesCells Lib.byteCells
  rw [Array.toList_append, Array.toList_map, List.take_left' (by rw [List.length_map]; rfl)]
  rfl
end Go.Proofs.YtigloobbpcnnhaaGreatDoor.PB
end
section
namespace Go.Proofs.YtigloobbpcnnhaaGreatDoor.PB
open Go.RowKit Go.Sort Go.Lib Go.Proofs.YtigloobbpcnnhaaGreatDoorW.PrintWords Go.Proofs.YtigloobbpcnnhaaGreatDoorW.PrintLast Go.Proofs.YtigloobbpcnnhaaGreatDoorW.PrintMore
set_option linter.unusedVariables false
set_option linter.unusedSimpArgs false
theorem small_calls (u : Nat) (hu : u < 100) (w : World) : Calls Tryz.prog 85 #[.int .i64 (u : Int)] w fun e w' => e = .returned (.string (baOf (Lib.decDigits u))) ∧ w' = w :=
  Any.internal_strconv_small (ρ := Tryz.laysM176_ren) { Tryz.laysM176 with } u hu w
theorem ndig_calls (u : Nat) (h1 : 1 ≤ u) (h2 : u < 18446744073709551616) (w : World) (hlt : LF w) : Calls Tryz.prog 86 #[.int .u64 (u : Int)] w fun e w' => e = .returned (.int .i64 (Lib.nDigits u : Int)) ∧ w' = w :=
  Any.internal_strconv_numDigits (ρ := Tryz.laysM176_ren) { Tryz.laysM176 with } u h1 h2 w hlt.tab
/-- The digits laid: a new world, all that was there as it was, the digits at the array's beginning. -/
theorem fmt_calls (u : Nat) (h1 : 1 ≤ u) (hu64 : u < 18446744073709551616) (w : World) :
    Calls Tryz.prog 87 #[.slice (some ⟨w.heap.size, 0, none⟩) (Lib.nDigits u) 24, .int .u64 (u : Int)] (w.alloc (.cells Lib.zeros24 125)) fun e w' => e = .returned (.tuple #[]) ∧ Below w.heap.size w w' ∧ w.heap.size < w'.heap.size ∧ ∀ j x, (Lib.byteCells (Lib.decDigits u))[j]? = some x → w'.cell? ((⟨w.heap.size, 0, none⟩ : Addr).add j) = some x := by
  have hnd : Lib.nDigits u ≤ 20 := by have := Lib.numDigits_eq u h1 hu64; split at this <;> omega
  have hH := Lib.holds_zero0 w 125 (Lib.nDigits u) (by omega)
  have hf := Any.internal_strconv_formatBase10 (ρ := Tryz.laysM176_ren) { Tryz.laysM176 with } w.heap.size 0 24 u (Array.replicate (Lib.nDigits u) 0) (w.alloc (.cells Lib.zeros24 125)) hH (by rw [Array.size_replicate]; exact Lib.lt_pow_nDigits u) hu64 (by rw [Array.size_replicate]; omega)
  rw [Array.size_replicate] at hf
  refine Calls.mono hf ?_
  rintro e w' ⟨rfl, k, v', dk, rfl, hF⟩
  obtain ⟨os, eo⟩ := Lib.fin_at w (.cells Lib.zeros24 125) dk k 0
  refine ⟨rfl, by rw [eo]; exact Lib.below_grow w.heap.size w (Nat.le_refl _) k os, ?_, ?_⟩
  · have hnp := Lib.nDigits_pos u
    have hc := cell?_putRow (fun (b : UInt8) => Value.int .u8 (b.toNat : Int)) (w.alloc (.cells Lib.zeros24 125)) w.heap.size 0 _ dk hH (by rw [hF.size, Array.size_replicate]) 0 (by rw [hF.size]; omega)
    have := World.block_lt_of_cell? _ _ hc
    exact this
  · intro j x hj
    have hjl : j < (Lib.decDigits u).length := by
      have h5 := (List.getElem?_eq_some_iff.1 hj).1
      rwa [Lib.byteCells_length] at h5
    have e5 : (Lib.byteCells (Lib.decDigits u))[j]? = some (Value.int .u8 ((Lib.decDigits u)[j].toNat : Int)) := by simp [Lib.byteCells, hjl]
    rw [e5] at hj
    cases hj
    rw [Lib.row_is_numeral hF j hjl, Lib.add_plain, World.cell?_drewN]
    exact cell?_putRow (fun (b : UInt8) => Value.int .u8 (b.toNat : Int)) _ w.heap.size 0 _ dk hH (by rw [hF.size, Array.size_replicate]) j (by rw [hF.size]; rw [Lib.decDigits_length] at hjl; exact hjl)
set_option maxHeartbeats 1000000 in
set_option maxRecDepth 100000 in
theorem appendU_calls (base : Nat) (v : Value) (l : List UInt8) (u : Nat) (hu64 : u < 18446744073709551616) (w : World) (h : EM w base v l) (hb : base ≤ w.heap.size) (hl : l.length + 30 ≤ 140737488355328) (hlt : LT base w) :
    Calls Tryz.prog 84 #[v, .int .u64 (u : Int), .int .i64 10] w fun e w' => ∃ v', e = .returned v' ∧ EM w' base v' (l ++ Lib.decDigits u) ∧ Below base w w' := by
  have H := Aside0.mk h
  have HB := Aside0.mk hb
  have HLT := Aside0.mk hlt
  by_cases hu : u < 100
  · have hn : (Lib.decDigits u).length ≤ 20 := by
      rw [Lib.decDigits_length]
      by_cases h10 : u < 10
      · rw [Lib.nDigits_small h10]; omega
      · rw [Lib.nDigits_big h10, Lib.nDigits_small (show u / 10 < 10 by omega)]; omega
    have t1 : decide ((u : Int) < 100) = true := decide_eq_true (by omega)
    have hu0 : (0 : Int) ≤ (u : Int) := Int.natCast_nonneg _
    have hu1 : (u : Int) < 100 := by omega
    clear h hlt hb
    go_enter Tryz.func84, Tryz.ntmps84
    go_wp2_with (first | (go_at_call 85; refine (small_calls u hu w).mono ?_; rintro e w2 ⟨rfl, hw⟩; obtain rfl : w = w2 := hw.symm; clear hw) | ((with_reducible refine gate_builtin (b := .append) (xs := #[.tmp 13, .tmp 16]) rfl ?_); refine em_string rfl (.tmp 13) (.tmp 16) 46 9 rfl Tryz.underlying46 Tryz.underlying9 info5 rfl H.out (Lib.decDigits u) rfl (by omega) HB.out ?_; intro v2 w2 he hbw hg; have HE := Aside0.mk he; have HBW := Aside0.mk hbw; clear he hbw hg))
    go_ret
    exact ⟨v2, rfl, HE.out, HBW.out⟩
  · have hu1 : 1 ≤ u := by omega
    have t1 : decide ((u : Int) < 100) = false := decide_eq_false (by omega)
    have hu0 : (0 : Int) ≤ (u : Int) := Int.natCast_nonneg _
    have hu2 : (100 : Int) ≤ (u : Int) := by omega
    have hnd : Lib.nDigits u ≤ 20 := by have := Lib.numDigits_eq u hu1 hu64; split at this <;> omega
    have hlen : (Lib.decDigits u).length = Lib.nDigits u := Lib.decDigits_length u
    have hal : Tryz.prog.arrayLen 125 = 24 := by kernel_rfl
    have hsl : ∀ W, (Instr.sliceAt 125 (.pointer (some ⟨w.heap.size, 0, none⟩)) none (some (.int .i64 (Lib.nDigits u : Int))) none).run Tryz.prog W = .ok (.slice (some ⟨w.heap.size, 0, none⟩) (Lib.nDigits u) 24) W := fun W => by
      rw [run_sliceAt_array_h W 125 ⟨w.heap.size, 0, none⟩ (by kernel_rfl) .i64 (Lib.nDigits u : Int) (by omega) (by rw [hal]; omega)]
      rw [hal]
      go_simp
    have HU64 := Aside0.mk hu64
    have HLEN := Aside0.mk hlen
    clear h hlt hb hal hlen hu64
    go_enter Tryz.func84, Tryz.ntmps84
    go_wp2_with (first | (go_at_call 86; refine (ndig_calls u hu1 HU64.out _ ((HLT.out.on ((Below.refl base w).alloc HB.out _)).here)).mono ?_; rintro e w2 ⟨rfl, hw⟩; subst hw) | (go_at_call 87; refine (fmt_calls u hu1 HU64.out w).mono ?_; rintro e w3 ⟨rfl, hbw, hsz, hcs⟩; have HB3 := Aside0.mk hbw; have HS3 := Aside0.mk (Nat.le_trans HB.out hbw.size); have HC3 := Aside0.mk hcs; have HE3 := Aside0.mk (H.out.below hbw); clear hbw hsz hcs) | ((with_reducible refine gate_builtin (b := .append) (xs := #[.tmp 24, .tmp 26]) rfl ?_); refine em_cells rfl (.tmp 24) (.tmp 26) 46 rfl Tryz.underlying46 info5 rfl HE3.out ⟨w.heap.size, 0, none⟩ 24 (Lib.decDigits u) (by rw [HLEN.out]; rfl) HC3.out (by rw [HLEN.out]; omega) HS3.out ?_; intro v4 w4 he hbw hg; have HE4 := Aside0.mk he; have HB4 := Aside0.mk hbw; clear he hbw hg))
    go_ret
    exact ⟨v4, rfl, HE4.out, (HB3.out.mono HB.out).trans HB4.out⟩
set_option maxHeartbeats 1000000 in
set_option maxRecDepth 100000 in
theorem appendI0_calls (base : Nat) (v : Value) (l : List UInt8) (n : Int) (h0 : -9223372036854775808 < n) (h1 : n ≤ 9223372036854775807) (w : World) (h : EM w base v l) (hb : base ≤ w.heap.size) (hl : l.length + 31 ≤ 140737488355328) (hlt : LT base w) :
    Calls Tryz.prog 62 #[v, .int .i64 n, .int .i64 10] w fun e w' => ∃ v', e = .returned v' ∧ EM w' base v' (l ++ Lib.itoa n) ∧ Below base w w' := by
  have H := Aside0.mk h
  have HB := Aside0.mk hb
  have HLT := Aside0.mk hlt
  by_cases hneg : n < 0
  · obtain ⟨u, rfl⟩ : ∃ u : Nat, n = -(u : Int) := ⟨n.natAbs, by omega⟩
    have hu1 : 1 ≤ u := by omega
    have hu64 : u < 18446744073709551616 := by omega
    have hwr : IntKind.u64.wrap (-IntKind.u64.wrap (-(u : Int))) = (u : Int) := by rw [IntKind.wrap_u64, IntKind.wrap_u64]; omega
    have hi := Aside0.mk (Lib.itoa_neg u hu1)
    have t1 : decide (-(u : Int) < 0) = true := decide_eq_true (by omega)
    have HU := Aside0.mk hu64
    clear h hb hlt hu64
    go_enter Tryz.func62, Tryz.ntmps62
    go_wp2_with (first | ((with_reducible refine gate_builtin (b := .append) (xs := #[.tmp 12, .tmp 13]) rfl ?_); refine em_cells rfl (.tmp 12) (.tmp 13) 46 rfl Tryz.underlying46 info5 rfl (EM.below H.out (below_alloc (Below.refl _ w) (.cells #[.int .u8 45] 5))) ⟨w.heap.size, 0, none⟩ 1 [45] rfl ?hr ?hl2 ?hb2 ?_; (case hr => intro j x hj; match j, hj with | 0, hj => exact (blk_cell (blk_new w (.cells #[.int .u8 45] 5 (0, 0))) 0).trans hj); (case hl2 => show l.length + 1 ≤ _; omega); (case hb2 => exact Nat.le_trans HB.out (below_alloc (Below.refl _ w) (.cells #[.int .u8 45] 5)).size); intro v2 w2 he hbw hg; have HE := Aside0.mk he; have HBW := Aside0.mk (((Below.refl base w).alloc HB.out _).trans hbw); have HS2 := Aside0.mk (Nat.le_trans HB.out (((Below.refl base w).alloc HB.out (.cells #[.int .u8 45] 5)).trans hbw).size); clear he hbw hg) | (go_at_call 84; refine (appendU_calls base v2 (l ++ [45]) u HU.out w2 HE.out HS2.out (by rw [List.length_append]; show l.length + 1 + 30 ≤ _; omega) (HLT.out.on HBW.out)).mono ?_; rintro e w3 ⟨v3, rfl, he, hbw⟩; have HE3 := Aside0.mk he; have HB3 := Aside0.mk hbw; clear he hbw))
    go_ret
    refine ⟨v3, rfl, ?_, HBW.out.trans HB3.out⟩
    rw [hi.out]
    have := HE3.out
    rw [List.append_assoc] at this
    exact this
  · obtain ⟨u, rfl⟩ : ∃ u : Nat, n = (u : Int) := ⟨n.toNat, by omega⟩
    have hu64 : u < 18446744073709551616 := by omega
    have hi := Aside0.mk (Lib.itoa_nonneg u)
    have t1 : decide ((u : Int) < 0) = false := decide_eq_false (by omega)
    have hu0 : (0 : Int) ≤ (u : Int) := Int.natCast_nonneg _
    have HU := Aside0.mk hu64
    clear h hb hlt hu64
    go_enter Tryz.func62, Tryz.ntmps62
    go_wp2_with (go_at_call 84; refine (appendU_calls base v l u HU.out w H.out HB.out (by omega) HLT.out).mono ?_; rintro e w3 ⟨v3, rfl, he, hbw⟩; have HE3 := Aside0.mk he; have HB3 := Aside0.mk hbw; clear he hbw)
    go_ret
    exact ⟨v3, rfl, by rw [hi.out]; exact HE3.out, HB3.out⟩
theorem appendI_calls (base : Nat) (v : Value) (l : List UInt8) (n : Int) (h0 : -9223372036854775808 < n) (h1 : n ≤ 9223372036854775807) (w : World) (h : EM w base v l) (hb : base ≤ w.heap.size) (hl : l.length + 31 ≤ 140737488355328) (hlt : LT base w) :
    Calls Tryz.prog 43 #[v, .int .i64 n, .int .i64 10] w fun e w' => ∃ v', e = .returned v' ∧ EM w' base v' (l ++ Lib.itoa n) ∧ Below base w w' := by
  have H := Aside0.mk (appendI0_calls base v l n h0 h1 w h hb hl hlt)
  clear h hb hl hlt
  go_enter Tryz.func43, Tryz.ntmps43
  go_wp2_with (go_at_call 62; refine H.out.mono ?_; rintro e w3 ⟨v3, rfl, he, hbw⟩; have HE3 := Aside0.mk he; have HB3 := Aside0.mk hbw; clear he hbw)
  go_ret
  exact ⟨v3, rfl, HE3.out, HB3.out⟩
end Go.Proofs.YtigloobbpcnnhaaGreatDoor.PB
end
section
namespace Go.Proofs.YtigloobbpcnnhaaGreatDoor.PB
open Go.RowKit Go.Proofs.YtigloobbpcnnhaaGreatDoorW.PrintWords Go.Proofs.YtigloobbpcnnhaaGreatDoorW.PrintLast Go.Proofs.YtigloobbpcnnhaaGreatDoorW.PrintMore
attribute [local go_sem] max2_int min2_int max_two min_two max_three min_three max_four min_four   -- for this text's walks alone
set_option linter.unusedVariables false
set_option linter.unusedSimpArgs false
def cnf_lit_variable.f (a0 : Int) : Option (Int) := if a0 < 0 then (some (wrap64 (-(wrap64 (a0))))) else (some (wrap64 (a0)))
set_option maxHeartbeats 8000000 in
set_option maxRecDepth 100000 in
theorem cnf_lit_variable.calls (a0 : Int) (r : Int) (w : World) (h : cnf_lit_variable.f a0 = some r) :
    Calls Tryz.prog 63 #[.int .i32 a0] w fun e w' => e = .returned (.int .i64 r) ∧ Drawn0 w w' := by
  have H : (if a0 < 0 then (some (wrap64 (-(wrap64 (a0))))) else (some (wrap64 (a0)))) = some r := h
  clear h
  by_cases c2 : a0 < 0
  · rw [if_pos c2] at H
    have c2b0 : decide (a0 < 0) = true := decide_eq_true c2
    clear c2
    obtain rfl := Option.some.inj H
    go_enter Tryz.func63, Tryz.ntmps63
    go_wp2
    go_ret
    exact ⟨by first | rfl | (simp; done) | (simp [*]; done), by repeat (first | exact Drawn0.refl _ | apply Drawn0.step)⟩
  · rw [if_neg c2] at H
    have c2b0 : decide (a0 < 0) = false := decide_eq_false c2
    clear c2
    obtain rfl := Option.some.inj H
    go_enter Tryz.func63, Tryz.ntmps63
    go_wp2
    go_ret
    exact ⟨by first | rfl | (simp; done) | (simp [*]; done), by repeat (first | exact Drawn0.refl _ | apply Drawn0.step)⟩
end Go.Proofs.YtigloobbpcnnhaaGreatDoor.PB
end
section
namespace Go.Proofs.YtigloobbpcnnhaaGreatDoor.PB
open Go.RowKit Go.Proofs.YtigloobbpcnnhaaGreatDoorW.PrintWords Go.Proofs.YtigloobbpcnnhaaGreatDoorW.PrintLast Go.Proofs.YtigloobbpcnnhaaGreatDoorW.PrintMore
attribute [local go_sem] max2_int min2_int max_two min_two max_three min_three max_four min_four   -- for this text's walks alone
set_option linter.unusedVariables false
set_option linter.unusedSimpArgs false
def cnf_Var.f (a0 : Int) : Option (Int) := (cnf_lit_variable.f a0).bind fun t170 => (some t170)
set_option maxHeartbeats 8000000 in
set_option maxRecDepth 100000 in
theorem cnf_Var.calls (a0 : Int) (r : Int) (w : World) (h : cnf_Var.f a0 = some r) :
    Calls Tryz.prog 46 #[.int .i32 a0] w fun e w' => e = .returned (.int .i64 r) ∧ Drawn0 w w' := by
  have H : ((cnf_lit_variable.f a0).bind fun t170 => (some t170)) = some r := h
  clear h
  replace H := Option.bind_eq_some_iff.mp H
  obtain ⟨t170, A20, H⟩ := H
  replace H : (some t170) = some r := H
  have A2 := Aside0.mk A20
  clear A20
  obtain rfl := Option.some.inj H
  go_enter Tryz.func46, Tryz.ntmps46
  go_wp2_with (first | ((with_reducible refine gate_callee (f := 63) rfl ?_); refine goesL_ (some 4) rfl rfl Tryz.func63 (by kernel_rfl) rfl #[.int .i32 a0] rfl (by (try simp only [List.map_toArray, List.map_cons, List.map_nil]); first | done | rfl | (simp only [List.length_drop, List.length_take]; rfl)) ?_; (with_reducible refine (cnf_lit_variable.calls a0 t170 _ A2.out).mono ?_); rintro e w' ⟨rfl, ⟨nd, rfl⟩⟩; refine ⟨_, rfl, ?_⟩))
  go_ret
  exact ⟨by first | rfl | (simp; done) | (simp [*]; done), by repeat (first | exact Drawn0.refl _ | apply Drawn0.step)⟩
end Go.Proofs.YtigloobbpcnnhaaGreatDoor.PB
end
section
namespace Go.Proofs.YtigloobbpcnnhaaGreatDoor.PB
open Go.RowKit Go.Proofs.YtigloobbpcnnhaaGreatDoorW.PrintWords Go.Proofs.YtigloobbpcnnhaaGreatDoorW.PrintLast Go.Proofs.YtigloobbpcnnhaaGreatDoorW.PrintMore
attribute [local go_sem] max2_int min2_int max_two min_two max_three min_three max_four min_four   -- for this text's walks alone
set_option linter.unusedVariables false
set_option linter.unusedSimpArgs false
mutual
def cnf_Right.j0 : Nat → Bool → Int → List (List Int) → Option (Int)
  | 0, _, _, _ => none
  | k + 1, x8, x172000, x172001 => if x8 = true then (some 2) else (if (x172001.length : Int) > 1048576 then (some 3) else (cnf_Right.l0 k 16777216 x172001 (x172001.length : Int) 0 x172000 x172001))
def cnf_Right.l0 : Nat → Int → List (List Int) → Int → Int → Int → List (List Int) → Option (Int)
  | 0, _, _, _, _, _, _ => none
  | k + 1, x3, x21, x22, x23, x172000, x172001 => if x23 < x22 then (if 0 ≤ x23 then (if x23 < (x21.length : Int) then (cnf_Right.l1 k x3 x21 x22 x23 (rd_L6 x21 x23) ((rd_L6 x21 x23).length : Int) 0 x172000 x172001) else (none)) else (none)) else (some 0)
def cnf_Right.l1 : Nat → Int → List (List Int) → Int → Int → List Int → Int → Int → Int → List (List Int) → Option (Int)
  | 0, _, _, _, _, _, _, _, _, _ => none
  | k + 1, x3, x21, x22, x23, x27, x28, x29, x172000, x172001 => if x29 < x28 then (if 0 ≤ x29 then (if x29 < (x27.length : Int) then (if x3 = 0 then (some 3) else (if (rd x27 x29) = 0 then (some 4) else ((cnf_Var.f (rd x27 x29)).bind fun t174 => (if t174 > x172000 then (some 4) else (cnf_Right.l1 k (wrap64 (x3 - 1)) x21 x22 x23 x27 x28 (wrap64 (x29 + 1)) x172000 x172001))))) else (none)) else (none)) else (cnf_Right.l0 k x3 x21 x22 (wrap64 (x23 + 1)) x172000 x172001)
end
def cnf_Right.f (k : Nat) (a0_0 : Int) (l0_1 : List (List Int)) : Option (Int) := if a0_0 < 0 then (cnf_Right.j0 k (decide (a0_0 < 0)) a0_0 l0_1) else (cnf_Right.j0 k (decide (a0_0 > 1048576)) a0_0 l0_1)
theorem cnf_Right.mono_l : ∀ k, (∀ y0 y1 y2, LeO (cnf_Right.j0 k y0 y1 y2) (cnf_Right.j0 (k + 1) y0 y1 y2)) ∧ (∀ y0 y1 y2 y3 y4 y5, LeO (cnf_Right.l0 k y0 y1 y2 y3 y4 y5) (cnf_Right.l0 (k + 1) y0 y1 y2 y3 y4 y5)) ∧ (∀ y0 y1 y2 y3 y4 y5 y6 y7 y8, LeO (cnf_Right.l1 k y0 y1 y2 y3 y4 y5 y6 y7 y8) (cnf_Right.l1 (k + 1) y0 y1 y2 y3 y4 y5 y6 y7 y8))
  | 0 => ⟨fun _ _ _ r h => by simp [cnf_Right.j0] at h, fun _ _ _ _ _ _ r h => by simp [cnf_Right.l0] at h, fun _ _ _ _ _ _ _ _ _ r h => by simp [cnf_Right.l1] at h⟩
  | k + 1 => by
    obtain ⟨ih0, ih1, ih2⟩ := cnf_Right.mono_l k
    refine ⟨?_, ?_, ?_⟩
    · intro y0 y1 y2
      unfold cnf_Right.j0
      repeat' first
      | (with_reducible exact ih0 _ _ _)
      | (with_reducible exact ih1 _ _ _ _ _ _)
      | (with_reducible exact ih2 _ _ _ _ _ _ _ _ _)
      | (with_reducible exact LeO.refl _)
      | (with_reducible exact LeO.none _)
      | (with_reducible refine LeO.ite ?_ ?_)
      | (with_reducible refine LeO.bind ?_ (fun _ => ?_))
      | exact ih0 _ _ _
      | exact ih1 _ _ _ _ _ _
      | exact ih2 _ _ _ _ _ _ _ _ _
      | exact LeO.none _
      | refine LeO.ite ?_ ?_
      | refine LeO.bind ?_ (fun _ => ?_)
    · intro y0 y1 y2 y3 y4 y5
      unfold cnf_Right.l0
      repeat' first
      | (with_reducible exact ih0 _ _ _)
      | (with_reducible exact ih1 _ _ _ _ _ _)
      | (with_reducible exact ih2 _ _ _ _ _ _ _ _ _)
      | (with_reducible exact LeO.refl _)
      | (with_reducible exact LeO.none _)
      | (with_reducible refine LeO.ite ?_ ?_)
      | (with_reducible refine LeO.bind ?_ (fun _ => ?_))
      | exact ih0 _ _ _
      | exact ih1 _ _ _ _ _ _
      | exact ih2 _ _ _ _ _ _ _ _ _
      | exact LeO.none _
      | refine LeO.ite ?_ ?_
      | refine LeO.bind ?_ (fun _ => ?_)
    · intro y0 y1 y2 y3 y4 y5 y6 y7 y8
      unfold cnf_Right.l1
      repeat' first
      | (with_reducible exact ih0 _ _ _)
      | (with_reducible exact ih1 _ _ _ _ _ _)
      | (with_reducible exact ih2 _ _ _ _ _ _ _ _ _)
      | (with_reducible exact LeO.refl _)
      | (with_reducible exact LeO.none _)
      | (with_reducible refine LeO.ite ?_ ?_)
      | (with_reducible refine LeO.bind ?_ (fun _ => ?_))
      | exact ih0 _ _ _
      | exact ih1 _ _ _ _ _ _
      | exact ih2 _ _ _ _ _ _ _ _ _
      | exact LeO.none _
      | refine LeO.ite ?_ ?_
      | refine LeO.bind ?_ (fun _ => ?_)
theorem cnf_Right.mono : ∀ a0 a1 k, LeO (cnf_Right.f k a0 a1) (cnf_Right.f (k + 1) a0 a1) := by
  intro a0 a1 k
  obtain ⟨ih0, ih1, ih2⟩ := cnf_Right.mono_l k
  unfold cnf_Right.f
  repeat' first
      | (with_reducible exact ih0 _ _ _)
      | (with_reducible exact ih1 _ _ _ _ _ _)
      | (with_reducible exact ih2 _ _ _ _ _ _ _ _ _)
      | (with_reducible exact LeO.refl _)
      | (with_reducible exact LeO.none _)
      | (with_reducible refine LeO.ite ?_ ?_)
      | (with_reducible refine LeO.bind ?_ (fun _ => ?_))
      | exact ih0 _ _ _
      | exact ih1 _ _ _ _ _ _
      | exact ih2 _ _ _ _ _ _ _ _ _
      | exact LeO.none _
      | refine LeO.ite ?_ ?_
      | refine LeO.bind ?_ (fun _ => ?_)
set_option maxHeartbeats 8000000 in
set_option maxRecDepth 100000 in
theorem cnf_Right.calls (k : Nat) (a0_0 : Int) (A0_1 : Option Addr) (c0_1 : Nat) (l0_1 : List (List Int)) (r : Int) (w : World) (hr0_1 : Kd.C (Kd.slice 40 (Kd.int .i32)) w A0_1 l0_1.length l0_1) (hc0_1 : l0_1.length ≤ c0_1) (h : cnf_Right.f k a0_0 l0_1 = some r) :
    Calls Tryz.prog 25 #[.agg #[.int .i64 a0_0, .slice A0_1 l0_1.length c0_1]] w fun e w' => e = .returned (.int .i64 r) ∧ Below w.heap.size w w' := by
  have hu25 := Tryz.underlying35
  have HR0_1 := Aside0.mk hr0_1
  have HC0_1 := Aside0.mk hc0_1
  clear hr0_1 hc0_1
  have HB := Aside0.mk (Below.refl w.heap.size w)
  have H : (if a0_0 < 0 then (cnf_Right.j0 k (decide (a0_0 < 0)) a0_0 l0_1) else (cnf_Right.j0 k (decide (a0_0 > 1048576)) a0_0 l0_1)) = some r := h
  clear h
  have HC2 := Aside0.mk H
  clear H
  go_enter Tryz.func25, Tryz.ntmps25
  go_upto_if 8 with (first | ((with_reducible refine gate_dst (N := 1) rfl ?_); refine box_event ?hg (N := 1) ?hd (cs := #[.int .i64 a0_0, .slice A0_1 l0_1.length c0_1]) (t := 35) ?hr ?_; (case hd => rfl); (case hg => rfl); (case hr => first | (go_simp; done) | (go_simp; rfl)); intro gb171 hg w3 hbox hb; have n0_ := Aside0.mk (below_step (by repeat (first | (with_reducible first | exact HB.out | apply below_alloc | apply pw_below_drewN | apply below_drew1) | exact HB.out)) hb); have n1_ := Aside0.mk (hbox); have n2_ := Aside0.mk ((by rw [hg]; exact (below_size (by repeat (first | (with_reducible first | exact HB.out | apply below_alloc | apply pw_below_drewN | apply below_drew1) | exact HB.out))) : w.heap.size ≤ gb171)); have n3_ := Aside0.mk ((by rw [hg]; exact (below_size (by repeat (first | (with_reducible first | exact HB.out | apply below_alloc | apply pw_below_drewN | apply below_drew1) | exact HB.out))) : w.heap.size ≤ gb171)); clear HB; have HB := n0_; have BK171 := n1_; have GW171 := n2_; have GE171 := n3_; clear n0_ n1_ n2_ n3_; clear hb hbox hg; have hcz4_0 : w3.cell? ⟨gb171, 0, none⟩ = some (.int .i64 a0_0) := (blk_cell BK171.out 0).trans rfl; have hcz4_1 : w3.cell? ⟨gb171, 1, none⟩ = some (.slice A0_1 l0_1.length c0_1) := (blk_cell BK171.out 1).trans rfl; have hfz4_0 := blk_frozen BK171.out 0; have hfz4_1 := blk_frozen BK171.out 1))
  repeat (go_quiet (first | ((with_reducible refine gate_dst (N := 1) rfl ?_); refine box_event ?hg (N := 1) ?hd (cs := #[.int .i64 a0_0, .slice A0_1 l0_1.length c0_1]) (t := 35) ?hr ?_; (case hd => rfl); (case hg => rfl); (case hr => first | (go_simp; done) | (go_simp; rfl)); intro gb171 hg w3 hbox hb; have n0_ := Aside0.mk (below_step (by repeat (first | (with_reducible first | exact HB.out | apply below_alloc | apply pw_below_drewN | apply below_drew1) | exact HB.out)) hb); have n1_ := Aside0.mk (hbox); have n2_ := Aside0.mk ((by rw [hg]; exact (below_size (by repeat (first | (with_reducible first | exact HB.out | apply below_alloc | apply pw_below_drewN | apply below_drew1) | exact HB.out))) : w.heap.size ≤ gb171)); have n3_ := Aside0.mk ((by rw [hg]; exact (below_size (by repeat (first | (with_reducible first | exact HB.out | apply below_alloc | apply pw_below_drewN | apply below_drew1) | exact HB.out))) : w.heap.size ≤ gb171)); clear HB; have HB := n0_; have BK171 := n1_; have GW171 := n2_; have GE171 := n3_; clear n0_ n1_ n2_ n3_; clear hb hbox hg; have hcz4_0 : w3.cell? ⟨gb171, 0, none⟩ = some (.int .i64 a0_0) := (blk_cell BK171.out 0).trans rfl; have hcz4_1 : w3.cell? ⟨gb171, 1, none⟩ = some (.slice A0_1 l0_1.length c0_1) := (blk_cell BK171.out 1).trans rfl; have hfz4_0 := blk_frozen BK171.out 0; have hfz4_1 := blk_frozen BK171.out 1)); go_upto_if 8 with (first | ((with_reducible refine gate_dst (N := 1) rfl ?_); refine box_event ?hg (N := 1) ?hd (cs := #[.int .i64 a0_0, .slice A0_1 l0_1.length c0_1]) (t := 35) ?hr ?_; (case hd => rfl); (case hg => rfl); (case hr => first | (go_simp; done) | (go_simp; rfl)); intro gb171 hg w3 hbox hb; have n0_ := Aside0.mk (below_step (by repeat (first | (with_reducible first | exact HB.out | apply below_alloc | apply pw_below_drewN | apply below_drew1) | exact HB.out)) hb); have n1_ := Aside0.mk (hbox); have n2_ := Aside0.mk ((by rw [hg]; exact (below_size (by repeat (first | (with_reducible first | exact HB.out | apply below_alloc | apply pw_below_drewN | apply below_drew1) | exact HB.out))) : w.heap.size ≤ gb171)); have n3_ := Aside0.mk ((by rw [hg]; exact (below_size (by repeat (first | (with_reducible first | exact HB.out | apply below_alloc | apply pw_below_drewN | apply below_drew1) | exact HB.out))) : w.heap.size ≤ gb171)); clear HB; have HB := n0_; have BK171 := n1_; have GW171 := n2_; have GE171 := n3_; clear n0_ n1_ n2_ n3_; clear hb hbox hg; have hcz4_0 : w3.cell? ⟨gb171, 0, none⟩ = some (.int .i64 a0_0) := (blk_cell BK171.out 0).trans rfl; have hcz4_1 : w3.cell? ⟨gb171, 1, none⟩ = some (.slice A0_1 l0_1.length c0_1) := (blk_cell BK171.out 1).trans rfl; have hfz4_0 := blk_frozen BK171.out 0; have hfz4_1 := blk_frozen BK171.out 1)))
  (try simp only [Act.put, List.setIfInBounds_toArray, List.set_cons_zero, List.set_cons_succ])
  go_cut [8] (fun v8 wc => ∃ (kq : Nat) (x8_1 : Bool), v8 = .bool x8_1 ∧ Aside0 (cnf_Right.j0 kq x8_1 a0_0 l0_1 = some r) ∧ Aside0 (kq ≤ k) ∧ Aside0 (wc.heap[gb171]? = some (.cells #[.int .i64 a0_0, (.slice A0_1 l0_1.length c0_1)] 35 (0, 0))) ∧ Aside0 (Below w.heap.size w wc))
  case first =>
    have H := HC2.out
    clear HC2
    by_cases c5 : a0_0 < 0
    · rw [if_pos c5] at H
      have c5b0 : decide (a0_0 < 0) = true := decide_eq_true c5
      clear c5
      (first | rw [c5b0] | (simp only [i64_w, i32_w]; rw [c5b0]) | skip)
      have H' := Aside0.mk H
      clear H
      go_wp2
      repeat (go_quiet (fail); try go_wp2)
      go_meet
      case rel => exact ⟨_, (decide (a0_0 < 0)), (by first | rfl | (simp; done) | (simp [*]; done)), H', ⟨by first | omega | exact Nat.le_refl _⟩, ⟨by (with_reducible repeat (first | refine blk_drewN ?_ _ | refine blk_drew ?_ | refine blk_alloc ?_ _)); exact BK171.out⟩, ⟨by repeat (first | (with_reducible first | exact HB.out | apply below_alloc | apply pw_below_drewN | apply below_drew1 | refine below_set ?_ GE171.out) | exact HB.out)⟩⟩
    · rw [if_neg c5] at H
      have c5b0 : decide (a0_0 < 0) = false := decide_eq_false c5
      clear c5
      (first | rw [c5b0] | (simp only [i64_w, i32_w]; rw [c5b0]) | skip)
      have H' := Aside0.mk H
      clear H
      have hcz6_0 : w3.cell? ⟨gb171, 0, none⟩ = some (.int .i64 a0_0) := (blk_cell BK171.out 0).trans rfl
      have hcz6_1 : w3.cell? ⟨gb171, 1, none⟩ = some (.slice A0_1 l0_1.length c0_1) := (blk_cell BK171.out 1).trans rfl
      have hfz6_0 := blk_frozen BK171.out 0
      have hfz6_1 := blk_frozen BK171.out 1
      go_wp2
      repeat (go_quiet (fail); try go_wp2)
      go_meet
      case rel => exact ⟨_, (decide (a0_0 > 1048576)), (by first | rfl | (simp; done) | (simp [*]; done)), H', ⟨by first | omega | exact Nat.le_refl _⟩, ⟨by (with_reducible repeat (first | refine blk_drewN ?_ _ | refine blk_drew ?_ | refine blk_alloc ?_ _)); exact BK171.out⟩, ⟨by repeat (first | (with_reducible first | exact HB.out | apply below_alloc | apply pw_below_drewN | apply below_drew1 | refine below_set ?_ GE171.out) | exact HB.out)⟩⟩
  case rest =>
    clear HC2
    try clear c1
    try clear p2
    try clear c5
    try clear c5b0
    try clear hcz4_0
    try clear hcz4_1
    try clear hcz6_0
    try clear hcz6_1
    try clear hfz4_0
    try clear hfz4_1
    try clear hfz6_0
    try clear hfz6_1
    obtain ⟨kq, x8_1, rfl, HA, HJ1, BK171, HB⟩ := hcut
    cases kq with
    | zero => exact absurd HA.out (by simp [cnf_Right.j0])
    | succ kj1 =>
      have H := HA.out
      clear HA
      simp only [cnf_Right.j0] at H
      by_cases c7 : x8_1 = true
      · subst c7
        have H1 : (some 2) = some r := by rw [if_pos rfl] at H; exact H
        clear H
        have H := H1
        clear H1
        obtain rfl := Option.some.inj H
        go_wp2
        repeat (go_quiet (fail); try go_wp2)
        go_ret
        exact ⟨by first | rfl | (simp [errW_none, errW_some] <;> rfl) | (simp [*, errW_none, errW_some] <;> rfl), by repeat (first | (with_reducible first | exact HB.out | apply below_alloc | apply pw_below_drewN | apply below_drew1 | refine below_set ?_ GE171.out) | exact HB.out)⟩
      · replace c7 := Bool.eq_false_iff.mpr c7
        subst c7
        have H1 : (if (l0_1.length : Int) > 1048576 then (some 3) else (cnf_Right.l0 kj1 16777216 l0_1 (l0_1.length : Int) 0 a0_0 l0_1)) = some r := by rw [if_neg (show ¬ (false = true) by decide)] at H; exact H
        clear H
        have H := H1
        clear H1
        by_cases c8 : (l0_1.length : Int) > 1048576
        · rw [if_pos c8] at H
          have c8b0 : decide (1048576 < (l0_1.length : Int)) = true := decide_eq_true c8
          have c8b1 : decide (1048576 < l0_1.length) = true := decide_eq_true (by omega)
          clear c8
          obtain rfl := Option.some.inj H
          have hcz9_0 : wc.cell? ⟨gb171, 0, none⟩ = some (.int .i64 a0_0) := (blk_cell BK171.out 0).trans rfl
          have hcz9_1 : wc.cell? ⟨gb171, 1, none⟩ = some (.slice A0_1 l0_1.length c0_1) := (blk_cell BK171.out 1).trans rfl
          have hfz9_0 := blk_frozen BK171.out 0
          have hfz9_1 := blk_frozen BK171.out 1
          go_wp2
          repeat (go_quiet (fail); try go_wp2)
          go_ret
          exact ⟨by first | rfl | (simp [errW_none, errW_some] <;> rfl) | (simp [*, errW_none, errW_some] <;> rfl), by repeat (first | (with_reducible first | exact HB.out | apply below_alloc | apply pw_below_drewN | apply below_drew1 | refine below_set ?_ GE171.out) | exact HB.out)⟩
        · rw [if_neg c8] at H
          have c8b0 : decide (1048576 < (l0_1.length : Int)) = false := decide_eq_false c8
          have c8b1 : decide (1048576 < l0_1.length) = false := decide_eq_false (by omega)
          clear c8
          have H' := Aside0.mk H
          clear H
          have hcz10_0 : wc.cell? ⟨gb171, 0, none⟩ = some (.int .i64 a0_0) := (blk_cell BK171.out 0).trans rfl
          have hcz10_1 : wc.cell? ⟨gb171, 1, none⟩ = some (.slice A0_1 l0_1.length c0_1) := (blk_cell BK171.out 1).trans rfl
          have hfz10_0 := blk_frozen BK171.out 0
          have hfz10_1 := blk_frozen BK171.out 1
          go_wp2
          repeat (go_quiet (fail); try go_wp2)
          go_loopg [3, 23] kj1 (fun kq v3 v23 w' => ∃ (x3_2 : Int) (x23_2 : Int), v3 = .int .i64 x3_2 ∧ v23 = .int .i64 x23_2 ∧ Aside0 (cnf_Right.l0 kq x3_2 l0_1 (l0_1.length : Int) x23_2 a0_0 l0_1 = some r) ∧ Aside0 (kq ≤ kj1) ∧ Aside0 (w'.heap[gb171]? = some (.cells #[.int .i64 a0_0, (.slice A0_1 l0_1.length c0_1)] 35 (0, 0))) ∧ Aside0 (Below w.heap.size w w'))
          case atStart => exact ⟨(16777216), (0), (by first | rfl | (simp; done) | (simp [*]; done)), (by first | rfl | (simp; done) | (simp [*]; done)), H', ⟨Nat.le_refl _⟩, ⟨by (with_reducible repeat (first | refine blk_drewN ?_ _ | refine blk_drew ?_ | refine blk_alloc ?_ _)); exact BK171.out⟩, ⟨by repeat (first | (with_reducible first | exact HB.out | apply below_alloc | apply pw_below_drewN | apply below_drew1 | refine below_set ?_ GE171.out) | exact HB.out)⟩⟩
          case round =>
            clear H'
            try clear c1
            try clear p2
            try clear c5
            try clear c5b0
            try clear c7
            try clear c8
            try clear c8b0
            try clear c8b1
            try clear hcz10_0
            try clear hcz10_1
            try clear hcz4_0
            try clear hcz4_1
            try clear hcz6_0
            try clear hcz6_1
            try clear hcz9_0
            try clear hcz9_1
            try clear hfz10_0
            try clear hfz10_1
            try clear hfz4_0
            try clear hfz4_1
            try clear hfz6_0
            try clear hfz6_1
            try clear hfz9_0
            try clear hfz9_1
            try clear p2
            obtain ⟨x3_2, x23_2, rfl, rfl, HA, HK2, BK171, HB⟩ := hrel
            cases gk with
            | zero => exact absurd HA.out (by simp [cnf_Right.l0])
            | succ k2 =>
              have H := HA.out
              clear HA
              simp only [cnf_Right.l0] at H
              by_cases c11 : x23_2 < (l0_1.length : Int)
              · rw [if_pos c11] at H
                have c11b0 : decide (x23_2 < (l0_1.length : Int)) = true := decide_eq_true c11
                clear c11
                by_cases c12 : 0 ≤ x23_2
                · rw [if_pos c12] at H
                  have c12b0 : decide (0 ≤ x23_2) = true := decide_eq_true c12
                  clear c12
                  by_cases c13 : x23_2 < (l0_1.length : Int)
                  · rw [if_pos c13] at H
                    have c13b0 : decide (x23_2 < (l0_1.length : Int)) = true := decide_eq_true c13
                    clear c13
                    have H' := Aside0.mk H
                    clear H
                    have p172 : 0 ≤ (x23_2 : Int) := of_decide_eq_true (by first | (with_reducible assumption) | assumption)
                    have q172 : x23_2 < (l0_1.length : Int) := of_decide_eq_true (by first | (with_reducible assumption) | assumption)
                    obtain ⟨ad172, A172_0, c172_0, e172, hx172_0, hl172_0, hi172_0⟩ := at_L6 HR0_1.out x23_2 p172 q172
                    cases e172
                    replace hx172_0 := (HB.out.cell (World.block_lt_of_cell? w _ hx172_0)).trans hx172_0
                    have HR172_0 := Aside0.mk hi172_0
                    have HC172_0 := Aside0.mk hl172_0
                    clear hi172_0 hl172_0
                    replace p172 := eq_true p172
                    replace q172 := eq_true q172
                    go_wp2
                    repeat (go_quiet (fail); try go_wp2)
                    go_loopg [3, 29] k2 (fun kq v3 v29 w' => ∃ (x3_3 : Int) (x29_3 : Int), v3 = .int .i64 x3_3 ∧ v29 = .int .i64 x29_3 ∧ Aside0 (cnf_Right.l1 kq x3_3 l0_1 (l0_1.length : Int) x23_2 (rd_L6 l0_1 x23_2) ((rd_L6 l0_1 x23_2).length : Int) x29_3 a0_0 l0_1 = some r) ∧ Aside0 (kq ≤ k2) ∧ Aside0 (w'.heap[gb171]? = some (.cells #[.int .i64 a0_0, (.slice (some ad172) l0_1.length c0_1)] 35 (0, 0))) ∧ Aside0 (Below w.heap.size w w'))
                    case atStart => exact ⟨(x3_2), (0), (by first | rfl | (simp; done) | (simp [*]; done)), (by first | rfl | (simp; done) | (simp [*]; done)), H', ⟨Nat.le_refl _⟩, ⟨by (with_reducible repeat (first | refine blk_drewN ?_ _ | refine blk_drew ?_ | refine blk_alloc ?_ _)); exact BK171.out⟩, ⟨by repeat (first | (with_reducible first | exact HB.out | apply below_alloc | apply pw_below_drewN | apply below_drew1 | refine below_set ?_ GE171.out) | exact HB.out)⟩⟩
                    case round =>
                      clear H'
                      try clear c1
                      try clear p1
                      try clear q1
                      try clear hx1
                      try clear p2
                      try clear c5
                      try clear c5b0
                      try clear c7
                      try clear c8
                      try clear c8b0
                      try clear c8b1
                      try clear c11
                      try clear c11b0
                      try clear c12
                      try clear c12b0
                      try clear c13
                      try clear c13b0
                      try clear hcz10_0
                      try clear hcz10_1
                      try clear hcz4_0
                      try clear hcz4_1
                      try clear hcz6_0
                      try clear hcz6_1
                      try clear hcz9_0
                      try clear hcz9_1
                      try clear hfz10_0
                      try clear hfz10_1
                      try clear hfz4_0
                      try clear hfz4_1
                      try clear hfz6_0
                      try clear hfz6_1
                      try clear hfz9_0
                      try clear hfz9_1
                      try clear hx172_0
                      try clear p172
                      try clear p2
                      try clear q172
                      obtain ⟨x3_3, x29_3, rfl, rfl, HA, HK3, BK171, HB⟩ := hrel
                      cases gk with
                      | zero => exact absurd HA.out (by simp [cnf_Right.l1])
                      | succ k3 =>
                        have H := HA.out
                        clear HA
                        simp only [cnf_Right.l1] at H
                        by_cases c14 : x29_3 < ((rd_L6 l0_1 x23_2).length : Int)
                        · rw [if_pos c14] at H
                          have c14b0 : decide (x29_3 < ((rd_L6 l0_1 x23_2).length : Int)) = true := decide_eq_true c14
                          clear c14
                          by_cases c15 : 0 ≤ x29_3
                          · rw [if_pos c15] at H
                            have c15b0 : decide (0 ≤ x29_3) = true := decide_eq_true c15
                            clear c15
                            by_cases c16 : x29_3 < ((rd_L6 l0_1 x23_2).length : Int)
                            · rw [if_pos c16] at H
                              have c16b0 : decide (x29_3 < ((rd_L6 l0_1 x23_2).length : Int)) = true := decide_eq_true c16
                              clear c16
                              by_cases c17 : x3_3 = 0
                              · rw [if_pos c17] at H
                                have c17b0 : (x3_3 == 0) = true := beq_iff_eq.mpr c17
                                have c17b1 : (x3_3 != 0) = false := bne_eq_false_iff_eq.mpr c17
                                clear c17
                                obtain rfl := Option.some.inj H
                                have p173 : 0 ≤ (x29_3 : Int) := of_decide_eq_true (by first | (with_reducible assumption) | assumption)
                                have q173 : x29_3 < ((rd_L6 l0_1 x23_2).length : Int) := of_decide_eq_true (by first | (with_reducible assumption) | assumption)
                                obtain ⟨ad173, e173, hx173_0⟩ := Kd.at_int HR172_0.out x29_3 p173 q173
                                cases e173
                                replace hx173_0 := (HB.out.cell (World.block_lt_of_cell? w _ hx173_0)).trans hx173_0
                                replace p173 := eq_true p173
                                replace q173 := eq_true q173
                                go_wp2
                                repeat (go_quiet (fail); try go_wp2)
                                go_ret
                                exact ⟨by first | rfl | (simp [errW_none, errW_some] <;> rfl) | (simp [*, errW_none, errW_some] <;> rfl), by repeat (first | (with_reducible first | exact HB.out | apply below_alloc | apply pw_below_drewN | apply below_drew1 | refine below_set ?_ GE171.out) | exact HB.out)⟩
                              · rw [if_neg c17] at H
                                have c17b0 : (x3_3 == 0) = false := beq_eq_false_iff_ne.mpr c17
                                have c17b1 : (x3_3 != 0) = true := bne_iff_ne.mpr c17
                                by_cases c18 : (rd (rd_L6 l0_1 x23_2) x29_3) = 0
                                · rw [if_pos c18] at H
                                  have c18b0 : ((rd (rd_L6 l0_1 x23_2) x29_3) == 0) = true := beq_iff_eq.mpr c18
                                  have c18b1 : ((rd (rd_L6 l0_1 x23_2) x29_3) != 0) = false := bne_eq_false_iff_eq.mpr c18
                                  clear c18
                                  obtain rfl := Option.some.inj H
                                  have p173 : 0 ≤ (x29_3 : Int) := of_decide_eq_true (by first | (with_reducible assumption) | assumption)
                                  have q173 : x29_3 < ((rd_L6 l0_1 x23_2).length : Int) := of_decide_eq_true (by first | (with_reducible assumption) | assumption)
                                  obtain ⟨ad173, e173, hx173_0⟩ := Kd.at_int HR172_0.out x29_3 p173 q173
                                  cases e173
                                  replace hx173_0 := (HB.out.cell (World.block_lt_of_cell? w _ hx173_0)).trans hx173_0
                                  replace p173 := eq_true p173
                                  replace q173 := eq_true q173
                                  go_wp2
                                  repeat (go_quiet (fail); try go_wp2)
                                  go_ret
                                  exact ⟨by first | rfl | (simp [errW_none, errW_some] <;> rfl) | (simp [*, errW_none, errW_some] <;> rfl), by repeat (first | (with_reducible first | exact HB.out | apply below_alloc | apply pw_below_drewN | apply below_drew1 | refine below_set ?_ GE171.out) | exact HB.out)⟩
                                · rw [if_neg c18] at H
                                  have c18b0 : ((rd (rd_L6 l0_1 x23_2) x29_3) == 0) = false := beq_eq_false_iff_ne.mpr c18
                                  have c18b1 : ((rd (rd_L6 l0_1 x23_2) x29_3) != 0) = true := bne_iff_ne.mpr c18
                                  replace H := Option.bind_eq_some_iff.mp H
                                  obtain ⟨t174, A190, H⟩ := H
                                  replace H : (if t174 > a0_0 then (some 4) else (cnf_Right.l1 k3 (wrap64 (x3_3 - 1)) l0_1 (l0_1.length : Int) x23_2 (rd_L6 l0_1 x23_2) ((rd_L6 l0_1 x23_2).length : Int) (wrap64 (x29_3 + 1)) a0_0 l0_1)) = some r := H
                                  have A19 := Aside0.mk A190
                                  clear A190
                                  by_cases c20 : t174 > a0_0
                                  · rw [if_pos c20] at H
                                    have c20b0 : decide (a0_0 < t174) = true := decide_eq_true c20
                                    clear c20
                                    obtain rfl := Option.some.inj H
                                    have p173 : 0 ≤ (x29_3 : Int) := of_decide_eq_true (by first | (with_reducible assumption) | assumption)
                                    have q173 : x29_3 < ((rd_L6 l0_1 x23_2).length : Int) := of_decide_eq_true (by first | (with_reducible assumption) | assumption)
                                    obtain ⟨ad173, e173, hx173_0⟩ := Kd.at_int HR172_0.out x29_3 p173 q173
                                    cases e173
                                    replace hx173_0 := (HB.out.cell (World.block_lt_of_cell? w _ hx173_0)).trans hx173_0
                                    replace p173 := eq_true p173
                                    replace q173 := eq_true q173
                                    go_wp2_with (first | (go_at_call 46; (with_reducible refine (cnf_Var.calls (rd (rd_L6 l0_1 x23_2) x29_3) t174 _ A19.out).mono ?_); rintro e w' ⟨rfl, ⟨nd, rfl⟩⟩; (try first | exact ⟨rfl, _, World.drewN_drewN _ _ _⟩ | exact ⟨rfl, _, Eq.trans (World.drewN_drewN _ _ _) (congrArg (World.drewN _) (Nat.add_assoc _ _ _))⟩); have hcz21_0 : wr.cell? ⟨gb171, 0, none⟩ = some (.int .i64 a0_0) := (blk_cell BK171.out 0).trans rfl; have hcz21_1 : wr.cell? ⟨gb171, 1, none⟩ = some (.slice (some ad172) l0_1.length c0_1) := (blk_cell BK171.out 1).trans rfl; have hfz21_0 := blk_frozen BK171.out 0; have hfz21_1 := blk_frozen BK171.out 1))
                                    repeat (go_quiet (first | (go_at_call 46; (with_reducible refine (cnf_Var.calls (rd (rd_L6 l0_1 x23_2) x29_3) t174 _ A19.out).mono ?_); rintro e w' ⟨rfl, ⟨nd, rfl⟩⟩; (try first | exact ⟨rfl, _, World.drewN_drewN _ _ _⟩ | exact ⟨rfl, _, Eq.trans (World.drewN_drewN _ _ _) (congrArg (World.drewN _) (Nat.add_assoc _ _ _))⟩); have hcz21_0 : wr.cell? ⟨gb171, 0, none⟩ = some (.int .i64 a0_0) := (blk_cell BK171.out 0).trans rfl; have hcz21_1 : wr.cell? ⟨gb171, 1, none⟩ = some (.slice (some ad172) l0_1.length c0_1) := (blk_cell BK171.out 1).trans rfl; have hfz21_0 := blk_frozen BK171.out 0; have hfz21_1 := blk_frozen BK171.out 1)); try go_wp2_with (first | (go_at_call 46; (with_reducible refine (cnf_Var.calls (rd (rd_L6 l0_1 x23_2) x29_3) t174 _ A19.out).mono ?_); rintro e w' ⟨rfl, ⟨nd, rfl⟩⟩; (try first | exact ⟨rfl, _, World.drewN_drewN _ _ _⟩ | exact ⟨rfl, _, Eq.trans (World.drewN_drewN _ _ _) (congrArg (World.drewN _) (Nat.add_assoc _ _ _))⟩); have hcz21_0 : wr.cell? ⟨gb171, 0, none⟩ = some (.int .i64 a0_0) := (blk_cell BK171.out 0).trans rfl; have hcz21_1 : wr.cell? ⟨gb171, 1, none⟩ = some (.slice (some ad172) l0_1.length c0_1) := (blk_cell BK171.out 1).trans rfl; have hfz21_0 := blk_frozen BK171.out 0; have hfz21_1 := blk_frozen BK171.out 1)))
                                    go_ret
                                    exact ⟨by first | rfl | (simp [errW_none, errW_some] <;> rfl) | (simp [*, errW_none, errW_some] <;> rfl), by repeat (first | (with_reducible first | exact HB.out | apply below_alloc | apply pw_below_drewN | apply below_drew1 | refine below_set ?_ GE171.out) | exact HB.out)⟩
                                  · rw [if_neg c20] at H
                                    have c20b0 : decide (a0_0 < t174) = false := decide_eq_false c20
                                    clear c20
                                    have H' := Aside0.mk H
                                    clear H
                                    have p173 : 0 ≤ (x29_3 : Int) := of_decide_eq_true (by first | (with_reducible assumption) | assumption)
                                    have q173 : x29_3 < ((rd_L6 l0_1 x23_2).length : Int) := of_decide_eq_true (by first | (with_reducible assumption) | assumption)
                                    obtain ⟨ad173, e173, hx173_0⟩ := Kd.at_int HR172_0.out x29_3 p173 q173
                                    cases e173
                                    replace hx173_0 := (HB.out.cell (World.block_lt_of_cell? w _ hx173_0)).trans hx173_0
                                    replace p173 := eq_true p173
                                    replace q173 := eq_true q173
                                    go_wp2_with (first | (go_at_call 46; (with_reducible refine (cnf_Var.calls (rd (rd_L6 l0_1 x23_2) x29_3) t174 _ A19.out).mono ?_); rintro e w' ⟨rfl, ⟨nd, rfl⟩⟩; (try first | exact ⟨rfl, _, World.drewN_drewN _ _ _⟩ | exact ⟨rfl, _, Eq.trans (World.drewN_drewN _ _ _) (congrArg (World.drewN _) (Nat.add_assoc _ _ _))⟩); have hcz22_0 : wr.cell? ⟨gb171, 0, none⟩ = some (.int .i64 a0_0) := (blk_cell BK171.out 0).trans rfl; have hcz22_1 : wr.cell? ⟨gb171, 1, none⟩ = some (.slice (some ad172) l0_1.length c0_1) := (blk_cell BK171.out 1).trans rfl; have hfz22_0 := blk_frozen BK171.out 0; have hfz22_1 := blk_frozen BK171.out 1))
                                    repeat (go_quiet (first | (go_at_call 46; (with_reducible refine (cnf_Var.calls (rd (rd_L6 l0_1 x23_2) x29_3) t174 _ A19.out).mono ?_); rintro e w' ⟨rfl, ⟨nd, rfl⟩⟩; (try first | exact ⟨rfl, _, World.drewN_drewN _ _ _⟩ | exact ⟨rfl, _, Eq.trans (World.drewN_drewN _ _ _) (congrArg (World.drewN _) (Nat.add_assoc _ _ _))⟩); have hcz22_0 : wr.cell? ⟨gb171, 0, none⟩ = some (.int .i64 a0_0) := (blk_cell BK171.out 0).trans rfl; have hcz22_1 : wr.cell? ⟨gb171, 1, none⟩ = some (.slice (some ad172) l0_1.length c0_1) := (blk_cell BK171.out 1).trans rfl; have hfz22_0 := blk_frozen BK171.out 0; have hfz22_1 := blk_frozen BK171.out 1)); try go_wp2_with (first | (go_at_call 46; (with_reducible refine (cnf_Var.calls (rd (rd_L6 l0_1 x23_2) x29_3) t174 _ A19.out).mono ?_); rintro e w' ⟨rfl, ⟨nd, rfl⟩⟩; (try first | exact ⟨rfl, _, World.drewN_drewN _ _ _⟩ | exact ⟨rfl, _, Eq.trans (World.drewN_drewN _ _ _) (congrArg (World.drewN _) (Nat.add_assoc _ _ _))⟩); have hcz22_0 : wr.cell? ⟨gb171, 0, none⟩ = some (.int .i64 a0_0) := (blk_cell BK171.out 0).trans rfl; have hcz22_1 : wr.cell? ⟨gb171, 1, none⟩ = some (.slice (some ad172) l0_1.length c0_1) := (blk_cell BK171.out 1).trans rfl; have hfz22_0 := blk_frozen BK171.out 0; have hfz22_1 := blk_frozen BK171.out 1)))
                                    go_roundg k3
                                    case measure => have := HJ1.out; have := HK2.out; have := HK3.out; omega
                                    case rel => exact ⟨(wrap64 (x3_3 - 1)), (wrap64 (x29_3 + 1)), (by first | rfl | (simp; done) | (simp [*]; done)), (by first | rfl | (simp; done) | (simp [*]; done)), H', ⟨by have := HJ1.out; have := HK2.out; have := HK3.out; omega⟩, ⟨by (with_reducible repeat (first | refine blk_drewN ?_ _ | refine blk_drew ?_ | refine blk_alloc ?_ _)); exact BK171.out⟩, ⟨by repeat (first | (with_reducible first | exact HB.out | apply below_alloc | apply pw_below_drewN | apply below_drew1 | refine below_set ?_ GE171.out) | exact HB.out)⟩⟩
                            · rw [if_neg c16] at H
                              exact absurd H (by simp)
                          · rw [if_neg c15] at H
                            exact absurd H (by simp)
                        · rw [if_neg c14] at H
                          have c14b0 : decide (x29_3 < ((rd_L6 l0_1 x23_2).length : Int)) = false := decide_eq_false c14
                          clear c14
                          have H' := Aside0.mk H
                          clear H
                          go_wp2
                          repeat (go_quiet (fail); try go_wp2)
                          go_roundg k3
                          case measure => have := HJ1.out; have := HK2.out; have := HK3.out; omega
                          case rel => exact ⟨(x3_3), (wrap64 (x23_2 + 1)), (by first | rfl | (simp; done) | (simp [*]; done)), (by first | rfl | (simp; done) | (simp [*]; done)), H', ⟨by have := HJ1.out; have := HK2.out; have := HK3.out; omega⟩, ⟨by (with_reducible repeat (first | refine blk_drewN ?_ _ | refine blk_drew ?_ | refine blk_alloc ?_ _)); exact BK171.out⟩, ⟨by repeat (first | (with_reducible first | exact HB.out | apply below_alloc | apply pw_below_drewN | apply below_drew1 | refine below_set ?_ GE171.out) | exact HB.out)⟩⟩
                  · rw [if_neg c13] at H
                    exact absurd H (by simp)
                · rw [if_neg c12] at H
                  exact absurd H (by simp)
              · rw [if_neg c11] at H
                have c11b0 : decide (x23_2 < (l0_1.length : Int)) = false := decide_eq_false c11
                clear c11
                obtain rfl := Option.some.inj H
                go_wp2
                repeat (go_quiet (fail); try go_wp2)
                go_ret
                exact ⟨by first | rfl | (simp [errW_none, errW_some] <;> rfl) | (simp [*, errW_none, errW_some] <;> rfl), by repeat (first | (with_reducible first | exact HB.out | apply below_alloc | apply pw_below_drewN | apply below_drew1 | refine below_set ?_ GE171.out) | exact HB.out)⟩
end Go.Proofs.YtigloobbpcnnhaaGreatDoor.PB
end
section
namespace Go.Proofs.YtigloobbpcnnhaaGreatDoor.PB
open Go.RowKit Go.Proofs.YtigloobbpcnnhaaGreatDoorW.PrintWords Go.Proofs.YtigloobbpcnnhaaGreatDoorW.PrintLast Go.Proofs.YtigloobbpcnnhaaGreatDoorW.PrintMore
attribute [local go_sem] max2_int min2_int max_two min_two max_three min_three max_four min_four   -- for this text's walks alone
set_option linter.unusedVariables false
set_option linter.unusedSimpArgs false
def threshingref01_Var.f (a0 : Int) : Option (Int) := if a0 < 0 then (some (wrap64 (-(wrap64 (a0))))) else (some (wrap64 (a0)))
set_option maxHeartbeats 8000000 in
set_option maxRecDepth 100000 in
theorem threshingref01_Var.calls (a0 : Int) (r : Int) (w : World) (h : threshingref01_Var.f a0 = some r) :
    Calls Tryz.prog 66 #[.int .i32 a0] w fun e w' => e = .returned (.int .i64 r) ∧ Drawn0 w w' := by
  have H : (if a0 < 0 then (some (wrap64 (-(wrap64 (a0))))) else (some (wrap64 (a0)))) = some r := h
  clear h
  by_cases c2 : a0 < 0
  · rw [if_pos c2] at H
    have c2b0 : decide (a0 < 0) = true := decide_eq_true c2
    clear c2
    obtain rfl := Option.some.inj H
    go_enter Tryz.func66, Tryz.ntmps66
    go_wp2
    go_ret
    exact ⟨by first | rfl | (simp; done) | (simp [*]; done), by repeat (first | exact Drawn0.refl _ | apply Drawn0.step)⟩
  · rw [if_neg c2] at H
    have c2b0 : decide (a0 < 0) = false := decide_eq_false c2
    clear c2
    obtain rfl := Option.some.inj H
    go_enter Tryz.func66, Tryz.ntmps66
    go_wp2
    go_ret
    exact ⟨by first | rfl | (simp; done) | (simp [*]; done), by repeat (first | exact Drawn0.refl _ | apply Drawn0.step)⟩
end Go.Proofs.YtigloobbpcnnhaaGreatDoor.PB
end
