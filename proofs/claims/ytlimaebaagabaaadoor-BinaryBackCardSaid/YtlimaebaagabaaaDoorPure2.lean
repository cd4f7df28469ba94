import Derived.Test.YtlimaebaagabaaaDoorPure1
namespace Go.Proofs.YtlimaebaagabaaaDoor.PB
open Go.RowKit Go.Proofs.YtlimaebaagabaaaDoorW.PrintWords Go.Proofs.YtlimaebaagabaaaDoorW.PrintLast Go.Proofs.YtlimaebaagabaaaDoorW.PrintMore
set_option linter.unusedVariables false
set_option linter.unusedSimpArgs false

/-! ### rows -/
def Bytes (bs : List Int) : Prop := ∀ b ∈ bs, Byte b
theorem Bytes.append_right {a b : List Int} (h : Bytes (a ++ b)) : Bytes b := fun x hx => h x (List.mem_append_right _ hx)
theorem Bput0 : Bput 0 = [0] := by decide +kernel
/-- A literal that may be; a hint that may be. -/
def Glit (x : Int) : Prop := x ≠ 0 ∧ -1048576 ≤ x ∧ x ≤ 1048576
def Ghint (x : Int) : Prop := x ≠ 0 ∧ Gid x
theorem Glit.wrap {x : Int} (h : Glit x) : wrap64 x = x ∧ wrap32 x = x ∧ Gid x ∧ outL x = false := by
  obtain ⟨_, h1, h2⟩ := h
  refine ⟨by unfold wrap64; omega, by unfold wrap32; omega, ⟨by omega, by omega⟩, ?_⟩
  unfold outL
  rw [decide_eq_false (by omega), decide_eq_false (by omega)]; rfl
/-- Literals are read as they were written. -/
theorem BL_lits : ∀ (l : List Int) (k : Nat) (s : S43) (r : List Int), (∀ x ∈ l, Glit x) → l.length < k →
    BL k (Bnumber (Blits l ++ 0 :: r)).1 (Bnumber (Blits l ++ 0 :: r)).2.2 s (Bnumber (Blits l ++ 0 :: r)).2.1 = (r, ⟨s.f0, s.f1, s.f2 ++ l, s.f3⟩, false) := by
  intro l
  induction l with
  | nil =>
    intro k s r _ hk
    obtain ⟨k, rfl⟩ : ∃ m, k = m + 1 := ⟨k - 1, by omega⟩
    have h0 := Bnumber_put 0 ⟨by omega, by omega⟩ r
    rw [Bput0] at h0
    have h0' : Bnumber (Blits [] ++ 0 :: r) = (0, false, r) := h0
    rw [h0', BL, if_neg (by simp)]
    simp
  | cons x l ih =>
    intro k s r hl hk
    obtain ⟨k, rfl⟩ : ∃ m, k = m + 1 := ⟨k - 1, by omega⟩
    have hx := hl x List.mem_cons_self
    obtain ⟨h64, h32, hid, hout⟩ := hx.wrap
    have hb := Bnumber_put x hid (Blits l ++ 0 :: r)
    have e : Blits (x :: l) ++ 0 :: r = Bput x ++ (Blits l ++ 0 :: r) := by unfold Blits; simp [h64]
    rw [e, hb, BL, if_pos ⟨hx.1, rfl⟩]
    have hi := ih k (addL s x) r (fun z hz => hl z (List.mem_cons_of_mem _ hz)) (by simp only [List.length_cons] at hk; omega)
    rw [hout]
    simp only [Bool.or_false, Bool.false_or]
    rw [hi]
    simp [addL, h32]
theorem BH_hints : ∀ (l : List Int) (k : Nat) (s : S43) (r : List Int), (∀ x ∈ l, Ghint x) → l.length < k →
    BH k (Bnumber (Bhints l ++ 0 :: r)).1 (Bnumber (Bhints l ++ 0 :: r)).2.2 s (Bnumber (Bhints l ++ 0 :: r)).2.1 = (r, ⟨s.f0, s.f1, s.f2, s.f3 ++ l⟩, false) := by
  intro l
  induction l with
  | nil =>
    intro k s r _ hk
    obtain ⟨k, rfl⟩ : ∃ m, k = m + 1 := ⟨k - 1, by omega⟩
    have h0 := Bnumber_put 0 ⟨by omega, by omega⟩ r
    rw [Bput0] at h0
    have h0' : Bnumber (Bhints [] ++ 0 :: r) = (0, false, r) := h0
    rw [h0', BH, if_neg (by simp)]
    simp
  | cons x l ih =>
    intro k s r hl hk
    obtain ⟨k, rfl⟩ : ∃ m, k = m + 1 := ⟨k - 1, by omega⟩
    have hx := hl x List.mem_cons_self
    have hb := Bnumber_put x hx.2 (Bhints l ++ 0 :: r)
    have e : Bhints (x :: l) ++ 0 :: r = Bput x ++ (Bhints l ++ 0 :: r) := by unfold Bhints; simp
    rw [e, hb, BH, if_pos ⟨hx.1, rfl⟩]
    have hi := ih k (addH s x) r (fun z hz => hl z (List.mem_cons_of_mem _ hz)) (by simp only [List.length_cons] at hk; omega)
    simp only [Bool.or_false, Bool.false_or]
    rw [hi]
    simp [addH]
theorem Bput_pos (n : Int) : 1 ≤ (Bput n).length := by
  unfold Bput
  rw [Bvar]
  split
  · simp
  · simp
theorem Bflat_pos (f : Int → List Int) (hf : ∀ x, 1 ≤ (f x).length) (l : List Int) : l.length ≤ (l.flatMap f).length := by
  induction l with
  | nil => simp
  | cons x l ih => have := hf x; simp only [List.flatMap_cons, List.length_append, List.length_cons]; omega
theorem BrowL_lits (l : List Int) (s : S43) (r : List Int) (hl : ∀ x ∈ l, Glit x) : BrowL (Blits l ++ 0 :: r) s false = (r, ⟨s.f0, s.f1, s.f2 ++ l, s.f3⟩, false) := by
  unfold BrowL
  rw [Bool.false_or]
  refine BL_lits l _ s r hl ?_
  have := Bflat_pos (fun x => Bput (wrap64 x)) (fun x => Bput_pos _) l
  simp only [List.length_append, List.length_cons, Blits]
  omega
theorem BrowH_hints (l : List Int) (s : S43) (r : List Int) (hl : ∀ x ∈ l, Ghint x) : BrowH (Bhints l ++ 0 :: r) s false = (r, ⟨s.f0, s.f1, s.f2, s.f3 ++ l⟩, false) := by
  unfold BrowH
  rw [Bool.false_or]
  refine BH_hints l _ s r hl ?_
  have := Bflat_pos Bput (fun x => Bput_pos _) l
  simp only [List.length_append, List.length_cons, Bhints]
  omega
/-- What is read as a row was written so. -/
theorem BL_inv : ∀ (k : Nat) (bs : List Int) (s s' : S43) (r : List Int), Bytes bs → bs.length < k → BL k (Bnumber bs).1 (Bnumber bs).2.2 s (Bnumber bs).2.1 = (r, s', false) →
    ∃ l, (∀ x ∈ l, Glit x) ∧ bs = Blits l ++ 0 :: r ∧ s' = ⟨s.f0, s.f1, s.f2 ++ l, s.f3⟩ := by
  intro k
  induction k with
  | zero => intro bs s s' r _ hk; omega
  | succ k ih =>
    intro bs s s' r hB hk h
    rcases hq : Bnumber bs with ⟨n, bad, bs1⟩
    rw [hq] at h
    simp only at h
    rw [BL] at h
    by_cases hc : n ≠ 0 ∧ bad = false
    · rw [if_pos hc] at h
      obtain ⟨hn, rfl⟩ := hc
      obtain ⟨hid, hbs⟩ := Bnumber_inv bs hB n bs1 hq
      have hB1 : Bytes bs1 := by rw [hbs] at hB; exact hB.append_right
      have hlen : bs1.length + 1 ≤ bs.length := by have := (Bnumber_length bs).2 (by rw [hq]); rw [hq] at this; exact this
      have hout : outL n = false := by
        have hbud := (BL_budget k (Bnumber bs1).1 (Bnumber bs1).2.2 (addL s n) (false || outL n || (Bnumber bs1).2.1) (by rw [h])).1
        simp only [Bool.or_eq_false_iff] at hbud
        exact hbud.1.2
      rw [hout] at h
      simp only [Bool.or_false, Bool.false_or] at h
      obtain ⟨l, h1, h2, h3⟩ := ih bs1 (addL s n) s' r hB1 (by omega) h
      have hgl : Glit n := by
        unfold outL at hout
        simp only [Bool.or_eq_false_iff, decide_eq_false_iff_not] at hout
        exact ⟨hn, by omega, by omega⟩
      obtain ⟨h64, h32, _, _⟩ := hgl.wrap
      refine ⟨n :: l, ?_, ?_, ?_⟩
      · intro x hx
        rcases List.mem_cons.1 hx with rfl | hx
        · exact hgl
        · exact h1 x hx
      · rw [hbs, h2]; unfold Blits; simp [h64]
      · rw [h3]; simp [addL, h32]
    · rw [if_neg hc] at h
      simp only [Prod.mk.injEq] at h
      obtain ⟨rfl, rfl, rfl⟩ := h
      have hn : n = 0 := by
        by_cases hn : n = 0
        · exact hn
        · exact absurd ⟨hn, rfl⟩ hc
      subst hn
      obtain ⟨hid, hbs⟩ := Bnumber_inv bs hB 0 bs1 hq
      rw [Bput0] at hbs
      exact ⟨[], by simp, hbs, by simp⟩
theorem BH_inv : ∀ (k : Nat) (bs : List Int) (s s' : S43) (r : List Int), Bytes bs → bs.length < k → BH k (Bnumber bs).1 (Bnumber bs).2.2 s (Bnumber bs).2.1 = (r, s', false) →
    ∃ l, (∀ x ∈ l, Ghint x) ∧ bs = Bhints l ++ 0 :: r ∧ s' = ⟨s.f0, s.f1, s.f2, s.f3 ++ l⟩ := by
  intro k
  induction k with
  | zero => intro bs s s' r _ hk; omega
  | succ k ih =>
    intro bs s s' r hB hk h
    rcases hq : Bnumber bs with ⟨n, bad, bs1⟩
    rw [hq] at h
    simp only at h
    rw [BH] at h
    by_cases hc : n ≠ 0 ∧ bad = false
    · rw [if_pos hc] at h
      obtain ⟨hn, rfl⟩ := hc
      obtain ⟨hid, hbs⟩ := Bnumber_inv bs hB n bs1 hq
      have hB1 : Bytes bs1 := by rw [hbs] at hB; exact hB.append_right
      have hlen : bs1.length + 1 ≤ bs.length := by have := (Bnumber_length bs).2 (by rw [hq]); rw [hq] at this; exact this
      simp only [Bool.or_false, Bool.false_or] at h
      obtain ⟨l, h1, h2, h3⟩ := ih bs1 (addH s n) s' r hB1 (by omega) h
      refine ⟨n :: l, ?_, ?_, ?_⟩
      · intro x hx
        rcases List.mem_cons.1 hx with rfl | hx
        · exact ⟨hn, hid⟩
        · exact h1 x hx
      · rw [hbs, h2]; unfold Bhints; simp
      · rw [h3]; simp [addH]
    · rw [if_neg hc] at h
      simp only [Prod.mk.injEq] at h
      obtain ⟨rfl, rfl, rfl⟩ := h
      have hn : n = 0 := by
        by_cases hn : n = 0
        · exact hn
        · exact absurd ⟨hn, rfl⟩ hc
      subst hn
      obtain ⟨hid, hbs⟩ := Bnumber_inv bs hB 0 bs1 hq
      rw [Bput0] at hbs
      exact ⟨[], by simp, hbs, by simp⟩
theorem BrowL_inv (bs : List Int) (s s' : S43) (bad : Bool) (r : List Int) (hB : Bytes bs) (h : BrowL bs s bad = (r, s', false)) : bad = false ∧ ∃ l, (∀ x ∈ l, Glit x) ∧ bs = Blits l ++ 0 :: r ∧ s' = ⟨s.f0, s.f1, s.f2 ++ l, s.f3⟩ := by
  have hb := (BrowL_budget bs s bad (by rw [h])).1
  subst hb
  unfold BrowL at h
  rw [Bool.false_or] at h
  exact ⟨rfl, BL_inv _ bs s s' r hB (by omega) h⟩
theorem BrowH_inv (bs : List Int) (s s' : S43) (bad : Bool) (r : List Int) (hB : Bytes bs) (h : BrowH bs s bad = (r, s', false)) : bad = false ∧ ∃ l, (∀ x ∈ l, Ghint x) ∧ bs = Bhints l ++ 0 :: r ∧ s' = ⟨s.f0, s.f1, s.f2, s.f3 ++ l⟩ := by
  have hb := (BrowH_budget bs s bad (by rw [h])).1
  subst hb
  unfold BrowH at h
  rw [Bool.false_or] at h
  exact ⟨rfl, BH_inv _ bs s s' r hB (by omega) h⟩

/-! ### steps -/
theorem Bmay_facts (s : S43) (h : Bmay s = true) : (s.f0 = 1 ∨ s.f0 = 2 ∧ s.f2 = []) ∧ Gid s.f1 ∧ (∀ x ∈ s.f2, Glit x) ∧ (∀ x ∈ s.f3, Ghint x) := by
  unfold Bmay at h
  simp only [Bool.and_eq_true, Bool.or_eq_true, decide_eq_true_eq, List.all_eq_true, Bool.not_eq_true', decide_eq_false_iff_not] at h
  obtain ⟨⟨⟨h1, h2⟩, h3⟩, h4⟩ := h
  refine ⟨?_, ⟨?_, h2⟩, fun x hx => ?_, fun x hx => ?_⟩
  · rcases h1 with h1 | h1
    · exact .inl h1.1
    · exact .inr ⟨h1.1.1, List.eq_nil_of_length_eq_zero h1.2⟩
  · rcases h1 with h1 | h1
    · have := h1.2; omega
    · have := h1.1.2; omega
  · have := h3 x hx; exact ⟨this.1.1, this.1.2, this.2⟩
  · have := h4 x hx; exact ⟨this.1.1.1, this.1.1.2, this.1.2⟩
/-- A step is read as it was written. -/
theorem Bone_step (s : S43) (h : Bmay s = true) (r : List Int) : Bone (Bstep s ++ r) = (true, r, s, false) := by
  obtain ⟨hk, hid, hl, hh⟩ := Bmay_facts s h
  rcases hk with hk | ⟨hk, h2⟩
  · have e : Bstep s ++ r = 97 :: (Bput s.f1 ++ (Blits s.f2 ++ 0 :: (Bhints s.f3 ++ 0 :: r))) := by
      unfold Bstep Bhead
      rw [if_pos hk, Bput0]
      simp
    have hr : rd (97 :: (Bput s.f1 ++ (Blits s.f2 ++ 0 :: (Bhints s.f3 ++ 0 :: r)))) 0 = 97 := rfl
    rw [e]
    unfold Bone
    rw [if_pos hr]
    have hA : BoneA ((97 :: (Bput s.f1 ++ (Blits s.f2 ++ 0 :: (Bhints s.f3 ++ 0 :: r)))).drop 1) = (r, s, false) := by
      unfold BoneA
      simp only [List.drop_succ_cons, List.drop_zero]
      rw [Bnumber_put s.f1 hid]
      simp only
      rw [BrowL_lits _ _ _ hl]
      simp only
      rw [BrowH_hints _ _ _ hh]
      obtain ⟨a, b, c, d⟩ := s
      simp only at hk
      subst hk
      simp
    rw [hA]
    simp [h]
  · have e : Bstep s ++ r = 100 :: (Bput s.f1 ++ (Bhints s.f3 ++ 0 :: r)) := by
      unfold Bstep Bhead
      rw [if_neg (by omega), Bput0]
      simp
    have hr : rd (100 :: (Bput s.f1 ++ (Bhints s.f3 ++ 0 :: r))) 0 = 100 := rfl
    rw [e]
    unfold Bone
    rw [if_neg (by rw [hr]; omega), if_pos hr]
    have hA : BoneD ((100 :: (Bput s.f1 ++ (Bhints s.f3 ++ 0 :: r))).drop 1) = (r, s, false) := by
      unfold BoneD
      simp only [List.drop_succ_cons, List.drop_zero]
      rw [Bnumber_put s.f1 hid]
      simp only
      rw [BrowH_hints _ _ _ hh]
      obtain ⟨a, b, c, d⟩ := s
      simp only at hk h2
      subst hk
      subst h2
      simp
    rw [hA]
    simp [h]
/-- What is read as a step was written so. -/
theorem Bone_inv (bs : List Int) (hB : Bytes bs) (hne : bs ≠ []) (h : (Bone bs).1 = true) : Bmay (Bone bs).2.2.1 = true ∧ bs = Bstep (Bone bs).2.2.1 ++ (Bone bs).2.1 := by
  obtain ⟨b, r, rfl⟩ : ∃ b r, bs = b :: r := by cases bs with | nil => exact absurd rfl hne | cons b r => exact ⟨b, r, rfl⟩
  have hBr : Bytes r := fun x hx => hB x (List.mem_cons_of_mem _ hx)
  have hrd : rd (b :: r) 0 = b := rfl
  unfold Bone at h ⊢
  rw [hrd] at h ⊢
  simp only [List.drop_succ_cons, List.drop_zero] at h ⊢
  by_cases h97 : b = 97
  · rw [if_pos h97] at h ⊢
    simp only [Bool.and_eq_true, Bool.not_eq_true'] at h
    obtain ⟨hbad, hmay⟩ := h
    refine ⟨hmay, ?_⟩
    rcases hq : Bnumber r with ⟨n, bad, r1⟩
    rcases hql : BrowL r1 ⟨1, n, [], []⟩ bad with ⟨r2, s2, bad2⟩
    rcases hqh : BrowH r2 s2 bad2 with ⟨r3, s3, bad3⟩
    have hA : BoneA r = (r3, s3, bad3) := by unfold BoneA; simp only [hq, hql, hqh]
    rw [hA] at hbad ⊢
    simp only at hbad
    subst hbad
    -- the number
    have hb2 : bad2 = false := (BrowH_budget r2 s2 bad2 (by rw [hqh])).1
    subst hb2
    have hb1 : bad = false := (BrowL_budget r1 ⟨1, n, [], []⟩ bad (by rw [hql])).1
    subst hb1
    obtain ⟨hid, e1⟩ := Bnumber_inv r hBr n r1 hq
    have hB1 : Bytes r1 := by rw [e1] at hBr; exact hBr.append_right
    obtain ⟨_, l, hl, e2, es2⟩ := BrowL_inv r1 _ s2 false r2 hB1 hql
    have hB2 : Bytes r2 := by
      rw [e2] at hB1
      intro x hx
      exact hB1 x (List.mem_append_right _ (List.mem_cons_of_mem _ hx))
    obtain ⟨_, m, hm, e3, es3⟩ := BrowH_inv r2 s2 s3 false r3 hB2 hqh
    have es : s3 = ⟨1, n, l, m⟩ := by rw [es3, es2]; simp
    rw [h97, e1, e2, e3, es]
    simp [Bstep, Bhead, Bput0]
  · rw [if_neg h97] at h ⊢
    by_cases h100 : b = 100
    · rw [if_pos h100] at h ⊢
      simp only [Bool.and_eq_true, Bool.not_eq_true'] at h
      obtain ⟨hbad, hmay⟩ := h
      refine ⟨hmay, ?_⟩
      rcases hq : Bnumber r with ⟨n, bad, r1⟩
      rcases hqh : BrowH r1 ⟨2, n, [], []⟩ bad with ⟨r3, s3, bad3⟩
      have hA : BoneD r = (r3, s3, bad3) := by unfold BoneD; simp only [hq, hqh]
      rw [hA] at hbad ⊢
      simp only at hbad
      subst hbad
      have hb1 : bad = false := (BrowH_budget r1 ⟨2, n, [], []⟩ bad (by rw [hqh])).1
      subst hb1
      obtain ⟨hid, e1⟩ := Bnumber_inv r hBr n r1 hq
      have hB1 : Bytes r1 := by rw [e1] at hBr; exact hBr.append_right
      obtain ⟨_, m, hm, e3, es3⟩ := BrowH_inv r1 _ s3 false r3 hB1 hqh
      have es : s3 = ⟨2, n, [], m⟩ := by rw [es3]; simp
      rw [h100, e1, e3, es]
      simp [Bstep, Bhead, Bput0]
    · rw [if_neg h100] at h
      cases h
theorem Bstep_ne (s : S43) : 0 < (Bstep s).length := by
  unfold Bstep Bhead
  split <;> simp
theorem Bsteps_cons (s : S43) (l : List S43) : Bsteps (s :: l) = Bstep s ++ Bsteps l := rfl
theorem Bsteps_append (l m : List S43) : Bsteps (l ++ m) = Bsteps l ++ Bsteps m := by unfold Bsteps; simp
theorem Bsteps_pos (l : List S43) : l.length ≤ (Bsteps l).length := by
  induction l with
  | nil => simp
  | cons s l ih => have := Bstep_ne s; rw [Bsteps_cons, List.length_append, List.length_cons]; omega
/-- Steps that were written are read ahead of all that follows. -/
theorem Bp_steps : ∀ (l : List S43) (k n : Nat) (r : List Int) (out : List S43), (∀ s ∈ l, Bmay s = true) → (Bsteps l ++ r).length < k → ∃ k', r.length < k' ∧ Bp k n (Bsteps l ++ r) out = Bp k' n r (out ++ l) := by
  intro l
  induction l with
  | nil => intro k n r out _ hk; exact ⟨k, by simpa [Bsteps] using hk, by simp [Bsteps]⟩
  | cons s l ih =>
    intro k n r out hl hk
    obtain ⟨k, rfl⟩ : ∃ m, k = m + 1 := ⟨k - 1, by omega⟩
    have hs := hl s List.mem_cons_self
    have hp := Bstep_ne s
    have e : Bsteps (s :: l) ++ r = Bstep s ++ (Bsteps l ++ r) := by rw [Bsteps_cons, List.append_assoc]
    rw [e] at hk ⊢
    rw [List.length_append] at hk
    obtain ⟨k', h1, h2⟩ := ih k n r (out ++ [s]) (fun z hz => hl z (List.mem_cons_of_mem _ hz)) (by omega)
    refine ⟨k', h1, ?_⟩
    rw [Bp, if_neg (by rw [List.length_append]; omega), Bone_step s hs]
    simp only [if_true]
    rw [h2]
    simp
/-- What bytes are: steps ahead, then what is none. -/
theorem Bsplit : ∀ (N : Nat) (bs : List Int), bs.length ≤ N → Bytes bs → ∃ l r, bs = Bsteps l ++ r ∧ (∀ s ∈ l, Bmay s = true) ∧ (r = [] ∨ r ≠ [] ∧ (Bone r).1 = false) := by
  intro N
  induction N with
  | zero => intro bs hN _; exact ⟨[], bs, by simp [Bsteps], by simp, .inl (List.eq_nil_of_length_eq_zero (by omega))⟩
  | succ N ih =>
    intro bs hN hB
    by_cases hne : bs = []
    · exact ⟨[], bs, by simp [Bsteps], by simp, .inl hne⟩
    cases hok : (Bone bs).1 with
    | false => exact ⟨[], bs, by simp [Bsteps], by simp, .inr ⟨hne, hok⟩⟩
    | true =>
      obtain ⟨h1, h2⟩ := Bone_inv bs hB hne hok
      have hp := Bstep_ne (Bone bs).2.2.1
      have hlen : bs.length = (Bstep (Bone bs).2.2.1).length + (Bone bs).2.1.length := by conv => lhs; rw [h2]; rw [List.length_append]
      obtain ⟨l, r, e1, e2, e3⟩ := ih (Bone bs).2.1 (by omega) (by rw [h2] at hB; exact hB.append_right)
      refine ⟨(Bone bs).2.2.1 :: l, r, ?_, ?_, e3⟩
      · rw [Bsteps_cons, List.append_assoc, ← e1]; exact h2
      · intro z hz
        rcases List.mem_cons.1 hz with rfl | hz
        · exact h1
        · exact e2 z hz
theorem Bparse_ok (l : List S43) (hl : ∀ s ∈ l, Bmay s = true) : Bparse (Bsteps l) = (l, 0, 0) := by
  obtain ⟨k', h1, h2⟩ := Bp_steps l ((Bsteps l).length + 1) (Bsteps l).length [] [] hl (by simp)
  unfold Bparse
  rw [List.append_nil] at h2
  rw [h2]
  obtain ⟨k, rfl⟩ : ∃ m, k' = m + 1 := ⟨k' - 1, by omega⟩
  rw [Bp, if_pos (show ([] : List Int).length = 0 from rfl)]
  simp
theorem Bparse_bad (l : List S43) (r : List Int) (hl : ∀ s ∈ l, Bmay s = true) (hr : r ≠ []) (hbad : (Bone r).1 = false) : Bparse (Bsteps l ++ r) = ([], 50, ((Bsteps l).length : Int)) := by
  obtain ⟨k', h1, h2⟩ := Bp_steps l ((Bsteps l ++ r).length + 1) (Bsteps l ++ r).length r [] hl (by omega)
  unfold Bparse
  rw [h2]
  obtain ⟨k, rfl⟩ : ∃ m, k' = m + 1 := ⟨k' - 1, by omega⟩
  rw [Bp, if_neg (by intro h; exact hr (List.eq_nil_of_length_eq_zero h)), if_neg (by rw [hbad]; simp)]
  simp only [List.length_append]
  congr 2
  omega
end Go.Proofs.YtlimaebaagabaaaDoor.PB
