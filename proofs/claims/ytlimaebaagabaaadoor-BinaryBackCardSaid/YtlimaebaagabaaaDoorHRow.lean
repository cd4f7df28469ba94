import Derived.Test.YtlimaebaagabaaaDoorHTake
namespace Go.Proofs.YtlimaebaagabaaaDoor.PB
open Go.RowKit Go.Proofs.YtlimaebaagabaaaDoorW.PrintWords Go.Proofs.YtlimaebaagabaaaDoorW.PrintLast Go.Proofs.YtlimaebaagabaaaDoorW.PrintMore
attribute [local go_sem] max2_int min2_int max_two min_two max_three min_three max_four min_four
set_option linter.unusedVariables false
set_option linter.unusedSimpArgs false

theorem number_rs (wb w1 : World) (g : Nat) (bs : List Int) (s : S43) (bad : Bool) (w : World) (h : RS wb w1 g bs s bad w) :
    Calls Tryd.prog 28 #[.pointer (some ⟨g, 0, none⟩)] w fun e w' => e = .returned (.int .i64 (Bnumber bs).1) ∧ RS wb w1 g (Bnumber bs).2.2 s (bad || (Bnumber bs).2.1) w' := by
  obtain ⟨A, c, vl, vh, hg, hc, hr, hl2, hl3⟩ := h.ex
  refine (number_calls wb g bs _ _ vl vh bad w ⟨⟨A, c, hg, hc, hr⟩, h.below, h.base⟩).mono ?_
  rintro e w' ⟨rfl, hd, hs⟩
  obtain ⟨A', c', hg', hc', hr'⟩ := hd.ex
  exact ⟨rfl, ⟨A', c', vl, vh, hg', hc', hr', hs.Rt hl2 hg (by decide), hs.Rt hl3 hg (by decide)⟩, hd.below, h.but.same hs, h.base, h.base1, h.lt⟩

/-- What is left is no longer than it was, and shorter where a number was read. -/
theorem Bnum_length : ∀ (bs : List Int) (x code : Int) (r : Int × Bool × List Int), Bnum x code bs = some r → r.2.2.length + 1 ≤ bs.length := by
  intro bs
  induction bs with
  | nil => intro x code r h; simp [Bnum] at h
  | cons b bs ih =>
    intro x code r h
    rw [Bnum] at h
    split at h
    · cases h
    · split at h
      · have := ih _ _ _ h; simp only [List.length_cons]; omega
      · have h := Option.some.inj h
        subst h
        simp
theorem Bnumber_length (bs : List Int) : (Bnumber bs).2.2.length ≤ bs.length ∧ ((Bnumber bs).2.1 = false → (Bnumber bs).2.2.length + 1 ≤ bs.length) := by
  unfold Bnumber
  cases h : Bnum 0 0 bs with
  | none => simp
  | some r => have := Bnum_length bs 0 0 r h; simp only [Option.getD_some]; exact ⟨by omega, fun _ => this⟩

/-- What follows up to a 0: literals; hints. -/
def BL : Nat → Int → List Int → S43 → Bool → List Int × S43 × Bool
  | 0, _, bs, s, bad => (bs, s, bad)
  | k + 1, n, bs, s, bad => if n ≠ 0 ∧ bad = false then BL k (Bnumber bs).1 (Bnumber bs).2.2 (addL s n) ((bad || outL n) || (Bnumber bs).2.1) else (bs, s, bad)
def BH : Nat → Int → List Int → S43 → Bool → List Int × S43 × Bool
  | 0, _, bs, s, bad => (bs, s, bad)
  | k + 1, n, bs, s, bad => if n ≠ 0 ∧ bad = false then BH k (Bnumber bs).1 (Bnumber bs).2.2 (addH s n) (bad || (Bnumber bs).2.1) else (bs, s, bad)
def BrowL (bs : List Int) (s : S43) (bad : Bool) : List Int × S43 × Bool := BL (bs.length + 2) (Bnumber bs).1 (Bnumber bs).2.2 s (bad || (Bnumber bs).2.1)
def BrowH (bs : List Int) (s : S43) (bad : Bool) : List Int × S43 × Bool := BH (bs.length + 2) (Bnumber bs).1 (Bnumber bs).2.2 s (bad || (Bnumber bs).2.1)

theorem BL_keeps : ∀ (k : Nat) (n : Int) (bs : List Int) (s : S43) (bad : Bool), (BL k n bs s bad).1.length ≤ bs.length ∧ (BL k n bs s bad).2.1.f3 = s.f3 ∧ (BL k n bs s bad).2.1.f0 = s.f0 ∧ (BL k n bs s bad).2.1.f1 = s.f1 := by
  intro k
  induction k with
  | zero => intro n bs s bad; exact ⟨Nat.le_refl _, rfl, rfl, rfl⟩
  | succ k ih =>
    intro n bs s bad
    rw [BL]
    split
    · obtain ⟨h1, h2, h3, h4⟩ := ih (Bnumber bs).1 (Bnumber bs).2.2 (addL s n) ((bad || outL n) || (Bnumber bs).2.1)
      exact ⟨Nat.le_trans h1 (Bnumber_length bs).1, h2, h3, h4⟩
    · exact ⟨Nat.le_refl _, rfl, rfl, rfl⟩
theorem BrowL_keeps (bs : List Int) (s : S43) (bad : Bool) : (BrowL bs s bad).1.length ≤ bs.length ∧ (BrowL bs s bad).2.1.f3 = s.f3 ∧ (BrowL bs s bad).2.1.f0 = s.f0 ∧ (BrowL bs s bad).2.1.f1 = s.f1 := by
  obtain ⟨h1, h2⟩ := BL_keeps (bs.length + 2) (Bnumber bs).1 (Bnumber bs).2.2 s (bad || (Bnumber bs).2.1)
  exact ⟨Nat.le_trans h1 (Bnumber_length bs).1, h2⟩
theorem BH_keeps : ∀ (k : Nat) (n : Int) (bs : List Int) (s : S43) (bad : Bool), (BH k n bs s bad).1.length ≤ bs.length ∧ (BH k n bs s bad).2.1.f2 = s.f2 ∧ (BH k n bs s bad).2.1.f0 = s.f0 ∧ (BH k n bs s bad).2.1.f1 = s.f1 := by
  intro k
  induction k with
  | zero => intro n bs s bad; exact ⟨Nat.le_refl _, rfl, rfl, rfl⟩
  | succ k ih =>
    intro n bs s bad
    rw [BH]
    split
    · obtain ⟨h1, h2, h3, h4⟩ := ih (Bnumber bs).1 (Bnumber bs).2.2 (addH s n) (bad || (Bnumber bs).2.1)
      exact ⟨Nat.le_trans h1 (Bnumber_length bs).1, h2, h3, h4⟩
    · exact ⟨Nat.le_refl _, rfl, rfl, rfl⟩
theorem BrowH_keeps (bs : List Int) (s : S43) (bad : Bool) : (BrowH bs s bad).1.length ≤ bs.length ∧ (BrowH bs s bad).2.1.f2 = s.f2 ∧ (BrowH bs s bad).2.1.f0 = s.f0 ∧ (BrowH bs s bad).2.1.f1 = s.f1 := by
  obtain ⟨h1, h2⟩ := BH_keeps (bs.length + 2) (Bnumber bs).1 (Bnumber bs).2.2 s (bad || (Bnumber bs).2.1)
  exact ⟨Nat.le_trans h1 (Bnumber_length bs).1, h2⟩

set_option maxHeartbeats 2000000 in
set_option maxRecDepth 100000 in
theorem rowh_calls (wb w1 : World) (g : Nat) (bs : List Int) (s : S43) (bad : Bool) (w : World) (h : RS wb w1 g bs s bad w) (hl : s.f3.length + bs.length ≤ 4398046511104) :
    Calls Tryd.prog 29 #[.pointer (some ⟨g, 0, none⟩), .func (.func 31) #[] #[]] w fun e w' => e = .returned (.tuple #[]) ∧ RS wb w1 g (BrowH bs s bad).1 (BrowH bs s bad).2.1 (BrowH bs s bad).2.2 w' := by
  have HH := Aside0.mk h
  have hb := Aside0.mk (Bnumber_length bs)
  clear h
  go_enter Tryd.func29, Tryd.ntmps29
  go_wp2_with (first | (go_at_call 28; refine (number_rs wb w1 g bs s bad _ HH.out).mono ?_; rintro e w2 ⟨rfl, H2⟩; have HN := Aside0.mk H2; clear H2))
  go_loopg [4] (bs.length + 2) (fun k v4 wr => ∃ (n : Int) (bs' : List Int) (s' : S43) (bad' : Bool), v4 = .int .i64 n ∧ Aside0 (BH k n bs' s' bad' = BrowH bs s bad) ∧ Aside0 (1 ≤ k ∧ (bad' = false → bs'.length + 2 ≤ k ∧ s'.f3.length + bs'.length + 1 ≤ s.f3.length + bs.length)) ∧ Aside0 (RS wb w1 g bs' s' bad' wr))
  case atStart =>
    refine ⟨_, _, s, _, rfl, ⟨rfl⟩, ⟨by omega, fun hb' => ?_⟩, HN⟩
    have h1 := hb.out.2 (by simp only [Bool.or_eq_false_iff] at hb'; exact hb'.2)
    omega
  case round =>
    clear HN HH
    obtain ⟨n, bs', s', bad', rfl, HF, HI, HR⟩ := hrel
    obtain ⟨A, c, vl, vh, hg, _⟩ := HR.out.ex
    have hcz5 := (blk_cell hg 5).trans (show _ = some (Value.bool bad') from rfl)
    clear hg
    obtain ⟨k, rfl⟩ : ∃ k, gk = k + 1 := ⟨gk - 1, by have := HI.out.1; omega⟩
    have HF' := HF.out
    rw [BH] at HF'
    clear HF
    by_cases hn : n = 0
    · have hn' : (n != 0) = false := bne_eq_false_iff_eq.mpr hn
      rw [if_neg (by simp [hn])] at HF'
      have HF := Aside0.mk HF'
      clear HF' hn
      go_wp2
      go_end0
      exact ⟨rfl, by rw [← HF.out]; exact HR.out⟩
    · have hn' : (n != 0) = true := bne_iff_ne.mpr hn
      cases bad' with
      | true =>
        rw [if_neg (by simp)] at HF'
        have HF := Aside0.mk HF'
        clear HF' hn
        go_wp2
        go_end0
        exact ⟨rfl, by rw [← HF.out]; exact HR.out⟩
      | false =>
        rw [if_pos ⟨hn, rfl⟩] at HF'
        have HF := Aside0.mk HF'
        have hb2 := Aside0.mk (Bnumber_length bs')
        have HI' := Aside0.mk (HI.out.2 rfl)
        clear HF' hn HI
        go_wp2_with (first | (go_at_call 31; refine (hint_calls wb w1 g bs' s' false _ n HR.out (by have := HI'.out; omega)).mono ?_; rintro e w2 ⟨rfl, H2⟩; have HR2 := Aside0.mk H2; clear H2) | (go_at_call 28; refine (number_rs wb w1 g bs' (addH s' n) false _ HR2.out).mono ?_; rintro e w3 ⟨rfl, H2⟩; have HR3 := Aside0.mk H2; clear H2))
        go_roundg k
        case measure => omega
        case rel =>
          refine ⟨_, _, _, _, rfl, HF, ⟨by have := HI'.out; omega, fun hb' => ?_⟩, HR3⟩
          have h1 := hb2.out.2 (by simp only [Bool.or_eq_false_iff] at hb'; exact hb'.2)
          have h2 := HI'.out
          simp only [addH, List.length_append, List.length_singleton]
          omega
set_option maxHeartbeats 2000000 in
set_option maxRecDepth 100000 in
theorem rowl_calls (wb w1 : World) (g : Nat) (bs : List Int) (s : S43) (bad : Bool) (w : World) (h : RS wb w1 g bs s bad w) (hl : s.f2.length + bs.length ≤ 4398046511104) :
    Calls Tryd.prog 29 #[.pointer (some ⟨g, 0, none⟩), .func (.func 30) #[] #[]] w fun e w' => e = .returned (.tuple #[]) ∧ RS wb w1 g (BrowL bs s bad).1 (BrowL bs s bad).2.1 (BrowL bs s bad).2.2 w' := by
  have HH := Aside0.mk h
  have hb := Aside0.mk (Bnumber_length bs)
  clear h
  go_enter Tryd.func29, Tryd.ntmps29
  go_wp2_with (first | (go_at_call 28; refine (number_rs wb w1 g bs s bad _ HH.out).mono ?_; rintro e w2 ⟨rfl, H2⟩; have HN := Aside0.mk H2; clear H2))
  go_loopg [4] (bs.length + 2) (fun k v4 wr => ∃ (n : Int) (bs' : List Int) (s' : S43) (bad' : Bool), v4 = .int .i64 n ∧ Aside0 (BL k n bs' s' bad' = BrowL bs s bad) ∧ Aside0 (1 ≤ k ∧ (bad' = false → bs'.length + 2 ≤ k ∧ s'.f2.length + bs'.length + 1 ≤ s.f2.length + bs.length)) ∧ Aside0 (RS wb w1 g bs' s' bad' wr))
  case atStart =>
    refine ⟨_, _, s, _, rfl, ⟨rfl⟩, ⟨by omega, fun hb' => ?_⟩, HN⟩
    have h1 := hb.out.2 (by simp only [Bool.or_eq_false_iff] at hb'; exact hb'.2)
    omega
  case round =>
    clear HN HH
    obtain ⟨n, bs', s', bad', rfl, HF, HI, HR⟩ := hrel
    obtain ⟨A, c, vl, vh, hg, _⟩ := HR.out.ex
    have hcz5 := (blk_cell hg 5).trans (show _ = some (Value.bool bad') from rfl)
    clear hg
    obtain ⟨k, rfl⟩ : ∃ k, gk = k + 1 := ⟨gk - 1, by have := HI.out.1; omega⟩
    have HF' := HF.out
    rw [BL] at HF'
    clear HF
    by_cases hn : n = 0
    · have hn' : (n != 0) = false := bne_eq_false_iff_eq.mpr hn
      rw [if_neg (by simp [hn])] at HF'
      have HF := Aside0.mk HF'
      clear HF' hn
      go_wp2
      go_end0
      exact ⟨rfl, by rw [← HF.out]; exact HR.out⟩
    · have hn' : (n != 0) = true := bne_iff_ne.mpr hn
      cases bad' with
      | true =>
        rw [if_neg (by simp)] at HF'
        have HF := Aside0.mk HF'
        clear HF' hn
        go_wp2
        go_end0
        exact ⟨rfl, by rw [← HF.out]; exact HR.out⟩
      | false =>
        rw [if_pos ⟨hn, rfl⟩] at HF'
        have HF := Aside0.mk HF'
        have hb2 := Aside0.mk (Bnumber_length bs')
        have HI' := Aside0.mk (HI.out.2 rfl)
        clear HF' hn HI
        go_wp2_with (first | (go_at_call 30; refine (lit_calls wb w1 g bs' s' false _ n HR.out (by have := HI'.out; omega)).mono ?_; rintro e w2 ⟨rfl, H2⟩; have HR2 := Aside0.mk H2; clear H2) | (go_at_call 28; refine (number_rs wb w1 g bs' (addL s' n) (false || outL n) _ HR2.out).mono ?_; rintro e w3 ⟨rfl, H2⟩; have HR3 := Aside0.mk H2; clear H2))
        go_roundg k
        case measure => omega
        case rel =>
          refine ⟨_, _, _, _, rfl, HF, ⟨by have := HI'.out; omega, fun hb' => ?_⟩, HR3⟩
          have h1 := hb2.out.2 (by simp only [Bool.or_eq_false_iff] at hb'; exact hb'.2)
          have h2 := HI'.out
          simp only [addL, List.length_append, List.length_singleton]
          omega
end Go.Proofs.YtlimaebaagabaaaDoor.PB
