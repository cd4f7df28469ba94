import Derived.Test.YtlimaebaagabaaaDoorPure2
import Derived.Test.YtlimaebaagabaaaDoorFThreshingref04Same
import Derived.Test.YtlimaebaagabaaaDoorFThreshinglaw05Works
namespace Go.Proofs.YtlimaebaagabaaaDoor.PB
open Go.RowKit Go.Proofs.YtlimaebaagabaaaDoorW.PrintWords Go.Proofs.YtlimaebaagabaaaDoorW.PrintLast Go.Proofs.YtlimaebaagabaaaDoorW.PrintMore
set_option linter.unusedVariables false
set_option linter.unusedSimpArgs false

theorem works_f (k : Nat) : threshinglaw05_works.f k = some true := by kernel_rfl

/-! ### two proofs that are the same -/
theorem same_l1 (a b c d : Int) (x2 x3 y2 : List Int) (hn : x3.length ≤ 9223372036854775807) (n : Nat) : ∀ (k i : Nat), i + n = x3.length → n < k →
    threshingref04_SameStep.l1 k (i : Int) a b x2 x3 c d y2 x3 = some true := by
  induction n with
  | zero =>
    intro k i hi hk
    obtain ⟨k, rfl⟩ : ∃ m, k = m + 1 := ⟨k - 1, by omega⟩
    simp only [threshingref04_SameStep.l1]
    rw [if_neg (by omega)]
  | succ n ih =>
    intro k i hi hk
    obtain ⟨k, rfl⟩ : ∃ m, k = m + 1 := ⟨k - 1, by omega⟩
    have hw : wrap64 ((i : Int) + 1) = ((i + 1 : Nat) : Int) := by rw [wrap_succ (n := x3.length) (by omega) (by omega) hn]; rfl
    simp only [threshingref04_SameStep.l1]
    rw [if_pos (by omega), if_pos (by omega), if_pos (by omega), if_pos trivial, hw]
    exact ih k (i + 1) (by omega) (by omega)
theorem same_l0 (a b c d : Int) (x2 x3 : List Int) (hn : x2.length ≤ 9223372036854775807) (hn3 : x3.length ≤ 9223372036854775807) (n : Nat) : ∀ (k i : Nat), i + n = x2.length → n + x3.length + 1 < k →
    threshingref04_SameStep.l0 k (i : Int) a b x2 x3 c d x2 x3 = some true := by
  induction n with
  | zero =>
    intro k i hi hk
    obtain ⟨k, rfl⟩ : ∃ m, k = m + 1 := ⟨k - 1, by omega⟩
    simp only [threshingref04_SameStep.l0]
    rw [if_neg (by omega)]
    exact same_l1 a b c d x2 x3 x2 hn3 x3.length k 0 (by omega) (by omega)
  | succ n ih =>
    intro k i hi hk
    obtain ⟨k, rfl⟩ : ∃ m, k = m + 1 := ⟨k - 1, by omega⟩
    have hw : wrap64 ((i : Int) + 1) = ((i + 1 : Nat) : Int) := by rw [wrap_succ (n := x2.length) (by omega) (by omega) hn]; rfl
    simp only [threshingref04_SameStep.l0]
    rw [if_pos (by omega), if_pos (by omega), if_pos (by omega), if_pos trivial, hw]
    exact ih k (i + 1) (by omega) (by omega)
theorem sameStep_f (s : S43) (hn : s.f2.length ≤ 9223372036854775807) (hn3 : s.f3.length ≤ 9223372036854775807) (k : Nat) (hk : s.f2.length + s.f3.length + 3 < k) :
    threshingref04_SameStep.f k s.f0 s.f1 s.f2 s.f3 s.f0 s.f1 s.f2 s.f3 = some true := by
  obtain ⟨k, rfl⟩ : ∃ m, k = m + 1 := ⟨k - 1, by omega⟩
  unfold threshingref04_SameStep.f
  rw [if_pos rfl, if_pos rfl, if_pos rfl]
  have e : ((s.f3.length : Int) != (s.f3.length : Int)) = false := bne_eq_false_iff_eq.mpr rfl
  rw [e]
  simp only [threshingref04_SameStep.j0]
  rw [if_neg (by simp)]
  exact same_l0 s.f0 s.f1 s.f0 s.f1 s.f2 s.f3 hn hn3 s.f2.length k 0 (by omega) (by omega)
theorem Btot_mem (l : List S43) (s : S43) (h : s ∈ l) : s.f2.length + s.f3.length ≤ Btot l := by
  induction l with
  | nil => cases h
  | cons t l ih =>
    rcases List.mem_cons.1 h with rfl | h
    · simp only [Btot]; omega
    · have := ih h; simp only [Btot]; omega
theorem same_f (l : List S43) (hl : l.length ≤ 9223372036854775807) (ht : Btot l ≤ 9223372036854775807) (k : Nat) (hk : l.length + Btot l + 5 < k) : threshingref04_Same.f k l l = some true := by
  unfold threshingref04_Same.f
  rw [if_pos rfl]
  have key : ∀ (n k i : Nat), i + n = l.length → n + Btot l + 4 < k → threshingref04_Same.l0 k l l (i : Int) = some true := by
    intro n
    induction n with
    | zero =>
      intro k i hi hk
      obtain ⟨k, rfl⟩ : ∃ m, k = m + 1 := ⟨k - 1, by omega⟩
      simp only [threshingref04_Same.l0]
      rw [if_neg (by omega)]
    | succ n ih =>
      intro k i hi hk
      obtain ⟨k, rfl⟩ : ∃ m, k = m + 1 := ⟨k - 1, by omega⟩
      have hw : wrap64 ((i : Int) + 1) = ((i + 1 : Nat) : Int) := by rw [wrap_succ (n := l.length) (by omega) (by omega) hl]; rfl
      have hm := Btot_mem l _ (rd43_mem l (i : Int) (by omega) (by omega))
      simp only [threshingref04_Same.l0]
      rw [if_pos (by omega), if_pos (by omega), if_pos (by omega), sameStep_f _ (by omega) (by omega) k (by omega)]
      simp only [Option.bind_some, if_true]
      rw [hw]
      exact ih k (i + 1) (by omega) (by omega)
  exact key l.length k 0 (by omega) (by omega)

/-! ### proofs ahead of others -/
theorem steps_prefix : ∀ (l' l : List S43) (x : List Int), (∀ s ∈ l', Bmay s = true) → (∀ s ∈ l, Bmay s = true) → Bsteps l' ++ x = Bsteps l → ∃ l'', l = l' ++ l'' ∧ x = Bsteps l'' := by
  intro l'
  induction l' with
  | nil => intro l x _ _ h; exact ⟨l, rfl, h⟩
  | cons s l' ih =>
    intro l x h1 h2 h
    cases l with
    | nil =>
      have := congrArg List.length h
      have hp := Bstep_ne s
      rw [Bsteps_cons] at this
      simp only [List.length_append, Bsteps, List.flatMap_nil, List.length_nil] at this
      omega
    | cons t l =>
      rw [Bsteps_cons, Bsteps_cons, List.append_assoc] at h
      have e1 := Bone_step s (h1 s List.mem_cons_self) (Bsteps l' ++ x)
      have e2 := Bone_step t (h2 t List.mem_cons_self) (Bsteps l)
      rw [h, e2] at e1
      simp only [Prod.mk.injEq] at e1
      obtain ⟨_, e3, e4, _⟩ := e1
      subst e4
      obtain ⟨l'', e5, e6⟩ := ih l x (fun z hz => h1 z (List.mem_cons_of_mem _ hz)) (fun z hz => h2 z (List.mem_cons_of_mem _ hz)) e3.symm
      exact ⟨l'', by rw [e5]; rfl, e6⟩
theorem Bstep_size (s : S43) : s.f3.length + 1 ≤ (Bstep s).length := by
  have h1 := Bflat_pos Bput (fun x => Bput_pos _) s.f3
  have h2 := Bput_pos 0
  unfold Bstep Bhints
  simp only [List.length_append]
  have : 0 < (Bhead s).length := by unfold Bhead; split <;> simp
  omega
theorem Bstep_tot (s : S43) (h : Bmay s = true) : s.f2.length + s.f3.length + 1 ≤ (Bstep s).length := by
  obtain ⟨hk, _⟩ := Bmay_facts s h
  have h1 := Bflat_pos Bput (fun x => Bput_pos _) s.f3
  have h3 := Bflat_pos (fun x => Bput (wrap64 x)) (fun x => Bput_pos _) s.f2
  have h2 := Bput_pos 0
  unfold Bstep Bhints Bhead
  rcases hk with hk | ⟨hk, h0⟩
  · rw [if_pos hk]
    simp only [List.length_append, List.length_cons, Blits]
    omega
  · rw [h0, if_neg (by omega)]
    simp only [List.length_append, List.length_cons, List.length_nil]
    omega
theorem Bsteps_tot (l : List S43) (h : ∀ s ∈ l, Bmay s = true) : l.length + Btot l ≤ (Bsteps l).length := by
  induction l with
  | nil => simp [Btot]
  | cons s l ih =>
    have h1 := Bstep_tot s (h s List.mem_cons_self)
    have h2 := ih (fun z hz => h z (List.mem_cons_of_mem _ hz))
    rw [Bsteps_cons]
    simp only [List.length_append, List.length_cons, Btot]
    omega
theorem bytes_of_wf {l : List Int} (h : ∀ x ∈ l, (Lit.int .u8 x).wf = true) : Bytes l := by
  intro x hx
  have := h x hx
  simp only [Lit.wf, Bool.and_eq_true, decide_eq_true_eq] at this
  exact ⟨this.1, this.2⟩
theorem parse_f (k : Nat) (l : List Int) (h : l.length ≤ 1048576) : binary_Parse.f k l = some (Bparse l) := by unfold binary_Parse.f; rw [if_pos h]
end Go.Proofs.YtlimaebaagabaaaDoor.PB
