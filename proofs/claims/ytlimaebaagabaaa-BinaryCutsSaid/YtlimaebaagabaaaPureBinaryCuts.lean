/- The law BinaryCuts over numbers and lists: a proof's bytes that are cut short are wrong at the step that is cut, or the proof of the steps ahead of the cut. Its conditions: bytes, at most 6000 (else the law asks nothing but 'works'). -/
import Derived.Test.YtlimaebaagabaaaPure3
import Derived.Test.YtlimaebaagabaaaFThreshinglaw05BinaryCuts
namespace Go.Proofs.Ytlimaebaagabaaa.Pure
open Go.RowKit Go.Proofs.Ytlimaebaagabaaa.PB Go.Proofs.YtlimaebaagabaaaW.PrintWords Go.Proofs.YtlimaebaagabaaaW.PrintLast
set_option linter.unusedVariables false
set_option linter.unusedSimpArgs false

theorem cut_place (a1 : Int) (n : Nat) (hn : n ≤ 6000) : ∃ k : Nat, k ≤ n ∧ wrap64 (Int.tmod (IntKind.u64.wrap a1) (IntKind.u64.wrap (wrap64 ((n : Int) + 1)))) = (k : Int) ∧ IntKind.u64.wrap (wrap64 ((n : Int) + 1)) ≠ 0 := by
  have e1 : wrap64 ((n : Int) + 1) = (n : Int) + 1 := by unfold wrap64; omega
  have e2 : IntKind.u64.wrap ((n : Int) + 1) = (n : Int) + 1 := by rw [u64_wrap]; omega
  have h0 : 0 ≤ IntKind.u64.wrap a1 := by rw [u64_wrap]; omega
  rw [e1, e2]
  have e3 : Int.tmod (IntKind.u64.wrap a1) ((n : Int) + 1) = IntKind.u64.wrap a1 % ((n : Int) + 1) := Int.tmod_eq_emod_of_nonneg h0
  rw [e3]
  have h1 := Int.emod_nonneg (IntKind.u64.wrap a1) (show (n : Int) + 1 ≠ 0 by omega)
  have h2 := Int.emod_lt_of_pos (IntKind.u64.wrap a1) (show (0 : Int) < (n : Int) + 1 by omega)
  refine ⟨(IntKind.u64.wrap a1 % ((n : Int) + 1)).toNat, by omega, ?_, by omega⟩
  unfold wrap64
  omega

theorem BinaryCuts : threshinglaw05_BinaryCuts.Pure := by
  intro l0 a1 _ _ hwf _
  have hB := bytes_of_wf hwf
  by_cases hlen : (l0.length : Int) > 6000
  · refine ⟨0, ?_⟩
    unfold threshinglaw05_BinaryCuts.f
    rw [if_pos hlen, works_f]
    rfl
  refine ⟨20000, ?_⟩
  unfold threshinglaw05_BinaryCuts.f
  rw [if_neg hlen, parse_f _ _ (by omega), Option.bind_some]
  obtain ⟨l, r, hbs, hmay, hr⟩ := Bsplit l0.length l0 (Nat.le_refl _) hB
  rcases hr with rfl | ⟨hr, hbad⟩
  · rw [List.append_nil] at hbs
    have hp : Bparse l0 = (l, 0, 0) := by rw [hbs]; exact Bparse_ok l hmay
    rw [hp]
    simp only
    rw [if_pos trivial]
    obtain ⟨k, hk, ek, hne⟩ := cut_place a1 l0.length (by omega)
    rw [if_neg hne, ek, if_pos (by omega), if_pos (by omega), Int.toNat_natCast]
    -- the part
    have hBp : Bytes (l0.take k) := fun x hx => hB x (List.mem_of_mem_take hx)
    obtain ⟨l', r', hbs', hmay', hr'⟩ := Bsplit (l0.take k).length (l0.take k) (Nat.le_refl _) hBp
    have hpre : Bsteps l' ++ (r' ++ l0.drop k) = Bsteps l := by rw [← List.append_assoc, ← hbs', List.take_append_drop, hbs]
    obtain ⟨l'', el, ex⟩ := steps_prefix l' l _ hmay' hmay hpre
    have hkl : (l0.take k).length = k := by rw [List.length_take]; omega
    have htot := Bsteps_tot l hmay
    have hlen' : l.length + Btot l ≤ l0.length := by rw [hbs]; exact htot
    have hsub : l'.length + Btot l' ≤ l.length + Btot l := by rw [el, List.length_append, Btot_append]; omega
    have htake : l.take l'.length = l' := by rw [el]; simp
    have hsame : threshingref04_Same.f 20000 l' (l.take l'.length) = some true := by
      rw [htake]
      exact same_f l' (by omega) (by omega) 20000 (by omega)
    have hll : (l'.length : Int) ≤ (l.length : Int) := by rw [el, List.length_append]; omega
    rw [parse_f _ _ (by omega), Option.bind_some]
    rcases hr' with rfl | ⟨hr', hbad'⟩
    · rw [List.append_nil] at hbs'
      have hp' : Bparse (l0.take k) = (l', 0, 0) := by rw [hbs']; exact Bparse_ok l' hmay'
      rw [hp']
      simp only
      rw [if_pos trivial, if_pos hll, if_pos (by omega), Int.toNat_natCast, hsame]
      simp only [Option.bind_some, if_true]
      rw [works_f]
      rfl
    · have hp' : Bparse (l0.take k) = ([], 50, ((Bsteps l').length : Int)) := by rw [hbs']; exact Bparse_bad l' r' hmay' hr' hbad'
      have hat : (Bsteps l').length < k := by
        have h1 : (l0.take k).length = (Bsteps l').length + r'.length := by rw [hbs', List.length_append]
        have h2 : 0 < r'.length := List.length_pos_iff.mpr hr'
        omega
      have hahead : l0.take (Bsteps l').length = Bsteps l' := by
        have h1 : (l0.take k).take (Bsteps l').length = Bsteps l' := by rw [hbs']; simp
        rw [List.take_take, Nat.min_eq_left (by omega)] at h1
        exact h1
      have hlt : (l'.length : Int) < (l.length : Int) := by
        have h0 : l'' ≠ [] := by
          intro h0
          rw [h0] at ex
          have : r' = [] := by
            have := congrArg List.length ex
            simp only [List.length_append, Bsteps, List.flatMap_nil, List.length_nil] at this
            exact List.eq_nil_of_length_eq_zero (by omega)
          exact hr' this
        have := List.length_pos_iff.mpr h0
        rw [el, List.length_append]
        omega
      rw [hp']
      simp only
      rw [if_neg (by omega), if_pos (by omega), if_pos (by omega), Int.toNat_natCast, hahead, parse_f _ _ (by omega), Option.bind_some, Bparse_ok l' hmay']
      simp only [List.length_nil]
      rw [if_pos trivial, if_pos (by omega), if_pos (by omega), if_pos trivial, if_pos hlt, if_pos (by omega), if_pos (by omega), Int.toNat_natCast, hsame]
      simp only [Option.bind_some, if_true]
      rw [works_f]
      rfl
  · have hp : Bparse l0 = ([], 50, ((Bsteps l).length : Int)) := by rw [hbs]; exact Bparse_bad l r hmay hr hbad
    rw [hp]
    simp only
    rw [if_neg (by omega), works_f]
    rfl
end Go.Proofs.Ytlimaebaagabaaa.Pure
