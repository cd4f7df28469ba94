/- The law BinaryWrites over lists, and its walk. -/
import Derived.Test.YtlimaebaagabaaaPure4
import Derived.Test.YtlimaebaagabaaaHOpen
import Derived.Test.YtlimaebaagabaaaFThreshinglaw05BinaryWrites
namespace Go.Proofs.Ytlimaebaagabaaa.PB
open Go.RowKit Go.Proofs.YtlimaebaagabaaaW.PrintWords Go.Proofs.YtlimaebaagabaaaW.PrintLast Go.Proofs.YtlimaebaagabaaaW.PrintMore
set_option linter.unusedVariables false
set_option linter.unusedSimpArgs false

instance : Inhabited S43 := ⟨z43⟩
def GoodSteps (l : List S43) : Prop := l.length ≤ maxLen ∧ ∀ s ∈ l, s.f2.length ≤ maxLen ∧ s.f3.length ≤ maxLen
theorem opens43 : Opens Try.prog 43 k43 (fun s => (Lit.int .u8 s.f0).wf = true ∧ (Lit.int .i64 s.f1).wf = true ∧ (s.f2.length ≤ maxLen ∧ ∀ y ∈ s.f2, (Lit.int .i32 y).wf = true) ∧ (s.f3.length ≤ maxLen ∧ ∀ y ∈ s.f3, (Lit.int .i64 y).wf = true)) := by
  have h44 : Opens Try.prog 44 (Kd.int .i32) _ := opens_int Try.underlying44
  have h2 : Opens Try.prog 2 (Kd.int .i64) _ := opens_int Try.underlying2
  have h5 : Opens Try.prog 5 (Kd.int .u8) _ := opens_int Try.underlying5
  have h41 : Opens Try.prog 41 (Kd.slice 44 (Kd.int .i32)) _ := opens_slice (d := Kd.int .i32) Try.underlying41 (by kernel_rfl) h44
  have h39 : Opens Try.prog 39 (Kd.slice 2 (Kd.int .i64)) _ := opens_slice (d := Kd.int .i64) Try.underlying39 (by kernel_rfl) h2
  exact opens_struct4 (f := fun x : S43 => (x.f0, x.f1, x.f2, x.f3)) (fun a b c d => ⟨a, b, c, d⟩) (fun _ _ _ _ => rfl) Try.underlying43 rfl rfl rfl rfl (by kernel_rfl) (by kernel_rfl) (by kernel_rfl) (by kernel_rfl) (by kernel_rfl) h5 h2 h41 h39
theorem opens22 : Opens Try.prog 22 (Kd.slice 43 k43) GoodSteps := by
  intro H enc w spare held fuel cs x h
  obtain ⟨y, h1, h2, h3⟩ := opens_slice (d := k43) Try.underlying22 (by kernel_rfl) opens43 H enc w spare held fuel cs x h
  exact ⟨y, h1, h2, fun s hs => ⟨(h3 s hs).2.2.1.1, (h3 s hs).2.2.2.1⟩⟩

theorem BinaryWrites_ev (l : List S43) (hl : l.length ≤ maxLen) : Ev (fun k => threshinglaw05_BinaryWrites.f k l) true := by
  unfold maxLen at hl
  obtain ⟨m, hm, hs⟩ := size_ev l hl
  have hw : Ev (fun k => (threshinglaw05_works.f k).bind fun t => some t) true := ⟨0, fun k _ => by show (threshinglaw05_works.f k).bind _ = _; rw [works_f]; rfl⟩
  unfold threshinglaw05_BinaryWrites.f
  refine Ev.bind hm ?_
  by_cases h6 : m > 6000
  · simp only [if_pos h6]
    exact hw
  · simp only [if_neg h6]
    have hs := hs (by omega)
    refine Ev.bind (lent_ev l (by omega) (by omega)) ?_
    refine Ev.bind (a := Bwrite l) ⟨0, fun k _ => by unfold binary_Write.f; rw [if_pos (Bsmall_of l (by omega))]⟩ ?_
    refine Ev.bind (rwrite_ev l (by omega) (by omega)) ?_
    simp only [if_true]
    refine Ev.bind (same_ev l (by omega) (by omega)) ?_
    simp only [if_true]
    exact hw

theorem binaryWrites_walk {w : World} (A0 : Option Addr) (c0 : Nat) (l0 : List S43) (hr0 : Kd.C k43 w A0 l0.length l0) (hc0 : l0.length ≤ c0) (hg : GoodSteps l0) (w' : World) (hw : w' = w := by rfl) :
    Calls Try.prog 3 #[.slice A0 l0.length c0] w' fun e w'' => e = .returned (.bool true) ∧ Below w'.heap.size w' w'' := by
  subst hw
  obtain ⟨k, h⟩ := (BinaryWrites_ev l0 hg.1).rounds
  exact threshinglaw05_BinaryWrites.calls k A0 c0 l0 true _ hr0 hc0 h
end Go.Proofs.Ytlimaebaagabaaa.PB
