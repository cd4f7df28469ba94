import Derived.Test.YtlimaebaagabaaaDoorHOpen
import Derived.Test.YtlimaebaagabaaaDoorHBack
namespace Go.Proofs.YtlimaebaagabaaaDoor.PB
open Go.RowKit Go.Proofs.YtlimaebaagabaaaDoorW.PrintWords Go.Proofs.YtlimaebaagabaaaDoorW.PrintLast Go.Proofs.YtlimaebaagabaaaDoorW.PrintMore
set_option linter.unusedVariables false
set_option linter.unusedSimpArgs false
instance : Inhabited S43 := ⟨z43⟩
def GoodSteps (l : List S43) : Prop := l.length ≤ maxLen ∧ ∀ s ∈ l, s.f2.length ≤ maxLen ∧ s.f3.length ≤ maxLen
theorem opens39 : Opens Tryd.prog 39 k43 (fun s => (Lit.int .u8 s.f0).wf = true ∧ (Lit.int .i64 s.f1).wf = true ∧ (s.f2.length ≤ maxLen ∧ ∀ y ∈ s.f2, (Lit.int .i32 y).wf = true) ∧ (s.f3.length ≤ maxLen ∧ ∀ y ∈ s.f3, (Lit.int .i64 y).wf = true)) := by
  have h40 : Opens Tryd.prog 40 (Kd.int .i32) _ := opens_int Tryd.underlying40
  have h2 : Opens Tryd.prog 2 (Kd.int .i64) _ := opens_int Tryd.underlying2
  have h5 : Opens Tryd.prog 5 (Kd.int .u8) _ := opens_int Tryd.underlying5
  have h36 : Opens Tryd.prog 36 (Kd.slice 40 (Kd.int .i32)) _ := opens_slice (d := Kd.int .i32) Tryd.underlying36 (by kernel_rfl) h40
  have h37 : Opens Tryd.prog 37 (Kd.slice 2 (Kd.int .i64)) _ := opens_slice (d := Kd.int .i64) Tryd.underlying37 (by kernel_rfl) h2
  exact opens_struct4 (f := fun x : S43 => (x.f0, x.f1, x.f2, x.f3)) (fun a b c d => ⟨a, b, c, d⟩) (fun _ _ _ _ => rfl) Tryd.underlying39 rfl rfl rfl rfl (by kernel_rfl) (by kernel_rfl) (by kernel_rfl) (by kernel_rfl) (by kernel_rfl) h5 h2 h36 h37
theorem opens22 : Opens Tryd.prog 22 (Kd.slice 39 k43) GoodSteps := by
  intro H enc w spare held fuel cs x h
  obtain ⟨y, h1, h2, h3⟩ := opens_slice (d := k43) Tryd.underlying22 (by kernel_rfl) opens39 H enc w spare held fuel cs x h
  exact ⟨y, h1, h2, fun s hs => ⟨(h3 s hs).2.2.1.1, (h3 s hs).2.2.2.1⟩⟩
theorem binaryBack_walk {w : World} (A0 : Option Addr) (c0 : Nat) (l0 : List S43) (hr0 : Kd.C k43 w A0 l0.length l0) (hc0 : l0.length ≤ c0) (_ : GoodSteps l0) (A1 : Option Addr) (c1 : Nat) (l1 : List Int) (hr1 : Kd.C (Kd.int .u8) w A1 l1.length l1) (hc1 : l1.length ≤ c1) (hB1 : Bytes l1) (_ : l1.length ≤ 140737488351232) (w' : World) (htab : Lib.TabIs Tryd.prog w' "internal/strconv.uint64pow10" .u64 Lib.pow10Tab) (hw : w' = w := by rfl) :
    Calls Tryd.prog 3 #[.slice A0 l0.length c0, .slice A1 l1.length c1] w' fun e w'' => e = .returned (.bool true) ∧ Below w'.heap.size w' w'' := by
  subst hw
  exact back_calls A0 A1 c0 c1 l0 l1 _ hr0 hc0 hr1 hc1 hB1 (Lib.tabBelow_of_tabIs htab)
end Go.Proofs.YtlimaebaagabaaaDoor.PB
