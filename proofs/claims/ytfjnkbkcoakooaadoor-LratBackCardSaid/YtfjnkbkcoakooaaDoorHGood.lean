import Derived.Test.YtfjnkbkcoakooaaDoorHOpen
import Derived.Test.YtfjnkbkcoakooaaDoorSpecl
namespace Go.Proofs.YtfjnkbkcoakooaaDoor.PB
open Go.RowKit Go.Proofs.YtfjnkbkcoakooaaDoorW.PrintWords Go.Proofs.YtfjnkbkcoakooaaDoorW.PrintLast Go.Proofs.YtfjnkbkcoakooaaDoorW.PrintMore
set_option linter.unusedVariables false
set_option linter.unusedSimpArgs false
instance : Inhabited S43 := ⟨z43⟩
def GoodSteps (l : List S43) : Prop := l.length ≤ maxLen ∧ ∀ s ∈ l, s.f2.length ≤ maxLen ∧ s.f3.length ≤ maxLen
theorem opens43 : Opens Tryd.prog 43 k43 (fun s => (Lit.int .u8 s.f0).wf = true ∧ (Lit.int .i64 s.f1).wf = true ∧ (s.f2.length ≤ maxLen ∧ ∀ y ∈ s.f2, (Lit.int .i32 y).wf = true) ∧ (s.f3.length ≤ maxLen ∧ ∀ y ∈ s.f3, (Lit.int .i64 y).wf = true)) := by
  have h44 : Opens Tryd.prog 44 (Kd.int .i32) _ := opens_int Tryd.underlying44
  have h2 : Opens Tryd.prog 2 (Kd.int .i64) _ := opens_int Tryd.underlying2
  have h5 : Opens Tryd.prog 5 (Kd.int .u8) _ := opens_int Tryd.underlying5
  have h40 : Opens Tryd.prog 40 (Kd.slice 44 (Kd.int .i32)) _ := opens_slice (d := Kd.int .i32) Tryd.underlying40 (by kernel_rfl) h44
  have h41 : Opens Tryd.prog 41 (Kd.slice 2 (Kd.int .i64)) _ := opens_slice (d := Kd.int .i64) Tryd.underlying41 (by kernel_rfl) h2
  exact opens_struct4 (f := fun x : S43 => (x.f0, x.f1, x.f2, x.f3)) (fun a b c d => ⟨a, b, c, d⟩) (fun _ _ _ _ => rfl) Tryd.underlying43 rfl rfl rfl rfl (by kernel_rfl) (by kernel_rfl) (by kernel_rfl) (by kernel_rfl) (by kernel_rfl) h5 h2 h40 h41
theorem opens22 : Opens Tryd.prog 22 (Kd.slice 43 k43) GoodSteps := by
  intro H enc w spare held fuel cs x h
  obtain ⟨y, h1, h2, h3⟩ := opens_slice (d := k43) Tryd.underlying22 (by kernel_rfl) opens43 H enc w spare held fuel cs x h
  exact ⟨y, h1, h2, fun s hs => ⟨(h3 s hs).2.2.1.1, (h3 s hs).2.2.2.1⟩⟩
end Go.Proofs.YtfjnkbkcoakooaaDoor.PB
