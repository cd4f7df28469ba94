import Derived.Test.YtfjnkbkcoakooaaDoorPB0
import Derived.Deep.Slices
import Derived.ProofKit
import Derived.Test.YtfjnkbkcoakooaaDoorSpecl
section
namespace Go.Proofs.YtfjnkbkcoakooaaDoor.PB
open Go.RowKit Go.Proofs.YtfjnkbkcoakooaaDoorW.PrintWords Go.Proofs.YtfjnkbkcoakooaaDoorW.PrintLast Go.Proofs.YtfjnkbkcoakooaaDoorW.PrintMore
open Go.ChangeShapes Go.WideShapes
set_option linter.unusedVariables false
set_option linter.unusedSimpArgs false

/-- What reads as data of type t is of kind d, and meets 'good'. -/
def Opens {α : Type} (P : Program) (t : TypeId) (d : Kd α) (good : α → Prop) : Prop :=
  ∀ (H : Type) (enc : TypeId × Value → H) (w : World) (spare : Nat → Bool) (held : Bool) (fuel : Nat) (cs : List Value) (x : DataW H × List MemPlace),
    DataW.trod enc P w 0 spare held fuel t cs = some x → ∃ y : α, d.K w y cs ∧ good y

theorem opens_int {P : Program} {t : TypeId} {k : IntKind} (ht : P.underlying t = some (.int k)) : Opens P t (Kd.int k) (fun n => (Lit.int k n).wf = true) := by
  intro H enc w spare held fuel cs x h
  cases fuel with
  | zero => simp [DataW.trod] at h
  | succ n =>
    unfold DataW.trod at h
    rw [ht] at h
    split at h <;> simp_all
    obtain ⟨⟨rfl, h1⟩, h2⟩ := h
    exact ⟨_, rfl, h1⟩

theorem mapM_get {α β : Type} {f : α → Option β} : ∀ {l : List α} {r : List β}, l.mapM f = some r → r.length = l.length ∧ ∀ (i : Nat) (a : α), l[i]? = some a → ∃ b, r[i]? = some b ∧ f a = some b := by
  intro l
  induction l with
  | nil => intro r h; simp at h; subst h; exact ⟨rfl, fun i a h => by simp at h⟩
  | cons a l ih =>
    intro r h
    simp only [List.mapM_cons, Option.bind_eq_bind, Option.bind_eq_some_iff, Option.pure_def, Option.some.injEq] at h
    obtain ⟨b, hb, bs, hbs, rfl⟩ := h
    obtain ⟨h1, h2⟩ := ih hbs
    refine ⟨by simp [h1], fun i x hx => ?_⟩
    cases i with
    | zero => simp at hx; subst hx; exact ⟨b, by simp, hb⟩
    | succ i => simp at hx; obtain ⟨y, hy, hf⟩ := h2 i x hx; exact ⟨y, by simpa using hy, hf⟩
theorem cells_get {w : World} {a : Addr} {n : Nat} {cs : List Value} (h : w.cells? 0 a n = some cs) : cs.length = n ∧ ∀ i u, cs[i]? = some u → w.cell? (a.add i) = some u := by
  unfold World.cells? at h
  rw [if_pos (Nat.zero_le _)] at h
  obtain ⟨h1, h2⟩ := mapM_get h
  rw [List.length_range] at h1
  refine ⟨h1, fun i u hu => ?_⟩
  have hi : i < n := by rw [← h1]; exact (List.getElem?_eq_some_iff.1 hu).1
  obtain ⟨b, hb, hf⟩ := h2 i i (by simp [hi])
  rw [hu] at hb
  injection hb with hb
  subst hb
  exact hf
theorem addr_add_add (a : Addr) (i j : Nat) : (a.add i).add j = a.add (i + j) := Go.Deep.add_add a i j

theorem opens_slice {α : Type} [Inhabited α] {P : Program} {t e : TypeId} {d : Kd α} {good : α → Prop} (ht : P.underlying t = some (.slice e)) (hc : P.cellsOf e = d.sz) (he : Opens P e d good) :
    Opens P t (Kd.slice e d) (fun l => l.length ≤ maxLen ∧ ∀ y ∈ l, good y) := by
  intro H enc w spare held fuel cs x h
  rcases Go.Deep.open_slice ht h with ⟨rfl, _⟩ | ⟨a, len, cap, m, n, D, Pl, rfl, hb, hl, hm, hmm, _, hx⟩
  · exact ⟨[], ⟨none, 0, rfl, Nat.le_refl _, rfl, by simp, fun hp => absurd hp (by simp)⟩, by simp, by simp⟩
  · have hlm : len ≤ m := by rw [hmm]; split <;> omega
    have each : ∀ i, i < len → ∃ y : α, (∃ cs', w.cells? 0 (a.add (i * d.sz)) d.sz = some cs' ∧ d.K w y cs') ∧ good y := by
      intro i hi
      obtain ⟨cs', h1, h2⟩ := hx i (by omega)
      obtain ⟨y, h3, h4⟩ := he H enc w spare held n cs' _ h2
      rw [hc] at h1
      exact ⟨y, ⟨cs', h1, h3⟩, h4⟩
    obtain ⟨f, hf⟩ := Go.Deep.choose_lt each
    have hlen : ((List.range len).map f).length = len := by simp
    refine ⟨(List.range len).map f, ⟨some a, cap, by rw [hlen], by rw [hlen]; exact hl, ?_, ?_, ?_⟩, ?_, ?_⟩
    · rfl
    · rw [hlen]; unfold maxLen at hm; omega
    · intro _
      refine ⟨a, rfl, fun j p hj => ?_⟩
      have hjl : j < len := by have := (List.getElem?_eq_some_iff.1 hj).1; simpa using this
      have hp : f j = p := by simpa [hjl] using hj
      subst hp
      obtain ⟨⟨cs', h1, h2⟩, _⟩ := hf j hjl
      obtain ⟨h3, h4⟩ := cells_get h1
      exact ⟨cs', h3, h2, fun i u hu => by rw [← addr_add_add]; exact h4 i u hu⟩
    · rw [hlen]; omega
    · intro y hy
      obtain ⟨i, hi, rfl⟩ := List.mem_map.1 hy
      exact (hf i (List.mem_range.1 hi)).2

theorem opens_struct4 {α β γ δ ε : Type} {P : Program} {t : TypeId} {f0 f1 f2 f3 : Field} {k0 : Kd α} {k1 : Kd β} {k2 : Kd γ} {k3 : Kd δ} {g0 : α → Prop} {g1 : β → Prop} {g2 : γ → Prop} {g3 : δ → Prop} {f : ε → α × β × γ × δ} (inv : α → β → γ → δ → ε)
    (hinv : ∀ a b c d, f (inv a b c d) = (a, b, c, d)) (ht : P.underlying t = some (.struct #[f0, f1, f2, f3])) (o0 : f0.offset = 0) (o1 : f1.offset = 1) (o2 : f2.offset = 2) (o3 : f3.offset = 3)
    (c0 : P.cellsOf f0.type = 1) (c1 : P.cellsOf f1.type = 1) (c2 : P.cellsOf f2.type = 1) (c3 : P.cellsOf f3.type = 1) (ct : P.cellsOf t = 4)
    (h0 : Opens P f0.type k0 g0) (h1 : Opens P f1.type k1 g1) (h2 : Opens P f2.type k2 g2) (h3 : Opens P f3.type k3 g3) :
    Opens P t (Kd.iso (Kd.pair k0 (Kd.pair k1 (Kd.pair k2 k3))) f) (fun s => g0 (f s).1 ∧ g1 (f s).2.1 ∧ g2 (f s).2.2.1 ∧ g3 (f s).2.2.2) := by
  intro H enc w spare held fuel cs x h
  obtain ⟨xs, n, _, _, hlen, hxl, hx⟩ := DataW.trod_struct ht h
  rw [ct] at hlen
  obtain ⟨a, b, c, d, rfl⟩ : ∃ a b c d, cs = [a, b, c, d] := by
    match cs, hlen with
    | [a, b, c, d], _ => exact ⟨a, b, c, d, rfl⟩
  have e0 := hx 0 f0 rfl
  have e1 := hx 1 f1 rfl
  have e2 := hx 2 f2 rfl
  have e3 := hx 3 f3 rfl
  rw [o0, c0] at e0
  rw [o1, c1] at e1
  rw [o2, c2] at e2
  rw [o3, c3] at e3
  have hxl' : xs.length = 4 := hxl
  obtain ⟨y0, k0', q0⟩ := h0 H enc w spare held n [a] (xs[0]'(by omega)) (by rw [← List.getElem?_eq_getElem]; exact e0)
  obtain ⟨y1, k1', q1⟩ := h1 H enc w spare held n [b] (xs[1]'(by omega)) (by rw [← List.getElem?_eq_getElem]; exact e1)
  obtain ⟨y2, k2', q2⟩ := h2 H enc w spare held n [c] (xs[2]'(by omega)) (by rw [← List.getElem?_eq_getElem]; exact e2)
  obtain ⟨y3, k3', q3⟩ := h3 H enc w spare held n [d] (xs[3]'(by omega)) (by rw [← List.getElem?_eq_getElem]; exact e3)
  refine ⟨inv y0 y1 y2 y3, ?_, by simp only [hinv]; exact ⟨q0, q1, q2, q3⟩⟩
  show (Kd.pair k0 (Kd.pair k1 (Kd.pair k2 k3))).K w (f (inv y0 y1 y2 y3)) [a, b, c, d]
  rw [hinv]
  exact ⟨[a], [b, c, d], rfl, k0', [b], [c, d], rfl, k1', [c], [d], rfl, k2', k3'⟩
end Go.Proofs.YtfjnkbkcoakooaaDoor.PB
end

section
namespace Go.Proofs.YtfjnkbkcoakooaaDoor.PB
open Go.RowKit Go.Proofs.YtfjnkbkcoakooaaDoorW.PrintWords Go.Proofs.YtfjnkbkcoakooaaDoorW.PrintLast Go.Proofs.YtfjnkbkcoakooaaDoorW.PrintMore
set_option linter.unusedVariables false
set_option linter.unusedSimpArgs false
instance : Inhabited S43 := ⟨z43⟩
def GoodSteps (l : List S43) : Prop := l.length ≤ maxLen ∧ ∀ s ∈ l, s.f2.length ≤ maxLen ∧ s.f3.length ≤ maxLen
theorem opens43 : Opens Tryd.prog 43 k43 (fun s => (Lit.int .u8 s.f0).wf = true ∧ (Lit.int .i64 s.f1).wf = true ∧ (s.f2.length ≤ maxLen ∧ ∀ y ∈ s.f2, (Lit.int .i32 y).wf = true) ∧ (s.f3.length ≤ maxLen ∧ ∀ y ∈ s.f3, (Lit.int .i64 y).wf = true)) := by
  have h44 : Opens Tryd.prog 44 (Kd.int .i32) _ := opens_int Tryd.underlying44
  have h2 : Opens Tryd.prog 2 (Kd.int .i64) _ := opens_int Tryd.underlying2
  have h5 : Opens Tryd.prog 5 (Kd.int .u8) _ := opens_int Tryd.underlying5
  have h40 : Opens Tryd.prog 40 (Kd.slice 44 (Kd.int .i32)) _ := opens_slice (d := Kd.int .i32) Tryd.underlying40 (by kernel_rfl) h44
  have h41 : Opens Tryd.prog 41 (Kd.slice 2 (Kd.int .i64)) _ := opens_slice (d := Kd.int .i64) Tryd.underlying41 (by kernel_rfl) h2
  exact opens_struct4 (f := fun x : S43 => (x.f0, x.f1, x.f2, x.f3)) (fun a b c d => ⟨a, b, c, d⟩) (fun _ _ _ _ => rfl) Tryd.underlying43 rfl rfl rfl rfl (by kernel_rfl) (by kernel_rfl) (by kernel_rfl) (by kernel_rfl) (by kernel_rfl) h5 h2 h40 h41
theorem opens22 : Opens Tryd.prog 22 (Kd.slice 43 k43) GoodSteps := by
  intro H enc w spare held fuel cs x h
  obtain ⟨y, h1, h2, h3⟩ := opens_slice (d := k43) Tryd.underlying22 (by kernel_rfl) opens43 H enc w spare held fuel cs x h
  exact ⟨y, h1, h2, fun s hs => ⟨(h3 s hs).2.2.1.1, (h3 s hs).2.2.2.1⟩⟩
end Go.Proofs.YtfjnkbkcoakooaaDoor.PB
end
