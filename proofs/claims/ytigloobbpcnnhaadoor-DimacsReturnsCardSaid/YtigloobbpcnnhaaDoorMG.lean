import Derived.Test.YtigloobbpcnnhaaDoorM3
import Derived.Test.YtigloobbpcnnhaaDoorM8
import Derived.Deep.Slices
import Derived.ProofKit
import Derived.Lib.SmallJoins
section
namespace Go.Proofs.YtigloobbpcnnhaaDoor.PB
open Go.RowKit Go.Proofs.YtigloobbpcnnhaaDoorW.PrintWords Go.Proofs.YtigloobbpcnnhaaDoorW.PrintLast Go.Proofs.YtigloobbpcnnhaaDoorW.PrintMore
open Go.ChangeShapes Go.WideShapes
set_option linter.unusedVariables false
set_option linter.unusedSimpArgs false
/-! ### The law's arguments, opened -/
/-- What reads as data of type t, and is no heavier than the reach, is of kind d, and meets 'good'. -/
def OpensW {α : Type} (P : Program) (t : TypeId) (d : Kd α) (good : α → Prop) : Prop :=
  ∀ (H : Type) (enc : TypeId × Value → H) (w : World) (spare : Nat → Bool) (held : Bool) (fuel : Nat) (cs : List Value) (x : DataW H × List MemPlace),
    DataW.trod enc P w 0 spare held fuel t cs = some x → (∀ n ∈ x.1.weights P t, n ≤ reachBytes) → ∃ y : α, d.K w y cs ∧ good y
theorem opens_int {P : Program} {t : TypeId} {k : IntKind} (ht : P.underlying t = some (.int k)) : OpensW P t (Kd.int k) (fun n => (Lit.int k n).wf = true) := by
  intro H enc w spare held fuel cs x h _
  obtain ⟨n, rfl, _, hw⟩ := DataW.trod_int ht h
  exact ⟨n, rfl, hw⟩
theorem opens_bool {P : Program} {t : TypeId} (ht : P.underlying t = some .bool) : OpensW P t Kd.bool (fun _ => True) := by
  intro H enc w spare held fuel cs x h _
  obtain ⟨b, rfl, _⟩ := DataW.trod_bool ht h
  exact ⟨b, rfl, trivial⟩
theorem mapM_get {α β : Type} {f : α → Option β} : ∀ {l : List α} {r : List β}, l.mapM f = some r → r.length = l.length ∧ ∀ (i : Nat) (a : α), l[i]? = some a → ∃ b, r[i]? = some b ∧ f a = some b := by
  intro l
  induction l with
  | nil => intro r h; simp at h; subst h; exact ⟨rfl, fun i a h => by simp at h⟩
  | cons a l ih =>
    intro r h
    simp only [List.mapM_cons, Option.bind_eq_bind, Option.bind_eq_some_iff, Option.pure_def, Option.some.injEq] at h
    obtain ⟨b, hb, bs, hbs, rfl⟩ := h
    obtain ⟨h1, h2⟩ := ih hbs
    refine ⟨by simp [h1], fun i x hx => ?_⟩
    cases i with
    | zero => simp at hx; subst hx; exact ⟨b, by simp, hb⟩
    | succ i => simp at hx; obtain ⟨y, hy, hf⟩ := h2 i x hx; exact ⟨y, by simpa using hy, hf⟩
theorem cells_get {w : World} {a : Addr} {n : Nat} {cs : List Value} (h : w.cells? 0 a n = some cs) : cs.length = n ∧ ∀ i u, cs[i]? = some u → w.cell? (a.add i) = some u := by
  unfold World.cells? at h
  rw [if_pos (Nat.zero_le _)] at h
  obtain ⟨h1, h2⟩ := mapM_get h
  rw [List.length_range] at h1
  refine ⟨h1, fun i u hu => ?_⟩
  have hi : i < n := by rw [← h1]; exact (List.getElem?_eq_some_iff.1 hu).1
  obtain ⟨b, hb, hf⟩ := h2 i i (by simp [hi])
  rw [hu] at hb
  injection hb with hb
  subst hb
  exact hf
theorem addr_add_add (a : Addr) (i j : Nat) : (a.add i).add j = a.add (i + j) := Go.Deep.add_add a i j

theorem weightsAll_mem {H : Type} {P : Program} {e : TypeId} {d : DataW H} {n : Nat} : ∀ {ds : List (DataW H)}, d ∈ ds → n ∈ d.weights P e → n ∈ DataW.weightsAll P e ds := by
  intro ds
  induction ds with
  | nil => intro h; cases h
  | cons x r ih =>
    intro h hn
    simp only [DataW.weightsAll, List.mem_append]
    rcases List.mem_cons.1 h with rfl | h
    · exact .inl hn
    · exact .inr (ih h hn)

theorem opens_slice {α : Type} [Inhabited α] {P : Program} {t e : TypeId} {d : Kd α} {good : α → Prop} (ht : P.underlying t = some (.slice e)) (hc : P.cellsOf e = d.sz) (hbt : 1 ≤ P.bytesOf e) (he : OpensW P e d good) :
    OpensW P t (Kd.slice e d) (fun l => l.length ≤ 140737488351232 ∧ ∀ y ∈ l, good y) := by
  intro H enc w spare held fuel cs x h hw
  rcases Go.Deep.open_slice ht h with ⟨rfl, _⟩ | ⟨a, len, cap, m, n, D, Pl, rfl, hb, hl, hm, hmm, hx0, hx⟩
  · exact ⟨[], ⟨none, 0, rfl, Nat.le_refl _, rfl, by simp, fun hp => absurd hp (by simp)⟩, by simp, by simp⟩
  · have hlm : len ≤ m := by rw [hmm]; split <;> omega
    have hx1 := congrArg Prod.fst hx0
    simp only at hx1
    rw [hx1] at hw
    simp only [DataW.weights, ht, List.mem_cons, List.mem_append] at hw
    have hw1 := hw _ (.inl rfl)
    have each : ∀ i, i < len → ∃ y : α, (∃ cs', w.cells? 0 (a.add (i * d.sz)) d.sz = some cs' ∧ d.K w y cs') ∧ good y := by
      intro i hi
      obtain ⟨cs', h1, h2⟩ := hx i (by omega)
      obtain ⟨y, h3, h4⟩ := he H enc w spare held n cs' _ h2 (fun n hn => hw n (.inr (.inl (weightsAll_mem (d := D i) (List.mem_map.2 ⟨i, List.mem_range.2 hi, rfl⟩) hn))))
      rw [hc] at h1
      exact ⟨y, ⟨cs', h1, h3⟩, h4⟩
    obtain ⟨f, hf⟩ := Go.Deep.choose_lt each
    have hlen : ((List.range len).map f).length = len := by simp
    refine ⟨(List.range len).map f, ⟨some a, cap, by rw [hlen], by rw [hlen]; exact hl, ?_, ?_, ?_⟩, ?_, ?_⟩
    · rfl
    · rw [hlen]; unfold maxLen at hm; omega
    · intro _
      refine ⟨a, rfl, fun j p hj => ?_⟩
      have hjl : j < len := by have := (List.getElem?_eq_some_iff.1 hj).1; simpa using this
      have hp : f j = p := by simpa [hjl] using hj
      subst hp
      obtain ⟨⟨cs', h1, h2⟩, _⟩ := hf j hjl
      obtain ⟨h3, h4⟩ := cells_get h1
      exact ⟨cs', h3, h2, fun i u hu => by rw [← addr_add_add]; exact h4 i u hu⟩
    · rw [hlen]
      have h2 := Nat.le_mul_of_pos_right (List.map D (List.range len)).length hbt
      have h3 : (List.map D (List.range len)).length ≤ (List.map D (List.range len)).length * P.bytesOf e := h2
      rw [Nat.add_mul] at hw1
      simp only [List.length_map, List.length_range] at hw1 h3
      have : reachBytes = 140737488351232 := rfl
      omega
    · intro y hy
      obtain ⟨i, hi, rfl⟩ := List.mem_map.1 hy
      exact (hf i (List.mem_range.1 hi)).2
theorem opens_kcs : OpensW Tryd.prog 23 (Kd.slice 50 kcs) (fun l => l.length ≤ 140737488351232 ∧ ∀ y ∈ l, y.length ≤ 140737488351232 ∧ ∀ x ∈ y, (Lit.int .i32 x).wf = true) := by
  have h67 : OpensW Tryd.prog 67 (Kd.int .i32) _ := opens_int Tryd.underlying67
  have h50 : OpensW Tryd.prog 50 (Kd.slice 67 (Kd.int .i32)) _ := opens_slice (d := Kd.int .i32) Tryd.underlying50 (by kernel_rfl) (of_decide_eq_true (by kernel_rfl)) h67
  exact opens_slice (d := kcs) Tryd.underlying23 (by kernel_rfl) (of_decide_eq_true (by kernel_rfl)) h50
def GoodF (cs : List (List Int)) : Prop := cs.length ≤ 140737488355328 ∧ ∀ q ∈ cs, q.length ≤ 140737488355328 ∧ ∀ x ∈ q, I32 x
theorem i32_of_wf {x : Int} (h : (Lit.int .i32 x).wf = true) : I32 x := by
  unfold I32
  simp [Lit.wf, IntKind.min, IntKind.max, IntKind.bits, IntKind.signed] at h
  omega
theorem i64_of_wf {x : Int} (h : (Lit.int .i64 x).wf = true) : -9223372036854775808 ≤ x ∧ x ≤ 9223372036854775807 := by
  simp [Lit.wf, IntKind.min, IntKind.max, IntKind.bits, IntKind.signed] at h
  omega
set_option maxRecDepth 100000 in
theorem open_form {H : Type} {enc : TypeId × Value → H} {w : World} {spare : Nat → Bool} {held : Bool} {r : Reach} {b0 : Nat} {v : Value} {d : DataW H} {p : List MemPlace}
    (hv : Value.okWide Tryd.prog w r b0 25 v) (h : DataW.Trod enc Tryd.prog w 0 spare held 25 v d p) (hw : ∀ n ∈ d.weights Tryd.prog 25, n ≤ reachBytes) :
    ∃ x A cap cs, v = .agg #[.int .i64 x, .slice A cs.length cap] ∧ kcs.C w A cs.length cs ∧ cs.length ≤ cap ∧ GoodF cs ∧ (-9223372036854775808 ≤ x ∧ x ≤ 9223372036854775807) := by
  obtain ⟨v0, v1, y0, y1, n, rfl, rfl, rfl, h0, h1⟩ := Go.Joins.open_agg2 Tryd.underlying25 (by kernel_rfl) (by kernel_rfl) hv h
  obtain ⟨x, hx, hwf⟩ := opens_int (k := .i64) Tryd.underlying3 H enc w spare held n [v0] _ h0 (fun n hn => hw n (by simp only [DataW.weights, Tryd.underlying25, DataW.weightsEach, List.map_cons, List.map_nil, List.mem_append]; exact .inl hn))
  obtain ⟨cs, hk, hg1, hg2⟩ := opens_kcs H enc w spare held n [v1] _ h1 (fun n hn => hw n (by simp only [DataW.weights, Tryd.underlying25, DataW.weightsEach, List.map_cons, List.map_nil, List.mem_append]; exact .inr (.inl hn)))
  obtain ⟨A, c, e1, e2, e3⟩ := hk
  have ex : v0 = .int .i64 x := by
    have hx' : [v0] = [.int .i64 x] := hx
    simpa using hx'
  have ev : v1 = .slice A cs.length c := by
    have e1' : [v1] = [.slice A cs.length c] := e1
    simpa using e1'
  subst ex ev
  exact ⟨x, A, c, cs, rfl, e3, e2, ⟨by omega, fun q hq => ⟨by have := (hg2 q hq).1; omega, fun z hz => i32_of_wf ((hg2 q hq).2 z hz)⟩⟩, i64_of_wf hwf⟩
set_option maxRecDepth 100000 in
theorem open_model {H : Type} {enc : TypeId × Value → H} {w : World} {spare : Nat → Bool} {held : Bool} {r : Reach} {b0 : Nat} {v : Value} {d : DataW H} {p : List MemPlace}
    (hv : Value.okWide Tryd.prog w r b0 33 v) (h : DataW.Trod enc Tryd.prog w 0 spare held 33 v d p) (hw : ∀ n ∈ d.weights Tryd.prog 33, n ≤ reachBytes) :
    ∃ A cap m, v = .slice A m.length cap ∧ Kd.bool.C w A m.length m ∧ m.length ≤ cap ∧ m.length ≤ 140737488355328 := by
  obtain ⟨a, len, cap, rfl⟩ := okWide_slice Tryd.underlying33 hv
  obtain ⟨fuel, hf⟩ := h
  obtain ⟨m, ⟨A', c', e1, e2, e3⟩, hg, _⟩ := (opens_slice (d := Kd.bool) Tryd.underlying33 (by kernel_rfl) (of_decide_eq_true (by kernel_rfl)) (opens_bool Tryd.underlying4)) H enc w spare held fuel _ _ hf hw
  simp only [Value.cells, List.cons.injEq, Value.slice.injEq, and_true] at e1
  obtain ⟨rfl, rfl, rfl⟩ := e1
  exact ⟨_, _, m, rfl, e3, e2, by omega⟩
end Go.Proofs.YtigloobbpcnnhaaDoor.PB
end
