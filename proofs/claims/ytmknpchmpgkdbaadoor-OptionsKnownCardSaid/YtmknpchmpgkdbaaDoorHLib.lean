import Derived.Test.YtmknpchmpgkdbaaDoorPB0
namespace Go.Proofs.YtmknpchmpgkdbaaDoor.PB
open Go.RowKit Go.Proofs.YtmknpchmpgkdbaaDoorW.PrintWords Go.Proofs.YtmknpchmpgkdbaaDoorW.PrintLast Go.Proofs.YtmknpchmpgkdbaaDoorW.PrintMore
set_option linter.unusedVariables false
set_option linter.unusedSimpArgs false

/-- Blocks of cells of other types than those of T are as they were. -/
structure KT (T : List Nat) (w w' : World) : Prop where
  size : w.heap.size ≤ w'.heap.size
  blk : ∀ (i : Nat) (cs : Array Value) (t : TypeId) (fr : Nat × Nat), w.heap[i]? = some (.cells cs t fr) → t ∉ T → w'.heap[i]? = some (.cells cs t fr)
theorem KT.refl (T : List Nat) (w : World) : KT T w w := ⟨Nat.le_refl _, fun _ _ _ _ h _ => h⟩
theorem KT.trans {T : List Nat} {a b c : World} (h : KT T a b) (k : KT T b c) : KT T a c := ⟨Nat.le_trans h.size k.size, fun i cs t fr hi ht => k.blk i cs t fr (h.blk i cs t fr hi ht) ht⟩
theorem KT.below {T : List Nat} {a b c : World} (h : KT T a b) (k : Below b.heap.size b c) : KT T a c := h.trans ⟨k.size, fun i cs t fr hi _ => (k.block i (Array.getElem?_eq_some_iff.1 hi).1).trans hi⟩
theorem KT.alloc {T : List Nat} {a b : World} (h : KT T a b) (o : Obj) : KT T a (b.alloc o) := h.below (below_alloc (Below.refl _ _) o)
theorem KT.drew {T : List Nat} {a b : World} (h : KT T a b) : KT T a b.drew := ⟨h.size, h.blk⟩
theorem KT.drewN {T : List Nat} {a b : World} (h : KT T a b) (n : Nat) : KT T a (b.drewN n) := ⟨h.size, h.blk⟩
theorem KT.set {T : List Nat} {a b : World} (h : KT T a b) {g j t : Nat} {cs : Array Value} (hb : b.heap[g]? = some (.cells cs t (0, 0))) (ht : t ∈ T) (u : Value) : KT T a (b.setCell ⟨g, j, none⟩ u) :=
  h.trans ⟨by simp [World.setCell], fun i cs' t' fr hi ht' => by
    by_cases e : i = g
    · subst e
      rw [hb] at hi
      injection hi with hi
      injection hi with _ hi _
      subst hi
      exact absurd ht ht'
    · exact (Below.heap_setCell b ⟨g, j, none⟩ u i e).trans hi⟩
theorem KT.grown {T : List Nat} {a b c : World} (h : KT T a b) {row : Option Nat} (hg : b.grownBy c row) (hr : ∀ k, row = some k → ∃ cells t, b.heap[k]? = some (.cells cells t (0, 0)) ∧ t ∈ T) : KT T a c :=
  h.trans ⟨hg.size, fun i cs t fr hi ht => by
    refine (hg.block i (Array.getElem?_eq_some_iff.1 hi).1 ?_).trans hi
    intro e
    obtain ⟨cells, t', h1, h2⟩ := hr i e.symm
    rw [hi] at h1
    injection h1 with h1
    injection h1 with _ h1 _
    subst h1
    exact ht h2⟩
theorem R_row {α : Type} {d : Kd α} {e : Nat} {w : World} {base : Nat} {ok : Nat → Prop} {v : Value} {xs : List α} (h : d.R e w base ok v xs) {T : List Nat} (ht : e ∈ T) : ∀ k, v.ownBlock = some k → ∃ cells t, w.heap[k]? = some (.cells cells t (0, 0)) ∧ t ∈ T := by
  intro k hk
  obtain ⟨_, inner, ho, _⟩ := h
  obtain ⟨cells, hc⟩ := own_typed ho k hk
  exact ⟨cells, e, hc, ht⟩

/-- All is as it was but the cells of block g. -/
structure SameBut (g : Nat) (w w' : World) : Prop where
  os : w'.os = w.os
  tape : w'.tape = w.tape
  output : w'.output = w.output
  size : w'.heap.size = w.heap.size
  blk : ∀ k, k ≠ g → w'.heap[k]? = w.heap[k]?
theorem SameBut.refl (g : Nat) (w : World) : SameBut g w w := ⟨rfl, rfl, rfl, rfl, fun _ _ => rfl⟩
theorem SameBut.trans {g : Nat} {a b c : World} (h : SameBut g a b) (k : SameBut g b c) : SameBut g a c := ⟨k.os.trans h.os, k.tape.trans h.tape, k.output.trans h.output, k.size.trans h.size, fun i hi => (k.blk i hi).trans (h.blk i hi)⟩
theorem SameBut.below {g B : Nat} {w0 w w' : World} (h : SameBut g w w') (hb : Below B w0 w) (hg : B ≤ g) : Below B w0 w' :=
  hb.trans ⟨h.os, h.tape, h.output, Nat.le_of_eq h.size.symm, fun k hk => h.blk k (by omega)⟩
theorem SameBut.kt {T : List Nat} {g t : Nat} {a w w' : World} {cs : Array Value} (h : SameBut g w w') (hk : KT T a w) (hb : w.heap[g]? = some (.cells cs t (0, 0))) (ht : t ∈ T) : KT T a w' :=
  hk.trans ⟨Nat.le_of_eq h.size.symm, fun i cs' t' fr hi ht' => by
    by_cases e : i = g
    · subst e
      rw [hb] at hi
      injection hi with hi
      injection hi with _ hi _
      subst hi
      exact absurd ht ht'
    · exact (h.blk i e).trans hi⟩
theorem SameBut.other {g g' : Nat} {w w' : World} {o : Obj} (h : SameBut g w w') (hb : w.heap[g']? = some o) (hne : g' ≠ g) : w'.heap[g']? = some o := (h.blk g' hne).trans hb
theorem SameBut.grown {g : Nat} {w w' : World} (h : SameBut g w w') : w.grownBy w' (some g) := ⟨h.os, h.tape, h.output, Nat.le_of_eq h.size.symm, fun k _ hk => h.blk k (fun e => hk (by rw [e]))⟩
theorem SameBut.cell {g : Nat} {w w' : World} (h : SameBut g w w') {p : Addr} (hp : p.block ≠ g) {v : Value} (hc : w.cell? p = some v) : w'.cell? p = some v := (World.cell?_of_block (h.blk _ hp)).trans hc
theorem SameBut.R {α : Type} {d : Kd α} {e g : Nat} {w w' : World} {base : Nat} {ok : Nat → Prop} {v : Value} {xs : List α} (h : SameBut g w w') (hr : d.R e w base ok v xs) (hok : ∀ k, ok k → k ≠ g) : d.R e w' base ok v xs := Kd.R_step hr (fun k hk _ => h.blk k (hok k hk))
theorem SameBut.Rt {α : Type} {d : Kd α} {e g t : Nat} {w w' : World} {base : Nat} {ok : Nat → Prop} {v : Value} {xs : List α} {cs : Array Value} (h : SameBut g w w') (hr : d.R e w base ok v xs) (hb : w.heap[g]? = some (.cells cs t (0, 0))) (ht : ∀ q, q ∈ e :: d.E → q ≠ t) : d.R e w' base ok v xs :=
  Kd.R_mono (h.R (Kd.R_types hr hb ht) (fun _ hk => hk.2)) (fun _ hk => hk.1)
theorem SameBut.S {α : Type} {d : Kd α} {e g : Nat} {w w' : World} {base : Nat} {ok : Nat → Prop} {v : Value} {xs : List α} (h : SameBut g w w') (hr : Kd.S d e w base ok v xs) (hok : ∀ k, ok k → k ≠ g) : Kd.S d e w' base ok v xs := Kd.S_step hr (fun k hk _ => h.blk k (hok k hk))
theorem SameBut.St {α : Type} {d : Kd α} {e g t : Nat} {w w' : World} {base : Nat} {ok : Nat → Prop} {v : Value} {xs : List α} {cs : Array Value} (h : SameBut g w w') (hr : Kd.S d e w base ok v xs) (hb : w.heap[g]? = some (.cells cs t (0, 0))) (ht : ∀ q, q ∈ e :: d.E → q ≠ t) : Kd.S d e w' base ok v xs :=
  Kd.S_mono (h.S (Kd.S_types hr hb ht) (fun _ hk => hk.2)) (fun _ hk => hk.1)

/-- What a block holds when seg has been written from place o on. -/
def setSeg (cur : Array Value) (o : Nat) : List Value → Array Value
  | [] => cur
  | v :: r => setSeg (cur.setIfInBounds o v) (o + 1) r
theorem setCells_block (g : Nat) {e : TypeId} : ∀ (seg : List Value) (o : Nat) (w : World) (cur : Array Value), w.heap[g]? = some (.cells cur e (0, 0)) → (w.setCells g o seg).heap[g]? = some (.cells (setSeg cur o seg) e (0, 0)) ∧ SameBut g w (w.setCells g o seg) := by
  intro seg
  induction seg with
  | nil => intro o w cur h; exact ⟨h, rfl, rfl, rfl, rfl, fun _ _ => rfl⟩
  | cons v r ih =>
    intro o w cur h
    have h1 := blk_set h o v
    obtain ⟨h2, h3⟩ := ih (o + 1) (w.setCell ⟨g, o, none⟩ v) _ h1
    exact ⟨h2, h3.os, h3.tape, h3.output, by rw [World.setCells, h3.size]; simp [World.setCell], fun k hk => (h3.blk k hk).trans (Below.heap_setCell w ⟨g, o, none⟩ v k hk)⟩
section
variable {P : Program} {ops : Array Oper} {rest : List Oper} {o : Oper} {a : Act} {Q : Exit → Act → World → Prop}
/-- A store into a block that is known whole: the world behind it is told by name. -/
theorem store_block {W : World} (t : TypeId) (p : Tmp) (v : Operand) (ho : o.op = .store t (.tmp p) v) (hgd : o.guard = none) (hN : o.dst = none) {g off : Nat} {e : TypeId} {cur : Array Value} (u : Value) (seg : List Value) (cur' : Array Value)
    (haddr : a.eval (.tmp p) = .pointer (some ⟨g, off, none⟩)) (hv : a.eval v = u) (hh : W.heap[g]? = some (.cells cur e (0, 0))) (hu : u.cells.toList = seg) (ht : (P.info? t).map (·.size) = some seg.length) (hfit : off + seg.length ≤ cur.size) (h1 : ∀ q ∈ seg, q.oneCell' = true) (hcur : setSeg cur off seg = cur')
    (h : ∀ w1, w1.heap[g]? = some (.cells cur' e (0, 0)) → SameBut g W w1 → wpList P ops Q rest a w1) : wpList P ops Q (o :: rest) a W := by
  refine wpList_plain hgd fun K hK => ?_
  have hrun := run_store_run (P := P) (o := off) t u seg hh hu ht hfit h1
  obtain ⟨h2, h3⟩ := setCells_block g seg off W cur hh
  unfold Oper.wp execOp
  simp only [ho, haddr, hv, Sem.run_bind, Sem.run_pure, Result.andThen_ok, hrun]
  show K (a.put o.dst undef) _
  rw [hN]
  exact hK a _ (h _ (by rw [h2, hcur]) h3)
theorem store_four {W : World} (t : TypeId) (p : Tmp) (v : Operand) (ho : o.op = .store t (.tmp p) v) (hgd : o.guard = none) (hN : o.dst = none) {g off : Nat} {e : TypeId} {cur : Array Value} (v0 v1 v2 v3 : Value) (cur' : Array Value)
    (haddr : a.eval (.tmp p) = .pointer (some ⟨g, off, none⟩)) (hv : a.eval v = .agg #[v0, v1, v2, v3]) (hh : W.heap[g]? = some (.cells cur e (0, 0))) (ht : (P.info? t).map (·.size) = some 4) (hfit : off + 4 ≤ cur.size)
    (h0 : v0.oneCell' = true) (h1 : v1.oneCell' = true) (h2 : v2.oneCell' = true) (h3 : v3.oneCell' = true) (hcur : setSeg cur off [v0, v1, v2, v3] = cur')
    (h : ∀ w1, w1.heap[g]? = some (.cells cur' e (0, 0)) → SameBut g W w1 → wpList P ops Q rest a w1) : wpList P ops Q (o :: rest) a W :=
  store_block t p v ho hgd hN _ [v0, v1, v2, v3] cur' haddr hv hh rfl ht hfit (by
    intro q hq
    simp only [List.mem_cons, List.not_mem_nil, or_false] at hq
    rcases hq with rfl | rfl | rfl | rfl
    · exact h0
    · exact h1
    · exact h2
    · exact h3) hcur h
theorem store_one {W : World} (t : TypeId) (p : Tmp) (v : Operand) (ho : o.op = .store t (.tmp p) v) (hgd : o.guard = none) (hN : o.dst = none) {g off : Nat} {e : TypeId} {cur : Array Value} (u : Value) (cur' : Array Value)
    (haddr : a.eval (.tmp p) = .pointer (some ⟨g, off, none⟩)) (hv : a.eval v = u) (hh : W.heap[g]? = some (.cells cur e (0, 0))) (hu : u.cells.toList = [u]) (ht : (P.info? t).map (·.size) = some 1) (hfit : off + 1 ≤ cur.size)
    (h1 : u.oneCell' = true) (hcur : cur.setIfInBounds off u = cur')
    (h : ∀ w1, w1.heap[g]? = some (.cells cur' e (0, 0)) → SameBut g W w1 → wpList P ops Q rest a w1) : wpList P ops Q (o :: rest) a W :=
  store_block t p v ho hgd hN u [u] cur' haddr hv hh hu ht hfit (by
    intro q hq
    rw [List.mem_singleton.1 hq]
    exact h1) hcur h
end
end Go.Proofs.YtmknpchmpgkdbaaDoor.PB
