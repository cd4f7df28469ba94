import Derived.Test.YtfjnkbkcoakooaaDoorHLines
import Derived.OrdersIn
section
namespace Go.Proofs.YtfjnkbkcoakooaaDoor.PB
open Go.RowKit Go.Shelf Go.Proofs.YtfjnkbkcoakooaaDoorW.PrintWords Go.Proofs.YtfjnkbkcoakooaaDoorW.PrintLast Go.Proofs.YtfjnkbkcoakooaaDoorW.PrintMore
set_option linter.unusedVariables false
set_option linter.unusedSimpArgs false
/-! ### Laws of one operation, inside a round -/
section
variable {P : Program} {n l : Nat} {ops ops0 : Array Oper} {rest : List Oper} {o : Oper} {a : Act} {W : World} {Q : Exit → Act → World → Prop}
/-- The wide fence, or a round within it. -/
def WF (F : Fence) : Prop := F = Fence.wide ∨ ∃ l, F = Fence.wide.inRound l
theorem WF.fn {F : Fence} (h : WF F) (f : FuncId) : F.fn f := by
  rcases h with rfl | ⟨l, rfl⟩ <;> trivial
theorem WF.depth {F : Fence} (h : WF F) : ¬ F.depth.isSome = true := by
  rcases h with rfl | ⟨l, rfl⟩ <;> (intro hd; cases hd)
theorem WF.calls {F : Fence} (h : WF F) {m : Nat} {f : FuncId} {args : Array Value} {w : World} {R : Ending → World → Prop} (hc : Calls P f args w R) : CallsIn F m P f args w R := by
  rcases h with rfl | ⟨l, rfl⟩
  · exact callsIn_wide.2 hc
  · exact CallsIn.inRound l (callsIn_wide.2 hc)
theorem WF.rows {F : Fence} (h : WF F) {m : Nat} {row : String} {args : Array Value} {w : World} {R : Value → World → Prop} (hc : Rows P row args w R) : RowsIn F m P row args w R := by
  rcases h with rfl | ⟨l, rfl⟩
  · exact fun c cs _ => let ⟨v, w', r, s⟩ := hc c cs; ⟨v, w', r, stepsIn_wide.2 s⟩
  · exact fun c cs _ => let ⟨v, w', r, s⟩ := hc c cs; ⟨v, w', r, stepsIn_wide.2 s⟩
variable {F : Fence}
theorem op_in (hF : WF F) {next φ : Act → World → Prop} {Q0 : Exit → Act → World → Prop} (hnd : ∀ c, o.op ≠ .defer c) (h : o.wp P a W φ Q0) (hp : ∀ ch a' w', ¬ Q0 (.panic ch) a' w') (ho : ¬ LetsOut Q0) (hn : ∀ a' w', φ a' w' → next a' w') : o.wpIn F n P a W next Q := by
  refine ⟨fun f _ => hF.fn f, ?_⟩
  rw [Oper.semAt_plain F _ _ hnd]
  unfold Oper.wp at h
  revert h
  generalize (execOp a.eval o).run P W = r
  intro h
  unfold Oper.upon at h
  unfold Oper.uponIn
  split at h
  · exact hn _ _ h
  · exact hn _ _ h
  · exact hn _ _ h
  · refine ⟨(fun hd => (hF.depth hd).elim), hF.calls (h.mono ?_)⟩
    intro e w' hR
    cases e with
    | returned v => exact hn _ _ hR
    | panicked ch => exact (hp _ _ _ hR).elim
    | outgrown => exact (ho hR).elim
  · exact ⟨(fun hd => (hF.depth hd).elim), hF.rows (h.mono fun v w' r => hn _ _ r)⟩
  · exact (hp _ _ _ h).elim
  · exact h.elim
theorem list_in (hF : WF F) {φ : Act → World → Prop} (hgd : o.guard = none) (hnd : ∀ c, o.op ≠ .defer c) (hlaw : wpList P ops0 (fun e a' w' => e = Exit.normal ∧ φ a' w') [o] a W) (h : ∀ a' w', φ a' w' → wpListIn F n P ops Q rest a' w') : wpListIn F n P ops Q (o :: rest) a W := by
  refine wpListIn_plain hgd fun K hK => ?_
  have hw : Region.wanted o (yielded ops0 a.tmps) = true := by simp [Region.wanted, hgd]
  unfold wpList at hlaw
  rw [if_pos hw] at hlaw
  rcases hlaw with hl | ⟨_, _, _, he, _⟩
  · refine op_in hF hnd hl (fun _ _ _ he => by cases he.1) (fun ⟨_, _, he, _⟩ => by cases he) (fun a' w' hq => hK _ _ (h a' w' ?_))
    unfold wpList at hq
    exact hq.2
  · cases he
theorem box_in (hF : WF F) (hgd : o.guard = none) (hnd : ∀ c, o.op ≠ .defer c) {N : Tmp} (hd : o.dst = some N) {cs : Array Value} {t : TypeId}
    (hrun : (execOp a.eval o).run P W = .ok (.value (.pointer (some ⟨W.heap.size, 0, none⟩))) (W.alloc (.cells cs t (0, 0))))
    (h : ∀ g, g = W.heap.size → ∀ w1, w1.heap[g]? = some (.cells cs t (0, 0)) → Below W.heap.size W w1 → wpListIn F n P ops Q rest (a.put o.dst (.pointer (some ⟨g, 0, none⟩))) w1) : wpListIn F n P ops Q (o :: rest) a W :=
  list_in hF (ops0 := #[]) hgd hnd (φ := fun a' w' => ∃ g, g = W.heap.size ∧ a' = a.put o.dst (.pointer (some ⟨g, 0, none⟩)) ∧ w'.heap[g]? = some (.cells cs t (0, 0)) ∧ Below W.heap.size W w') (box_event hgd hd hrun (fun g hg w1 h1 h2 => ⟨rfl, g, hg, rfl, h1, h2⟩)) (by rintro a' w' ⟨g, hg, rfl, h1, h2⟩; exact h g hg w' h1 h2)
theorem store_one_in (hF : WF F) (t : TypeId) (p : Tmp) (v : Operand) (ho : o.op = .store t (.tmp p) v) (hgd : o.guard = none) (hN : o.dst = none) {g off : Nat} {e : TypeId} {cur : Array Value} (u : Value) (cur' : Array Value)
    (haddr : a.eval (.tmp p) = .pointer (some ⟨g, off, none⟩)) (hv : a.eval v = u) (hh : W.heap[g]? = some (.cells cur e (0, 0))) (hu : u.cells.toList = [u]) (ht : (P.info? t).map (·.size) = some 1) (hfit : off + 1 ≤ cur.size)
    (h1 : u.oneCell' = true) (hcur : cur.setIfInBounds off u = cur')
    (h : ∀ w1, w1.heap[g]? = some (.cells cur' e (0, 0)) → SameBut g W w1 → wpListIn F n P ops Q rest a w1) : wpListIn F n P ops Q (o :: rest) a W :=
  list_in hF (ops0 := #[]) hgd (by intro c hc; rw [ho] at hc; cases hc) (φ := fun a' w' => a' = a ∧ w'.heap[g]? = some (.cells cur' e (0, 0)) ∧ SameBut g W w') (store_one t p v ho hgd hN u cur' haddr hv hh hu ht hfit h1 hcur (fun w1 e1 e2 => ⟨rfl, rfl, e1, e2⟩)) (by rintro a' w' ⟨rfl, e1, e2⟩; exact h w' e1 e2)
theorem store_four_in (hF : WF F) (t : TypeId) (p : Tmp) (v : Operand) (ho : o.op = .store t (.tmp p) v) (hgd : o.guard = none) (hN : o.dst = none) {g off : Nat} {e : TypeId} {cur : Array Value} (v0 v1 v2 v3 : Value) (cur' : Array Value)
    (haddr : a.eval (.tmp p) = .pointer (some ⟨g, off, none⟩)) (hv : a.eval v = .agg #[v0, v1, v2, v3]) (hh : W.heap[g]? = some (.cells cur e (0, 0))) (ht : (P.info? t).map (·.size) = some 4) (hfit : off + 4 ≤ cur.size)
    (h0 : v0.oneCell' = true) (h1 : v1.oneCell' = true) (h2 : v2.oneCell' = true) (h3 : v3.oneCell' = true) (hcur : setSeg cur off [v0, v1, v2, v3] = cur')
    (h : ∀ w1, w1.heap[g]? = some (.cells cur' e (0, 0)) → SameBut g W w1 → wpListIn F n P ops Q rest a w1) : wpListIn F n P ops Q (o :: rest) a W :=
  list_in hF (ops0 := #[]) hgd (by intro c hc; rw [ho] at hc; cases hc) (φ := fun a' w' => a' = a ∧ w'.heap[g]? = some (.cells cur' e (0, 0)) ∧ SameBut g W w') (store_four t p v ho hgd hN v0 v1 v2 v3 cur' haddr hv hh ht hfit h0 h1 h2 h3 hcur (fun w1 e1 e2 => ⟨rfl, rfl, e1, e2⟩)) (by rintro a' w' ⟨rfl, e1, e2⟩; exact h w' e1 e2)
theorem append_in {α : Type} (hF : WF F) (d : Kd α) {w0 : World} (base : Nat) (hgd : o.guard = none) (s x : Operand) (t e : TypeId) (z : Value) (bytes : Nat)
    (ho : o.op = .call { callee := .builtin .append, args := #[s, x], argTypes := #[t, t] })
    (ht : P.underlying t = some (.slice e)) (hinfo : (P.info? e).map (fun i => (i.zero, i.size, i.bytes)) = some (some z, d.sz, bytes)) (hz : z.cells.size = d.sz) (hs0 : 0 < d.sz) (hb0 : 0 < bytes)
    (v : Value) (xs : List α) (p : α) (cs : List Value) (ok okp : Nat → Prop) (hs : a.eval s = v) (hx : a.eval x = .slice (some ⟨W.heap.size, 0, none⟩) 1 1) (hp : d.M W base okp p cs) (hokp : ∀ k, okp k → ok k ∧ some k ≠ v.ownBlock) (hfresh : ∀ k, W.heap.size ≤ k → ok k)
    (HO : Kd.S d e W base (fun k => ok k ∧ ¬ okp k) v xs) (HB : Below base w0 W) (hbase : base ≤ W.heap.size) (hl : (xs.length + 1) * bytes ≤ 140737488355328)
    (h : ∀ v1 w1, Kd.S d e w1 base ok v1 (xs ++ [p]) → Below base w0 w1 → W.grownBy w1 v.ownBlock → wpListIn F n P ops Q rest (a.put o.dst v1) w1) :
    wpListIn F n P ops Q (o :: rest) a (W.alloc (.cells cs.toArray e)) :=
  list_in hF (ops0 := #[]) hgd (by intro c hc; rw [ho] at hc; cases hc) (φ := fun a' w' => ∃ v1, a' = a.put o.dst v1 ∧ Kd.S d e w' base ok v1 (xs ++ [p]) ∧ Below base w0 w' ∧ W.grownBy w' v.ownBlock) (Kd.S_append d base hgd s x t e z bytes ho ht hinfo hz hs0 hb0 v xs p cs ok okp hs hx hp hokp hfresh HO HB hbase hl (fun v1 w1 h1 h2 h3 _ => ⟨rfl, v1, rfl, h1, h2, h3⟩)) (by rintro a' w' ⟨v1, rfl, h1, h2, h3⟩; exact h v1 w' h1 h2 h3)
theorem op_of_list {K : Act → World → Prop} {i : Nat} (hi : ops[i]? = some o) (h : wpListIn F n P ops (fun e a w => match e with | .normal => K a w | e => Q e a w) [o] a W) : wpOpIn F n P ops Q i K a W := by
  unfold wpOpIn
  rw [hi]
  simp only
  unfold wpListIn at h
  split
  · rename_i hw
    rw [if_pos hw] at h
    refine ⟨h.1, ?_⟩
    have h2 := h.2
    revert h2
    generalize (o.semAt F.round a.eval).run P W = r
    intro h2
    unfold Oper.uponIn at h2 ⊢
    split at h2
    all_goals first | exact h2 | (refine ⟨h2.1, ?_⟩; exact h2.2)
  · rename_i hw
    rw [if_neg hw] at h
    exact h
/-- What has come up: i of the first three, j of the next two. -/
def Ls (i j : Nat) : Array Bool := #[decide (0 < i), decide (1 < i), decide (2 < i), decide (0 < j), decide (1 < j), false]
def Rs (i j : Nat) : List Nat := (if i < 3 then [i] else []) ++ ((if j < 2 then [3 + j] else []) ++ (if i = 3 ∧ j = 2 then [5] else []))
/-- A region that draws its order: two rows of operations (of three and two), then the last. -/
theorem chains32 {id : Nat} {w : World} (hm : P.follows .mixedOrders = true) (hsz : ops.size = 6)
    (hr : ∀ i j, i ≤ 3 → j ≤ 2 → Region.ready .any ops (Ls i j) = Rs i j) (he : Region.ready .any ops #[true, true, true, true, true, true] = [])
    (J0 : Act → Nat → Nat → Act → World → Prop)
    (hA : ∀ i j, i < 3 → j ≤ 2 → ∀ a' w, J0 a i j a' w → wpOpIn F n P ops Q i (J0 a (i + 1) j) a' w)
    (hB : ∀ i j, i ≤ 3 → j < 2 → ∀ a' w, J0 a i j a' w → wpOpIn F n P ops Q (3 + j) (J0 a i (j + 1)) a' w)
    (hL : ∀ a' w, J0 a 3 2 a' w → wpOpIn F n P ops Q 5 (fun a w => Q .normal a w) a' w)
    (h0 : J0 a 0 0 a { w with drawn := w.drawn + 1 }) : (Code.region id ops true).wpIn F n P Q a w := by
  refine wpIn_region_any hm ?_
  obtain ⟨J, hJ⟩ : ∃ J, J = J0 a := ⟨_, rfl⟩
  rw [← hJ] at hA hB hL h0
  have key : ∀ d i j a w, i ≤ 3 → j ≤ 2 → i + j + d = 5 → J i j a w → wpAnyIn F n P .any ops Q (d + 1) (Ls i j) a w := by
    intro d
    induction d with
    | zero =>
      intro i j a w hi hj hd h
      obtain rfl : i = 3 := by omega
      obtain rfl : j = 2 := by omega
      have hr32 := hr 3 2 (Nat.le_refl _) (Nat.le_refl _)
      have e5 : Rs 3 2 = [5] := rfl
      refine ⟨fun e => (by rw [hr32, e5] at e; cases e), fun i hi => ?_⟩
      rw [hr32, e5, List.mem_singleton] at hi
      subst hi
      refine wpOpIn_mono (fun a w hq => ⟨?_, hq⟩) (hL a w h)
      exact he
    | succ d ih =>
      intro i j a w hi hj hd h
      have hrij := hr i j hi hj
      have hne : Rs i j ≠ [] := by
        unfold Rs
        by_cases h3 : i < 3
        · rw [if_pos h3]; simp
        · rw [if_neg h3, if_pos (by omega)]; simp
      refine ⟨fun e => absurd (hrij.symm.trans e) hne, fun q hq => ?_⟩
      rw [hrij] at hq
      unfold Rs at hq
      rw [if_neg (show ¬ (i = 3 ∧ j = 2) by omega), List.append_nil] at hq
      rcases List.mem_append.1 hq with hq | hq
      · split at hq
        · rename_i h3
          rw [List.mem_singleton] at hq
          subst hq
          refine wpOpIn_mono (fun a w hh => ?_) (hA q j h3 hj a w h)
          have hl : (Ls q j).setIfInBounds q true = Ls (q + 1) j := by
            unfold Ls
            obtain rfl | rfl | rfl : q = 0 ∨ q = 1 ∨ q = 2 := by omega
            · rfl
            · rfl
            · rfl
          rw [hl]
          exact ih (q + 1) j a w (by omega) hj (by omega) hh
        · cases hq
      · split at hq
        · rename_i h2
          rw [List.mem_singleton] at hq
          subst hq
          refine wpOpIn_mono (fun a w hh => ?_) (hB i j hi h2 a w h)
          have hl : (Ls i j).setIfInBounds (3 + j) true = Ls i (j + 1) := by
            unfold Ls
            obtain rfl | rfl : j = 0 ∨ j = 1 := by omega
            · rfl
            · rfl
          rw [hl]
          exact ih i (j + 1) a w hi (by omega) (by omega) hh
        · cases hq
  have := key 5 0 0 a _ (by omega) (by omega) (by omega) h0
  rw [hsz]
  exact this
theorem keeps_same {B g : Nat} {A C : World} {cs : Array Value} {t : TypeId} (h : SameBut g A C) (hg : A.heap[g]? = some (.cells cs t (0, 0))) : KeepsFrom B A C :=
  ⟨Nat.le_of_eq h.size.symm, fun k o _ hk ho => by
    by_cases e : k = g
    · subst e; rw [hg] at hk; cases hk; cases ho
    · exact (h.blk k e).trans hk⟩
theorem keeps_below {B : Nat} {A C : World} (h : Below A.heap.size A C) : KeepsFrom B A C := ⟨h.size, fun k o _ hk _ => (h.block k (Array.getElem?_eq_some_iff.1 hk).1).trans hk⟩
theorem gin_dst {N : Tmp} (_hN : o.dst = some N) (h : wpListIn F n P ops Q (o :: rest) a W) : wpListIn F n P ops Q (o :: rest) a W := h
theorem gin_store {t : TypeId} {p : Tmp} {v : Operand} (_ho : o.op = .store t (.tmp p) v) (h : wpListIn F n P ops Q (o :: rest) a W) : wpListIn F n P ops Q (o :: rest) a W := h
end
end Go.Proofs.YtfjnkbkcoakooaaDoor.PB
end

section
namespace Go.Proofs.YtfjnkbkcoakooaaDoor.PB
open Go.RowKit Go.Shelf Go.Proofs.YtfjnkbkcoakooaaDoorW.PrintWords Go.Proofs.YtfjnkbkcoakooaaDoorW.PrintLast Go.Proofs.YtfjnkbkcoakooaaDoorW.PrintMore
set_option linter.unusedVariables false
set_option linter.unusedSimpArgs false
attribute [local go_sem] Oper.semAt_some
theorem nsz22 : (Tryd.prog.info? 22).map (·.size) = some 1 := by kernel_rfl
theorem nsz26 : (Tryd.prog.info? 26).map (·.size) = some 1 := by kernel_rfl
theorem nsz46 : (Tryd.prog.info? 46).map (·.size) = some 1 := by kernel_rfl
/-- The steps of a text's lines: out are there already. -/
def Lp : List (ByteArray × Bool) → List S43 → List S43 × Int × Int
  | [], out => (out, 0, 0)
  | x :: r, out => if x.2 = true ∧ (Lparse1 x.1).2 = true then Lp r (out ++ [(Lparse1 x.1).1]) else ([], 40, out.length + 1)
def Lparse (s : ByteArray) : List S43 × Int × Int := Lp (Lrows s.size s) []
def Lsteps (pre : List (ByteArray × Bool)) : List S43 := pre.map fun x => (Lparse1 x.1).1
theorem Lp_all (pre : List (ByteArray × Bool)) (h : ∀ x ∈ pre, x.2 = true ∧ (Lparse1 x.1).2 = true) (rest : List (ByteArray × Bool)) : ∀ out, Lp (pre ++ rest) out = Lp rest (out ++ Lsteps pre) := by
  induction pre with
  | nil => intro out; simp [Lsteps]
  | cons x pre ih =>
    intro out
    rw [List.cons_append, Lp, if_pos (h x List.mem_cons_self), ih (fun y hy => h y (List.mem_cons_of_mem _ hy))]
    simp [Lsteps]
theorem lines_calls (s : ByteArray) (w : World) : Calls Tryd.prog 28 #[.string s] w fun e w' => ∃ g, g = w.heap.size ∧ e = .returned (.func (.func 41) #[] #[.pointer (some ⟨g, 0, none⟩)]) ∧ w'.heap[g]? = some (.cells #[.string s] 9 (0, 0)) ∧ Below w.heap.size w w' := by
  go_enter Tryd.func28, Tryd.ntmps28
  go_wp2
  go_ret
  exact ⟨_, rfl, rfl, blk_new w _, below_alloc (Below.refl _ _) _⟩
/-- Between two rounds. -/
structure PI (w : World) (g2 g3 g4 g5 gu g6 Bn : Nat) (pre : List (ByteArray × Bool)) (W : World) : Prop where
  ok : ∀ x ∈ pre, x.2 = true ∧ (Lparse1 x.1).2 = true
  r2 : W.heap[g2]? = some (.cells #[.slice none 0 0] 22 (0, 0))
  r3 : W.heap[g3]? = some (.cells #[.int .i64 0] 26 (0, 0))
  r4 : W.heap[g4]? = some (.cells #[.int .i64 0] 3 (0, 0))
  out : ∃ v, W.heap[g5]? = some (.cells #[v] 22 (0, 0)) ∧ Kd.S k43 43 W w.heap.size (fun k => Bn < k) v (Lsteps pre)
  bud : W.heap[gu]? = some (.cells #[.int .i64 pre.length, .int .i64 (Btot (Lsteps pre) : Nat)] 48 (0, 0))
  all : W.heap[g6]? = some (.cells #[.pointer (some ⟨gu, 0, none⟩)] 46 (0, 0))
  below : Below w.heap.size w W
  lt : Bn < W.heap.size
/-- Behind the line that is wrong. -/
structure PX (w : World) (g2 g3 g4 : Nat) (pre : List (ByteArray × Bool)) (W : World) : Prop where
  ok : ∃ init x, pre = init ++ [x] ∧ (∀ y ∈ init, y.2 = true ∧ (Lparse1 y.1).2 = true) ∧ ¬ (x.2 = true ∧ (Lparse1 x.1).2 = true)
  r2 : W.heap[g2]? = some (.cells #[.slice none 0 0] 22 (0, 0))
  r3 : W.heap[g3]? = some (.cells #[.int .i64 40] 26 (0, 0))
  r4 : W.heap[g4]? = some (.cells #[.int .i64 pre.length] 3 (0, 0))
  below : Below w.heap.size w W
theorem blk_row {W W' : World} {row : Option Nat} {B Bn k : Nat} {cs : Array Value} {t : TypeId} (hg : W.grownBy W' row) (hr : ∀ r, row = some r → r = Bn ∨ (B ≤ r ∧ ∃ o : Obj, W.heap[r]? = some o ∧ o.isCells = false)) (h : W.heap[k]? = some (.cells cs t (0, 0))) (hk : k ≠ Bn) : W'.heap[k]? = some (.cells cs t (0, 0)) := by
  refine (hg.block k (blk_lt h) (fun e => ?_)).trans h
  rcases hr k e.symm with e2 | ⟨_, o, ho, hc⟩
  · exact hk e2
  · rw [h] at ho
    cases ho
    cases hc
theorem PI.own {w : World} {g2 g3 g4 g5 gu g6 Bn B : Nat} (h2 : g2 < Bn) (h3 : g3 < Bn) (h4 : g4 < Bn) (h5 : g5 < Bn) (hu : gu < Bn) (h6 : g6 < Bn) (hw : w.heap.size ≤ Bn) (hB : w.heap.size ≤ B) : OwnBox B Bn (PI w g2 g3 g4 g5 gu g6 Bn) := by
  intro pre W W' row h hg hr
  obtain ⟨v, hv, hS⟩ := h.out
  refine ⟨h.ok, blk_row hg hr h.r2 (by omega), blk_row hg hr h.r3 (by omega), blk_row hg hr h.r4 (by omega), ⟨v, blk_row hg hr hv (by omega), ?_⟩, blk_row hg hr h.bud (by omega), blk_row hg hr h.all (by omega), ?_, Nat.lt_of_lt_of_le h.lt hg.size⟩
  · exact Kd.S_mono (Kd.S_step (Kd.S_bound hS) (fun k hk _ => by
      obtain ⟨hk1, _, _, q, _, cells, hc⟩ := hk
      rw [blk_row hg hr hc (by omega), hc])) (fun _ hk => hk.1)
  · refine h.below.grown hg h.below.size (fun k e => ?_)
    rcases hr k e with e2 | ⟨e2, _⟩
    · omega
    · omega
theorem PX.own {w : World} {g2 g3 g4 Bn B : Nat} (h2 : g2 < Bn) (h3 : g3 < Bn) (h4 : g4 < Bn) (hw : w.heap.size ≤ Bn) (hB : w.heap.size ≤ B) : OwnBox B Bn (PX w g2 g3 g4) := by
  intro pre W W' row h hg hr
  refine ⟨h.ok, blk_row hg hr h.r2 (by omega), blk_row hg hr h.r3 (by omega), blk_row hg hr h.r4 (by omega), ?_⟩
  refine h.below.grown hg h.below.size (fun k e => ?_)
  rcases hr k e with e2 | ⟨e2, _⟩
  · omega
  · omega
/-- What the drawn region has put so far. -/
def Ract (A0 : Act) (i : Nat) (v0 v1 v2 : Value) : Act :=
  match i with
  | 0 => A0
  | 1 => A0.put (some 28) v0
  | 2 => (A0.put (some 28) v0).put (some 29) v1
  | _ => ((A0.put (some 28) v0).put (some 29) v1).put (some 30) v2
theorem add_parts (w W W1 W2 W3 W4 : World) (g9 gu Bn : Nat) (v : Value) (out : List S43) (st : S43) (A2 A3 : Option Addr) (c2 c3 : Nat) (hw : w.heap.size ≤ W.heap.size) (hgu : gu < W.heap.size) (hgB : gu < Bn)
    (hR2 : Kd.R (Kd.int .i32) 44 W1 W.heap.size (fun _ => True) (.slice A2 st.f2.length c2) st.f2) (hR3 : Kd.R (Kd.int .i64) 2 W1 W.heap.size (fun _ => True) (.slice A3 st.f3.length c3) st.f3) (hS : Kd.S k43 43 W w.heap.size (fun k => Bn < k) v out)
    (hb1 : Below W.heap.size W W1) (hb2 : Below W1.heap.size W1 W2) (hsb : SameBut g9 W2 W3) (hge : g9 = W1.heap.size) (hbw : Below W.heap.size W W3) (hbt : ∀ q, q < W3.heap.size → q ≠ gu → W4.heap[q]? = W3.heap[q]?) :
    Aside0 (k43.M W4 w.heap.size (fun k => W.heap.size ≤ k) st [.int .u8 st.f0, .int .i64 st.f1, .slice A2 st.f2.length c2, .slice A3 st.f3.length c3]) ∧ Aside0 (Kd.S k43 43 W4 w.heap.size (fun k => Bn < k ∧ ¬ W.heap.size ≤ k) v out) ∧ Aside0 (∀ k, v.ownBlock = some k → k < W.heap.size ∧ Bn < k) := by
  have hst : ∀ k, W.heap.size ≤ k → k < W1.heap.size → W4.heap[k]? = W1.heap[k]? := fun k h1 h2 =>
    (hbt k (by have := hb2.size; have := hsb.size; omega) (by omega)).trans ((hsb.blk k (by omega)).trans (hb2.block k h2))
  have e2 : Kd.R (Kd.int .i32) 44 W4 W.heap.size (fun _ => True) (.slice A2 st.f2.length c2) st.f2 := Kd.R_mono (Kd.R_step (Kd.R_bound hR2) (fun k hk _ => hst k hk.2.1 hk.2.2.1)) (fun _ _ => trivial)
  have e3 : Kd.R (Kd.int .i64) 2 W4 W.heap.size (fun _ => True) (.slice A3 st.f3.length c3) st.f3 := Kd.R_mono (Kd.R_step (Kd.R_bound hR3) (fun k hk _ => hst k hk.2.1 hk.2.2.1)) (fun _ _ => trivial)
  refine ⟨⟨k43_mkM W4 _ _ st (Kd.R_of_own (h1 := fun _ => rfl) (ok := fun k => W.heap.size ≤ k) (own_less (Kd.own_of_R e2) hw) (fun k hk => Kd.R_base e2 k hk)) (Kd.R_of_own (h1 := fun _ => rfl) (ok := fun k => W.heap.size ≤ k) (own_less (Kd.own_of_R e3) hw) (fun k hk => Kd.R_base e3 k hk))⟩, ⟨?_⟩, ⟨?_⟩⟩
  · refine Kd.S_mono (Kd.S_step (Kd.S_bound hS) (fun k hk _ => ?_)) (fun k hk => ⟨hk.1, by have := hk.2.2.1; omega⟩)
    have h1 := hk.1
    have h2 := hk.2.2.1
    exact (hbt k (by have := hbw.size; omega) (by omega)).trans (hbw.block k h2)
  · intro k hk
    have := (Kd.S_R (Kd.S_bound hS)).1 k hk
    exact ⟨this.2.2.1, this.1⟩
def LineAs (b : Bool) (s : ByteArray) (w : World) (e : Ending) (w' : World) : Prop := ∃ v2 v3 : Value, e = .returned (.tuple #[.agg #[.int .u8 (Lparse1 s).1.f0, .int .i64 (Lparse1 s).1.f1, v2, v3], .bool b]) ∧ Kd.R (Kd.int .i32) 44 w' w.heap.size (fun _ => True) v2 (Lparse1 s).1.f2 ∧ Kd.R (Kd.int .i64) 2 w' w.heap.size (fun _ => True) v3 (Lparse1 s).1.f3 ∧ Below w.heap.size w w'
theorem line_as (s : ByteArray) (w : World) {b : Bool} (h : (Lparse1 s).2 = b) : LinePost s w = LineAs b s w := by
  funext e w'
  unfold LinePost LineAs
  rw [h]
theorem Lread_small (id : Int) (ok : Bool) (r : List ByteArray) : (Lread id ok r).2.2.f2.length ≤ r.length ∧ (Lread id ok r).2.2.f3.length ≤ r.length := by
  unfold Lread
  split
  · have hd : (r.drop 1).length ≤ r.length := by rw [List.length_drop]; omega
    cases ok with
    | false => exact ⟨Nat.zero_le _, Nat.zero_le _⟩
    | true =>
      obtain ⟨_, h2, h3⟩ := LutakeH_keeps (r.drop 1) (r.drop 1) ⟨2, id, [], []⟩ ⟨[], rfl⟩
      simp only [Lgo, if_true, Bool.false_eq_true, if_false]
      rw [h3]
      exact ⟨Nat.zero_le _, by have : ([] : List Int).length = 0 := rfl; have h2' : _ ≤ 0 + (r.drop 1).length := h2; omega⟩
  · cases ok with
    | false => exact ⟨Nat.zero_le _, Nat.zero_le _⟩
    | true =>
      obtain ⟨⟨p, hp⟩, h2, h3⟩ := LutakeL_keeps r r ⟨1, id, [], []⟩ ⟨[], rfl⟩
      have h2' : (LutakeL r r ⟨1, id, [], []⟩).2.2.f2.length ≤ 0 + r.length := h2
      have hl := congrArg List.length hp
      rw [List.length_append] at hl
      simp only [Lgo, if_true, Bool.false_eq_true, if_false]
      cases hq : (LutakeL r r ⟨1, id, [], []⟩).1 with
      | false =>
        simp only [Bool.false_eq_true, if_false]
        rw [h3]
        exact ⟨by omega, Nat.zero_le _⟩
      | true =>
        simp only [if_true]
        obtain ⟨_, h4, h5⟩ := LutakeH_keeps (LutakeL r r ⟨1, id, [], []⟩).2.1 (LutakeL r r ⟨1, id, [], []⟩).2.1 (LutakeL r r ⟨1, id, [], []⟩).2.2 ⟨[], rfl⟩
        rw [h5]
        rw [h3] at h4
        have h4' : _ ≤ 0 + _ := h4
        exact ⟨by omega, by omega⟩
theorem Lparse1_small (x : ByteArray) : (Lparse1 x).1.f2.length ≤ x.size + 1 ∧ (Lparse1 x).1.f3.length ≤ x.size + 1 := by
  have hl := Lwordsof_length x
  have h1 := Lib.countB_le ⟨#[32]⟩ (by decide) x.size x (Nat.le_refl _)
  unfold Lparse1
  cases h : Lwordsof x with
  | nil => simp
  | cons x0 r =>
    have h2 := Lread_small (Lnumber x0).1 (Lnumber x0).2 r
    rw [h] at hl
    simp only [List.length_cons] at hl
    unfold Lfin
    simp only
    omega
theorem Lsteps_tot (pre : List (ByteArray × Bool)) : pre.length ≤ (pre.map fun x => x.1.size + 1).sum ∧ Btot (Lsteps pre) ≤ 2 * (pre.map fun x => x.1.size + 1).sum := by
  induction pre with
  | nil => simp [Lsteps, Btot]
  | cons x pre ih =>
    have h := Lparse1_small x.1
    unfold Lsteps at ih ⊢
    simp only [List.map_cons, List.sum_cons, List.length_cons, Btot]
    omega
theorem Lsteps_le (pre : List (ByteArray × Bool)) (x : ByteArray × Bool) (s : ByteArray) (h : pre ++ [x] <+: Lrows s.size s) : (Lsteps pre).length ≤ s.size + 1 ∧ Btot (Lsteps (pre ++ [x])) ≤ 2 * (s.size + 1) := by
  obtain ⟨suf, hs⟩ := h
  have hsum := Lrows_sum s.size s
  rw [← hs, List.map_append, List.sum_append] at hsum
  have h1 := Lsteps_tot (pre ++ [x])
  have h2 : (Lsteps pre).length = pre.length := by simp [Lsteps]
  rw [List.length_append] at h1
  omega
set_option maxRecDepth 100000 in
set_option maxHeartbeats 2000000 in
theorem parse_calls (s : ByteArray) (w : World) (hs : s.size ≤ 400000) (hlt : LT w.heap.size w) :
    Calls Tryd.prog 15 #[.string s] w fun e w' => ∃ v, e = .returned (.tuple #[v, .int .i64 (Lparse s).2.1, .int .i64 (Lparse s).2.2]) ∧ Kd.S k43 43 w' w.heap.size (fun _ => True) v (Lparse s).1 ∧ Below w.heap.size w w' := by
  have HLT := Aside0.mk hlt
  have HS := Aside0.mk hs
  clear hlt hs
  refine (callsIn_wide (n := 5)).1 ?_
  refine callsIn_of_wp_marks Tryd.func15 rfl trivial ?_ rfl
  simp only [Tryd.ntmps15, List.size_toArray, List.length_cons, List.length_nil, Nat.reduceAdd, Nat.reduceSub, Array.replicate_succ, Array.replicate_zero, List.push_toArray, List.append_toArray, List.nil_append, List.cons_append]
  gi_wp2_with (first | ((with_reducible refine gin_dst (N := 2) rfl ?_); refine box_in (.inl rfl) ?hg (by intro c hc; cases hc) (N := 2) ?hd (cs := #[.slice none 0 0]) (t := 22) ?hr ?_; (case hd => rfl); (case hg => rfl); (case hr => first | (go_simp; done) | (go_simp; rfl)); intro g2 hgb W2 hbox hb; have Hg2 := Aside0.mk hbox; have HB := Aside0.mk hb; have HLg2 := Aside0.mk (show w.heap.size ≤ g2 by rw [hgb]; exact Nat.le_refl _); clear hbox hb hgb) | ((with_reducible refine gin_dst (N := 3) rfl ?_); refine box_in (.inl rfl) ?hg (by intro c hc; cases hc) (N := 3) ?hd (cs := #[.int .i64 0]) (t := 26) ?hr ?_; (case hd => rfl); (case hg => rfl); (case hr => first | (go_simp; done) | (go_simp; rfl)); intro g3 hgb W3 hbox hb; have Hg3 := Aside0.mk hbox; have HB' := Aside0.mk (below_step HB.out hb); have HLg3 := Aside0.mk (show w.heap.size ≤ g3 by rw [hgb]; exact HB.out.size); clear HB; have HB := HB'; clear HB'; have Hg2' := Aside0.mk (blk_below Hg2.out hb); clear Hg2; have Hg2 := Hg2'; clear Hg2'; clear hbox hb hgb) | ((with_reducible refine gin_dst (N := 4) rfl ?_); refine box_in (.inl rfl) ?hg (by intro c hc; cases hc) (N := 4) ?hd (cs := #[.int .i64 0]) (t := 3) ?hr ?_; (case hd => rfl); (case hg => rfl); (case hr => first | (go_simp; done) | (go_simp; rfl)); intro g4 hgb W4 hbox hb; have Hg4 := Aside0.mk hbox; have HB' := Aside0.mk (below_step HB.out hb); have HLg4 := Aside0.mk (show w.heap.size ≤ g4 by rw [hgb]; exact HB.out.size); clear HB; have HB := HB'; clear HB'; have Hg2' := Aside0.mk (blk_below Hg2.out hb); clear Hg2; have Hg2 := Hg2'; clear Hg2'; have Hg3' := Aside0.mk (blk_below Hg3.out hb); clear Hg3; have Hg3 := Hg3'; clear Hg3'; clear hbox hb hgb) | ((with_reducible refine gin_dst (N := 5) rfl ?_); refine box_in (.inl rfl) ?hg (by intro c hc; cases hc) (N := 5) ?hd (cs := #[.slice none 0 0]) (t := 22) ?hr ?_; (case hd => rfl); (case hg => rfl); (case hr => first | (go_simp; done) | (go_simp; rfl)); intro g5 hgb W5 hbox hb; have Hg5 := Aside0.mk hbox; have HB' := Aside0.mk (below_step HB.out hb); have HLg5 := Aside0.mk (show w.heap.size ≤ g5 by rw [hgb]; exact HB.out.size); clear HB; have HB := HB'; clear HB'; have HN52 := Aside0.mk (show g2 < g5 by rw [hgb]; exact blk_lt Hg2.out); have Hg2' := Aside0.mk (blk_below Hg2.out hb); clear Hg2; have Hg2 := Hg2'; clear Hg2'; have Hg3' := Aside0.mk (blk_below Hg3.out hb); clear Hg3; have Hg3 := Hg3'; clear Hg3'; have Hg4' := Aside0.mk (blk_below Hg4.out hb); clear Hg4; have Hg4 := Hg4'; clear Hg4'; clear hbox hb hgb) | ((with_reducible refine gin_dst (N := 11) rfl ?_); refine box_in (.inl rfl) ?hg (by intro c hc; cases hc) (N := 11) ?hd (cs := #[.int .i64 0, .int .i64 0]) (t := 48) ?hr ?_; (case hd => rfl); (case hg => rfl); (case hr => first | (go_simp; done) | (go_simp; rfl)); intro gu hgb W11 hbox hb; have Hgu := Aside0.mk hbox; have HB' := Aside0.mk (below_step HB.out hb); have HLgu := Aside0.mk (show w.heap.size ≤ gu by rw [hgb]; exact HB.out.size); clear HB; have HB := HB'; clear HB'; have Hg2' := Aside0.mk (blk_below Hg2.out hb); clear Hg2; have Hg2 := Hg2'; clear Hg2'; have Hg3' := Aside0.mk (blk_below Hg3.out hb); clear Hg3; have Hg3 := Hg3'; clear Hg3'; have Hg4' := Aside0.mk (blk_below Hg4.out hb); clear Hg4; have Hg4 := Hg4'; clear Hg4'; have Hg5' := Aside0.mk (blk_below Hg5.out hb); clear Hg5; have Hg5 := Hg5'; clear Hg5'; clear hbox hb hgb) | ((with_reducible refine gin_dst (N := 6) rfl ?_); refine box_in (.inl rfl) ?hg (by intro c hc; cases hc) (N := 6) ?hd (cs := #[.pointer none]) (t := 46) ?hr ?_; (case hd => rfl); (case hg => rfl); (case hr => first | (go_simp; done) | (go_simp; rfl)); intro g6 hgb W6 hbox hb; have Hg6 := Aside0.mk hbox; have HB' := Aside0.mk (below_step HB.out hb); have HLg6 := Aside0.mk (show w.heap.size ≤ g6 by rw [hgb]; exact HB.out.size); clear HB; have HB := HB'; clear HB'; have Hg2' := Aside0.mk (blk_below Hg2.out hb); clear Hg2; have Hg2 := Hg2'; clear Hg2'; have Hg3' := Aside0.mk (blk_below Hg3.out hb); clear Hg3; have Hg3 := Hg3'; clear Hg3'; have Hg4' := Aside0.mk (blk_below Hg4.out hb); clear Hg4; have Hg4 := Hg4'; clear Hg4'; have Hg5' := Aside0.mk (blk_below Hg5.out hb); clear Hg5; have Hg5 := Hg5'; clear Hg5'; have Hgu' := Aside0.mk (blk_below Hgu.out hb); clear Hgu; have Hgu := Hgu'; clear Hgu'; clear hbox hb hgb) | ((with_reducible refine gin_store (t := 46) (p := 6) rfl ?_); refine store_one_in (.inl rfl) 46 6 (.tmp 11) rfl rfl rfl (.pointer (some ⟨gu, 0, none⟩)) #[.pointer (some ⟨gu, 0, none⟩)] rfl rfl Hg6.out rfl nsz46 (show 0 + 1 ≤ 1 by omega) rfl rfl ?_; intro W7 hw hsb; have Hg2' := Aside0.mk (hsb.other Hg2.out (blk_ne Hg2.out Hg6.out (by decide))); clear Hg2; have Hg2 := Hg2'; clear Hg2'; have Hg3' := Aside0.mk (hsb.other Hg3.out (blk_ne Hg3.out Hg6.out (by decide))); clear Hg3; have Hg3 := Hg3'; clear Hg3'; have Hg4' := Aside0.mk (hsb.other Hg4.out (blk_ne Hg4.out Hg6.out (by decide))); clear Hg4; have Hg4 := Hg4'; clear Hg4'; have Hg5' := Aside0.mk (hsb.other Hg5.out (blk_ne Hg5.out Hg6.out (by decide))); clear Hg5; have Hg5 := Hg5'; clear Hg5'; have Hgu' := Aside0.mk (hsb.other Hgu.out (blk_ne Hgu.out Hg6.out (by decide))); clear Hgu; have Hgu := Hgu'; clear Hgu'; have HB' := Aside0.mk (hsb.below HB.out HLg6.out); clear HB; have HB := HB'; clear HB'; clear Hg6; have Hg6 := Aside0.mk hw; clear hw hsb) | (refine ⟨trivial, ?_⟩; gi_at_call 28; refine (callsIn_wide.2 (lines_calls s _)).mono ?_; rintro e W0 ⟨Bn, hBn, rfl, hbox, hb⟩; have HBN := Aside0.mk hbox; have HBNL := Aside0.mk (show W7.heap.size ≤ Bn by rw [hBn]; exact Nat.le_refl _); have HB7 := HB; have HB' := Aside0.mk (below_step HB.out hb); clear HB; have HB := HB'; clear HB'; have HXg2 := Aside0.mk (show g2 < Bn by rw [hBn]; exact blk_lt Hg2.out); have Hg2' := Aside0.mk (blk_below Hg2.out hb); clear Hg2; have Hg2 := Hg2'; clear Hg2'; have HXg3 := Aside0.mk (show g3 < Bn by rw [hBn]; exact blk_lt Hg3.out); have Hg3' := Aside0.mk (blk_below Hg3.out hb); clear Hg3; have Hg3 := Hg3'; clear Hg3'; have HXg4 := Aside0.mk (show g4 < Bn by rw [hBn]; exact blk_lt Hg4.out); have Hg4' := Aside0.mk (blk_below Hg4.out hb); clear Hg4; have Hg4 := Hg4'; clear Hg4'; have HXg5 := Aside0.mk (show g5 < Bn by rw [hBn]; exact blk_lt Hg5.out); have Hg5' := Aside0.mk (blk_below Hg5.out hb); clear Hg5; have Hg5 := Hg5'; clear Hg5'; have HXgu := Aside0.mk (show gu < Bn by rw [hBn]; exact blk_lt Hgu.out); have Hgu' := Aside0.mk (blk_below Hgu.out hb); clear Hgu; have Hgu := Hgu'; clear Hgu'; have HXg6 := Aside0.mk (show g6 < Bn by rw [hBn]; exact blk_lt Hg6.out); have Hg6' := Aside0.mk (blk_below Hg6.out hb); clear Hg6; have Hg6 := Hg6'; clear Hg6'; clear hbox hb hBn))
  have hpi : PI w g2 g3 g4 g5 gu g6 Bn [] W0 := ⟨by simp, Hg2.out, Hg3.out, Hg4.out, ⟨_, Hg5.out, Kd.S_nil _ _ _ _ _⟩, by simpa [Lsteps, Btot] using Hgu.out, Hg6.out, HB.out, blk_lt HBN.out⟩
  have HPI := Aside0.mk hpi
  have hwBn : w.heap.size ≤ Bn := Nat.le_trans HB7.out.size HBNL.out
  clear hpi Hg2 Hg3 Hg4 Hg5 Hgu Hg6
  refine wpIn_range_box rfl (by omega) (gf := 41) (lb := #[.pointer (some ⟨Bn, 0, none⟩)]) rfl trivial (enters_of Tryd.func41 (by kernel_rfl) rfl)
    (encs := fun x : ByteArray × Bool => #[.string x.1, .bool x.2]) (Kp := KpBox w.heap.size Bn) (S := fun ys => ys = Lrows s.size s) (Sp := fun pre => pre <+: Lrows s.size s) (Bn := Bn) (blk_lt HBN.out) ?seq (fun h k => ⟨h.1.trans k.1, k.2.trans h.2⟩) ?kb (fun _ => rfl)
    (PI w g2 g3 g4 g5 gu g6 Bn) (fun c pre W => c = .ret ∧ PX w g2 g3 g4 pre W) (PI.own HXg2.out HXg3.out HXg4.out HXg5.out HXgu.out HXg6.out hwBn HB.out.size) (fun c s A B row h hg hr => ⟨h.1, PX.own HXg2.out HXg3.out HXg4.out hwBn HB.out.size s A B row h.2 hg hr⟩) HPI.out
    (fun x => { tmps := #[.string s, undef, .pointer (some ⟨g2, 0, none⟩), .pointer (some ⟨g3, 0, none⟩), .pointer (some ⟨g4, 0, none⟩), .pointer (some ⟨g5, 0, none⟩), .pointer (some ⟨g6, 0, none⟩), .string x.1, .bool x.2, undef, undef, .pointer (some ⟨gu, 0, none⟩), .string s, .func (.func 41) #[] #[.pointer (some ⟨Bn, 0, none⟩)], .string x.1, .bool x.2, undef, undef, undef, undef, undef, undef, undef, undef, undef, undef, undef, undef, undef, undef, undef, undef, undef, undef, undef, undef, undef, undef, undef, undef, undef, undef, undef, undef], defers := [] }) ?assign ?body ?done ?stop
  case seq =>
    intro l J Jx W hb hJ hJx hY h0
    exact lines1_in 4 (by omega) l Bn w.heap.size s HS.out J Jx hJ hY W hwBn ((hb.block Bn (blk_lt HBN.out)).trans HBN.out) ((HLT.out.on HB.out).on (hb.mono HB.out.size)) h0
  case kb =>
    intro W l o o' hl hW _ _
    have hlt := (Array.getElem?_eq_some_iff.1 hW).1
    refine ⟨(Below.refl _ W).grown (grownBy_putObj' W l o') (by have := HB.out.size; omega) (fun k e => by cases e; have := HB.out.size; omega), World.putObj_heap_other ?_⟩
    have := blk_lt HBN.out
    omega
  case assign =>
    intro l x W K hK
    gi_wp2
    exact hK
  case body =>
    rintro l pre ⟨xs, xb⟩ W hI hpre
    have HPRE := Aside0.mk hpre
    have hsum := Lrows_sum s.size s
    obtain ⟨suf, hsuf⟩ := hpre
    have hsz : xs.size ≤ 400000 := by
      rw [← hsuf] at hsum
      simp only [List.map_append, List.sum_append, List.map_cons, List.map_nil, List.sum_cons, List.sum_nil] at hsum
      have := HS.out
      omega
    clear hsuf hsum
    have HI := Aside0.mk hI
    obtain ⟨v, hv, hSS⟩ := hI.out
    obtain ⟨Ao, co, rfl⟩ := Kd.R_slice (Kd.S_R hSS)
    have HV := Aside0.mk hv
    have HSS := Aside0.mk hSS
    clear hI hv hSS
    have HLW := Aside0.mk ((HLT.out.on HI.out.below).up HI.out.below.size)
    cases xb with
    | false =>
      gi_wp2_with (first | (refine ⟨trivial, ?_⟩; gi_at_call 29; refine (CallsIn.inRound l (callsIn_wide.2 (line_calls xs W hsz HLW.out))).mono ?_; rintro e W1 ⟨v2, v3, rfl, hR2, hR3, hb⟩; have HR2 := Aside0.mk hR2; have HR3 := Aside0.mk hR3; have HB1 := Aside0.mk hb; obtain ⟨A2, c2, rfl⟩ := Kd.R_slice hR2; obtain ⟨A3, c3, rfl⟩ := Kd.R_slice hR3; clear hR2 hR3 hb) | ((with_reducible refine gin_dst (N := 9) rfl ?_); refine box_in (.inr ⟨l, rfl⟩) ?hg (by intro c hc; cases hc) (N := 9) ?hd (cs := #[.int .u8 0, .int .i64 0, .slice none 0 0, .slice none 0 0]) (t := 43) ?hr ?_; (case hd => rfl); (case hg => rfl); (case hr => first | (go_simp; done) | (go_simp; rfl)); intro g9 hgb W2 hbox hb; have HG9 := Aside0.mk hbox; have HB2 := Aside0.mk hb; have HGE := Aside0.mk hgb; clear hbox hb hgb) | ((with_reducible refine gin_store (t := 43) (p := 9) rfl ?_); refine store_four_in (.inr ⟨l, rfl⟩) 43 9 (.tmp 19) rfl rfl rfl (.int .u8 (Lparse1 xs).1.f0) (.int .i64 (Lparse1 xs).1.f1) (.slice A2 (Lparse1 xs).1.f2.length c2) (.slice A3 (Lparse1 xs).1.f3.length c3) #[.int .u8 (Lparse1 xs).1.f0, .int .i64 (Lparse1 xs).1.f1, .slice A2 (Lparse1 xs).1.f2.length c2, .slice A3 (Lparse1 xs).1.f3.length c3] rfl rfl HG9.out nsz43 (Nat.le_refl 4) rfl rfl rfl rfl rfl ?_; intro W3 hw hsb; have HG93 := Aside0.mk hw; have HSB := Aside0.mk hsb; clear hw hsb))
      have HBW := Aside0.mk (HSB.out.below (below_step HB1.out HB2.out) (by rw [HGE.out]; exact HB1.out.size))
      have hb5 := blk_below HV.out HBW.out
      have hc5 := (blk_cell hb5 0).trans (show _ = some (Value.slice Ao (Lsteps pre).length co) from rfl)
      have hf5 := blk_frozen hb5 0
      have Hb5 := Aside0.mk hb5
      clear hb5
      have hb2 := blk_below HI.out.r2 HBW.out
      have hc2 := (blk_cell hb2 0).trans (show _ = some (Value.slice none 0 0) from rfl)
      have hf2 := blk_frozen hb2 0
      have Hb2 := Aside0.mk hb2
      clear hb2
      have hb3 := blk_below HI.out.r3 HBW.out
      have hc3 := (blk_cell hb3 0).trans (show _ = some (Value.int .i64 0) from rfl)
      have hf3 := blk_frozen hb3 0
      have Hb3 := Aside0.mk hb3
      clear hb3
      have hb4 := blk_below HI.out.r4 HBW.out
      have hc4 := (blk_cell hb4 0).trans (show _ = some (Value.int .i64 0) from rfl)
      have hf4 := blk_frozen hb4 0
      have Hb4 := Aside0.mk hb4
      clear hb4
      have hne23 : g2 ≠ g3 := blk_ne HI.out.r2 HI.out.r3 (by decide)
      have hne24 : g2 ≠ g4 := blk_ne HI.out.r2 HI.out.r4 (by decide)
      have hne34 : g3 ≠ g4 := blk_ne HI.out.r3 HI.out.r4 (by decide)
      have hne32 := hne23.symm
      have hne52 : g5 ≠ g2 := fun e => by have h1 := HV.out; have h2 := HN52.out; omega
      have hne53 : g5 ≠ g3 := blk_ne HV.out HI.out.r3 (by decide)
      have hne42 := hne24.symm
      have hne43 := hne34.symm
      have hlen := Aside0.mk (Lsteps_le pre (xs, false) s HPRE.out)
      have hle0 : (Lsteps pre).length ≤ 400001 := by have := hlen.out.1; have := HS.out; omega
      have HKF := Aside0.mk (show KeepsFrom W0.heap.size W W3 from keeps_below HBW.out)
      have HBL := Aside0.mk (below_step HI.out.below HBW.out)
      refine chains32 (F := Fence.wide.inRound l) (by kernel_rfl) rfl ?hr (by kernel_rfl) (fun A0 i j a' w' => a' = Ract A0 i (.slice Ao (Lsteps pre).length co) (.int .i64 (Lsteps pre).length) (.int .i64 ((Lsteps pre).length + 1)) ∧ Aside0 (w'.heap[g5]? = some (.cells #[.slice Ao (Lsteps pre).length co] 22 (0, 0))) ∧ Aside0 (w'.heap[g2]? = some (.cells #[.slice none 0 0] 22 (0, 0))) ∧ Aside0 (w'.heap[g3]? = some (.cells #[.int .i64 (if 2 ≤ j then 40 else 0)] 26 (0, 0))) ∧ Aside0 (w'.heap[g4]? = some (.cells #[.int .i64 0] 3 (0, 0))) ∧ Aside0 (KeepsFrom W0.heap.size W w') ∧ Aside0 (Below w.heap.size w w')) ?hA ?hB ?hL ⟨rfl, Hb5, Hb2, Hb3, Hb4, ⟨⟨HKF.out.size, HKF.out.same⟩⟩, ⟨below_drew1 HBL.out⟩⟩
      case hr =>
        intro i j hi hj
        have hi' : i = 0 ∨ i = 1 ∨ i = 2 ∨ i = 3 := by omega
        have hj' : j = 0 ∨ j = 1 ∨ j = 2 := by omega
        rcases hi' with rfl | rfl | rfl | rfl <;> rcases hj' with rfl | rfl | rfl <;> (show Region.ready _ _ _ = _; kernel_rfl)
      case hA =>
        intro i j hi hj a' w' hJ
        obtain ⟨rfl, H5, H2, H3, H4, HK, HBE⟩ := hJ
        clear hc5 hf5 hc2 hf2 hc3 hf3 hc4 hf4
        have hc5 := (blk_cell H5.out 0).trans (show _ = some (Value.slice Ao (Lsteps pre).length co) from rfl)
        have hi' : i = 0 ∨ i = 1 ∨ i = 2 := by omega
        clear hi hj
        rcases hi' with rfl | rfl | rfl
        all_goals refine op_of_list rfl ?_
        all_goals simp only [Ract]
        all_goals gi_wp2
      case hB =>
        intro i j hi hj a' w' hJ
        obtain ⟨rfl, H5, H2, H3, H4, HK, HBE⟩ := hJ
        clear hc5 hf5 hc2 hf2 hc3 hf3 hc4 hf4
        have hi' : i = 0 ∨ i = 1 ∨ i = 2 ∨ i = 3 := by omega
        have hj' : j = 0 ∨ j = 1 := by omega
        clear hi hj
        rcases hj' with rfl | rfl
        · rcases hi' with rfl | rfl | rfl | rfl
          all_goals
            refine op_of_list rfl ?_
            refine store_one_in (.inr ⟨l, rfl⟩) 22 2 (.const (.slice none 0 0)) rfl rfl rfl (.slice none 0 0) #[.slice none 0 0] rfl rfl H2.out rfl nsz22 (show 0 + 1 ≤ 1 by omega) rfl rfl ?_
            intro w2 hw hsb
            exact ⟨rfl, ⟨hsb.other H5.out hne52⟩, ⟨hw⟩, ⟨hsb.other H3.out hne32⟩, ⟨hsb.other H4.out hne42⟩, ⟨HK.out.trans (keeps_same hsb H2.out)⟩, ⟨hsb.below HBE.out HLg2.out⟩⟩
        · rcases hi' with rfl | rfl | rfl | rfl
          all_goals
            refine op_of_list rfl ?_
            refine store_one_in (.inr ⟨l, rfl⟩) 26 3 (.const (.int .i64 40)) rfl rfl rfl (.int .i64 40) #[.int .i64 40] rfl rfl H3.out rfl nsz26 (show 0 + 1 ≤ 1 by omega) rfl rfl ?_
            intro w2 hw hsb
            exact ⟨rfl, ⟨hsb.other H5.out hne53⟩, ⟨hsb.other H2.out hne23⟩, ⟨hw⟩, ⟨hsb.other H4.out hne43⟩, ⟨HK.out.trans (keeps_same hsb H3.out)⟩, ⟨hsb.below HBE.out HLg3.out⟩⟩
      case hL =>
        intro a' w' hJ
        obtain ⟨rfl, H5, H2, H3, H4, HK, HBE⟩ := hJ
        clear hc5 hf5 hc2 hf2 hc3 hf3 hc4 hf4
        refine op_of_list rfl ?_
        refine store_one_in (.inr ⟨l, rfl⟩) 3 4 (.tmp 30) rfl rfl rfl (.int .i64 ((Lsteps pre).length + 1)) #[.int .i64 ((Lsteps pre).length + 1)] rfl rfl H4.out rfl lsz3 (show 0 + 1 ≤ 1 by omega) rfl rfl ?_
        intro w2 hw hsb
        refine wpListIn_nil ?_
        have H2' := Aside0.mk (hsb.other H2.out hne24)
        have H3' := Aside0.mk (hsb.other H3.out hne34)
        have H4' := Aside0.mk hw
        have HK' := Aside0.mk (HK.out.trans (keeps_same (B := W0.heap.size) hsb H4.out))
        have HBE' := Aside0.mk (hsb.below HBE.out HLg4.out)
        clear H2 H3 H4 H5 HK HBE hw hsb
        simp only [Ract]
        gi_wp2
        exact ⟨HK'.out, rfl, ⟨⟨pre, (xs, false), rfl, HI.out.ok, (fun h => by cases h.1)⟩, H2'.out, H3'.out, by rw [show ((pre ++ [(xs, false)]).length : Int) = (Lsteps pre).length + 1 by simp [Lsteps]]; exact H4'.out, HBE'.out⟩⟩
    | true =>
      cases hok : (Lparse1 xs).2 with
      | false =>
        have HOK := Aside0.mk hok
        clear hok
        gi_wp2_with (first | (refine ⟨trivial, ?_⟩; gi_at_call 29; refine (CallsIn.inRound l (callsIn_wide.2 (line_calls xs W hsz HLW.out))).mono ?_; rw [show LinePost xs W = LineAs false xs W from line_as xs W HOK.out]; rintro e W1 ⟨v2, v3, rfl, hR2, hR3, hb⟩; have HR2 := Aside0.mk hR2; have HR3 := Aside0.mk hR3; have HB1 := Aside0.mk hb; obtain ⟨A2, c2, rfl⟩ := Kd.R_slice hR2; obtain ⟨A3, c3, rfl⟩ := Kd.R_slice hR3; clear hR2 hR3 hb) | ((with_reducible refine gin_dst (N := 9) rfl ?_); refine box_in (.inr ⟨l, rfl⟩) ?hg (by intro c hc; cases hc) (N := 9) ?hd (cs := #[.int .u8 0, .int .i64 0, .slice none 0 0, .slice none 0 0]) (t := 43) ?hr ?_; (case hd => rfl); (case hg => rfl); (case hr => first | (go_simp; done) | (go_simp; rfl)); intro g9 hgb W2 hbox hb; have HG9 := Aside0.mk hbox; have HB2 := Aside0.mk hb; have HGE := Aside0.mk hgb; clear hbox hb hgb) | ((with_reducible refine gin_store (t := 43) (p := 9) rfl ?_); refine store_four_in (.inr ⟨l, rfl⟩) 43 9 (.tmp 19) rfl rfl rfl (.int .u8 (Lparse1 xs).1.f0) (.int .i64 (Lparse1 xs).1.f1) (.slice A2 (Lparse1 xs).1.f2.length c2) (.slice A3 (Lparse1 xs).1.f3.length c3) #[.int .u8 (Lparse1 xs).1.f0, .int .i64 (Lparse1 xs).1.f1, .slice A2 (Lparse1 xs).1.f2.length c2, .slice A3 (Lparse1 xs).1.f3.length c3] rfl rfl HG9.out nsz43 (Nat.le_refl 4) rfl rfl rfl rfl rfl ?_; intro W3 hw hsb; have HG93 := Aside0.mk hw; have HSB := Aside0.mk hsb; clear hw hsb))
        have HBW := Aside0.mk (HSB.out.below (below_step HB1.out HB2.out) (by rw [HGE.out]; exact HB1.out.size))
        have hb5 := blk_below HV.out HBW.out
        have hc5 := (blk_cell hb5 0).trans (show _ = some (Value.slice Ao (Lsteps pre).length co) from rfl)
        have hf5 := blk_frozen hb5 0
        have Hb5 := Aside0.mk hb5
        clear hb5
        have hb2 := blk_below HI.out.r2 HBW.out
        have hc2 := (blk_cell hb2 0).trans (show _ = some (Value.slice none 0 0) from rfl)
        have hf2 := blk_frozen hb2 0
        have Hb2 := Aside0.mk hb2
        clear hb2
        have hb3 := blk_below HI.out.r3 HBW.out
        have hc3 := (blk_cell hb3 0).trans (show _ = some (Value.int .i64 0) from rfl)
        have hf3 := blk_frozen hb3 0
        have Hb3 := Aside0.mk hb3
        clear hb3
        have hb4 := blk_below HI.out.r4 HBW.out
        have hc4 := (blk_cell hb4 0).trans (show _ = some (Value.int .i64 0) from rfl)
        have hf4 := blk_frozen hb4 0
        have Hb4 := Aside0.mk hb4
        clear hb4
        have hne23 : g2 ≠ g3 := blk_ne HI.out.r2 HI.out.r3 (by decide)
        have hne24 : g2 ≠ g4 := blk_ne HI.out.r2 HI.out.r4 (by decide)
        have hne34 : g3 ≠ g4 := blk_ne HI.out.r3 HI.out.r4 (by decide)
        have hne32 := hne23.symm
        have hne52 : g5 ≠ g2 := fun e => by have h1 := HV.out; have h2 := HN52.out; omega
        have hne53 : g5 ≠ g3 := blk_ne HV.out HI.out.r3 (by decide)
        have hne42 := hne24.symm
        have hne43 := hne34.symm
        have hlen := Aside0.mk (Lsteps_le pre (xs, true) s HPRE.out)
        have hle0 : (Lsteps pre).length ≤ 400001 := by have := hlen.out.1; have := HS.out; omega
        have HKF := Aside0.mk (show KeepsFrom W0.heap.size W W3 from keeps_below HBW.out)
        have HBL := Aside0.mk (below_step HI.out.below HBW.out)
        refine chains32 (F := Fence.wide.inRound l) (by kernel_rfl) rfl ?hr (by kernel_rfl) (fun A0 i j a' w' => a' = Ract A0 i (.slice Ao (Lsteps pre).length co) (.int .i64 (Lsteps pre).length) (.int .i64 ((Lsteps pre).length + 1)) ∧ Aside0 (w'.heap[g5]? = some (.cells #[.slice Ao (Lsteps pre).length co] 22 (0, 0))) ∧ Aside0 (w'.heap[g2]? = some (.cells #[.slice none 0 0] 22 (0, 0))) ∧ Aside0 (w'.heap[g3]? = some (.cells #[.int .i64 (if 2 ≤ j then 40 else 0)] 26 (0, 0))) ∧ Aside0 (w'.heap[g4]? = some (.cells #[.int .i64 0] 3 (0, 0))) ∧ Aside0 (KeepsFrom W0.heap.size W w') ∧ Aside0 (Below w.heap.size w w')) ?hA ?hB ?hL ⟨rfl, Hb5, Hb2, Hb3, Hb4, ⟨⟨HKF.out.size, HKF.out.same⟩⟩, ⟨below_drew1 HBL.out⟩⟩
        case hr =>
          intro i j hi hj
          have hi' : i = 0 ∨ i = 1 ∨ i = 2 ∨ i = 3 := by omega
          have hj' : j = 0 ∨ j = 1 ∨ j = 2 := by omega
          rcases hi' with rfl | rfl | rfl | rfl <;> rcases hj' with rfl | rfl | rfl <;> (show Region.ready _ _ _ = _; kernel_rfl)
        case hA =>
          intro i j hi hj a' w' hJ
          obtain ⟨rfl, H5, H2, H3, H4, HK, HBE⟩ := hJ
          clear hc5 hf5 hc2 hf2 hc3 hf3 hc4 hf4
          have hc5 := (blk_cell H5.out 0).trans (show _ = some (Value.slice Ao (Lsteps pre).length co) from rfl)
          have hi' : i = 0 ∨ i = 1 ∨ i = 2 := by omega
          clear hi hj
          rcases hi' with rfl | rfl | rfl
          all_goals refine op_of_list rfl ?_
          all_goals simp only [Ract]
          all_goals gi_wp2
        case hB =>
          intro i j hi hj a' w' hJ
          obtain ⟨rfl, H5, H2, H3, H4, HK, HBE⟩ := hJ
          clear hc5 hf5 hc2 hf2 hc3 hf3 hc4 hf4
          have hi' : i = 0 ∨ i = 1 ∨ i = 2 ∨ i = 3 := by omega
          have hj' : j = 0 ∨ j = 1 := by omega
          clear hi hj
          rcases hj' with rfl | rfl
          · rcases hi' with rfl | rfl | rfl | rfl
            all_goals
              refine op_of_list rfl ?_
              refine store_one_in (.inr ⟨l, rfl⟩) 22 2 (.const (.slice none 0 0)) rfl rfl rfl (.slice none 0 0) #[.slice none 0 0] rfl rfl H2.out rfl nsz22 (show 0 + 1 ≤ 1 by omega) rfl rfl ?_
              intro w2 hw hsb
              exact ⟨rfl, ⟨hsb.other H5.out hne52⟩, ⟨hw⟩, ⟨hsb.other H3.out hne32⟩, ⟨hsb.other H4.out hne42⟩, ⟨HK.out.trans (keeps_same hsb H2.out)⟩, ⟨hsb.below HBE.out HLg2.out⟩⟩
          · rcases hi' with rfl | rfl | rfl | rfl
            all_goals
              refine op_of_list rfl ?_
              refine store_one_in (.inr ⟨l, rfl⟩) 26 3 (.const (.int .i64 40)) rfl rfl rfl (.int .i64 40) #[.int .i64 40] rfl rfl H3.out rfl nsz26 (show 0 + 1 ≤ 1 by omega) rfl rfl ?_
              intro w2 hw hsb
              exact ⟨rfl, ⟨hsb.other H5.out hne53⟩, ⟨hsb.other H2.out hne23⟩, ⟨hw⟩, ⟨hsb.other H4.out hne43⟩, ⟨HK.out.trans (keeps_same hsb H3.out)⟩, ⟨hsb.below HBE.out HLg3.out⟩⟩
        case hL =>
          intro a' w' hJ
          obtain ⟨rfl, H5, H2, H3, H4, HK, HBE⟩ := hJ
          clear hc5 hf5 hc2 hf2 hc3 hf3 hc4 hf4
          refine op_of_list rfl ?_
          refine store_one_in (.inr ⟨l, rfl⟩) 3 4 (.tmp 30) rfl rfl rfl (.int .i64 ((Lsteps pre).length + 1)) #[.int .i64 ((Lsteps pre).length + 1)] rfl rfl H4.out rfl lsz3 (show 0 + 1 ≤ 1 by omega) rfl rfl ?_
          intro w2 hw hsb
          refine wpListIn_nil ?_
          have H2' := Aside0.mk (hsb.other H2.out hne24)
          have H3' := Aside0.mk (hsb.other H3.out hne34)
          have H4' := Aside0.mk hw
          have HK' := Aside0.mk (HK.out.trans (keeps_same (B := W0.heap.size) hsb H4.out))
          have HBE' := Aside0.mk (hsb.below HBE.out HLg4.out)
          clear H2 H3 H4 H5 HK HBE hw hsb
          simp only [Ract]
          gi_wp2
          exact ⟨HK'.out, rfl, ⟨⟨pre, (xs, true), rfl, HI.out.ok, (fun h => by have h2 := h.2; rw [HOK.out] at h2; cases h2)⟩, H2'.out, H3'.out, by rw [show ((pre ++ [(xs, true)]).length : Int) = (Lsteps pre).length + 1 by simp [Lsteps]]; exact H4'.out, HBE'.out⟩⟩
      | true =>
        have HOK := Aside0.mk hok
        clear hok
        have HOKS := Aside0.mk (show ∀ y ∈ pre ++ [(xs, true)], y.2 = true ∧ (Lparse1 y.1).2 = true from fun y hy => by
          rcases List.mem_append.1 hy with hy | hy
          · exact HI.out.ok y hy
          · rw [List.mem_singleton] at hy; rw [hy]; exact ⟨rfl, HOK.out⟩)
        have hlen := Aside0.mk (Lsteps_le pre (xs, true) s HPRE.out)
        have hlp : (Lsteps pre).length = pre.length := by simp [Lsteps]
        have hbt2 : Btot (Lsteps (pre ++ [(xs, true)])) = Btot (Lsteps pre) + ((Lparse1 xs).1.f2.length + (Lparse1 xs).1.f3.length) := by
          rw [show Lsteps (pre ++ [(xs, true)]) = Lsteps pre ++ [(Lparse1 xs).1] by simp [Lsteps], Btot_append]
          simp [Btot]
        have HBT2 := Aside0.mk hbt2
        have HNUM := Aside0.mk (show pre.length ≤ 400001 ∧ Btot (Lsteps pre) ≤ 800002 ∧ (Lparse1 xs).1.f2.length ≤ 800002 ∧ (Lparse1 xs).1.f3.length ≤ 800002 by have h1 := hlen.out; have h2 := HS.out; omega)
        have HLP := Aside0.mk hlp
        have HTR := Aside0.mk (show (decide ((pre.length : Int) + 1 ≤ 4194304) && decide (min (((Btot (Lsteps pre) : Nat) : Int) + ((Lparse1 xs).1.f2.length : Int) + ((Lparse1 xs).1.f3.length : Int)) 16777217 ≤ 16777216)) = true by
          have h1 := hlen.out
          have h2 := HS.out
          rw [decide_eq_true (by omega), decide_eq_true (by omega)]
          rfl)
        have HMN := Aside0.mk (show min (((Btot (Lsteps pre) : Nat) : Int) + ((Lparse1 xs).1.f2.length : Int) + ((Lparse1 xs).1.f3.length : Int)) 16777217 = ((Btot (Lsteps (pre ++ [(xs, true)])) : Nat) : Int) by
          have h1 := hlen.out
          have h2 := HS.out
          rw [hbt2]
          omega)
        have HN5U := Aside0.mk (show g5 ≠ gu from blk_ne HV.out HI.out.bud (by decide))
        clear hlp hbt2
        gi_wp2_with (first | (refine ⟨trivial, ?_⟩; gi_at_call 29; refine (CallsIn.inRound l (callsIn_wide.2 (line_calls xs W hsz HLW.out))).mono ?_; rw [show LinePost xs W = LineAs true xs W from line_as xs W HOK.out]; rintro e W1 ⟨v2, v3, rfl, hR2, hR3, hb⟩; have HR2 := Aside0.mk hR2; have HR3 := Aside0.mk hR3; have HB1 := Aside0.mk hb; obtain ⟨A2, c2, rfl⟩ := Kd.R_slice hR2; obtain ⟨A3, c3, rfl⟩ := Kd.R_slice hR3; clear hR2 hR3 hb) | ((with_reducible refine gin_dst (N := 9) rfl ?_); refine box_in (.inr ⟨l, rfl⟩) ?hg (by intro c hc; cases hc) (N := 9) ?hd (cs := #[.int .u8 0, .int .i64 0, .slice none 0 0, .slice none 0 0]) (t := 43) ?hr ?_; (case hd => rfl); (case hg => rfl); (case hr => first | (go_simp; done) | (go_simp; rfl)); intro g9 hgb W2 hbox hb; have HG9 := Aside0.mk hbox; have HB2 := Aside0.mk hb; have HGE := Aside0.mk hgb; clear hbox hb hgb) | ((with_reducible refine gin_store (t := 43) (p := 9) rfl ?_); refine store_four_in (.inr ⟨l, rfl⟩) 43 9 (.tmp 19) rfl rfl rfl (.int .u8 (Lparse1 xs).1.f0) (.int .i64 (Lparse1 xs).1.f1) (.slice A2 (Lparse1 xs).1.f2.length c2) (.slice A3 (Lparse1 xs).1.f3.length c3) #[.int .u8 (Lparse1 xs).1.f0, .int .i64 (Lparse1 xs).1.f1, .slice A2 (Lparse1 xs).1.f2.length c2, .slice A3 (Lparse1 xs).1.f3.length c3] rfl rfl HG9.out nsz43 (Nat.le_refl 4) rfl rfl rfl rfl rfl ?_; intro W3 hw hsb; have HG93 := Aside0.mk hw; have HNG := Aside0.mk (show g9 ≠ gu by have h1 := HGE.out; have h2 := HB1.out.size; have h3 := HI.out.lt; have h4 := HXgu.out; omega); have HSB := Aside0.mk hsb; have HBW := Aside0.mk (hsb.below (below_step HB1.out HB2.out) (by rw [HGE.out]; exact HB1.out.size)); have h9a := (blk_cell hw 0).trans (show _ = some (Value.int .u8 (Lparse1 xs).1.f0) from rfl); have h9b := (blk_cell hw 1).trans (show _ = some (Value.int .i64 (Lparse1 xs).1.f1) from rfl); have h9c := (blk_cell hw 2).trans (show _ = some (Value.slice A2 (Lparse1 xs).1.f2.length c2) from rfl); have h9d := (blk_cell hw 3).trans (show _ = some (Value.slice A3 (Lparse1 xs).1.f3.length c3) from rfl); have h6a := (blk_cell (blk_below HI.out.all HBW.out) 0).trans (show _ = some (Value.pointer (some ⟨gu, 0, none⟩)) from rfl); clear hw hsb) | (refine ⟨trivial, ?_⟩; gi_at_call 19; refine (CallsIn.inRound l (callsIn_wide.2 (spend_but gu pre.length (Btot (Lsteps pre) : Nat) (Lparse1 xs).1.f0 (Lparse1 xs).1.f1 A2 A3 c2 c3 (Lparse1 xs).1.f2.length (Lparse1 xs).1.f3.length gu W3 (blk_below HI.out.bud HBW.out) (Nat.le_refl _) (by omega) (by have := HNUM.out.1; omega) (by omega) (by have := HNUM.out.2.1; omega) (by have := HNUM.out.2.2.1; omega) (by have := HNUM.out.2.2.2; omega)))).mono ?_; rw [HTR.out, HMN.out]; rintro e W4 ⟨rfl, h4, hb4, hbt⟩; have HU4 := Aside0.mk h4; have HB4 := Aside0.mk hb4; have HBT := Aside0.mk hbt; clear h4 hb4 hbt h6a h9a h9b h9c h9d; have h9e := HBT.out g9 (blk_lt HG93.out) HNG.out; have HG94 := Aside0.mk (h9e.trans HG93.out); clear h9e; have h9a := (blk_cell HG94.out 0).trans (show _ = some (Value.int .u8 (Lparse1 xs).1.f0) from rfl); have h9b := (blk_cell HG94.out 1).trans (show _ = some (Value.int .i64 (Lparse1 xs).1.f1) from rfl); have h9c := (blk_cell HG94.out 2).trans (show _ = some (Value.slice A2 (Lparse1 xs).1.f2.length c2) from rfl); have h9d := (blk_cell HG94.out 3).trans (show _ = some (Value.slice A3 (Lparse1 xs).1.f3.length c3) from rfl); have HV4 := Aside0.mk ((HBT.out g5 (Nat.lt_of_lt_of_le (blk_lt HV.out) HBW.out.size) HN5U.out).trans (blk_below HV.out HBW.out)); have h5a := (blk_cell HV4.out 0).trans (show _ = some (Value.slice Ao (Lsteps pre).length co) from rfl)) | (gi_at_builtin; obtain ⟨HMM, HSO, HOWN⟩ := add_parts w W W1 W2 W3 W4 g9 gu Bn (.slice Ao (Lsteps pre).length co) (Lsteps pre) (Lparse1 xs).1 A2 A3 c2 c3 HI.out.below.size (Nat.lt_trans HXgu.out HI.out.lt) HXgu.out HR2.out HR3.out HSS.out HB1.out HB2.out HSB.out HGE.out HBW.out HBT.out; refine append_in (.inr ⟨l, rfl⟩) k43 (w0 := w) (W := W4) w.heap.size rfl (.tmp 39) (.tmp 41) 22 43 (.agg #[(.int .u8 0), (.int .i64 0), (.slice none 0 0), (.slice none 0 0)]) 64 rfl Tryd.underlying22 info43 rfl (by decide) (by omega) _ (Lsteps pre) (Lparse1 xs).1 [.int .u8 (Lparse1 xs).1.f0, .int .i64 (Lparse1 xs).1.f1, .slice A2 (Lparse1 xs).1.f2.length c2, .slice A3 (Lparse1 xs).1.f3.length c3] (fun k => Bn < k) (fun k => W.heap.size ≤ k) rfl rfl HMM.out ?aP ?aF HSO.out ?aB ?aS ?aL ?_; (case aP => exact fun k hk => ⟨Nat.lt_of_lt_of_le HI.out.lt hk, fun e => by have := (HOWN.out k e.symm).1; omega⟩); (case aF => exact fun k hk => Nat.lt_of_lt_of_le HI.out.lt (Nat.le_trans HBW.out.size (Nat.le_trans HB4.out.size hk))); (case aB => exact (below_step HI.out.below HBW.out).trans (HB4.out.mono HLgu.out)); (case aS => exact Nat.le_trans HI.out.below.size (Nat.le_trans HBW.out.size HB4.out.size)); (case aL => have h1 := HNUM.out.1; have h2 := HLP.out; omega); intro v1 W5 ho hb hg; obtain ⟨A5, c5, rfl⟩ := Kd.R_slice (Kd.S_R ho); have HO5 := Aside0.mk ho; have HB5 := Aside0.mk hb; have HG5 := Aside0.mk hg; have HV5 := Aside0.mk (blk_grown HV4.out hg (fun e => by have := (HOWN.out g5 e.symm).2; have := HXg5.out; omega)); clear ho hb hg h5a) | ((with_reducible refine gin_store (t := 22) (p := 5) rfl ?_); refine store_one_in (.inr ⟨l, rfl⟩) 22 5 (.tmp 42) rfl rfl rfl (.slice A5 (Lsteps pre ++ [(Lparse1 xs).1]).length c5) #[.slice A5 (Lsteps pre ++ [(Lparse1 xs).1]).length c5] rfl (by first | rfl | (simp; rfl)) HV5.out rfl nsz22 (show 0 + 1 ≤ 1 by omega) rfl rfl ?_; intro W6 hw hsb; have HW6 := Aside0.mk hw; have HSB6 := Aside0.mk hsb; clear hw hsb))
        have HQ : ∀ q, q ≤ Bn → q ≠ gu → q ≠ g5 → W6.heap[q]? = W.heap[q]? := fun q hq hu h5 => by
          have hlt := HI.out.lt
          refine (HSB6.out.blk q h5).trans ((HG5.out.block q (by have := HBW.out.size; have := HB4.out.size; omega) (fun e => by have := (HOWN.out q e.symm).2; omega)).trans ((HBT.out q (by have := HBW.out.size; omega) hu).trans (HBW.out.block q (by omega))))
        have hx2 := HXg2.out
        have hx3 := HXg3.out
        have hx4 := HXg4.out
        have hx5 := HXg5.out
        have hxu := HXgu.out
        have hx6 := HXg6.out
        have hn2u : g2 ≠ gu := blk_ne HI.out.r2 HI.out.bud (by decide)
        have hn3u : g3 ≠ gu := blk_ne HI.out.r3 HI.out.bud (by decide)
        have hn4u : g4 ≠ gu := blk_ne HI.out.r4 HI.out.bud (by decide)
        have hn6u : g6 ≠ gu := blk_ne HI.out.all HI.out.bud (by decide)
        have hn35 : g3 ≠ g5 := blk_ne HI.out.r3 HV.out (by decide)
        have hn45 : g4 ≠ g5 := blk_ne HI.out.r4 HV.out (by decide)
        have hn65 : g6 ≠ g5 := blk_ne HI.out.all HV.out (by decide)
        have hn25 : g2 ≠ g5 := fun e => by have := HN52.out; omega
        have hls : Lsteps (pre ++ [(xs, true)]) = Lsteps pre ++ [(Lparse1 xs).1] := by simp [Lsteps]
        have hU6 : W6.heap[gu]? = some (.cells #[.int .i64 ((pre ++ [(xs, true)]).length : Nat), .int .i64 (Btot (Lsteps (pre ++ [(xs, true)])) : Nat)] 48 (0, 0)) := by
          refine (HSB6.out.blk gu (fun e => HN5U.out e.symm)).trans ((HG5.out.block gu (blk_lt HU4.out) (fun e => by have := (HOWN.out gu e.symm).2; omega)).trans ?_)
          rw [HU4.out]
          simp
        have hB6 : Below w.heap.size W W6 := by
          refine HSB6.out.below (((HBW.out.mono HI.out.below.size).trans (HB4.out.mono HLgu.out)).grown HG5.out (Nat.le_trans HI.out.below.size (Nat.le_trans HBW.out.size HB4.out.size)) (fun k e => ?_)) HLg5.out
          have := (HOWN.out k e).2
          omega
        have hK6 : KeepsFrom W0.heap.size W W6 := by
          refine ((keeps_below HBW.out).trans (⟨HB4.out.size, fun k o _ hk ho => ?_⟩ : KeepsFrom W0.heap.size W3 W4)).trans ((⟨HG5.out.size, fun k o _ hk ho => ?_⟩ : KeepsFrom W0.heap.size W4 W5).trans (keeps_same HSB6.out HV5.out))
          · by_cases e : k = gu
            · subst e; rw [blk_below HI.out.bud HBW.out] at hk; cases hk; cases ho
            · exact (HBT.out k (Array.getElem?_eq_some_iff.1 hk).1 e).trans hk
          · refine (HG5.out.block k (Array.getElem?_eq_some_iff.1 hk).1 (fun e => ?_)).trans hk
            obtain ⟨cells, hc⟩ := Kd.R_typed (Kd.S_R HSO.out) k e.symm
            rw [hc] at hk
            cases hk
            cases ho
        exact ⟨hK6, ⟨hB6, HQ Bn (Nat.le_refl _) (by omega) (by omega)⟩, ⟨HOKS.out, (HQ g2 (by omega) hn2u hn25).trans HI.out.r2, (HQ g3 (by omega) hn3u hn35).trans HI.out.r3, (HQ g4 (by omega) hn4u hn45).trans HI.out.r4, ⟨_, HW6.out, by rw [hls]; exact HSB6.out.St HO5.out HV5.out (by decide)⟩, hU6, (HQ g6 (by omega) hn6u hn65).trans HI.out.all, HI.out.below.trans hB6, Nat.lt_of_lt_of_le HI.out.lt hB6.size⟩⟩
  case done =>
    rintro D ys W hD rfl hI hK
    have HB' := Aside0.mk hI.below
    clear HB
    have HB := HB'
    clear HB'
    have HOKS := Aside0.mk hI.ok
    have Hg2 := Aside0.mk hI.r2
    have Hg3 := Aside0.mk hI.r3
    have Hg4 := Aside0.mk hI.r4
    obtain ⟨v, hv, hSS⟩ := hI.out
    obtain ⟨Ao, co, rfl⟩ := Kd.R_slice (Kd.S_R hSS)
    have HSS := Aside0.mk hSS
    have hc5 := (blk_cell hv 0).trans (show _ = some (Value.slice Ao (Lsteps (Lrows s.size s)).length co) from rfl)
    have hf5 := blk_frozen hv 0
    have HK := Aside0.mk hK
    clear hSS hI hK
    gi_wp2_with (first | ((with_reducible refine gin_store (t := 22) (p := 2) rfl ?_); refine store_one_in (.inl rfl) 22 2 (.tmp 43) rfl rfl rfl (Value.slice Ao (Lsteps (Lrows s.size s)).length co) #[Value.slice Ao (Lsteps (Lrows s.size s)).length co] rfl rfl Hg2.out rfl nsz22 (show 0 + 1 ≤ 1 by omega) rfl rfl ?_; intro V2 hw hsb; have Hg3' := Aside0.mk (hsb.other Hg3.out (blk_ne Hg3.out Hg2.out (by decide))); clear Hg3; have Hg3 := Hg3'; clear Hg3'; have Hg4' := Aside0.mk (hsb.other Hg4.out (blk_ne Hg4.out Hg2.out (by decide))); clear Hg4; have Hg4 := Hg4'; clear Hg4'; have HB' := Aside0.mk (hsb.below HB.out HLg2.out); clear HB; have HB := HB'; clear HB'; have HSB2 := Aside0.mk hsb; have Hg2o := Hg2; clear Hg2; have Hg2 := Aside0.mk hw; clear hw hsb) | ((with_reducible refine gin_store (t := 26) (p := 3) rfl ?_); refine store_one_in (.inl rfl) 26 3 (.const (.int .i64 0)) rfl rfl rfl (Value.int .i64 0) #[Value.int .i64 0] rfl rfl Hg3.out rfl nsz26 (show 0 + 1 ≤ 1 by omega) rfl rfl ?_; intro V3 hw hsb; have Hg2' := Aside0.mk (hsb.other Hg2.out (blk_ne Hg2.out Hg3.out (by decide))); clear Hg2; have Hg2 := Hg2'; clear Hg2'; have Hg4' := Aside0.mk (hsb.other Hg4.out (blk_ne Hg4.out Hg3.out (by decide))); clear Hg4; have Hg4 := Hg4'; clear Hg4'; have HB' := Aside0.mk (hsb.below HB.out HLg3.out); clear HB; have HB := HB'; clear HB'; have HSB3 := Aside0.mk hsb; have Hg3o := Hg3; clear Hg3; have Hg3 := Aside0.mk hw; clear hw hsb) | ((with_reducible refine gin_store (t := 3) (p := 4) rfl ?_); refine store_one_in (.inl rfl) 3 4 (.const (.int .i64 0)) rfl rfl rfl (Value.int .i64 0) #[Value.int .i64 0] rfl rfl Hg4.out rfl lsz3 (show 0 + 1 ≤ 1 by omega) rfl rfl ?_; intro V4 hw hsb; have Hg2' := Aside0.mk (hsb.other Hg2.out (blk_ne Hg2.out Hg4.out (by decide))); clear Hg2; have Hg2 := Hg2'; clear Hg2'; have Hg3' := Aside0.mk (hsb.other Hg3.out (blk_ne Hg3.out Hg4.out (by decide))); clear Hg3; have Hg3 := Hg3'; clear Hg3'; have HB' := Aside0.mk (hsb.below HB.out HLg4.out); clear HB; have HB := HB'; clear HB'; have HSB4 := Aside0.mk hsb; have Hg4o := Hg4; clear Hg4; have Hg4 := Aside0.mk hw; clear hw hsb))
    have hg2B := HXg2.out
    have hg3B := HXg3.out
    have hg4B := HXg4.out
    have hBD := blk_lt HBN.out
    have hK4 : V4.heap[D]? = some (.deferred (some [])) := (HSB4.out.blk D (by omega)).trans ((HSB3.out.blk D (by omega)).trans ((HSB2.out.blk D (by omega)).trans HK.out))
    have hS4 := HSB4.out.St (HSB3.out.St (HSB2.out.St HSS.out Hg2o.out (by decide)) Hg3o.out (by decide)) Hg4o.out (by decide)
    have hL : Lparse s = (Lsteps (Lrows s.size s), 0, 0) := by
      have h := Lp_all (Lrows s.size s) HOKS.out [] []
      rw [List.append_nil, List.nil_append] at h
      exact h.trans rfl
    rw [hL]
    refine ⟨by simp, .inl ⟨_, _, rfl, run_takeDeferred hK4, ?_⟩⟩
    have h2 := cell_kept ((blk_cell Hg2.out 0).trans (show _ = some (Value.slice Ao (Lsteps (Lrows s.size s)).length co) from rfl)) (grownBy_putObj' _ D (.deferred none)) (fun r e => by cases e; exact ⟨_, hK4, rfl⟩)
    have h3 := cell_kept ((blk_cell Hg3.out 0).trans (show _ = some (Value.int .i64 0) from rfl)) (grownBy_putObj' _ D (.deferred none)) (fun r e => by cases e; exact ⟨_, hK4, rfl⟩)
    have h4 := cell_kept ((blk_cell Hg4.out 0).trans (show _ = some (Value.int .i64 0) from rfl)) (grownBy_putObj' _ D (.deferred none)) (fun r e => by cases e; exact ⟨_, hK4, rfl⟩)
    refine ⟨.tuple #[.slice Ao (Lsteps (Lrows s.size s)).length co, .int .i64 0, .int .i64 0], by simp [results, Tryd.f15, go_sem, h2, h3, h4], _, rfl, ?_, ?_⟩
    · refine Kd.S_mono (Kd.S_step (Kd.S_bound hS4) (fun k hk _ => ?_)) (fun _ _ => trivial)
      obtain ⟨_, _, _, q, _, cells, hc⟩ := hk
      refine World.putObj_heap_other ?_
      rintro rfl
      rw [hK4] at hc
      cases hc
    · exact HB.out.grown (grownBy_putObj' _ D (.deferred none)) HB.out.size (fun k e => by cases e; have := HLg2.out; omega)
  case stop =>
    rintro D c pre W hD hSp ⟨rfl, hPX⟩ hK
    gi_wp2
    obtain ⟨init, x, rfl, hin, hx⟩ := hPX.ok
    have hBD := blk_lt HBN.out
    have hL : Lparse s = ([], 40, (((init ++ [x]).length : Nat) : Int)) := by
      obtain ⟨suf, hs⟩ := hSp
      have h := Lp_all init hin (x :: suf) []
      unfold Lparse
      rw [← hs, List.append_assoc, List.singleton_append, h, Lp, if_neg hx]
      simp [Lsteps]
    rw [hL]
    refine ⟨by simp, .inl ⟨_, _, rfl, run_takeDeferred hK, ?_⟩⟩
    have h2 := cell_kept ((blk_cell hPX.r2 0).trans (show _ = some (Value.slice none 0 0) from rfl)) (grownBy_putObj' _ D (.deferred none)) (fun r e => by cases e; exact ⟨_, hK, rfl⟩)
    have h3 := cell_kept ((blk_cell hPX.r3 0).trans (show _ = some (Value.int .i64 40) from rfl)) (grownBy_putObj' _ D (.deferred none)) (fun r e => by cases e; exact ⟨_, hK, rfl⟩)
    have h4 := cell_kept ((blk_cell hPX.r4 0).trans (show _ = some (Value.int .i64 ((init ++ [x]).length : Nat)) from rfl)) (grownBy_putObj' _ D (.deferred none)) (fun r e => by cases e; exact ⟨_, hK, rfl⟩)
    refine ⟨.tuple #[.slice none 0 0, .int .i64 40, .int .i64 ((init ++ [x]).length : Nat)], by simp [results, Tryd.f15, go_sem, h2, h3, h4], _, rfl, Kd.S_nil _ _ _ _ _, ?_⟩
    exact hPX.below.grown (grownBy_putObj' _ D (.deferred none)) hPX.below.size (fun k e => by cases e; have := HB.out.size; omega)
end Go.Proofs.YtfjnkbkcoakooaaDoor.PB
end
