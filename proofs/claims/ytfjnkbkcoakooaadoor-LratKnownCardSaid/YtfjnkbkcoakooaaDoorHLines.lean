import Derived.RangeFuncNested
import Derived.RangeFuncBound
import Derived.RangeFuncCalls
import Derived.RangeFuncLeaves
import Derived.Test.YtfjnkbkcoakooaaDoorHLine
import Derived.Shelf.Abstract
import Derived.Shelf.RegionOpen
import Derived.WalkKit
import Derived.OwnWalkIn
import Derived.TacticsInMore
import Derived.LoopNIn
import Derived.LoopIn
section
namespace Go.Proofs.YtfjnkbkcoakooaaDoor.PB
open Go.RowKit
set_option linter.unusedVariables false
set_option linter.unusedSimpArgs false
/-! ### A range over an iterator that keeps its state in a variable of its own (block Bn) -/
/-- What is said holds on when block Bn alone is written. -/
def AbidesBox {β : Type} (Bn : Nat) (J : β → World → Prop) : Prop :=
  ∀ s W W' row, J s W → W.grownBy W' row → (∀ r, row = some r → r = Bn) → J s W'
/-- .. or blocks from B on that hold no cells. -/
def OwnBox {β : Type} (B Bn : Nat) (I : β → World → Prop) : Prop :=
  ∀ s W W' row, I s W → W.grownBy W' row → (∀ r, row = some r → r = Bn ∨ (B ≤ r ∧ ∃ o : Obj, W.heap[r]? = some o ∧ o.isCells = false)) → I s W'
theorem OwnBox.put {β : Type} {B Bn : Nat} {I : β → World → Prop} (h : OwnBox B Bn I) {s : β} {W : World} {l : Nat} {o : Obj} (o' : Obj) (hs : I s W) (hB : B ≤ l) (hl : W.heap[l]? = some o) (ho : o.isCells = false) : I s (W.putObj l o') :=
  h s W _ (some l) hs (grownBy_putObj' W l o') (fun r e => by cases e; exact .inr ⟨hB, o, hl, ho⟩)
theorem OwnBox.new {β : Type} {B Bn : Nat} {I : β → World → Prop} (h : OwnBox B Bn I) {s : β} {W : World} (o : Obj) (hs : I s W) : I s (W.alloc o) :=
  h s W _ none hs (World.grownBy_alloc W o none) (fun r e => by cases e)
/-- The iterator's word, where it writes its own variable. -/
def SeqBox {α : Type} (F : Fence) (n : Nat) (P : Program) (g : Nat) (lb : Array Value) (encs : α → Array Value) (Kp : World → World → Prop) (S Sp : List α → Prop) (Bn : Nat) (w : World) : Prop :=
  ∀ (l : Nat) (J Jx : List α → World → Prop) (W : World), Below w.heap.size w W → AbidesBox Bn J → AbidesBox Bn Jx →
    (∀ pre x W1, J pre W1 → Sp (pre ++ [x]) → YieldAt F (n - 1) P l (encs x) W1 fun e W' =>
      (e = .returned (.bool true) ∧ J (pre ++ [x]) W' ∧ Kp W1 W') ∨ (e = .returned (.bool false) ∧ Jx (pre ++ [x]) W')) →
    J [] W →
    CallsIn F n P g (#[.func (.yield l) #[] #[]] ++ lb) W fun e W' => (∃ v, e = .returned v) ∧ ((∃ xs, S xs ∧ J xs W') ∨ (∃ pre, Sp pre ∧ Jx pre W'))
variable {F : Fence} {n : Nat} {P : Program}
theorem wpIn_range_box {α : Type} {g : Operand} {ps : Array Tmp} {assign body : Code} {Q : Exit → Act → World → Prop} {a : Act} {w : World}
    (hro : F.round = none) (h1 : 1 ≤ n) {gf : Nat} {lb : Array Value} (hg : a.eval g = .func (.func gf) #[] lb) (hFg : F.fn gf) (eg : ∀ args w, (callFunc gf args).run P w = .ok (.enter gf args) w)
    {encs : α → Array Value} {Kp : World → World → Prop} {S Sp : List α → Prop} {Bn : Nat} (hBn : Bn < w.heap.size) (hseq : SeqBox F (n - 1) P gf lb encs Kp S Sp Bn w)
    (hKt : ∀ {A B C : World}, Kp A B → Kp B C → Kp A C) (hKb : ∀ (W : World) (l : Nat) (o o' : Obj), w.heap.size ≤ l → W.heap[l]? = some o → o.isCells = false → o.isWalk = false → Kp W (W.putObj l o')) (hps : ∀ x, (encs x).size = ps.size)
    (I : List α → World → Prop) (Ix : Code → List α → World → Prop) (hI : OwnBox w.heap.size Bn I) (hIx : ∀ c, OwnBox w.heap.size Bn (Ix c)) (h0 : I [] w) (a₁ : α → Act)
    (hassign : ∀ (l : Nat) (x : α) (W : World) (K : Act → World → Prop), K (a₁ x) W →
      assign.wpIn (F.inRound l) (n - 1 - 1) P (Exit.then K (fun _ _ _ => False)) { tmps := (ps.zip (encs x)).foldl (fun t (p, v) => t.setIfInBounds p v) a.tmps, defers := [] } W)
    (hbody : ∀ (l : Nat) (pre : List α) (x : α) (W : World), I pre W → Sp (pre ++ [x]) → body.wpIn (F.inRound l) (n - 1 - 1) P (ownPostG w.heap.size Kp I Ix (pre ++ [x]) W) (a₁ x) W)
    (hdone : ∀ (D : Nat) (xs : List α) (W : World), w.heap.size ≤ D → S xs → I xs W → W.heap[D]? = some (.deferred (some [])) → Q .normal { a with defers := { target := .collected D, args := #[] } :: a.defers } W)
    (hstop : ∀ (D : Nat) (c : Code) (pre : List α) (W : World), w.heap.size ≤ D → Sp pre → Ix c pre W → W.heap[D]? = some (.deferred (some [])) → c.wpIn F n P Q { a with defers := { target := .collected D, args := #[] } :: a.defers } W) :
    (Code.rangeFunc g ps assign body).wpIn F n P Q a w := by
  refine wpIn_rangeFunc ?_
  intro fn hfn
  rw [hro]
  obtain ⟨rec, hrec⟩ : ∃ rec : LoopState → Option Code → Loop, rec = fun st pe => { state := st, pending := pe, fn, tmps := a.tmps, params := ps, assign, body, defers := w.heap.size } := ⟨_, rfl⟩
  obtain ⟨W1, hW1⟩ : ∃ W1, (w.alloc (.deferred (some []))).alloc (.loop (rec .ready none)) = W1 := ⟨_, rfl⟩
  have hL1 : W1.heap[w.heap.size + 1]? = some (.loop (rec .ready none)) := by
    rw [← hW1]; have := World.alloc_heap_new (w.alloc (.deferred (some []))) (.loop (rec .ready none)); rwa [World.size_alloc] at this
  have hK1 : W1.heap[w.heap.size]? = some (.deferred (some [])) := by
    rw [← hW1]; exact (Below.heap_alloc _ _ _ (by simp)).trans (World.alloc_heap_new w _)
  have hI1 : I [] W1 := by rw [← hW1]; exact hI.new _ (hI.new _ h0)
  have hb1 : Below w.heap.size w W1 := by
    rw [← hW1]; exact ((Below.refl _ w).alloc (Nat.le_refl _) _).alloc (by simp) _
  have stay : ∀ {A B : World} {row : Option Nat} {k : Nat} {o : Obj}, w.heap.size ≤ k → A.grownBy B row → (∀ r, row = some r → r = Bn) → A.heap[k]? = some o → B.heap[k]? = some o := by
    intro A B row k o hk hg' hr hA
    exact (hg'.block k (Array.getElem?_eq_some_iff.1 hA).1 (fun e => by have := hr k e.symm; omega)).trans hA
  refine ⟨w.heap.size + 1, [{ target := .collected w.heap.size, args := #[] }], W1, { target := .fn (.func gf) lb, args := #[.func (.yield (w.heap.size + 1)) #[] #[]] }, W1, gf,
    #[.func (.yield (w.heap.size + 1)) #[] #[]] ++ lb, W1, ?_, ?_, ?_, ?_, fun _ => h1, ?_⟩
  · rw [← hW1, hrec]; exact run_enterLoop_outer _ _ _ _ _
  · simp only [resolve, hg]
    simp [go_sem]
  · intro f' hf'; simp [Target.leads] at hf'; subst hf'; exact hFg
  · simp [invoke, go_sem, eg]
  · refine (hseq (w.heap.size + 1)
      (fun pre W => I pre W ∧ W.heap[w.heap.size + 1]? = some (.loop (rec .ready none)) ∧ W.heap[w.heap.size]? = some (.deferred (some [])))
      (fun pre W => ∃ c, Ix c pre W ∧ W.heap[w.heap.size + 1]? = some (.loop (rec .done (some c))) ∧ W.heap[w.heap.size]? = some (.deferred (some [])))
      W1 hb1
      (fun s A B row hs hg' hr => ⟨hI s A B row hs.1 hg' (fun r e => .inl (hr r e)), stay (by omega) hg' hr hs.2.1, stay (Nat.le_refl _) hg' hr hs.2.2⟩)
      (fun s A B row hs hg' hr => by
        obtain ⟨c, hc, hl, hk⟩ := hs
        exact ⟨c, hIx c s A B row hc hg' (fun r e => .inl (hr r e)), stay (by omega) hg' hr hl, stay (Nat.le_refl _) hg' hr hk⟩)
      ?_ ⟨hI1, hL1, hK1⟩).mono ?_
    · rintro pre x W ⟨hi, hl, hk⟩ hlen
      have hlt : w.heap.size + 1 < W.heap.size := (Array.getElem?_eq_some_iff.1 hl).1
      have hy := run_yield (P := P) (args := encs x) hl (by rw [hrec]; exact hps x)
      rw [hrec] at hy
      refine ⟨fn, _, assign, body, hy, roundIn_of_wpIn hfn (hassign _ x W _ ⟨_, run_beginRound hl (by rw [hrec]), ?_⟩)⟩
      have hl2 : (W.putObj (w.heap.size + 1) (.loop { rec .ready none with state := .busy })).heap[w.heap.size + 1]? = some (.loop { rec .ready none with state := .busy }) := World.putObj_heap_same hlt
      have hk2 : (W.putObj (w.heap.size + 1) (.loop { rec .ready none with state := .busy })).heap[w.heap.size]? = some (.deferred (some [])) := (World.putObj_heap_other (by omega)).trans hk
      have hw2 : Kp W (W.putObj (w.heap.size + 1) (.loop { rec .ready none with state := .busy })) := hKb _ _ _ _ (by omega) hl rfl rfl
      refine wpIn_mono (hbody _ pre x _ (hI.put _ hi (by omega) hl rfl) hlen) ?_
      have fin : ∀ (jump : Option Code) (W3 : World), KeepsFrom w.heap.size (W.putObj (w.heap.size + 1) (.loop { rec .ready none with state := .busy })) W3 →
          (Instr.endRound (w.heap.size + 1) jump).run P W3 = .ok (.bool jump.isNone) (W3.putObj (w.heap.size + 1) (.loop (rec (if jump.isNone then .ready else .done) jump))) ∧
          W3.heap[w.heap.size + 1]? = some (.loop { rec .ready none with state := .busy }) ∧
          (W3.putObj (w.heap.size + 1) (.loop (rec (if jump.isNone then .ready else .done) jump))).heap[w.heap.size + 1]? = some (.loop (rec (if jump.isNone then .ready else .done) jump)) ∧
          (W3.putObj (w.heap.size + 1) (.loop (rec (if jump.isNone then .ready else .done) jump))).heap[w.heap.size]? = some (.deferred (some [])) := fun jump W3 hk3 => by
        have hl3 := hk3.same _ _ (by omega) hl2 rfl
        have := run_endRound (P := P) jump hl3
        rw [hrec] at this ⊢
        exact ⟨this, by rw [hrec] at hl3; exact hl3, World.putObj_heap_same (Array.getElem?_eq_some_iff.1 hl3).1, (World.putObj_heap_other (by omega)).trans (hk3.same _ _ (Nat.le_refl _) hk2 rfl)⟩
      rintro e a3 W3 hp
      cases e with
      | normal =>
        obtain ⟨hk3, hkp3, hi3⟩ := hp
        obtain ⟨hr, hl3, hl4, hk4⟩ := fin none W3 hk3
        exact ⟨_, _, hr, .inl ⟨rfl, ⟨hI.put _ hi3 (by omega) hl3 rfl, hl4, hk4⟩, hKt (hKt hw2 hkp3) (hKb _ _ _ _ (by omega) hl3 rfl rfl)⟩⟩
      | ret =>
        obtain ⟨hk3, hi3⟩ := hp
        obtain ⟨hr, hl3, hl4, hk4⟩ := fin (some .ret) W3 hk3
        exact ⟨_, _, hr, .inr ⟨rfl, .ret, (hIx _).put _ hi3 (by omega) hl3 rfl, hl4, hk4⟩⟩
      | exit id =>
        obtain ⟨hk3, hi3⟩ := hp
        obtain ⟨hr, hl3, hl4, hk4⟩ := fin (some (.exit id)) W3 hk3
        exact ⟨_, _, hr, .inr ⟨rfl, .exit id, (hIx _).put _ hi3 (by omega) hl3 rfl, hl4, hk4⟩⟩
      | goto t =>
        obtain ⟨hk3, hi3⟩ := hp
        obtain ⟨hr, hl3, hl4, hk4⟩ := fin (some (.goto t)) W3 hk3
        exact ⟨_, _, hr, .inr ⟨rfl, .goto t, (hIx _).put _ hi3 (by omega) hl3 rfl, hl4, hk4⟩⟩
      | panic ch => exact hp.elim
      | outgrown => exact hp.elim
    · rintro e W2 ⟨⟨v, rfl⟩, (⟨xs, hS, hi, hl, hk⟩ | ⟨pre, hSp, c, hi, hl, hk⟩)⟩
      · exact ⟨none, _, by have := run_endLoop (P := P) hl (by rw [hrec]; simp); rw [hrec] at this; exact this, hdone _ xs _ (Nat.le_refl _) hS (hI.put _ hi (by omega) hl rfl) ((World.putObj_heap_other (by omega)).trans hk)⟩
      · exact ⟨some c, _, by have := run_endLoop (P := P) hl (by rw [hrec]; simp); rw [hrec] at this; exact this, hstop _ c pre _ (Nat.le_refl _) hSp ((hIx c).put _ hi (by omega) hl rfl) ((World.putObj_heap_other (by omega)).trans hk)⟩
end Go.Proofs.YtfjnkbkcoakooaaDoor.PB
end

section
namespace Go.Proofs.YtfjnkbkcoakooaaDoor.PB
open Go.RowKit Go.Shelf Go.Proofs.YtfjnkbkcoakooaaDoorW.PrintWords
set_option linter.unusedVariables false
set_option linter.unusedSimpArgs false
attribute [local go_sem] Oper.semAt_some
theorem nsz9 : (Tryd.prog.info? 9).map (·.size) = some 1 := by kernel_rfl
/-- A text's first line, what follows, whether it has an end. -/
def Lcut (s : ByteArray) : ByteArray × ByteArray × Bool := (⟨(Lib.cut s.data.toList [10]).1.toArray⟩, ⟨(Lib.cut s.data.toList [10]).2.1.toArray⟩, (Lib.cut s.data.toList [10]).2.2)
theorem Lcut_size (s : ByteArray) (h : 0 < s.size) : (Lcut s).2.1.size < s.size := by
  have hs : s.data.toList.length = s.size := rfl
  unfold Lcut Lib.cut
  split
  · show (s.data.toList.drop _).length < _
    rw [List.length_drop]
    simp only [List.length_cons, List.length_nil]
    omega
  · exact h
/-- A text's lines. -/
def Lrows : Nat → ByteArray → List (ByteArray × Bool)
  | 0, _ => []
  | k + 1, s => if s.size = 0 then [] else ((Lcut s).1, (Lcut s).2.2) :: Lrows k (Lcut s).2.1
theorem lcut_calls (s : ByteArray) (w : World) (hs : s.size ≤ 400000) (hlt : LF w) :
    Calls Tryd.prog 42 #[.string s, .string ⟨#[10]⟩] w fun e w' => e = .returned (.tuple #[.string (Lcut s).1, .string (Lcut s).2.1, .bool (Lcut s).2.2]) ∧ ∃ n, w' = w.drewN n := by
  obtain ⟨m, hm⟩ := hlt.m
  exact Tryd.strings_Cut s ⟨#[10]⟩ m w (by omega) hm
theorem Lcut_sum (s : ByteArray) (h : 0 < s.size) : (Lcut s).1.size + 1 + (Lcut s).2.1.size ≤ s.size + 1 ∧ ((Lcut s).2.1.size ≠ 0 → (Lcut s).1.size + 1 + (Lcut s).2.1.size ≤ s.size) := by
  have hs : s.data.toList.length = s.size := rfl
  unfold Lcut Lib.cut
  split
  · generalize (Lib.index s.data.toList [10]).toNat = i
    show (s.data.toList.take i).length + 1 + (s.data.toList.drop (i + 1)).length ≤ s.size + 1 ∧ ((s.data.toList.drop (i + 1)).length ≠ 0 → (s.data.toList.take i).length + 1 + (s.data.toList.drop (i + 1)).length ≤ s.size)
    rw [List.length_take, List.length_drop, hs]
    omega
  · exact ⟨Nat.le_refl _, fun hne => absurd rfl hne⟩
theorem Lrows_sum : ∀ (k : Nat) (s : ByteArray), ((Lrows k s).map fun x => x.1.size + 1).sum ≤ s.size + 1 := by
  intro k
  induction k with
  | zero => intro s; simp [Lrows]
  | succ k ih =>
    intro s
    rw [Lrows]
    split
    · simp
    · rename_i hne
      obtain ⟨h1, h2⟩ := Lcut_sum s (by omega)
      have h3 := ih (Lcut s).2.1
      rw [List.map_cons, List.sum_cons]
      by_cases hz : (Lcut s).2.1.size = 0
      · have h4 : Lrows k (Lcut s).2.1 = [] := by cases k with | zero => rfl | succ m => rw [Lrows, if_pos hz]
        rw [h4]
        simp only [List.map_nil, List.sum_nil]
        omega
      · have := h2 hz
        simp only
        omega
def boxLeft (Bn : Nat) (W : World) : Nat := match W.cell? ⟨Bn, 0, none⟩ with | some (.string s) => s.size | _ => 0
theorem boxLeft_eq {Bn : Nat} {W : World} {t : ByteArray} (h : W.heap[Bn]? = some (.cells #[.string t] 9 (0, 0))) : boxLeft Bn W = t.size := by
  unfold boxLeft
  rw [(blk_cell h 0).trans (show _ = some (Value.string t) from rfl)]
/-- What a round keeps. -/
def KpBox (b0 Bn : Nat) (W W' : World) : Prop := Below b0 W W' ∧ W'.heap[Bn]? = W.heap[Bn]?
theorem below_set_box {b0 Bn : Nat} {W : World} (h : b0 ≤ Bn) (v : Value) : Below b0 W (W.setCell ⟨Bn, 0, none⟩ v) := (Below.refl b0 W).setCell (p := ⟨Bn, 0, none⟩) h v
theorem grown_drewN (W : World) (n : Nat) : W.grownBy (W.drewN n) none := ⟨rfl, rfl, rfl, Nat.le_refl _, fun _ _ _ => rfl⟩
theorem grown_set (W : World) (Bn j : Nat) (v : Value) : W.grownBy (W.setCell ⟨Bn, j, none⟩ v) (some Bn) := ⟨rfl, rfl, rfl, by simp [World.setCell], fun k _ hk => Below.heap_setCell W ⟨Bn, j, none⟩ v k (fun e => hk (by rw [e]))⟩
set_option maxRecDepth 100000 in
set_option maxHeartbeats 1000000 in
theorem lines1_in (n : Nat) (hn : 1 ≤ n) (l Bn b0 : Nat) (s : ByteArray) (hs : s.size ≤ 400000) (J Jx : List (ByteArray × Bool) → World → Prop) (hJ : AbidesBox Bn J)
    (hY : ∀ pre x W, J pre W → pre ++ [x] <+: Lrows s.size s → YieldAt Fence.wide (n - 1) Tryd.prog l #[.string x.1, .bool x.2] W fun e W' =>
      (e = .returned (.bool true) ∧ J (pre ++ [x]) W' ∧ KpBox b0 Bn W W') ∨ (e = .returned (.bool false) ∧ Jx (pre ++ [x]) W'))
    (W : World) (hB : b0 ≤ Bn) (hBn : W.heap[Bn]? = some (.cells #[.string s] 9 (0, 0))) (hlt : LT b0 W) (h0 : J [] W) :
    CallsIn Fence.wide n Tryd.prog 41 #[.func (.yield l) #[] #[], .pointer (some ⟨Bn, 0, none⟩)] W fun e W' => (∃ v, e = .returned v) ∧
      ((∃ ys, ys = Lrows s.size s ∧ J ys W') ∨ (∃ pre, pre <+: Lrows s.size s ∧ Jx pre W')) := by
  refine callsIn_of_wp Tryd.func41 rfl trivial ?_ rfl
  simp only [Tryd.ntmps41, List.size_toArray, List.length_cons, List.length_nil, Nat.reduceAdd, Nat.reduceSub, Array.replicate_succ, Array.replicate_zero, List.push_toArray, List.append_toArray, List.nil_append, List.cons_append]
  have HBN := Aside0.mk hBn
  have HLT := Aside0.mk hlt
  have HS := Aside0.mk hs
  have H0 := Aside0.mk h0
  have HY := Aside0.mk hY
  have HJ := Aside0.mk hJ
  clear hBn hlt hs h0 hY hJ
  gi_wp2
  gi_loopw [3] (fun v wr => ∃ (k : Nat) (pre : List (ByteArray × Bool)) (t : ByteArray), Aside0 (t.size ≤ k) ∧ Aside0 (t.size ≤ 400000) ∧ Aside0 (Lrows s.size s = pre ++ Lrows k t) ∧ Aside0 (wr.heap[Bn]? = some (.cells #[.string t] 9 (0, 0))) ∧ Aside0 (LT b0 wr) ∧ Aside0 (J pre wr))
    (fun _ wr => boxLeft Bn wr)
  case atStart => exact ⟨s.size, [], s, ⟨Nat.le_refl _⟩, HS, ⟨rfl⟩, HBN, HLT, H0⟩
  case round =>
    clear HBN HLT H0
    obtain ⟨k, pre, t, HK, HT, HQ, HBN, HLT, HJJ⟩ := hrel
    have hc := (blk_cell HBN.out 0).trans (show _ = some (Value.string t) from rfl)
    have hf := blk_frozen HBN.out 0
    by_cases hz : t.size = 0
    · have hnil : t.toList = [] := by rw [Lib.toList_data]; exact List.eq_nil_of_length_eq_zero hz
      have hz2 := Aside0.mk (show Lrows k t = [] by cases k with | zero => rfl | succ m => rw [Lrows, if_pos hz])
      clear hz
      gi_wp2
      go_end0
      exact ⟨⟨_, rfl⟩, .inl ⟨pre, by rw [HQ.out, hz2.out, List.append_nil], HJJ.out⟩⟩
    · have hne : t.toList.isEmpty = false := by
        rw [Lib.toList_data]
        cases h : t.data.toList with
        | nil => exact absurd (show t.size = 0 from congrArg List.length h) hz
        | cons a r => rfl
      have hne' : ¬ t.toList = [] := by intro h; rw [h] at hne; cases hne
      obtain ⟨m, rfl⟩ : ∃ m, k = m + 1 := ⟨k - 1, by have := HK.out; omega⟩
      have hrow := Aside0.mk (show Lrows (m + 1) t = ((Lcut t).1, (Lcut t).2.2) :: Lrows m (Lcut t).2.1 by rw [Lrows, if_neg hz])
      have hsz := Aside0.mk (Lcut_size t (by omega))
      have hlen := Aside0.mk (show pre ++ [((Lcut t).1, (Lcut t).2.2)] <+: Lrows s.size s from ⟨Lrows m (Lcut t).2.1, by rw [HQ.out, hrow.out]; simp⟩)
      clear hz
      obtain ⟨q, hq⟩ : ∃ q, q = Lcut t := ⟨_, rfl⟩
      rw [← hq] at hlen
      have HQQ := Aside0.mk hq
      clear hq
      gi_wp2_with ((refine ⟨trivial, ?_⟩; gi_at_call 42; refine (callsIn_wide.2 (lcut_calls t wr HT.out HLT.out.here)).mono ?_; rw [← HQQ.out]; rintro e w2 ⟨rfl, nd, rfl⟩; obtain ⟨fn, tmps, assign, body, hy, hR⟩ := HY.out pre (q.1, q.2.2) (wr.drewN nd) (HJ.out _ _ _ none HJJ.out (grown_drewN wr nd) (fun r e => by cases e)) hlen.out; have HRR := Aside0.mk hR; clear hR))
      refine HRR.out.mono ?_
      rintro e W3 (⟨rfl, hJ3, hk3, hb3⟩ | ⟨rfl, hJx3⟩)
      · have HB3 := Aside0.mk (show W3.heap[Bn]? = some (.cells #[.string t] 9 (0, 0)) from hb3.trans HBN.out)
        have HLT3 := Aside0.mk ((HLT.out.drewN nd).on hk3)
        have hc3 := (blk_cell HB3.out 0).trans (show _ = some (Value.string t) from rfl)
        have hf3 := blk_frozen HB3.out 0
        have HJ3 := Aside0.mk hJ3
        clear hJ3 hk3 hb3
        gi_wp2
        go_roundw
        case rel => exact ⟨m, pre ++ [(q.1, q.2.2)], q.2.1, ⟨by have h1 := hsz.out; have h2 := HK.out; rw [← HQQ.out] at h1; omega⟩, ⟨by have h1 := hsz.out; have h2 := HT.out; rw [← HQQ.out] at h1; omega⟩, ⟨by rw [HQ.out, hrow.out, HQQ.out]; simp⟩, ⟨blk_put HB3.out 0 _ rfl⟩, ⟨HLT3.out.on (below_set_box hB _)⟩, ⟨HJ.out _ _ _ (some Bn) HJ3.out (grown_set W3 Bn 0 _) (fun r e => by cases e; rfl)⟩⟩
        case measure => rw [boxLeft_eq (blk_put HB3.out 0 _ rfl), boxLeft_eq HBN.out]; have h1 := hsz.out; rw [← HQQ.out] at h1; exact h1
      · gi_wp2
        refine bodyPost_ret (results_none rfl _ _ _) rfl ?_
        exact ⟨⟨_, rfl⟩, .inr ⟨pre ++ [(q.1, q.2.2)], ⟨Lrows m q.2.1, by rw [HQ.out, hrow.out, HQQ.out]; simp⟩, hJx3⟩⟩
end Go.Proofs.YtfjnkbkcoakooaaDoor.PB
end
