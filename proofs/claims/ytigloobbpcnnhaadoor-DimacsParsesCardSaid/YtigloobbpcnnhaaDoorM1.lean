import Derived.Test.YtigloobbpcnnhaaDoorPB0
import Derived.Lib.FieldsP
import Derived.Lib.TrimUEq
import Derived.Lib.SpaceUEq
import Derived.Lib.TrimU
import Derived.Lib.AtoiAll
import Derived.Lib.SlTrimSet
import Derived.Test.YtigloobbpcnnhaaDoorShelf
import Derived.Shelf.Strings.SlTrimAscii
import Derived.Lib.AppendIntMem
import Derived.Lib.ItoaLen
import Derived.Lib.LaidTab
import Derived.Outline
section
namespace Go.Proofs.YtigloobbpcnnhaaDoor.PB
open Go.RowKit Go.Proofs.YtigloobbpcnnhaaDoorW.PrintWords Go.Proofs.YtigloobbpcnnhaaDoorW.PrintLast Go.Proofs.YtigloobbpcnnhaaDoorW.PrintMore
set_option linter.unusedVariables false
set_option linter.unusedSimpArgs false

/-- Blocks of cells of other types than those of T are as they were. -/
structure KT (T : List Nat) (w w' : World) : Prop where
  size : w.heap.size ≤ w'.heap.size
  blk : ∀ (i : Nat) (cs : Array Value) (t : TypeId) (fr : Nat × Nat), w.heap[i]? = some (.cells cs t fr) → t ∉ T → w'.heap[i]? = some (.cells cs t fr)
theorem KT.refl (T : List Nat) (w : World) : KT T w w := ⟨Nat.le_refl _, fun _ _ _ _ h _ => h⟩
theorem KT.trans {T : List Nat} {a b c : World} (h : KT T a b) (k : KT T b c) : KT T a c := ⟨Nat.le_trans h.size k.size, fun i cs t fr hi ht => k.blk i cs t fr (h.blk i cs t fr hi ht) ht⟩
theorem KT.below {T : List Nat} {a b c : World} (h : KT T a b) (k : Below b.heap.size b c) : KT T a c := h.trans ⟨k.size, fun i cs t fr hi _ => (k.block i (Array.getElem?_eq_some_iff.1 hi).1).trans hi⟩
theorem KT.alloc {T : List Nat} {a b : World} (h : KT T a b) (o : Obj) : KT T a (b.alloc o) := h.below (below_alloc (Below.refl _ _) o)
theorem KT.drew {T : List Nat} {a b : World} (h : KT T a b) : KT T a b.drew := ⟨h.size, h.blk⟩
theorem KT.drewN {T : List Nat} {a b : World} (h : KT T a b) (n : Nat) : KT T a (b.drewN n) := ⟨h.size, h.blk⟩
theorem KT.set {T : List Nat} {a b : World} (h : KT T a b) {g j t : Nat} {cs : Array Value} (hb : b.heap[g]? = some (.cells cs t (0, 0))) (ht : t ∈ T) (u : Value) : KT T a (b.setCell ⟨g, j, none⟩ u) :=
  h.trans ⟨by simp [World.setCell], fun i cs' t' fr hi ht' => by
    by_cases e : i = g
    · subst e
      rw [hb] at hi
      injection hi with hi
      injection hi with _ hi _
      subst hi
      exact absurd ht ht'
    · exact (Below.heap_setCell b ⟨g, j, none⟩ u i e).trans hi⟩
theorem KT.grown {T : List Nat} {a b c : World} (h : KT T a b) {row : Option Nat} (hg : b.grownBy c row) (hr : ∀ k, row = some k → ∃ cells t, b.heap[k]? = some (.cells cells t (0, 0)) ∧ t ∈ T) : KT T a c :=
  h.trans ⟨hg.size, fun i cs t fr hi ht => by
    refine (hg.block i (Array.getElem?_eq_some_iff.1 hi).1 ?_).trans hi
    intro e
    obtain ⟨cells, t', h1, h2⟩ := hr i e.symm
    rw [hi] at h1
    injection h1 with h1
    injection h1 with _ h1 _
    subst h1
    exact ht h2⟩
theorem R_row {α : Type} {d : Kd α} {e : Nat} {w : World} {base : Nat} {ok : Nat → Prop} {v : Value} {xs : List α} (h : d.R e w base ok v xs) {T : List Nat} (ht : e ∈ T) : ∀ k, v.ownBlock = some k → ∃ cells t, w.heap[k]? = some (.cells cells t (0, 0)) ∧ t ∈ T := by
  intro k hk
  obtain ⟨_, inner, ho, _⟩ := h
  obtain ⟨cells, hc⟩ := own_typed ho k hk
  exact ⟨cells, e, hc, ht⟩

/-- All is as it was but the cells of block g. -/
structure SameBut (g : Nat) (w w' : World) : Prop where
  os : w'.os = w.os
  tape : w'.tape = w.tape
  output : w'.output = w.output
  size : w'.heap.size = w.heap.size
  blk : ∀ k, k ≠ g → w'.heap[k]? = w.heap[k]?
theorem SameBut.refl (g : Nat) (w : World) : SameBut g w w := ⟨rfl, rfl, rfl, rfl, fun _ _ => rfl⟩
theorem SameBut.trans {g : Nat} {a b c : World} (h : SameBut g a b) (k : SameBut g b c) : SameBut g a c := ⟨k.os.trans h.os, k.tape.trans h.tape, k.output.trans h.output, k.size.trans h.size, fun i hi => (k.blk i hi).trans (h.blk i hi)⟩
theorem SameBut.below {g B : Nat} {w0 w w' : World} (h : SameBut g w w') (hb : Below B w0 w) (hg : B ≤ g) : Below B w0 w' :=
  hb.trans ⟨h.os, h.tape, h.output, Nat.le_of_eq h.size.symm, fun k hk => h.blk k (by omega)⟩
theorem SameBut.kt {T : List Nat} {g t : Nat} {a w w' : World} {cs : Array Value} (h : SameBut g w w') (hk : KT T a w) (hb : w.heap[g]? = some (.cells cs t (0, 0))) (ht : t ∈ T) : KT T a w' :=
  hk.trans ⟨Nat.le_of_eq h.size.symm, fun i cs' t' fr hi ht' => by
    by_cases e : i = g
    · subst e
      rw [hb] at hi
      injection hi with hi
      injection hi with _ hi _
      subst hi
      exact absurd ht ht'
    · exact (h.blk i e).trans hi⟩
theorem SameBut.other {g g' : Nat} {w w' : World} {o : Obj} (h : SameBut g w w') (hb : w.heap[g']? = some o) (hne : g' ≠ g) : w'.heap[g']? = some o := (h.blk g' hne).trans hb
theorem SameBut.grown {g : Nat} {w w' : World} (h : SameBut g w w') : w.grownBy w' (some g) := ⟨h.os, h.tape, h.output, Nat.le_of_eq h.size.symm, fun k _ hk => h.blk k (fun e => hk (by rw [e]))⟩
theorem SameBut.cell {g : Nat} {w w' : World} (h : SameBut g w w') {p : Addr} (hp : p.block ≠ g) {v : Value} (hc : w.cell? p = some v) : w'.cell? p = some v := (World.cell?_of_block (h.blk _ hp)).trans hc
theorem SameBut.R {α : Type} {d : Kd α} {e g : Nat} {w w' : World} {base : Nat} {ok : Nat → Prop} {v : Value} {xs : List α} (h : SameBut g w w') (hr : d.R e w base ok v xs) (hok : ∀ k, ok k → k ≠ g) : d.R e w' base ok v xs := Kd.R_step hr (fun k hk _ => h.blk k (hok k hk))
theorem SameBut.Rt {α : Type} {d : Kd α} {e g t : Nat} {w w' : World} {base : Nat} {ok : Nat → Prop} {v : Value} {xs : List α} {cs : Array Value} (h : SameBut g w w') (hr : d.R e w base ok v xs) (hb : w.heap[g]? = some (.cells cs t (0, 0))) (ht : ∀ q, q ∈ e :: d.E → q ≠ t) : d.R e w' base ok v xs :=
  Kd.R_mono (h.R (Kd.R_types hr hb ht) (fun _ hk => hk.2)) (fun _ hk => hk.1)
theorem SameBut.S {α : Type} {d : Kd α} {e g : Nat} {w w' : World} {base : Nat} {ok : Nat → Prop} {v : Value} {xs : List α} (h : SameBut g w w') (hr : Kd.S d e w base ok v xs) (hok : ∀ k, ok k → k ≠ g) : Kd.S d e w' base ok v xs := Kd.S_step hr (fun k hk _ => h.blk k (hok k hk))
theorem SameBut.St {α : Type} {d : Kd α} {e g t : Nat} {w w' : World} {base : Nat} {ok : Nat → Prop} {v : Value} {xs : List α} {cs : Array Value} (h : SameBut g w w') (hr : Kd.S d e w base ok v xs) (hb : w.heap[g]? = some (.cells cs t (0, 0))) (ht : ∀ q, q ∈ e :: d.E → q ≠ t) : Kd.S d e w' base ok v xs :=
  Kd.S_mono (h.S (Kd.S_types hr hb ht) (fun _ hk => hk.2)) (fun _ hk => hk.1)

/-- What a block holds when seg has been written from place o on. -/
def setSeg (cur : Array Value) (o : Nat) : List Value → Array Value
  | [] => cur
  | v :: r => setSeg (cur.setIfInBounds o v) (o + 1) r
theorem setCells_block (g : Nat) {e : TypeId} : ∀ (seg : List Value) (o : Nat) (w : World) (cur : Array Value), w.heap[g]? = some (.cells cur e (0, 0)) → (w.setCells g o seg).heap[g]? = some (.cells (setSeg cur o seg) e (0, 0)) ∧ SameBut g w (w.setCells g o seg) := by
  intro seg
  induction seg with
  | nil => intro o w cur h; exact ⟨h, rfl, rfl, rfl, rfl, fun _ _ => rfl⟩
  | cons v r ih =>
    intro o w cur h
    have h1 := blk_set h o v
    obtain ⟨h2, h3⟩ := ih (o + 1) (w.setCell ⟨g, o, none⟩ v) _ h1
    exact ⟨h2, h3.os, h3.tape, h3.output, by rw [World.setCells, h3.size]; simp [World.setCell], fun k hk => (h3.blk k hk).trans (Below.heap_setCell w ⟨g, o, none⟩ v k hk)⟩
section
variable {P : Program} {ops : Array Oper} {rest : List Oper} {o : Oper} {a : Act} {Q : Exit → Act → World → Prop}
/-- A store into a block that is known whole: the world behind it is told by name. -/
theorem store_block {W : World} (t : TypeId) (p : Tmp) (v : Operand) (ho : o.op = .store t (.tmp p) v) (hgd : o.guard = none) (hN : o.dst = none) {g off : Nat} {e : TypeId} {cur : Array Value} (u : Value) (seg : List Value) (cur' : Array Value)
    (haddr : a.eval (.tmp p) = .pointer (some ⟨g, off, none⟩)) (hv : a.eval v = u) (hh : W.heap[g]? = some (.cells cur e (0, 0))) (hu : u.cells.toList = seg) (ht : (P.info? t).map (·.size) = some seg.length) (hfit : off + seg.length ≤ cur.size) (h1 : ∀ q ∈ seg, q.oneCell' = true) (hcur : setSeg cur off seg = cur')
    (h : ∀ w1, w1.heap[g]? = some (.cells cur' e (0, 0)) → SameBut g W w1 → wpList P ops Q rest a w1) : wpList P ops Q (o :: rest) a W := by
  refine wpList_plain hgd fun K hK => ?_
  have hrun := run_store_run (P := P) (o := off) t u seg hh hu ht hfit h1
  obtain ⟨h2, h3⟩ := setCells_block g seg off W cur hh
  unfold Oper.wp execOp
  simp only [ho, haddr, hv, Sem.run_bind, Sem.run_pure, Result.andThen_ok, hrun]
  show K (a.put o.dst undef) _
  rw [hN]
  exact hK a _ (h _ (by rw [h2, hcur]) h3)
theorem store_four {W : World} (t : TypeId) (p : Tmp) (v : Operand) (ho : o.op = .store t (.tmp p) v) (hgd : o.guard = none) (hN : o.dst = none) {g off : Nat} {e : TypeId} {cur : Array Value} (v0 v1 v2 v3 : Value) (cur' : Array Value)
    (haddr : a.eval (.tmp p) = .pointer (some ⟨g, off, none⟩)) (hv : a.eval v = .agg #[v0, v1, v2, v3]) (hh : W.heap[g]? = some (.cells cur e (0, 0))) (ht : (P.info? t).map (·.size) = some 4) (hfit : off + 4 ≤ cur.size)
    (h0 : v0.oneCell' = true) (h1 : v1.oneCell' = true) (h2 : v2.oneCell' = true) (h3 : v3.oneCell' = true) (hcur : setSeg cur off [v0, v1, v2, v3] = cur')
    (h : ∀ w1, w1.heap[g]? = some (.cells cur' e (0, 0)) → SameBut g W w1 → wpList P ops Q rest a w1) : wpList P ops Q (o :: rest) a W :=
  store_block t p v ho hgd hN _ [v0, v1, v2, v3] cur' haddr hv hh rfl ht hfit (by
    intro q hq
    simp only [List.mem_cons, List.not_mem_nil, or_false] at hq
    rcases hq with rfl | rfl | rfl | rfl
    · exact h0
    · exact h1
    · exact h2
    · exact h3) hcur h
theorem store_one {W : World} (t : TypeId) (p : Tmp) (v : Operand) (ho : o.op = .store t (.tmp p) v) (hgd : o.guard = none) (hN : o.dst = none) {g off : Nat} {e : TypeId} {cur : Array Value} (u : Value) (cur' : Array Value)
    (haddr : a.eval (.tmp p) = .pointer (some ⟨g, off, none⟩)) (hv : a.eval v = u) (hh : W.heap[g]? = some (.cells cur e (0, 0))) (hu : u.cells.toList = [u]) (ht : (P.info? t).map (·.size) = some 1) (hfit : off + 1 ≤ cur.size)
    (h1 : u.oneCell' = true) (hcur : cur.setIfInBounds off u = cur')
    (h : ∀ w1, w1.heap[g]? = some (.cells cur' e (0, 0)) → SameBut g W w1 → wpList P ops Q rest a w1) : wpList P ops Q (o :: rest) a W :=
  store_block t p v ho hgd hN u [u] cur' haddr hv hh hu ht hfit (by
    intro q hq
    rw [List.mem_singleton.1 hq]
    exact h1) hcur h
end
end Go.Proofs.YtigloobbpcnnhaaDoor.PB
end

section
namespace Go.Proofs.YtigloobbpcnnhaaDoor.PB
set_option linter.unusedVariables false
set_option linter.unusedSimpArgs false
/-! ### A line's words: by runes as by bytes -/
def isBl (b : UInt8) : Bool := b == 32 || b == 9 || b == 13
def pBl (n : Nat) : Bool := n == 32 || n == 9 || n == 13
/-- The pieces between blanks; cur: what has come of the one that is open. -/
def dFields : List UInt8 → List UInt8 → List (List UInt8)
  | [], cur => if cur = [] then [] else [cur]
  | b :: r, cur => if isBl b then (if cur = [] then dFields r [] else cur :: dFields r []) else dFields r (cur ++ [b])
theorem dFields_skip : ∀ (k : Nat) (l cur : List UInt8), k ≤ l.length → (∀ j, j < k → isBl (l.getD j 0) = false) → dFields l cur = dFields (l.drop k) (cur ++ l.take k)
  | 0, l, cur, _, _ => by simp
  | k + 1, [], cur, h, _ => by simp at h
  | k + 1, b :: t, cur, h, hz => by
    have h0 : isBl b = false := by have := hz 0 (by omega); simpa using this
    rw [dFields, h0]
    simp only [Bool.false_eq_true, if_false]
    rw [dFields_skip k t (cur ++ [b]) (by simp at h; omega) (fun j hj => by have := hz (j + 1) (by omega); simpa using this)]
    simp
theorem pBl_byte (b : UInt8) : pBl b.toNat = isBl b := by
  have h : ∀ c : UInt8, (b.toNat == c.toNat) = (b == c) := by
    intro c
    rw [Bool.eq_iff_iff, beq_iff_eq, beq_iff_eq]
    exact UInt8.toNat_inj
  unfold pBl isBl
  rw [← h 32, ← h 9, ← h 13]
  rfl
theorem pBl_high (n : Nat) (h : 128 ≤ n) : pBl n = false := by
  unfold pBl
  have h1 : (n == 32) = false := by rw [beq_eq_false_iff_ne]; omega
  have h2 : (n == 9) = false := by rw [beq_eq_false_iff_ne]; omega
  have h3 : (n == 13) = false := by rw [beq_eq_false_iff_ne]; omega
  rw [h1, h2, h3]
  rfl
theorem isBl_high (b : UInt8) (h : 128 ≤ b.toNat) : isBl b = false := by rw [← pBl_byte]; exact pBl_high _ h
theorem decodeN_high (n b0 b1 b2 b3 : Nat) (h : 128 ≤ b0) : 128 ≤ (Lib.decodeN n b0 b1 b2 b3).1 := by
  unfold Lib.decodeN
  repeat' split
  all_goals (simp only; omega)
theorem decode_at (s : ByteArray) (pos : Nat) (h : pos < s.size) :
    ((s.data.toList.getD pos 0).toNat < 128 ∧ Utf8.decode s pos = ((s.data.toList.getD pos 0).toNat, 1)) ∨
    (128 ≤ (Utf8.decode s pos).1 ∧ 1 ≤ (Utf8.decode s pos).2 ∧ pos + (Utf8.decode s pos).2 ≤ s.size ∧ ∀ j, j < (Utf8.decode s pos).2 → 128 ≤ (s.data.toList.getD (pos + j) 0).toNat) := by
  have hl : s.data.toList.length = s.size := rfl
  rw [Lib.decode_N, hl]
  by_cases h0 : (s.data.toList.getD pos 0).toNat < 128
  · exact .inl ⟨h0, Lib.decodeN_ascii _ _ _ _ _ h0⟩
  · refine .inr ⟨decodeN_high _ _ _ _ _ (by omega), Lib.decodeN_ge1 _ _ _ _ _, ?_⟩
    obtain ⟨c2, c3, c4, c5⟩ := Lib.decodeN_conts (s.size - pos) (s.data.toList.getD pos 0).toNat (s.data.toList.getD (pos + 1) 0).toNat (s.data.toList.getD (pos + 2) 0).toNat (s.data.toList.getD (pos + 3) 0).toNat
    refine ⟨?_, fun j hj => ?_⟩
    · generalize (Lib.decodeN _ _ _ _ _).2 = K at *
      omega
    · generalize (Lib.decodeN _ _ _ _ _).2 = K at *
      have : j = 0 ∨ j = 1 ∨ j = 2 ∨ j = 3 := by omega
      rcases this with rfl | rfl | rfl | rfl
      · rw [Nat.add_zero]; omega
      · have := (c2 (by omega)).1; omega
      · have := (c3 (by omega)).1; omega
      · have := (c4 (by omega)).1; omega
def baOf (l : List UInt8) : ByteArray := ⟨l.toArray⟩
def curOf (l : List UInt8) (pos : Nat) : Option Nat → List UInt8
  | none => []
  | some a => (l.drop a).take (pos - a)
theorem curOf_ne {l : List UInt8} {pos a : Nat} (h : a < pos) (hp : pos ≤ l.length) : curOf l pos (some a) ≠ [] := by
  intro e
  have := congrArg List.length e
  unfold curOf at this
  rw [List.length_take, List.length_drop] at this
  simp only [List.length_nil] at this
  omega
theorem extract_list (s : ByteArray) (a b : Nat) (h : a ≤ b) : s.extract a b = baOf ((s.data.toList.drop a).take (b - a)) := by
  apply ByteArray.ext
  unfold baOf
  rw [ByteArray.data_extract]
  apply Array.ext'
  simp [Array.toList_extract, List.extract_eq_take_drop]
theorem curOf_on {l : List UInt8} {pos k : Nat} {st : Option Nat} (h : ∀ a, st = some a → a < pos) (hk : pos + k ≤ l.length) (h1 : 1 ≤ k) :
    curOf l (pos + k) (some (match st with | some a => a | none => pos)) = curOf l pos st ++ (l.drop pos).take k := by
  cases st with
  | none =>
    show (l.drop pos).take (pos + k - pos) = [] ++ _
    rw [Nat.add_sub_cancel_left, List.nil_append]
  | some a =>
    have ha := h a rfl
    show (l.drop a).take (pos + k - a) = (l.drop a).take (pos - a) ++ _
    rw [show pos + k - a = (pos - a) + k by omega, List.take_add, List.drop_drop, show a + (pos - a) = pos by omega]
theorem spans_fields (s : ByteArray) : ∀ (f pos : Nat) (st : Option Nat) (acc : List (Nat × Nat)), s.size ≤ pos + f → pos ≤ s.size → (∀ a, st = some a → a < pos) →
    (Lib.closeSpans s (Lib.spansFromP pBl s f pos st acc)).map (fun x => s.extract x.1 x.2) = acc.map (fun x => s.extract x.1 x.2) ++ (dFields (s.data.toList.drop pos) (curOf s.data.toList pos st)).map baOf := by
  have hl : s.data.toList.length = s.size := rfl
  have fin : ∀ (pos : Nat) (st : Option Nat) (acc : List (Nat × Nat)), pos = s.size → (∀ a, st = some a → a < pos) → (Lib.closeSpans s (acc, st)).map (fun x => s.extract x.1 x.2) = acc.map (fun x => s.extract x.1 x.2) ++ (dFields (s.data.toList.drop pos) (curOf s.data.toList pos st)).map baOf := by
    intro pos st acc hp ha
    rw [List.drop_eq_nil_of_le (by omega), dFields]
    cases st with
    | none => simp [Lib.closeSpans, curOf]
    | some a =>
      have h1 := ha a rfl
      rw [if_neg (curOf_ne h1 (by omega))]
      unfold Lib.closeSpans
      simp only [List.map_append, List.map_cons, List.map_nil]
      rw [extract_list s a s.size (by omega)]
      unfold curOf
      rw [hp]
  intro f
  induction f with
  | zero =>
    intro pos st acc hf hp ha
    exact fin pos st acc (by omega) ha
  | succ f ih =>
    intro pos st acc hf hp ha
    by_cases hlt : pos < s.size
    · have hc : s.data.toList.drop pos = s.data.toList.getD pos 0 :: s.data.toList.drop (pos + 1) := by
        rw [List.drop_eq_getElem_cons (by omega), List.getD_eq_getElem?_getD, List.getElem?_eq_getElem (by omega)]
        rfl
      rcases decode_at s pos hlt with ⟨h0, hd⟩ | ⟨hR, hK1, hK2, hall⟩
      · have hp1 : pBl (s.data.toList.getD pos 0).toNat = isBl (s.data.toList.getD pos 0) := pBl_byte _
        cases hb : isBl (s.data.toList.getD pos 0) with
        | true =>
          rw [hb] at hp1
          cases st with
          | none =>
            simp only [Lib.spansFromP, if_pos hlt, hd, hp1, if_true]
            rw [ih (pos + 1) none acc (by omega) (by omega) (fun a h => by cases h), hc, dFields, hb]
            rfl
          | some a =>
            have h1 := ha a rfl
            simp only [Lib.spansFromP, if_pos hlt, hd, hp1, if_true]
            rw [ih (pos + 1) none _ (by omega) (by omega) (fun a h => by cases h), hc, dFields, hb, if_pos rfl, if_neg (curOf_ne h1 (by omega))]
            simp only [List.map_append, List.map_cons, List.map_nil, List.append_assoc]
            rw [extract_list s a pos (by omega)]
            rfl
        | false =>
          rw [hb] at hp1
          have hon := curOf_on (l := s.data.toList) (pos := pos) (k := 1) (st := st) ha (by omega) (Nat.le_refl 1)
          have htk : (s.data.toList.drop pos).take 1 = [s.data.toList.getD pos 0] := by rw [hc]; rfl
          cases st with
          | none =>
            simp only [Lib.spansFromP, if_pos hlt, hd, hp1, Bool.false_eq_true, if_false]
            rw [ih (pos + 1) (some pos) acc (by omega) (by omega) (fun a h => by cases h; omega), hon, htk, hc, dFields, hb]
            rfl
          | some a =>
            have h1 := ha a rfl
            simp only [Lib.spansFromP, if_pos hlt, hd, hp1, Bool.false_eq_true, if_false]
            rw [ih (pos + 1) (some a) acc (by omega) (by omega) (fun a h => by cases h; omega), hon, htk, hc, dFields, hb]
            rfl
      · obtain ⟨R, K, hRK⟩ : ∃ R K, Utf8.decode s pos = (R, K) := ⟨_, _, rfl⟩
        rw [hRK] at hR hK1 hK2 hall
        simp only at hR hK1 hK2 hall
        have hp1 : pBl R = false := pBl_high _ hR
        have hskip := dFields_skip K (s.data.toList.drop pos) (curOf s.data.toList pos st) (by rw [List.length_drop]; omega) (fun j hj => by
          have := hall j hj
          have e : (s.data.toList.drop pos).getD j 0 = s.data.toList.getD (pos + j) 0 := by rw [List.getD_eq_getElem?_getD, List.getD_eq_getElem?_getD, List.getElem?_drop]
          rw [e]
          exact isBl_high _ this)
        have hon := curOf_on (l := s.data.toList) (pos := pos) (k := K) (st := st) ha (by omega) hK1
        rw [hskip, List.drop_drop, ← hon]
        cases st with
        | none =>
          simp only [Lib.spansFromP, if_pos hlt, hRK, hp1, Bool.false_eq_true, if_false]
          exact ih (pos + K) (some pos) acc (by omega) (by omega) (fun a h => by cases h; omega)
        | some a =>
          have h1 := ha a rfl
          simp only [Lib.spansFromP, if_pos hlt, hRK, hp1, Bool.false_eq_true, if_false]
          exact ih (pos + K) (some a) acc (by omega) (by omega) (fun a h => by cases h; omega)
    · rw [Lib.spansFromP_end _ _ _ _ _ _ hlt]
      exact fin pos st acc (by omega) ha
/-- strings.FieldsFunc at the three blanks. -/
theorem fields_blank (s : ByteArray) : Lib.goFieldsP pBl s = (dFields s.data.toList []).map baOf := by
  unfold Lib.goFieldsP Lib.spansOfP
  rw [spans_fields s s.size 0 none [] (by omega) (by omega) (fun a h => by cases h)]
  rfl
end Go.Proofs.YtigloobbpcnnhaaDoor.PB
end

section
namespace Go.Proofs.YtigloobbpcnnhaaDoor.PB
set_option linter.unusedVariables false
set_option linter.unusedSimpArgs false
/-! ### A word's number -/
def digs : List UInt8 := [48, 49, 50, 51, 52, 53, 54, 55, 56, 57]
def isDig (b : UInt8) : Bool := decide (48 ≤ b.toNat ∧ b.toNat ≤ 57)
theorem isDig_iff (b : UInt8) : isDig b = true ↔ 48 ≤ b.toNat ∧ b.toNat ≤ 57 := by unfold isDig; exact decide_eq_true_iff
theorem digs_eq (b : UInt8) : digs.contains b = isDig b := by
  rw [Bool.eq_iff_iff, isDig_iff, List.contains_iff_mem]
  have e : ∀ n : UInt8, b = n ↔ b.toNat = n.toNat := fun n => UInt8.toNat_inj.symm
  simp only [digs, List.mem_cons, List.not_mem_nil, or_false, e]
  show b.toNat = 48 ∨ b.toNat = 49 ∨ b.toNat = 50 ∨ b.toNat = 51 ∨ b.toNat = 52 ∨ b.toNat = 53 ∨ b.toNat = 54 ∨ b.toNat = 55 ∨ b.toNat = 56 ∨ b.toNat = 57 ↔ _
  omega
theorem dw_nil {α : Type} (p : α → Bool) : ∀ l : List α, l.dropWhile p = [] ↔ ∀ x ∈ l, p x = true
  | [] => by simp
  | a :: l => by
    have := dw_nil p l
    rw [List.dropWhile_cons]
    split <;> rename_i h
    · rw [this]; simp [h]
    · constructor
      · intro e; cases e
      · intro e; exact absurd (e a (by simp)) h
def dValF (acc : Nat) (s : List UInt8) : Nat := s.foldl (fun n b => n * 10 + (b.toNat - 48)) acc
def dVal (s : List UInt8) : Nat := dValF 0 s
theorem dValF_cons (acc : Nat) (b : UInt8) (s : List UInt8) : dValF acc (b :: s) = dValF (acc * 10 + (b.toNat - 48)) s := by unfold dValF; rw [List.foldl_cons]
theorem dValF_ge : ∀ (s : List UInt8) (acc : Nat), acc ≤ dValF acc s
  | [], acc => Nat.le_refl _
  | b :: s, acc => by
    rw [dValF_cons]
    have := dValF_ge s (acc * 10 + (b.toNat - 48))
    omega
theorem trim_nil (s : List UInt8) : Lib.trimS s digs = [] ↔ s.all isDig = true := by
  unfold Lib.trimS Lib.trimLeftS Lib.trimRightS
  constructor
  · intro h
    have h1 := (dw_nil _ _).1 h
    cases hr : s.reverse.dropWhile (digs.contains ·) with
    | nil =>
      have h2 := (dw_nil _ _).1 hr
      rw [List.all_eq_true]
      intro b hb
      rw [← digs_eq]
      exact h2 b (List.mem_reverse.2 hb)
    | cons a r =>
      exfalso
      have h3 : ¬ (digs.contains a = true) := by
        have := List.head_dropWhile_not (p := (digs.contains ·)) (l := s.reverse) (by rw [hr]; simp)
        simp only [hr, List.head_cons] at this
        simpa using this
      exact h3 (h1 a (by rw [hr]; simp))
  · intro h
    have h2 : s.reverse.dropWhile (digs.contains ·) = [] := by
      rw [dw_nil]
      intro b hb
      rw [digs_eq]
      exact List.all_eq_true.1 h b (List.mem_reverse.1 hb)
    rw [h2]
    rfl
theorem puint_digs : ∀ (s : List UInt8) (acc : Nat), acc < 18446744073709551616 → s.all isDig = true → Lib.parseUint10 acc s = if dValF acc s < 18446744073709551616 then .ok (dValF acc s) else .range
  | [], acc, ha, _ => by
    rw [Lib.parseUint10, if_pos (show dValF acc [] < _ from ha)]
    rfl
  | b :: s, acc, ha, h => by
    rw [List.all_cons, Bool.and_eq_true] at h
    obtain ⟨hb, hs⟩ := h
    have hb' := (isDig_iff b).1 hb
    have hge := dValF_ge s (acc * 10 + (b.toNat - 48))
    rw [Lib.parseUint10, if_pos hb', dValF_cons]
    by_cases h1 : 1844674407370955162 ≤ acc
    · rw [if_pos h1, if_neg (by omega)]
    · rw [if_neg h1]
      by_cases h2 : 18446744073709551616 ≤ acc * 10 + (b.toNat - 48)
      · rw [if_pos h2, if_neg (by omega)]
      · rw [if_neg h2]
        exact puint_digs s _ (by omega) hs
theorem atoi_digs (s : List UInt8) (hne : s ≠ []) (h : s.all isDig = true) : Lib.atoiAll s = if dVal s < 9223372036854775808 then .ok (dVal s : Int) else .range := by
  match s, hne, h with
  | b :: r, _, h =>
    have hb := (isDig_iff b).1 (by rw [List.all_cons, Bool.and_eq_true] at h; exact h.1)
    have h0 := puint_digs (b :: r) 0 (by decide) h
    have n1 : ¬ (b.toNat = 43 ∨ b.toNat = 45) := by omega
    have n2 : ¬ (b.toNat = 45) := by omega
    unfold Lib.atoiAll
    simp only [if_neg n1, Lib.parseMag, List.cons_ne_nil, if_false, h0]
    unfold dVal
    by_cases h1 : dValF 0 (b :: r) < 18446744073709551616
    · rw [if_pos h1]
      by_cases h2 : dValF 0 (b :: r) < 9223372036854775808
      · rw [if_pos h2]
        simp only [n2]
        rw [if_neg (by omega), if_neg (by omega)]
        rfl
      · rw [if_neg h2]
        simp only
        rw [if_pos ⟨n2, by omega⟩]
    · rw [if_neg h1, if_neg (by omega)]
/-- What a word says: the number, whether it is one, whether it fits. -/
def dNum (w : List UInt8) (minus : Bool) (top : Int) : Int × Bool × Bool :=
  let s := if minus && Lib.hasPrefix w [45] then w.drop 1 else w
  if s = [] ∨ s.all isDig = false ∨ (1 < s.length ∧ s.head? = some 48) ∨ w = [45, 48] then (0, false, false)
  else if top < (dVal s : Int) then (0, true, false)
  else (if s.length < w.length then -(dVal s : Int) else (dVal s : Int), true, true)
end Go.Proofs.YtigloobbpcnnhaaDoor.PB
end

section
namespace Go.Proofs.YtigloobbpcnnhaaDoor.PB
open Go.RowKit Go.Proofs.YtigloobbpcnnhaaDoorW.PrintWords Go.Proofs.YtigloobbpcnnhaaDoorW.PrintLast Go.Proofs.YtigloobbpcnnhaaDoorW.PrintMore
set_option linter.unusedVariables false
set_option linter.unusedSimpArgs false
/-! ### What the listed variables hold -/
structure LF (w : World) : Prop where
  tab : Lib.TabIs Tryd.prog w "internal/strconv.uint64pow10" .u64 Lib.pow10Tab
  m : ∃ m : Int, w.cell? ⟨0, 0, none⟩ = some (.int .i64 m)
  er : ∃ te pe, w.cell? ⟨3, 0, none⟩ = some (.iface te pe)
/-- .. and go on holding whatever is done from block B on. -/
def LT (B : Nat) (w : World) : Prop := ∀ w', Below B w w' → LF w'
theorem LT.here {B : Nat} {w : World} (h : LT B w) : LF w := h w (Below.refl _ _)
theorem LT.on {B : Nat} {w w' : World} (h : LT B w) (hb : Below B w w') : LT B w' := fun w2 h2 => h w2 (hb.trans h2)
theorem LT.up {B B' : Nat} {w : World} (h : LT B w) (hb : B ≤ B') : LT B' w := fun w2 h2 => h w2 (h2.mono hb)
theorem LT.drewN {B : Nat} {w : World} (h : LT B w) (n : Nat) : LT B (w.drewN n) := fun w2 h2 => h w2 ⟨h2.os, h2.tape, h2.output, h2.size, h2.block⟩
theorem LT.drew {B : Nat} {w : World} (h : LT B w) : LT B w.drew := fun w2 h2 => h w2 ⟨h2.os, h2.tape, h2.output, h2.size, h2.block⟩
theorem LT.pow {B : Nat} {w : World} (h : LT B w) : Lib.TabBelow Tryd.prog B w "internal/strconv.uint64pow10" .u64 Lib.pow10Tab := fun w' hb => (h w' hb).tab
theorem LT.pay {w w' : World} (h : LT w.heap.size w) (hb : Below w.heap.size w w') : LT w'.heap.size w' := (h.on hb).up hb.size
/-! ### Trim at the digits -/
def digsB : ByteArray := ⟨#[48, 49, 50, 51, 52, 53, 54, 55, 56, 57]⟩
theorem trim_calls (s : ByteArray) (w : World) (hs : s.size ≤ 100000) :
    Calls Tryd.prog 49 #[.string s, .string digsB] w fun e w' => e = .returned (.string ⟨(Lib.trimS s.data.toList digs).toArray⟩) ∧ Below w.heap.size w w' :=
  Any.strings_Trim_laid Tryd.lays160 (by kernel_rfl) s digsB w (by omega) (by decide) (ascii_of_all (by decide))
end Go.Proofs.YtigloobbpcnnhaaDoor.PB
end

section
namespace Go.Proofs.YtigloobbpcnnhaaDoor.PB
open Go.RowKit Go.Proofs.YtigloobbpcnnhaaDoorW.PrintWords Go.Proofs.YtigloobbpcnnhaaDoorW.PrintLast Go.Proofs.YtigloobbpcnnhaaDoorW.PrintMore
set_option linter.unusedVariables false
set_option linter.unusedSimpArgs false
/-! ### number -/
/-- What is left of a word when its sign is taken. -/
def dSign (w : List UInt8) (minus : Bool) : List UInt8 := if minus && Lib.hasPrefix w [45] then w.drop 1 else w
theorem trimPrefix_minus (w : List UInt8) : Lib.trimPrefix w [45] = dSign w true := by
  unfold Lib.trimPrefix dSign
  simp
theorem bw_below (w : World) (e : TypeId) (s : ByteArray) : Below w.heap.size w (Lib.bytesWorld w e s) :=
  ⟨rfl, rfl, rfl, by rw [Lib.bytesWorld_size]; omega, fun k hk => Lib.bytesWorld_at_old w e s k hk⟩
theorem atoi_calls (s : ByteArray) (w : World) (hlt : LT w.heap.size w) (hs : s.size ≤ 100000) (hne : s.data.toList ≠ []) (hd : s.data.toList.all isDig = true) :
    Calls Tryd.prog 50 #[.string s] w fun e w' => ∃ v er, e = .returned (.tuple #[.int .i64 v, er]) ∧ Below w.heap.size w w' ∧ ((er = .nilIface ∧ v = (dVal s.data.toList : Int) ∧ dVal s.data.toList < 9223372036854775808) ∨ ((∃ te pe, er = .iface te pe) ∧ 9223372036854775808 ≤ dVal s.data.toList)) := by
  have h := atoi_digs s.data.toList hne hd
  by_cases hv : dVal s.data.toList < 9223372036854775808
  · rw [if_pos hv] at h
    refine (Tryd.strconv_Atoi_ok s (by omega) _ h w).mono ?_
    rintro e w' ⟨rfl, hw⟩
    refine ⟨_, _, rfl, ?_, .inl ⟨rfl, rfl, hv⟩⟩
    rcases hw with rfl | ⟨t, rfl⟩
    · exact Below.refl _ _
    · exact bw_below _ _ _
  · rw [if_neg hv] at h
    obtain ⟨te, pe, he⟩ := hlt.here.er
    refine (Tryd.strconv_Atoi_range s (by omega) h _ w he (.inr ⟨te, pe, rfl⟩)).mono ?_
    rintro e w' ⟨M, rfl, _, _, hb⟩
    exact ⟨_, _, rfl, hb, .inr ⟨⟨_, _, rfl⟩, by omega⟩⟩
theorem dNum_eq (w : List UInt8) (minus : Bool) (top : Int) : dNum w minus top = if dSign w minus = [] ∨ (dSign w minus).all isDig = false ∨ (1 < (dSign w minus).length ∧ (dSign w minus).head? = some 48) ∨ w = [45, 48] then (0, false, false)
  else if top < (dVal (dSign w minus) : Int) then (0, true, false)
  else (if (dSign w minus).length < w.length then -(dVal (dSign w minus) : Int) else (dVal (dSign w minus) : Int), true, true) := rfl
set_option maxHeartbeats 1000000 in
set_option maxRecDepth 100000 in
theorem number_calls (t : ByteArray) (minus : Bool) (top : Int) (h0 : 0 ≤ top) (h1 : top ≤ 4611686018427387904) (hs : t.size ≤ 100000) (w : World) (hlt : LT w.heap.size w) :
    Calls Tryd.prog 36 #[.string t, .bool minus, .int .i64 top] w fun e w' => e = .returned (.tuple #[.int .i64 (dNum t.data.toList minus top).1, .bool (dNum t.data.toList minus top).2.1, .bool (dNum t.data.toList minus top).2.2]) ∧ Below w.heap.size w w' := by
  have HLT := Aside0.mk hlt
  obtain ⟨s, hsg⟩ : ∃ s, s = dSign t.data.toList minus := ⟨_, rfl⟩
  obtain ⟨sB, hsB⟩ : ∃ sB : ByteArray, sB = ⟨s.toArray⟩ := ⟨_, rfl⟩
  have hle : s.length ≤ t.size := by
    rw [hsg]
    unfold dSign
    have : t.data.toList.length = t.size := rfl
    split
    · rw [List.length_drop]; omega
    · omega
  have hsz : sB.size = s.length := by rw [hsB]; rfl
  have hsd : sB.data.toList = s := by rw [hsB]
  have HSG := Aside0.mk hsg
  have HSB := Aside0.mk hsB
  have HSD := Aside0.mk hsd
  clear hlt
  go_enter Tryd.func36, Tryd.ntmps36
  go_upto_if 12 with (fail)
  go_cut [9] (fun v9 wc => v9 = .string sB ∧ wc = w)
  case first =>
    cases minus with
    | true =>
      have ht := Aside0.mk (show (⟨(Lib.trimPrefix t.data.toList [45]).toArray⟩ : ByteArray) = sB by rw [trimPrefix_minus, ← HSG.out, HSB.out])
      clear hsg hsB hsd
      go_wp2_with fail
      refine (Tryd.strings_TrimPrefix t ⟨#[45]⟩ w).mono ?_
      rintro e w2 ⟨rfl, rfl⟩
      rw [show (⟨#[45]⟩ : ByteArray).data.toList = [45] from rfl, ht.out]
      go_wp2
      go_meet
      case rel => exact ⟨rfl, rfl⟩
    | false =>
      have ht := Aside0.mk (show t = sB by rw [HSB.out, HSG.out]; rfl)
      clear hsg hsB hsd
      go_wp2
      go_meet
      case rel => exact ⟨by rw [ht.out], rfl⟩
  case rest =>
    obtain ⟨rfl, hwc⟩ := hcut
    obtain rfl : w = wc := hwc.symm
    by_cases hs0 : s = []
    · have hr := Aside0.mk (show dNum t.data.toList minus top = (0, false, false) by rw [dNum_eq, ← HSG.out, if_pos (.inl hs0)])
      have z1 : sB.toList = [] := by rw [Lib.toList_data, HSD.out, hs0]
      have z2 : sB.toList.isEmpty = true := by rw [z1]; rfl
      clear hsg hsB hsd
      go_wp2
      go_ret3
      exact ⟨by rw [hr.out]; rfl, Below.refl _ _⟩
    · have z2 : sB.toList.isEmpty = false := by rw [Lib.toList_data, HSD.out]; cases s with | nil => exact absurd rfl hs0 | cons a r => rfl
      obtain ⟨tr, htr⟩ : ∃ tr : ByteArray, tr = ⟨(Lib.trimS s digs).toArray⟩ := ⟨_, rfl⟩
      have HTR := Aside0.mk htr
      cases hall : s.all isDig with
      | false =>
        have hr := Aside0.mk (show dNum t.data.toList minus top = (0, false, false) by rw [dNum_eq, ← HSG.out, if_pos (.inr (.inl hall))])
        have z3 : tr.toList.isEmpty = false := by
          rw [Lib.toList_data, htr]
          cases h : Lib.trimS s digs with
          | nil => rw [(trim_nil s).1 h] at hall; cases hall
          | cons a r => rfl
        clear hsg hsB hsd htr
        go_wp2_with fail
        refine (trim_calls sB w (by omega)).mono ?_
        rw [HSD.out, ← HTR.out]
        rintro e w2 ⟨rfl, hb⟩
        have HB := Aside0.mk hb
        clear hb
        go_wp2
        go_ret3
        exact ⟨by rw [hr.out]; rfl, HB.out⟩
      | true =>
        have z3 : tr.toList.isEmpty = true := by rw [Lib.toList_data, htr, (trim_nil s).2 hall]; rfl
        have hpos : 0 < sB.size := by rw [hsz]; cases s with | nil => exact absurd rfl hs0 | cons a r => simp
        have hi0 : (0 : Int) < (sB.size : Int) := by omega
        have hhd : s.head? = some sB[0] := by
          have e := HSB.out
          subst e
          cases s with
          | nil => exact absurd rfl hs0
          | cons a r => rfl
        by_cases hz : 1 < s.length ∧ s.head? = some 48
        · have hr := Aside0.mk (show dNum t.data.toList minus top = (0, false, false) by rw [dNum_eq, ← HSG.out, if_pos (.inr (.inr (.inl hz)))])
          have hszl : sB.size ≤ 100000 := by omega
          have y1 : decide ((1 : Int) < (sB.size : Int)) = true := decide_eq_true (by omega)
          have y2 : decide (1 < sB.size) = true := decide_eq_true (by omega)
          have y3 : (((sB[0]).toNat : Int) == 48) = true := by
            have := hz.2
            rw [hhd] at this
            rw [Option.some.inj this]
            rfl
          clear hsg hsB hsd htr hz hhd hsz hle
          go_wp2_with fail
          refine (trim_calls sB w (by omega)).mono ?_
          rw [HSD.out, ← HTR.out]
          rintro e w2 ⟨rfl, hb⟩
          have HB := Aside0.mk hb
          clear hb
          go_wp2
          go_ret3
          exact ⟨by rw [hr.out]; rfl, HB.out⟩
        · have hszl : sB.size ≤ 100000 := by omega
          have hsl : s.length = sB.size := hsz.symm
          have cond : ∃ b1 : Bool, decide ((1 : Int) < (sB.size : Int)) = b1 ∧ (b1 = true → (((sB[0]).toNat : Int) == 48) = false) := by
            refine ⟨_, rfl, fun h => ?_⟩
            have h1 : 1 < s.length := by have := of_decide_eq_true h; omega
            rw [beq_eq_false_iff_ne]
            intro e
            refine hz ⟨h1, ?_⟩
            rw [hhd]
            exact congrArg some (UInt8.toNat_inj.1 (by show (sB[0]).toNat = 48; omega))
          obtain ⟨b1, y1, y3⟩ := cond
          by_cases hm : t.data.toList = [45, 48]
          · have hr := Aside0.mk (show dNum t.data.toList minus top = (0, false, false) by rw [dNum_eq, if_pos (.inr (.inr (.inr hm)))])
            have y4 : (t.toList == ([45, 48] : List UInt8)) = true := by rw [Lib.toList_data, hm]; rfl
            cases b1 with
            | true =>
              have y5 := y3 rfl
              clear hsg hsB hsd htr hz hhd hsz hle hsl y3
              go_wp2_with fail
              refine (trim_calls sB w (by omega)).mono ?_
              rw [HSD.out, ← HTR.out]
              rintro e w2 ⟨rfl, hb⟩
              have HB := Aside0.mk hb
              clear hb
              go_wp2
              go_ret3
              exact ⟨by rw [hr.out]; rfl, HB.out⟩
            | false =>
              clear hsg hsB hsd htr hz hhd hsz hle hsl y3
              go_wp2_with fail
              refine (trim_calls sB w (by omega)).mono ?_
              rw [HSD.out, ← HTR.out]
              rintro e w2 ⟨rfl, hb⟩
              have HB := Aside0.mk hb
              clear hb
              go_wp2
              go_ret3
              exact ⟨by rw [hr.out]; rfl, HB.out⟩
          · have y4 : (t.toList == ([45, 48] : List UInt8)) = false := by rw [Lib.toList_data]; exact beq_eq_false_iff_ne.2 hm
            obtain ⟨v, hv⟩ : ∃ v, v = dVal s := ⟨_, rfl⟩
            have hdn := dNum_eq t.data.toList minus top
            rw [← HSG.out, if_neg (by rintro (h | h | h | h); exact hs0 h; (rw [hall] at h; cases h); exact hz h; exact hm h), ← hv] at hdn
            have HDN := Aside0.mk hdn
            have HV := Aside0.mk hv
            have HNE := Aside0.mk (show sB.data.toList ≠ [] by rw [HSD.out]; exact hs0)
            have HALL := Aside0.mk (show sB.data.toList.all isDig = true by rw [HSD.out]; exact hall)
            have HSS := Aside0.mk (show sB.size ≤ 100000 from hszl)
            have hTT : t.data.toList.length = t.size := rfl
            have hle2 : sB.size ≤ t.size := by omega
            have hts : t.size ≤ 100000 := hs
            have hcon : Aside0 (b1 = true → (((sB[0]).toNat : Int) == 48) = false) := ⟨y3⟩
            by_cases h1 : top < (v : Int)
            · have hr := Aside0.mk (show dNum t.data.toList minus top = (0, true, false) by rw [HDN.out, if_pos h1])
              have c1 : decide (top < (v : Int)) = true := decide_eq_true h1
              clear hsg hsB hsd htr hz hhd hsz hsl y3 hdn hv hall hs0 hm h1 hTT
              cases b1 with
              | true =>
                have y5 := hcon.out rfl
                go_wp2_with (first | (go_at_call 49; refine (trim_calls sB w (by omega)).mono ?_; rw [HSD.out, ← HTR.out]; rintro e w2 ⟨rfl, hb⟩; have HB := Aside0.mk hb; clear hb) | (go_at_call 50; refine (atoi_calls sB w2 (HLT.out.pay HB.out) HSS.out HNE.out HALL.out).mono ?_; rw [HSD.out, ← HV.out]; rintro e w3 ⟨q, er, rfl, hb, hcases⟩; have HB3 := Aside0.mk hb; clear hb; rcases hcases with ⟨rfl, rfl, _⟩ | ⟨⟨te, pe, rfl⟩, _⟩))
                all_goals
                  go_ret3
                  exact ⟨by rw [hr.out]; rfl, HB.out.trans (HB3.out.mono HB.out.size)⟩
              | false =>
                go_wp2_with (first | (go_at_call 49; refine (trim_calls sB w (by omega)).mono ?_; rw [HSD.out, ← HTR.out]; rintro e w2 ⟨rfl, hb⟩; have HB := Aside0.mk hb; clear hb) | (go_at_call 50; refine (atoi_calls sB w2 (HLT.out.pay HB.out) HSS.out HNE.out HALL.out).mono ?_; rw [HSD.out, ← HV.out]; rintro e w3 ⟨q, er, rfl, hb, hcases⟩; have HB3 := Aside0.mk hb; clear hb; rcases hcases with ⟨rfl, rfl, _⟩ | ⟨⟨te, pe, rfl⟩, _⟩))
                all_goals
                  go_ret3
                  exact ⟨by rw [hr.out]; rfl, HB.out.trans (HB3.out.mono HB.out.size)⟩
            · have c1 : decide (top < (v : Int)) = false := decide_eq_false h1
              have hv1 : (v : Int) ≤ top := by omega
              have HVL := Aside0.mk (show ¬ 9223372036854775808 ≤ v by omega)
              by_cases h2 : s.length < t.data.toList.length
              · have hr := Aside0.mk (show dNum t.data.toList minus top = (-(v : Int), true, true) by rw [HDN.out, if_neg h1, if_pos h2])
                have c2 : decide ((sB.size : Int) < (t.size : Int)) = true := decide_eq_true (by omega)
                have c3 : decide (sB.size < t.size) = true := decide_eq_true (by omega)
                clear hsg hsB hsd htr hz hhd hsz hsl y3 hdn hv hall hs0 hm h1 h2 hTT
                cases b1 with
                | true =>
                  have y5 := hcon.out rfl
                  go_wp2_with (first | (go_at_call 49; refine (trim_calls sB w (by omega)).mono ?_; rw [HSD.out, ← HTR.out]; rintro e w2 ⟨rfl, hb⟩; have HB := Aside0.mk hb; clear hb) | (go_at_call 50; refine (atoi_calls sB w2 (HLT.out.pay HB.out) HSS.out HNE.out HALL.out).mono ?_; rw [HSD.out, ← HV.out]; rintro e w3 ⟨q, er, rfl, hb, hcases⟩; have HB3 := Aside0.mk hb; clear hb; rcases hcases with ⟨rfl, rfl, _⟩ | ⟨_, hbig⟩; rotate_left; exact absurd hbig HVL.out))
                  all_goals
                    go_ret3
                    exact ⟨by rw [hr.out]; rfl, HB.out.trans (HB3.out.mono HB.out.size)⟩
                | false =>
                  go_wp2_with (first | (go_at_call 49; refine (trim_calls sB w (by omega)).mono ?_; rw [HSD.out, ← HTR.out]; rintro e w2 ⟨rfl, hb⟩; have HB := Aside0.mk hb; clear hb) | (go_at_call 50; refine (atoi_calls sB w2 (HLT.out.pay HB.out) HSS.out HNE.out HALL.out).mono ?_; rw [HSD.out, ← HV.out]; rintro e w3 ⟨q, er, rfl, hb, hcases⟩; have HB3 := Aside0.mk hb; clear hb; rcases hcases with ⟨rfl, rfl, _⟩ | ⟨_, hbig⟩; rotate_left; exact absurd hbig HVL.out))
                  all_goals
                    go_ret3
                    exact ⟨by rw [hr.out]; rfl, HB.out.trans (HB3.out.mono HB.out.size)⟩
              · have hr := Aside0.mk (show dNum t.data.toList minus top = ((v : Int), true, true) by rw [HDN.out, if_neg h1, if_neg h2])
                have c2 : decide ((sB.size : Int) < (t.size : Int)) = false := decide_eq_false (by omega)
                have c3 : decide (sB.size < t.size) = false := decide_eq_false (by omega)
                clear hsg hsB hsd htr hz hhd hsz hsl y3 hdn hv hall hs0 hm h1 h2 hTT
                cases b1 with
                | true =>
                  have y5 := hcon.out rfl
                  go_wp2_with (first | (go_at_call 49; refine (trim_calls sB w (by omega)).mono ?_; rw [HSD.out, ← HTR.out]; rintro e w2 ⟨rfl, hb⟩; have HB := Aside0.mk hb; clear hb) | (go_at_call 50; refine (atoi_calls sB w2 (HLT.out.pay HB.out) HSS.out HNE.out HALL.out).mono ?_; rw [HSD.out, ← HV.out]; rintro e w3 ⟨q, er, rfl, hb, hcases⟩; have HB3 := Aside0.mk hb; clear hb; rcases hcases with ⟨rfl, rfl, _⟩ | ⟨_, hbig⟩; rotate_left; exact absurd hbig HVL.out))
                  all_goals
                    go_ret3
                    exact ⟨by rw [hr.out]; rfl, HB.out.trans (HB3.out.mono HB.out.size)⟩
                | false =>
                  go_wp2_with (first | (go_at_call 49; refine (trim_calls sB w (by omega)).mono ?_; rw [HSD.out, ← HTR.out]; rintro e w2 ⟨rfl, hb⟩; have HB := Aside0.mk hb; clear hb) | (go_at_call 50; refine (atoi_calls sB w2 (HLT.out.pay HB.out) HSS.out HNE.out HALL.out).mono ?_; rw [HSD.out, ← HV.out]; rintro e w3 ⟨q, er, rfl, hb, hcases⟩; have HB3 := Aside0.mk hb; clear hb; rcases hcases with ⟨rfl, rfl, _⟩ | ⟨_, hbig⟩; rotate_left; exact absurd hbig HVL.out))
                  all_goals
                    go_ret3
                    exact ⟨by rw [hr.out]; rfl, HB.out.trans (HB3.out.mono HB.out.size)⟩
end Go.Proofs.YtigloobbpcnnhaaDoor.PB
end
