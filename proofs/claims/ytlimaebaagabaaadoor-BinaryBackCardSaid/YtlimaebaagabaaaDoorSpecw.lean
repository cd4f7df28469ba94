import Derived.Test.YtlimaebaagabaaaDoorHPut
namespace Go.Proofs.YtlimaebaagabaaaDoor.PB
open Go.RowKit Go.Proofs.YtlimaebaagabaaaDoorW.PrintWords Go.Proofs.YtlimaebaagabaaaDoorW.PrintLast Go.Proofs.YtlimaebaagabaaaDoorW.PrintMore
set_option linter.unusedVariables false
set_option linter.unusedSimpArgs false

/-- How many literals and hints. -/
def Btot : List S43 → Nat
  | [] => 0
  | s :: l => s.f2.length + s.f3.length + Btot l
def Bsmall (l : List S43) : Bool := l.all fun s => decide (s.f2.length ≤ 70368744177664) && decide (s.f3.length ≤ 70368744177664)
def Bmay (s : S43) : Bool :=
  (decide (s.f0 = 1) && decide (1 ≤ s.f1) || decide (s.f0 = 2) && decide (0 ≤ s.f1) && decide (s.f2.length = 0)) && decide (s.f1 ≤ 4611686018427387903) &&
  (s.f2.all fun x => !decide (x = 0) && decide (-1048576 ≤ x) && decide (x ≤ 1048576)) &&
  (s.f3.all fun h => !decide (h = 0) && decide (-4611686018427387903 ≤ h) && decide (h ≤ 4611686018427387903) && (decide (0 < h) || !decide (s.f0 = 2)))
def Blits (l : List Int) : List Int := l.flatMap fun x => Bput (wrap64 x)
def Bhints (l : List Int) : List Int := l.flatMap Bput
def Bhead (s : S43) : List Int := if s.f0 = 1 then 97 :: (Bput s.f1 ++ (Blits s.f2 ++ Bput 0)) else 100 :: Bput s.f1
def Bstep (s : S43) : List Int := Bhead s ++ (Bhints s.f3 ++ Bput 0)
def Bsteps (l : List S43) : List Int := l.flatMap Bstep
def Bwrite (l : List S43) : List Int × Int := if 4194304 < l.length ∨ 16777216 < Btot l then ([], 3) else if l.all Bmay then (Bsteps l, 0) else ([], 50)

theorem Btot_append (l m : List S43) : Btot (l ++ m) = Btot l + Btot m := by
  induction l with
  | nil => simp [Btot]
  | cons s l ih => simp only [List.cons_append, Btot, ih]; omega
theorem Btot_take_le (l : List S43) (i : Nat) : Btot (l.take i) ≤ Btot l := by
  have h := Btot_append (l.take i) (l.drop i)
  rw [List.take_append_drop] at h
  omega
theorem rd43_nat (l : List S43) (x : Int) (h0 : 0 ≤ x) (h : x < l.length) : l.take (x + 1).toNat = l.take x.toNat ++ [rd_T43 l x] := by
  obtain ⟨i, rfl⟩ := Int.eq_ofNat_of_zero_le h0
  have hi : i < l.length := by omega
  have e : ((i : Int) + 1).toNat = i + 1 := by omega
  rw [e, Int.toNat_natCast, List.take_succ_eq_append_getElem hi]
  simp [rd_T43, List.getElem?_eq_getElem hi]
theorem rd43_mem (l : List S43) (x : Int) (h0 : 0 ≤ x) (h : x < l.length) : rd_T43 l x ∈ l := by
  obtain ⟨i, rfl⟩ := Int.eq_ofNat_of_zero_le h0
  have hi : i < l.length := by omega
  simp [rd_T43, List.getElem?_eq_getElem hi]
theorem rdi_nat (l : List Int) (x : Int) (h0 : 0 ≤ x) (h : x < l.length) : l.take (x + 1).toNat = l.take x.toNat ++ [rd l x] := by
  obtain ⟨i, rfl⟩ := Int.eq_ofNat_of_zero_le h0
  have hi : i < l.length := by omega
  have e : ((i : Int) + 1).toNat = i + 1 := by omega
  rw [e, Int.toNat_natCast, List.take_succ_eq_append_getElem hi]
  simp [rd, List.getElem?_eq_getElem hi]
theorem Bput_length (n : Int) : (Bput n).length ≤ 11 := Bvar_length 10 _
theorem Bflat_length {f : Int → List Int} (hf : ∀ x, (f x).length ≤ 11) (l : List Int) : (l.flatMap f).length ≤ 11 * l.length := by
  induction l with
  | nil => simp
  | cons x l ih => have := hf x; simp only [List.flatMap_cons, List.length_append, List.length_cons]; omega
theorem Bhead_length (s : S43) : (Bhead s).length ≤ 23 + 11 * s.f2.length := by
  unfold Bhead
  have h1 := Bput_length s.f1
  have h2 := Bput_length 0
  have h3 := Bflat_length (f := fun x => Bput (wrap64 x)) (fun x => Bput_length _) s.f2
  split
  · simp only [List.length_cons, List.length_append, Blits]; omega
  · simp only [List.length_cons]; omega
theorem Bstep_length (s : S43) : (Bstep s).length ≤ 34 + 11 * (s.f2.length + s.f3.length) := by
  unfold Bstep Bhints
  have h1 := Bhead_length s
  have h2 := Bput_length 0
  have h3 := Bflat_length (f := Bput) Bput_length s.f3
  simp only [List.length_append]; omega
theorem Bsteps_length (l : List S43) : (Bsteps l).length ≤ 34 * l.length + 11 * Btot l := by
  unfold Bsteps
  induction l with
  | nil => simp [Btot]
  | cons s l ih => have := Bstep_length s; simp only [List.flatMap_cons, List.length_append, List.length_cons, Btot]; omega

/-- The writer at block g holds bs. -/
structure WS (w0 : World) (g : Nat) (bs : List Int) (w : World) : Prop where
  ex : ∃ v, w.heap[g]? = some (.cells #[v] 43 (0, 0)) ∧ Kd.R (Kd.int .u8) 5 w w0.heap.size (fun _ => True) v bs
  below : Below w0.heap.size w0 w
  base : w0.heap.size ≤ g
theorem WS.step {w0 : World} {g : Nat} {bs : List Int} {w w' : World} (h : WS w0 g bs w) (hb : Below w.heap.size w w') : WS w0 g bs w' := by
  obtain ⟨v, h1, h2⟩ := h.ex
  exact ⟨⟨v, blk_below h1 hb, Kd.R_below h2 hb⟩, below_step h.below hb, h.base⟩
theorem WS.drewN {w0 : World} {g : Nat} {bs : List Int} {w : World} (h : WS w0 g bs w) (n : Nat) : WS w0 g bs (w.drewN n) := h.step (pw_below_drewN (Below.refl _ _) n)
theorem WS.same {w0 : World} {g g' t : Nat} {bs : List Int} {w w' : World} {cs : Array Value} (h : WS w0 g bs w) (hs : SameBut g' w w') (hb : w.heap[g']? = some (.cells cs t (0, 0))) (h1 : t ≠ 43) (h2 : t ≠ 5) (hB : w0.heap.size ≤ g') : WS w0 g bs w' := by
  obtain ⟨v, e1, e2⟩ := h.ex
  exact ⟨⟨v, hs.other e1 (blk_ne e1 hb (Ne.symm h1)), hs.Rt e2 hb (by intro q hq; simp [Kd.int, Kd.scalar] at hq; subst hq; exact (Ne.symm h2))⟩, hs.below h.below hB, h.base⟩
theorem put_ws (g : Nat) (bs : List Int) (n : Int) (w0 w : World) (h : WS w0 g bs w) (hl : bs.length + 20 < 140737488355328) :
    Calls Tryd.prog 11 #[.pointer (some ⟨g, 0, none⟩), .int .i64 n] w fun e w' => e = .returned (.tuple #[]) ∧ WS w0 g (bs ++ Bput n) w' ∧ KT [43, 5] w w' := by
  obtain ⟨v, h1, h2⟩ := h.ex
  refine (put_calls g v bs n w0 w h.below h1 h.base h2 hl).mono ?_
  rintro e w' ⟨rfl, v', a1, a2, a3, a4⟩
  exact ⟨rfl, ⟨⟨v', a1, a2⟩, a3, h.base⟩, a4⟩
end Go.Proofs.YtlimaebaagabaaaDoor.PB
