import Derived.Test.YtigloobbpcnnhaaGreatDoorKA1
import Derived.RangeFuncNested
import Derived.RangeFuncBound
import Derived.RangeFuncCalls
import Derived.RangeFuncLeaves
import Derived.OrdersIn
import Derived.Shelf.Abstract
import Derived.Shelf.RegionOpen
import Derived.WalkKit
import Derived.OwnWalkIn
import Derived.TacticsInMore
import Derived.LoopNIn
import Derived.LoopIn
import Derived.Outline
import Derived.Sort.QuietIn
-- texts of this claim, packed, what nothing reaches struck (wip/tools/prune.py): M3 M4
section
section
namespace Go.Proofs.YtigloobbpcnnhaaGreatDoor.PB
open Go.RowKit Go.Proofs.YtigloobbpcnnhaaGreatDoorW.PrintWords Go.Proofs.YtigloobbpcnnhaaGreatDoorW.PrintLast Go.Proofs.YtigloobbpcnnhaaGreatDoorW.PrintMore
set_option linter.unusedVariables false
set_option linter.unusedSimpArgs false
/-- A list of bytes as whole numbers. -/
def bI (l : List UInt8) : List Int := l.map fun b => (b.toNat : Int)
theorem bI_length (l : List UInt8) : (bI l).length = l.length := List.length_map _
theorem bI_str (l : List UInt8) : strOfNums (bI l) = baOf l := by
  unfold strOfNums bI baOf
  rw [List.map_map]
  congr 2
  have : ((fun n : Int => UInt8.ofNat n.toNat) ∘ fun b : UInt8 => (b.toNat : Int)) = id := by
    funext b
    simp
  rw [this, List.map_id]
theorem bI_back (l : List UInt8) : Lib.bytesOf (bI l) = l := by
  unfold Lib.bytesOf bI
  rw [List.map_map]
  have : ((fun n : Int => UInt8.ofNat n.toNat) ∘ fun b : UInt8 => (b.toNat : Int)) = id := by
    funext b
    simp
  rw [this, List.map_id]
theorem baOf_data (l : List UInt8) : (baOf l).data.toList = l := rfl
theorem bI_rd (l : List UInt8) (h : 0 < l.length) : rd (bI l) 0 = ((l.head?.getD 0).toNat : Int) := by
  cases l with
  | nil => exact absurd h (by decide)
  | cons a r => rfl
theorem blank_calls (x : Nat) (w : World) (hx : x ≤ 1114111) : Calls Tryz.prog 33 #[.int .i32 (x : Int)] w fun e w' => e = .returned (.bool (pBl x)) ∧ w = w' := by
  obtain ⟨b1, h1⟩ : ∃ b : Bool, ((x : Int) == 32) = b := ⟨_, rfl⟩
  obtain ⟨b2, h2⟩ : ∃ b : Bool, ((x : Int) == 9) = b := ⟨_, rfl⟩
  obtain ⟨b3, h3⟩ : ∃ b : Bool, ((x : Int) == 13) = b := ⟨_, rfl⟩
  have e : pBl x = (b1 || b2 || b3) := by
    have hh : ∀ n : Nat, ((x : Int) == (n : Int)) = (x == n) := by
      intro n
      rw [Bool.eq_iff_iff, beq_iff_eq, beq_iff_eq]
      omega
    unfold pBl
    rw [← h1, ← h2, ← h3, ← hh 32, ← hh 9, ← hh 13]
    rfl
  have E := Aside0.mk e
  clear e
  cases b1
  · cases b2
    · cases b3
      all_goals
        go_enter Tryz.func33, Tryz.ntmps33
        go_wp2
        go_ret
        exact ⟨by rw [E.out]; rfl, rfl⟩
    · go_enter Tryz.func33, Tryz.ntmps33
      go_wp2
      go_ret
      exact ⟨by rw [E.out]; rfl, rfl⟩
  · go_enter Tryz.func33, Tryz.ntmps33
    go_wp2
    go_ret
    exact ⟨by rw [E.out]; rfl, rfl⟩
theorem blank_grows (w : World) : PredGrows Tryz.prog 33 #[] pBl w := by
  intro W x hx _
  refine (blank_calls x W hx).mono ?_
  rintro e w' ⟨rfl, rfl⟩
  exact ⟨rfl, Below.refl _ _⟩
/-- The words as the call hands them out. -/
theorem fields_calls (l : List UInt8) (w : World) (hs : l.length ≤ 100000) :
    Calls Tryz.prog 34 #[.string (baOf l), .func (.func 33) #[] #[]] w fun e w' => ∃ v, e = .returned v ∧ Kd.string.R 9 w' w.heap.size (fun _ => True) v ((dFields l []).map baOf) ∧ Below w.heap.size w w' := by
  refine (Tryz.strings_FieldsFunc_grows 33 #[] (enters_of Tryz.func33 (by kernel_rfl) rfl) pBl (baOf l) w (by show l.length ≤ _; omega) (blank_grows w)).mono ?_
  rw [fields_blank, baOf_data]
  rintro e w' ⟨A, rfl, _, ho, hb⟩
  exact ⟨_, rfl, Kd.R_of_own ho (fun _ _ => trivial), hb⟩
set_option maxHeartbeats 1000000 in
set_option maxRecDepth 100000 in
theorem words_calls (A : Option Addr) (c : Nat) (l : List UInt8) (w : World) (hC : (Kd.int .u8).C w A l.length (bI l)) (hc : l.length ≤ c) (hs : l.length ≤ 100000) :
    Calls Tryz.prog 15 #[.slice A l.length c] w fun e w' => ∃ v, e = .returned v ∧ Kd.string.R 9 w' w.heap.size (fun _ => True) v ((dWords l).map baOf) ∧ Below w.heap.size w w' := by
  have HC := Aside0.mk hC
  have hcv := Kd.C_string (P := Tryz.prog) (c := c) Tryz.underlying46 Tryz.underlying5 Tryz.underlying9 HC.out
  rw [bI_str] at hcv
  by_cases h0 : 0 < l.length
  · obtain ⟨ad, rfl, hx⟩ := Kd.at_int HC.out 0 (by omega) (by omega)
    rw [bI_rd l h0, show (ad.add (0 : Int).toNat) = ad from by cases ad; rfl] at hx
    obtain ⟨b, hb⟩ : ∃ b, b = l.head?.getD 0 := ⟨_, rfl⟩
    rw [← hb] at hx
    have hhd : l.head? = some b := by
      cases l with
      | nil => exact absurd h0 (by decide)
      | cons a r => rw [hb]; rfl
    have hp1 : decide (0 < (l.length : Int)) = true := decide_eq_true (by omega)
    have hp2 : decide (0 < l.length) = true := decide_eq_true h0
    have hp3 : (0 : Int) < (l.length : Int) := by omega
    by_cases h99 : b = 99
    · have hw := Aside0.mk (show dWords l = [] by unfold dWords; rw [if_pos (by rw [hhd, h99])])
      have t1 : ((b.toNat : Int) == 99) = true := by rw [h99]; rfl
      clear hC hhd hb h99 hcv
      go_enter Tryz.func15, Tryz.ntmps15
      go_wp2
      go_ret
      exact ⟨_, rfl, by rw [hw.out]; exact Kd.R_nil _ _ _ _ _, Below.refl _ _⟩
    · have hw := Aside0.mk (show dWords l = dFields l [] by unfold dWords; rw [if_neg (by rw [hhd]; intro e; exact h99 (Option.some.inj e))])
      have t1 : ((b.toNat : Int) == 99) = false := by
        rw [beq_eq_false_iff_ne]
        intro e
        exact h99 (UInt8.toNat_inj.1 (by show b.toNat = 99; omega))
      clear hC hhd hb h99
      go_enter Tryz.func15, Tryz.ntmps15
      go_wp2_with (go_at_call 34; refine (fields_calls l w hs).mono ?_; rintro e w2 ⟨v, rfl, hR, hb⟩; have HR := Aside0.mk hR; have HB := Aside0.mk hb; clear hR hb)
      go_ret
      exact ⟨_, rfl, by rw [hw.out]; exact HR.out, HB.out⟩
  · have hl : l = [] := List.eq_nil_of_length_eq_zero (by omega)
    have hp1 : decide (0 < (l.length : Int)) = false := decide_eq_false (by omega)
    have hp2 : decide (0 < l.length) = false := decide_eq_false h0
    have hw := Aside0.mk (show dWords l = dFields l [] by rw [hl]; rfl)
    clear hC hl h0
    go_enter Tryz.func15, Tryz.ntmps15
    go_wp2_with (go_at_call 34; refine (fields_calls l w hs).mono ?_; rintro e w2 ⟨v, rfl, hR, hb⟩; have HR := Aside0.mk hR; have HB := Aside0.mk hb; clear hR hb)
    go_ret
    exact ⟨_, rfl, by rw [hw.out]; exact HR.out, HB.out⟩
end Go.Proofs.YtigloobbpcnnhaaGreatDoor.PB
end
section
namespace Go.Proofs.YtigloobbpcnnhaaGreatDoor.PB
open Go.RowKit Go.Proofs.YtigloobbpcnnhaaGreatDoorW.PrintWords Go.Proofs.YtigloobbpcnnhaaGreatDoorW.PrintLast Go.Proofs.YtigloobbpcnnhaaGreatDoorW.PrintMore
set_option linter.unusedVariables false
set_option linter.unusedSimpArgs false
/-- Blocks that hold no cells of the types of T are as they were. -/
structure KO (T : List Nat) (w w' : World) : Prop where
  size : w.heap.size ≤ w'.heap.size
  blk : ∀ (i : Nat) (o : Obj), w.heap[i]? = some o → (∀ cs t fr, o = .cells cs t fr → t ∉ T) → w'.heap[i]? = some o
theorem KO.refl (T : List Nat) (w : World) : KO T w w := ⟨Nat.le_refl _, fun _ _ h _ => h⟩
theorem KO.trans {T : List Nat} {a b c : World} (h : KO T a b) (k : KO T b c) : KO T a c := ⟨Nat.le_trans h.size k.size, fun i o hi ht => k.blk i o (h.blk i o hi ht) ht⟩
theorem KO.below {T : List Nat} {a b c : World} (h : KO T a b) (k : Below b.heap.size b c) : KO T a c := h.trans ⟨k.size, fun i o hi _ => (k.block i (Array.getElem?_eq_some_iff.1 hi).1).trans hi⟩
theorem KO.drewN {T : List Nat} {a b : World} (h : KO T a b) (n : Nat) : KO T a (b.drewN n) := ⟨h.size, h.blk⟩
theorem KO.same {T : List Nat} {g t : Nat} {a w w' : World} {cs : Array Value} (hk : KO T a w) (h : SameBut g w w') (hb : w.heap[g]? = some (.cells cs t (0, 0))) (ht : t ∈ T) : KO T a w' :=
  hk.trans ⟨Nat.le_of_eq h.size.symm, fun i o hi ht' => by
    by_cases e : i = g
    · subst e
      rw [hb] at hi
      injection hi with hi
      exact absurd ht (ht' _ _ _ hi.symm)
    · exact (h.blk i e).trans hi⟩
theorem KO.grown {T : List Nat} {a b c : World} (h : KO T a b) {row : Option Nat} (hg : b.grownBy c row) (hr : ∀ k, row = some k → ∃ cells t, b.heap[k]? = some (.cells cells t (0, 0)) ∧ t ∈ T) : KO T a c :=
  h.trans ⟨hg.size, fun i o hi ht => by
    refine (hg.block i (Array.getElem?_eq_some_iff.1 hi).1 ?_).trans hi
    intro e
    obtain ⟨cells, t', h1, h2⟩ := hr i e.symm
    rw [hi] at h1
    injection h1 with h1
    exact ht _ _ _ h1 h2⟩
theorem KO.cells {T : List Nat} {a b : World} (h : KO T a b) {i : Nat} {cs : Array Value} {t : TypeId} (hi : a.heap[i]? = some (.cells cs t (0, 0))) (ht : t ∉ T) : b.heap[i]? = some (.cells cs t (0, 0)) :=
  h.blk i _ hi (fun cs' t' fr e => by injection e with _ e _; subst e; exact ht)
/-- Below block number B all is as it was, but block g. -/
structure But (B g : Nat) (w w' : World) : Prop where
  size : w.heap.size ≤ w'.heap.size
  blk : ∀ k, k < B → k ≠ g → w'.heap[k]? = w.heap[k]?
theorem But.refl (B g : Nat) (w : World) : But B g w w := ⟨Nat.le_refl _, fun _ _ _ => rfl⟩
theorem But.trans {B g : Nat} {a b c : World} (h : But B g a b) (k : But B g b c) : But B g a c := ⟨Nat.le_trans h.size k.size, fun i hi hne => (k.blk i hi hne).trans (h.blk i hi hne)⟩
theorem But.same {B g : Nat} {w a b : World} (h : But B g w a) (k : SameBut g a b) : But B g w b := ⟨Nat.le_trans h.size (Nat.le_of_eq k.size.symm), fun i hi hne => (k.blk i hne).trans (h.blk i hi hne)⟩
theorem But.grown {B g : Nat} {w a b : World} (h : But B g w a) {row : Option Nat} (k : a.grownBy b row) (hB : B ≤ a.heap.size) (hr : ∀ i, row = some i → B ≤ i) : But B g w b :=
  ⟨Nat.le_trans h.size k.size, fun i hi hne => (k.block i (by omega) (fun e => by have := hr i e.symm; omega)).trans (h.blk i hi hne)⟩
theorem But.below {B g : Nat} {w a b : World} (h : But B g w a) (k : Below a.heap.size a b) (hB : B ≤ a.heap.size) : But B g w b := ⟨Nat.le_trans h.size k.size, fun i hi hne => (k.block i (by omega)).trans (h.blk i hi hne)⟩
theorem But.drewN {B g : Nat} {a b : World} (h : But B g a b) (n : Nat) : But B g a (b.drewN n) := ⟨h.size, h.blk⟩
def TP : List Nat := [42, 40, 83]
theorem nsz3 : (Tryz.prog.info? 3).map (·.size) = some 1 := by kernel_rfl
theorem nsz50 : (Tryz.prog.info? 42).map (·.size) = some 1 := by kernel_rfl
theorem info67 : (Tryz.prog.info? 40).map (fun i => (i.zero, i.size, i.bytes)) = some (some (.int .i32 0), 1, 4) := by kernel_rfl
theorem info50 : (Tryz.prog.info? 42).map (fun i => (i.zero, i.size, i.bytes)) = some (some (.slice none 0 0), 1, 24) := by kernel_rfl
abbrev kcs : Kd (List Int) := Kd.slice 40 (Kd.int .i32)
def DP.cells (p : DP) (v1 v3 : Value) : Array Value := #[.int .i64 p.vars, v1, .int .i64 p.want, v3, .int .i64 (p.lits : Nat)]
structure PRS (b1 base g : Nat) (p : DP) (W : World) : Prop where
  ex : ∃ v1 v3, W.heap[g]? = some (.cells (p.cells v1 v3) 83 (0, 0)) ∧ kcs.R 42 W b1 (fun k => some k ≠ v3.ownBlock) v1 p.cls ∧ (Kd.int .i32).R 40 W b1 (fun _ => True) v3 p.opn
  bs : base ≤ g
  bl : base ≤ b1
  top : b1 ≤ W.heap.size
theorem PRS.lt {b1 base g : Nat} {p : DP} {W : World} (h : PRS b1 base g p W) : g < W.heap.size := by
  obtain ⟨_, _, hg, _⟩ := h.ex
  exact blk_lt hg
theorem PRS.below {b1 base g : Nat} {p : DP} {W W' : World} (h : PRS b1 base g p W) (hb : Below W.heap.size W W') : PRS b1 base g p W' := by
  obtain ⟨v1, v3, hg, h1, h3⟩ := h.ex
  exact ⟨⟨v1, v3, blk_below hg hb, Kd.R_below h1 hb, Kd.R_below h3 hb⟩, h.bs, h.bl, Nat.le_trans h.top hb.size⟩
theorem PRS.drewN {b1 base g : Nat} {p : DP} {W : World} (h : PRS b1 base g p W) (n : Nat) : PRS b1 base g p (W.drewN n) := h.below (pw_below_drewN (Below.refl _ _) n)
theorem PRS.other {b1 base g : Nat} {p : DP} {W W' : World} {g2 t : Nat} {cs : Array Value} (h : PRS b1 base g p W) (hs : SameBut g2 W W') (hb : W.heap[g2]? = some (.cells cs t (0, 0))) (ht : t ≠ 42 ∧ t ≠ 40 ∧ t ≠ 83) : PRS b1 base g p W' := by
  obtain ⟨v1, v3, hg, h1, h3⟩ := h.ex
  refine ⟨⟨v1, v3, (hs.blk g (blk_ne hg hb (fun e => ht.2.2 e.symm))).trans hg, hs.Rt h1 hb ?_, hs.Rt h3 hb ?_⟩, h.bs, h.bl, by rw [hs.size]; exact h.top⟩
  · intro q hq
    simp only [Kd.slice, Kd.int, Kd.scalar, List.mem_cons, List.not_mem_nil, or_false] at hq
    rcases hq with rfl | rfl
    · exact fun e => ht.1 e.symm
    · exact fun e => ht.2.1 e.symm
  · intro q hq
    simp only [Kd.int, Kd.scalar, List.mem_cons, List.not_mem_nil, or_false] at hq
    subst hq
    exact fun e => ht.2.1 e.symm
theorem wrap32_lit {v x : Int} (h0 : 0 ≤ v) (h : v ≤ 1048576) (h1 : -v ≤ x) (h2 : x ≤ v) : wrap32 x = x := by unfold wrap32; omega
/-- What a call has done. -/
def PPost (b1 base g : Nat) (r : Int × DP) (W : World) (e : Ending) (w' : World) : Prop := e = .returned (.int .i64 r.1) ∧ PRS b1 base g r.2 w' ∧ Below base W w' ∧ KO TP W w' ∧ But b1 g W w'
def word.T12 : Bool × List (List Nat × List Nat) := (true, [([], []), ([], []), ([1], [1]), ([2], [2]), ([3], [3]), ([4], [4]), ([], []), ([6], [6]), ([7], [7]), ([8], [8]), ([9], [9]), ([5, 10], [5, 10]), ([0, 0, 1, 2, 3, 4, 5, 6, 7, 8, 9, 10, 11], [0]), ([12, 0, 1, 2, 3, 4, 5, 6, 7, 8, 9, 10, 11], [12]), ([13, 0, 1, 2, 3, 4, 5, 6, 7, 8, 9, 10, 11], [13]), ([14, 11, 11, 0, 1, 2, 3, 4, 5, 6, 7, 8, 9, 10, 11], [11, 14])])
def word.B12 : List Nat := [0, 0, 2, 6, 14, 30, 0, 64, 192, 448, 960, 2046, 4095, 8191, 16383, 32767]
theorem word.tab12 : rtab .any (opsOf Tryz.f41 12) = word.T12 := by kernel_rfl
theorem word.bits12 : waitsOk word.T12.2 word.B12 = true := by kernel_rfl
theorem dWord_of (p : DP) (x : List UInt8) (n : Int) (is fits : Bool) (h : dNum x true p.vars = (n, is, fits)) : dWord p x =
    if is = false then (21, p) else if (p.cls.length : Int) = p.want then (24, p) else if fits = false ∨ (n ≠ 0 ∧ p.lits = 16777216) then (22, p)
    else if n = 0 then (0, { p with cls := p.cls ++ [p.opn], opn := [] }) else (0, { p with opn := p.opn ++ [n], lits := p.lits + 1 }) := by
  unfold dWord
  rw [h]
set_option maxHeartbeats 2000000 in
set_option maxRecDepth 100000 in
theorem word_calls (b1 base g : Nat) (p : DP) (x : List UInt8) (W : World) (hp : PRS b1 base g p W) (hi : DInv p) (hx : x.length ≤ 100000) (hlt : LT base W) :
    Calls Tryz.prog 41 #[.pointer (some ⟨g, 0, none⟩), .string (baOf x)] W (PPost b1 base g (dWord p x) W) := by
  have h0 := hi.v0
  have h1 := hi.v1
  have HLT := Aside0.mk hlt
  have HP := Aside0.mk hp
  have HBW := Aside0.mk (show base ≤ W.heap.size from Nat.le_trans hp.bs (Nat.le_of_lt hp.lt))
  have HCL := Aside0.mk (show p.cls.length ≤ 1048576 by have := hi.c; have := hi.w1; omega)
  have hl0 : p.lits ≤ 16777216 := hi.l
  have HOL := Aside0.mk (show p.opn.length ≤ 16777216 by have := hi.t; omega)
  obtain ⟨v1, v3, hg, hc, ho⟩ := hp.ex
  obtain ⟨A1, c1, rfl⟩ := Kd.R_slice hc
  obtain ⟨A3, c3, rfl⟩ := Kd.R_slice ho
  have HG := Aside0.mk hg
  have HC := Aside0.mk hc
  have HO := Aside0.mk ho
  have hc0 := (blk_cell hg 0).trans (show _ = some (Value.int .i64 p.vars) from rfl)
  have hc1 := (blk_cell hg 1).trans (show _ = some (Value.slice A1 p.cls.length c1) from rfl)
  have hc2 := (blk_cell hg 2).trans (show _ = some (Value.int .i64 p.want) from rfl)
  have hc3 := (blk_cell hg 3).trans (show _ = some (Value.slice A3 p.opn.length c3) from rfl)
  have hc4 := (blk_cell hg 4).trans (show _ = some (Value.int .i64 (p.lits : Nat)) from rfl)
  obtain ⟨n, is, fits, hn⟩ : ∃ n is fits, dNum x true p.vars = (n, is, fits) := ⟨_, _, _, rfl⟩
  have hw := dWord_of p x n is fits hn
  have hr := dNum_range x true p.vars h0
  rw [hn] at hr
  have HN := Aside0.mk (show dNum (baOf x).data.toList true p.vars = (n, is, fits) from hn)
  have hr1 : -p.vars ≤ n := hr.2.1
  have hr2 : n ≤ p.vars := hr.2.2.1
  clear hlt hp hg hc ho hn hr hi
  cases is with
  | false =>
    have HW := Aside0.mk (show dWord p x = (21, p) by rw [hw, if_pos rfl])
    clear hw
    go_enter Tryz.func41, Tryz.ntmps41
    go_wp2_with fail
    refine (number_calls (baOf x) true p.vars h0 (by omega) hx W (HLT.out.up HBW.out)).mono ?_
    rw [HN.out]
    rintro e w2 ⟨rfl, hb⟩
    have HB := Aside0.mk hb
    have HG2 := Aside0.mk (blk_below HG.out hb)
    have HP2 := Aside0.mk (HP.out.below hb)
    have HC2 := Aside0.mk (Kd.R_below HC.out hb)
    have HO2 := Aside0.mk (Kd.R_below HO.out hb)
    clear hb hc0 hc1 hc2 hc3 hc4
    have hc1 := (blk_cell HG2.out 1).trans (show _ = some (Value.slice A1 p.cls.length c1) from rfl)
    have hc2 := (blk_cell HG2.out 2).trans (show _ = some (Value.int .i64 p.want) from rfl)
    have hc3 := (blk_cell HG2.out 3).trans (show _ = some (Value.slice A3 p.opn.length c3) from rfl)
    have hc4 := (blk_cell HG2.out 4).trans (show _ = some (Value.int .i64 (p.lits : Nat)) from rfl)
    have hf1 := blk_frozen HG2.out 1
    have hf3 := blk_frozen HG2.out 3
    have hf4 := blk_frozen HG2.out 4
    go_wp2
    go_ret
    rw [HW.out]
    exact ⟨rfl, HP2.out, HB.out.mono HBW.out, (KO.refl TP W).below HB.out, (But.refl b1 g W).below HB.out HP.out.top⟩
  | true =>
    by_cases hcw : (p.cls.length : Int) = p.want
    · have HW := Aside0.mk (show dWord p x = (24, p) by rw [hw, if_neg (by decide), if_pos hcw])
      have t1 : ((p.cls.length : Int) == p.want) = true := beq_iff_eq.2 hcw
      clear hw hcw
      go_enter Tryz.func41, Tryz.ntmps41
      go_wp2_with fail
      refine (number_calls (baOf x) true p.vars h0 (by omega) hx W (HLT.out.up HBW.out)).mono ?_
      rw [HN.out]
      rintro e w2 ⟨rfl, hb⟩
      have HB := Aside0.mk hb
      have HG2 := Aside0.mk (blk_below HG.out hb)
      have HP2 := Aside0.mk (HP.out.below hb)
      have HC2 := Aside0.mk (Kd.R_below HC.out hb)
      have HO2 := Aside0.mk (Kd.R_below HO.out hb)
      clear hb hc0 hc1 hc2 hc3 hc4
      have hc1 := (blk_cell HG2.out 1).trans (show _ = some (Value.slice A1 p.cls.length c1) from rfl)
      have hc2 := (blk_cell HG2.out 2).trans (show _ = some (Value.int .i64 p.want) from rfl)
      have hc3 := (blk_cell HG2.out 3).trans (show _ = some (Value.slice A3 p.opn.length c3) from rfl)
      have hc4 := (blk_cell HG2.out 4).trans (show _ = some (Value.int .i64 (p.lits : Nat)) from rfl)
      have hf1 := blk_frozen HG2.out 1
      have hf3 := blk_frozen HG2.out 3
      have hf4 := blk_frozen HG2.out 4
      go_wp2
      go_quiet (fail)
      go_wp2
      go_ret
      rw [HW.out]
      exact ⟨rfl, HP2.out.drewN _, (HB.out.mono HBW.out).trans (pw_below_drewN (Below.refl _ _) _), ((KO.refl TP W).below HB.out).drewN _, ((But.refl b1 g W).below HB.out HP.out.top).drewN _⟩
    · have t1 : ((p.cls.length : Int) == p.want) = false := beq_eq_false_iff_ne.2 hcw
      rw [if_neg (by decide), if_neg hcw] at hw
      clear hcw
      cases fits with
      | false =>
        have HW := Aside0.mk (show dWord p x = (22, p) by rw [hw, if_pos (.inl rfl)])
        clear hw
        go_enter Tryz.func41, Tryz.ntmps41
        go_wp2_with fail
        refine (number_calls (baOf x) true p.vars h0 (by omega) hx W (HLT.out.up HBW.out)).mono ?_
        rw [HN.out]
        rintro e w2 ⟨rfl, hb⟩
        have HB := Aside0.mk hb
        have HG2 := Aside0.mk (blk_below HG.out hb)
        have HP2 := Aside0.mk (HP.out.below hb)
        have HC2 := Aside0.mk (Kd.R_below HC.out hb)
        have HO2 := Aside0.mk (Kd.R_below HO.out hb)
        clear hb hc0 hc1 hc2 hc3 hc4
        have hc1 := (blk_cell HG2.out 1).trans (show _ = some (Value.slice A1 p.cls.length c1) from rfl)
        have hc2 := (blk_cell HG2.out 2).trans (show _ = some (Value.int .i64 p.want) from rfl)
        have hc3 := (blk_cell HG2.out 3).trans (show _ = some (Value.slice A3 p.opn.length c3) from rfl)
        have hc4 := (blk_cell HG2.out 4).trans (show _ = some (Value.int .i64 (p.lits : Nat)) from rfl)
        have hf1 := blk_frozen HG2.out 1
        have hf3 := blk_frozen HG2.out 3
        have hf4 := blk_frozen HG2.out 4
        go_wp2
        go_quiet (fail)
        go_wp2
        go_ret
        rw [HW.out]
        exact ⟨rfl, HP2.out.drewN _, (HB.out.mono HBW.out).trans (pw_below_drewN (Below.refl _ _) _), ((KO.refl TP W).below HB.out).drewN _, ((But.refl b1 g W).below HB.out HP.out.top).drewN _⟩
      | true =>
        by_cases hz : n = 0
        · subst hz
          have HW := Aside0.mk (show dWord p x = (0, { p with cls := p.cls ++ [p.opn], opn := [] }) by rw [hw, if_neg (by simp), if_pos rfl])
          clear hw
          obtain ⟨LN, hln⟩ : ∃ L, L = (p.cls ++ [p.opn]).length := ⟨_, rfl⟩
          have HLN := Aside0.mk hln
          clear hln
          go_enter Tryz.func41, Tryz.ntmps41
          go_wp2_with fail
          refine (number_calls (baOf x) true p.vars h0 (by omega) hx W (HLT.out.up HBW.out)).mono ?_
          rw [HN.out]
          rintro e w2 ⟨rfl, hb⟩
          have HB := Aside0.mk hb
          have HG2 := Aside0.mk (blk_below HG.out hb)
          have HP2 := Aside0.mk (HP.out.below hb)
          have HC2 := Aside0.mk (Kd.R_below HC.out hb)
          have HO2 := Aside0.mk (Kd.R_below HO.out hb)
          clear hb hc0 hc1 hc2 hc3 hc4
          have hc1 := (blk_cell HG2.out 1).trans (show _ = some (Value.slice A1 p.cls.length c1) from rfl)
          have hc2 := (blk_cell HG2.out 2).trans (show _ = some (Value.int .i64 p.want) from rfl)
          have hc3 := (blk_cell HG2.out 3).trans (show _ = some (Value.slice A3 p.opn.length c3) from rfl)
          have hc4 := (blk_cell HG2.out 4).trans (show _ = some (Value.int .i64 (p.lits : Nat)) from rfl)
          have hf1 := blk_frozen HG2.out 1
          have hf3 := blk_frozen HG2.out 3
          have hf4 := blk_frozen HG2.out 4
          go_upto_region 6 with fail
          go_quiet (fail)
          go_upto_region 12 with fail
          have HB3 := Aside0.mk (show Below base W (w2.drewN nq) from (HB.out.mono HBW.out).trans (pw_below_drewN (Below.refl _ _) _))
          have HG3 := Aside0.mk (blk_drewN HG2.out nq)
          have HC3 := Aside0.mk (Kd.R_drewN HC2.out nq)
          have HO3 := Aside0.mk (Kd.R_drewN HO2.out nq)
          have HK3 := Aside0.mk (((KO.refl TP W).below HB.out).drewN nq)
          have HT3 := Aside0.mk (((But.refl b1 g W).below HB.out HP.out.top).drewN nq)
          have HS3 := Aside0.mk (show b1 ≤ (w2.drewN nq).heap.size from Nat.le_trans HP.out.top HB.out.size)
          clear hc1 hc2 hc3 hc4 hf1 hf3 hf4
          generalize w2.drewN nq = w3 at HB3 HG3 HC3 HO3 HK3 HT3 HS3 ⊢
          refine start_ (n := 16) (S := fun w' => w'.heap[g]? = some (.cells (p.cells (.slice A1 p.cls.length c1) (.slice A3 p.opn.length c3)) 83 (0, 0))) (ds := [15]) #[false, false, false, false, false, false, false, false, false, false, false, false, false, false, false, false] (by kernel_rfl) rfl rfl (blk_drew HG3.out) (fun hHeld => ?_); refine with_tabW word.tab12 word.bits12 (fun HT_ HW_ => ?_)
          have HB4 := Aside0.mk (below_drew1 HB3.out)
          have HG4 := Aside0.mk (blk_drew HG3.out)
          have HC4 := Aside0.mk (Kd.R_drew HC3.out)
          have HO4 := Aside0.mk (Kd.R_drew HO3.out)
          have HK4 := Aside0.mk (HK3.out.drewN 1)
          have HT4 := Aside0.mk (HT3.out.drewN 1)
          have HS4 := Aside0.mk (show b1 ≤ w3.drew.heap.size from HS3.out)
          have e1 : w3.drewN 1 = w3.drew := rfl
          rw [e1] at HK4 HT4
          clear e1
          generalize w3.drew = w4 at HB4 HG4 HC4 HO4 HK4 HT4 HS4 hHeld ⊢
          refine pure_ (i := 0) (N := some 67) (v := ?_) (a' := ?_) #[true, false, false, false, false, false, false, false, false, false, false, false, false, false, false, false] rfl rfl (any_of HT_.out (by kernel_rfl)) (fun _ _ _ h => h) (Or.inl ⟨by rfl, ?_⟩) ?_ ?_
          rotate_left
          · intro w'
            go_simp
            with_reducible rfl
          rotate_left
          · simp only [Act.put, List.setIfInBounds_toArray, List.set_cons_zero, List.set_cons_succ, i64_w, i32_w]
            rfl
          refine pure_ (i := 1) (N := some 68) (v := ?_) (a' := ?_) #[true, true, false, false, false, false, false, false, false, false, false, false, false, false, false, false] rfl rfl (any_of HT_.out (by kernel_rfl)) (fun _ _ _ h => h) (Or.inl ⟨by rfl, ?_⟩) ?_ ?_
          rotate_left
          · intro w'
            go_simp
            with_reducible rfl
          rotate_left
          · simp only [Act.put, List.setIfInBounds_toArray, List.set_cons_zero, List.set_cons_succ, i64_w, i32_w]
            rfl
          refine pure_ (i := 2) (N := some 69) (v := ?_) (a' := ?_) #[true, true, true, false, false, false, false, false, false, false, false, false, false, false, false, false] rfl rfl (any_of HT_.out (by kernel_rfl)) (fun _ _ _ h => h) (Or.inl ⟨by rfl, ?_⟩) ?_ ?_
          rotate_left
          · intro w'
            go_simp
            with_reducible rfl
          rotate_left
          · simp only [Act.put, List.setIfInBounds_toArray, List.set_cons_zero, List.set_cons_succ, i64_w, i32_w]
            rfl
          refine pure_ (i := 3) (N := some 70) (v := ?_) (a' := ?_) #[true, true, true, true, false, false, false, false, false, false, false, false, false, false, false, false] rfl rfl (any_of HT_.out (by kernel_rfl)) (fun _ _ _ h => h) (Or.inl ⟨by rfl, ?_⟩) ?_ ?_
          rotate_left
          · intro w'
            go_simp
            with_reducible rfl
          rotate_left
          · simp only [Act.put, List.setIfInBounds_toArray, List.set_cons_zero, List.set_cons_succ, i64_w, i32_w]
            rfl
          refine pure_ (i := 4) (N := some 71) (v := ?_) (a' := ?_) #[true, true, true, true, true, false, false, false, false, false, false, false, false, false, false, false] rfl rfl (any_of HT_.out (by kernel_rfl)) (fun _ _ _ h => h) (Or.inl ⟨by rfl, ?_⟩) ?_ ?_
          rotate_left
          · intro w'
            go_simp
            with_reducible rfl
          rotate_left
          · simp only [Act.put, List.setIfInBounds_toArray, List.set_cons_zero, List.set_cons_succ, i64_w, i32_w]
            rfl
          refine take_ (i := 5) (N := some 72) (v := ?_) (a' := ?_) #[true, true, true, true, true, true, false, false, false, false, false, false, false, false, false, false] rfl rfl (take_ofW HT_.out HW_.out (by kernel_rfl)) (fun _ _ _ h => h) (Or.inl ⟨by rfl, ?_⟩) hHeld ?_ ?_
          rotate_left
          · rintro w' hS
            have hcz1 := (blk_cell hS 1).trans (show _ = some (Value.slice A1 p.cls.length c1) from rfl)
            go_simp
            with_reducible rfl
          rotate_left
          · simp only [Act.put, List.setIfInBounds_toArray, List.set_cons_zero, List.set_cons_succ, i64_w, i32_w]
            rfl
          refine pure_ (i := 6) (N := some 73) (v := ?_) (a' := ?_) #[true, true, true, true, true, true, true, false, false, false, false, false, false, false, false, false] rfl rfl (any_of HT_.out (by kernel_rfl)) (fun _ _ _ h => h) (Or.inl ⟨by rfl, ?_⟩) ?_ ?_
          rotate_left
          · intro w'
            go_simp
            with_reducible rfl
          rotate_left
          · simp only [Act.put, List.setIfInBounds_toArray, List.set_cons_zero, List.set_cons_succ, i64_w, i32_w]
            rfl
          refine pure_ (i := 7) (N := some 74) (v := ?_) (a' := ?_) #[true, true, true, true, true, true, true, true, false, false, false, false, false, false, false, false] rfl rfl (any_of HT_.out (by kernel_rfl)) (fun _ _ _ h => h) (Or.inl ⟨by rfl, ?_⟩) ?_ ?_
          rotate_left
          · intro w'
            go_simp
            with_reducible rfl
          rotate_left
          · simp only [Act.put, List.setIfInBounds_toArray, List.set_cons_zero, List.set_cons_succ, i64_w, i32_w]
            rfl
          refine pure_ (i := 8) (N := some 75) (v := ?_) (a' := ?_) #[true, true, true, true, true, true, true, true, true, false, false, false, false, false, false, false] rfl rfl (any_of HT_.out (by kernel_rfl)) (fun _ _ _ h => h) (Or.inl ⟨by rfl, ?_⟩) ?_ ?_
          rotate_left
          · intro w'
            go_simp
            with_reducible rfl
          rotate_left
          · simp only [Act.put, List.setIfInBounds_toArray, List.set_cons_zero, List.set_cons_succ, i64_w, i32_w]
            rfl
          refine take_ (i := 9) (N := some 76) (v := ?_) (a' := ?_) #[true, true, true, true, true, true, true, true, true, true, false, false, false, false, false, false] rfl rfl (take_ofW HT_.out HW_.out (by kernel_rfl)) (fun _ _ _ h => h) (Or.inl ⟨by rfl, ?_⟩) hHeld ?_ ?_
          rotate_left
          · rintro w' hS
            have hcz1 := (blk_cell hS 3).trans (show _ = some (Value.slice A3 p.opn.length c3) from rfl)
            go_simp
            with_reducible rfl
          rotate_left
          · simp only [Act.put, List.setIfInBounds_toArray, List.set_cons_zero, List.set_cons_succ, i64_w, i32_w]
            rfl
          refine one_ (i := 10) (N := some 77) #[true, true, true, true, true, true, true, true, true, true, true, false, false, false, false, false] rfl rfl (one_of HT_.out (by kernel_rfl)) (by decide) (fun K hK => ?_)
          refine value_ (w1 := ?_) (v := ?_) (by rfl) rfl ?_ ?_
          rotate_left 2
          · go_simp
            constructor
            · rfl
            · rfl
          refine hK.out _ _ (blk_alloc HG4.out _) (fun hHeld => ?_)
          clear hK K
          refine norm_ (a' := ?_) ?_ ?_
          rotate_left
          · show Act.put _ (some 77) _ = _
            simp only [Act.put, List.setIfInBounds_toArray, List.set_cons_zero, List.set_cons_succ, i64_w, i32_w]
            rfl
          refine one_ (i := 11) (N := some 78) #[true, true, true, true, true, true, true, true, true, true, true, true, false, false, false, false] rfl rfl (one_of HT_.out (by kernel_rfl)) (by decide) (fun K hK => ?_)
          refine Kd.R_append_step kcs (w0 := w4) b1 (by rfl) (.tmp 72) (.tmp 77) 33 42 (.slice none 0 0) 24 rfl Tryz.underlying33 info50 rfl (by decide) (by omega) (.slice A1 p.cls.length c1) p.cls p.opn [.slice A3 p.opn.length c3] (fun _ => True) (fun k => some k ≠ (Value.slice A1 p.cls.length c1).ownBlock) rfl rfl ?aP (fun k hk => ⟨trivial, hk⟩) ?aF ?aO (Below.refl _ _) HS4.out ?aL ?_
          (case aP => exact ⟨_, rfl, Kd.R_mono (Kd.R_apart' HO4.out (Kd.R_typed HC4.out) (by decide)) (fun k hk => hk.2)⟩)
          (case aF => exact (fun _ _ => trivial))
          (case aO => exact Kd.R_mono HC4.out (fun _ _ => trivial))
          (case aL => have := HCL.out; omega)
          intro v9 w9 ho hb hg hat
          obtain ⟨A9, c9, e9⟩ := Kd.R_slice ho
          rw [← HLN.out] at e9
          subst e9
          have HR9 := Aside0.mk ho
          have HB9 := Aside0.mk (HB4.out.trans (hb.mono HP.out.bl))
          have HS9 := Aside0.mk (show b1 ≤ w9.heap.size from Nat.le_trans HS4.out hb.size)
          have HG9 := Aside0.mk (blk_grown HG4.out hg (Kd.R_ne HC4.out HG4.out (by decide)))
          have HT9 := Aside0.mk (HT4.out.grown hg HS4.out (fun k hk => Kd.R_base HC4.out k hk))
          have HK9 := Aside0.mk (HK4.out.grown hg (fun k hk => by obtain ⟨cells, hc⟩ := Kd.R_typed HC4.out k hk; exact ⟨cells, 42, hc, by decide⟩))
          clear ho hb hg hat
          refine hK.out _ _ HG9.out (fun hHeld => ?_)
          clear hK K
          refine norm_ (a' := ?_) ?_ ?_
          rotate_left
          · show Act.put _ (some 78) _ = _
            simp only [Act.put, List.setIfInBounds_toArray, List.set_cons_zero, List.set_cons_succ, i64_w, i32_w]
            rfl
          refine pure_ (i := 12) (N := some 79) (v := ?_) (a' := ?_) #[true, true, true, true, true, true, true, true, true, true, true, true, true, false, false, false] rfl rfl (any_of HT_.out (by kernel_rfl)) (fun _ _ _ h => h) (Or.inl ⟨by rfl, ?_⟩) ?_ ?_
          rotate_left
          · intro w'
            go_simp
            with_reducible rfl
          rotate_left
          · simp only [Act.put, List.setIfInBounds_toArray, List.set_cons_zero, List.set_cons_succ, i64_w, i32_w]
            rfl
          refine pure_ (i := 13) (N := some 80) (v := ?_) (a' := ?_) #[true, true, true, true, true, true, true, true, true, true, true, true, true, true, false, false] rfl rfl (any_of HT_.out (by kernel_rfl)) (fun _ _ _ h => h) (Or.inl ⟨by rfl, ?_⟩) ?_ ?_
          rotate_left
          · intro w'
            go_simp
            with_reducible rfl
          rotate_left
          · simp only [Act.put, List.setIfInBounds_toArray, List.set_cons_zero, List.set_cons_succ, i64_w, i32_w]
            rfl
          refine pure_ (i := 14) (N := some 81) (v := ?_) (a' := ?_) #[true, true, true, true, true, true, true, true, true, true, true, true, true, true, true, false] rfl rfl (any_of HT_.out (by kernel_rfl)) (fun _ _ _ h => h) (Or.inl ⟨by rfl, ?_⟩) ?_ ?_
          rotate_left
          · intro w'
            go_simp
            with_reducible rfl
          rotate_left
          · simp only [Act.put, List.setIfInBounds_toArray, List.set_cons_zero, List.set_cons_succ, i64_w, i32_w]
            rfl
          refine last_ (i := 15) (N := none) #[true, true, true, true, true, true, true, true, true, true, true, true, true, true, true, true] rfl rfl (one_of HT_.out (by kernel_rfl)) (by decide) (fun K hK => ?_)
          have hs1 := (blk_cell HG9.out 1).trans (show _ = some (Value.slice A1 p.cls.length c1) from rfl)
          have hfs1 := blk_frozen HG9.out 1
          refine skip_ (w1 := ?_) (by rfl) rfl ?_ ?_
          rotate_left
          · go_simp
            rfl
          have HG10 := Aside0.mk (show (w9.setCell ⟨g, 1, none⟩ (.slice A9 LN c9)).heap[g]? = some (.cells #[.int .i64 p.vars, .slice A9 LN c9, .int .i64 p.want, .slice A3 p.opn.length c3, .int .i64 (p.lits : Nat)] 83 (0, 0)) from blk_put HG9.out 1 _ rfl)
          have HSB10 := Aside0.mk (show SameBut g w9 (w9.setCell ⟨g, 1, none⟩ (.slice A9 LN c9)) from ⟨rfl, rfl, rfl, by simp [World.setCell], fun k hk => Below.heap_setCell w9 ⟨g, 1, none⟩ _ k hk⟩)
          clear hs1 hfs1
          refine hK.out _ _ ?_
          clear hK K
          generalize w9.setCell ⟨g, 1, none⟩ (.slice A9 LN c9) = w10 at HG10 HSB10 ⊢
          refine done_ (done_of HT_.out (by kernel_rfl)) ?_
          go_wp2_with ((with_reducible refine gate_store (t := 42) (p := 84) rfl ?_); refine store_one 42 84 (.const (.slice none 0 0)) rfl rfl rfl (.slice none 0 0) #[.int .i64 p.vars, .slice A9 LN c9, .int .i64 p.want, .slice none 0 0, .int .i64 (p.lits : Nat)] rfl rfl HG10.out rfl nsz50 (show 3 + 1 ≤ 5 by omega) rfl rfl ?_; intro w11 hw hsb; have HG11 := Aside0.mk hw; have HSB11 := Aside0.mk hsb; clear hw hsb)
          go_ret
          rw [HW.out]
          refine ⟨rfl, ⟨⟨_, _, HG11.out, ?_, Kd.R_nil _ _ _ _ _⟩, HP2.out.bs, HP2.out.bl, by rw [HSB11.out.size, HSB10.out.size]; exact HS9.out⟩, HSB11.out.below (HSB10.out.below HB9.out HP2.out.bs) HP2.out.bs, (HK9.out.same HSB10.out HG9.out (by decide)).same HSB11.out HG10.out (by decide), (HT9.out.same HSB10.out).same HSB11.out⟩
          exact Kd.R_mono (HSB11.out.Rt (HSB10.out.Rt HR9.out HG9.out (by decide)) HG10.out (by decide)) (fun k _ => by simp [Value.ownBlock])
        · by_cases hm : p.lits = 16777216
          · have HW := Aside0.mk (show dWord p x = (22, p) by rw [hw, if_pos (.inr ⟨hz, hm⟩)])
            have t2 : (n == 0) = false := beq_eq_false_iff_ne.2 hz
            have t2b : (n != 0) = true := by rw [bne, t2]; rfl
            have t3 : ((p.lits : Int) == 16777216) = true := beq_iff_eq.2 (by omega)
            clear hw hz hm
            go_enter Tryz.func41, Tryz.ntmps41
            go_wp2_with fail
            refine (number_calls (baOf x) true p.vars h0 (by omega) hx W (HLT.out.up HBW.out)).mono ?_
            rw [HN.out]
            rintro e w2 ⟨rfl, hb⟩
            have HB := Aside0.mk hb
            have HG2 := Aside0.mk (blk_below HG.out hb)
            have HP2 := Aside0.mk (HP.out.below hb)
            have HC2 := Aside0.mk (Kd.R_below HC.out hb)
            have HO2 := Aside0.mk (Kd.R_below HO.out hb)
            clear hb hc0 hc1 hc2 hc3 hc4
            have hc1 := (blk_cell HG2.out 1).trans (show _ = some (Value.slice A1 p.cls.length c1) from rfl)
            have hc2 := (blk_cell HG2.out 2).trans (show _ = some (Value.int .i64 p.want) from rfl)
            have hc3 := (blk_cell HG2.out 3).trans (show _ = some (Value.slice A3 p.opn.length c3) from rfl)
            have hc4 := (blk_cell HG2.out 4).trans (show _ = some (Value.int .i64 (p.lits : Nat)) from rfl)
            have hf1 := blk_frozen HG2.out 1
            have hf3 := blk_frozen HG2.out 3
            have hf4 := blk_frozen HG2.out 4
            go_wp2
            go_quiet (fail)
            go_wp2
            go_ret
            rw [HW.out]
            exact ⟨rfl, HP2.out.drewN _, (HB.out.mono HBW.out).trans (pw_below_drewN (Below.refl _ _) _), ((KO.refl TP W).below HB.out).drewN _, ((But.refl b1 g W).below HB.out HP.out.top).drewN _⟩
          · have HW := Aside0.mk (show dWord p x = (0, { p with opn := p.opn ++ [n], lits := p.lits + 1 }) by rw [hw, if_neg (by rintro (h | ⟨_, h⟩); cases h; exact hm h), if_neg hz])
            have t2 : (n == 0) = false := beq_eq_false_iff_ne.2 hz
            have t2b : (n != 0) = true := by rw [bne, t2]; rfl
            have t3 : ((p.lits : Int) == 16777216) = false := beq_eq_false_iff_ne.2 (by omega)
            have hwr := wrap32_lit h0 h1 hr1 hr2
            have hll : (p.lits : Int) + 1 = ((p.lits + 1 : Nat) : Int) := by omega
            have HLL := Aside0.mk hll
            have hl1 : p.lits + 1 ≤ 16777216 := by omega
            clear hw hz hm hll
            go_enter Tryz.func41, Tryz.ntmps41
            go_wp2_with fail
            refine (number_calls (baOf x) true p.vars h0 (by omega) hx W (HLT.out.up HBW.out)).mono ?_
            rw [HN.out]
            rintro e w2 ⟨rfl, hb⟩
            have HB := Aside0.mk hb
            have HG2 := Aside0.mk (blk_below HG.out hb)
            have HP2 := Aside0.mk (HP.out.below hb)
            have HC2 := Aside0.mk (Kd.R_below HC.out hb)
            have HO2 := Aside0.mk (Kd.R_below HO.out hb)
            clear hb hc0 hc1 hc2 hc3 hc4
            have hc1 := (blk_cell HG2.out 1).trans (show _ = some (Value.slice A1 p.cls.length c1) from rfl)
            have hc2 := (blk_cell HG2.out 2).trans (show _ = some (Value.int .i64 p.want) from rfl)
            have hc3 := (blk_cell HG2.out 3).trans (show _ = some (Value.slice A3 p.opn.length c3) from rfl)
            have hc4 := (blk_cell HG2.out 4).trans (show _ = some (Value.int .i64 (p.lits : Nat)) from rfl)
            have hf1 := blk_frozen HG2.out 1
            have hf3 := blk_frozen HG2.out 3
            have hf4 := blk_frozen HG2.out 4
            go_upto_region 6 with fail
            go_quiet (fail)
            go_upto_region 2 with fail
            have HB3 := Aside0.mk (show Below base W (w2.drewN nq) from (HB.out.mono HBW.out).trans (pw_below_drewN (Below.refl _ _) _))
            have HG3 := Aside0.mk (blk_drewN HG2.out nq)
            have HC3 := Aside0.mk (Kd.R_drewN HC2.out nq)
            have HO3 := Aside0.mk (Kd.R_drewN HO2.out nq)
            have HK3 := Aside0.mk (((KO.refl TP W).below HB.out).drewN nq)
            have HT3 := Aside0.mk (((But.refl b1 g W).below HB.out HP.out.top).drewN nq)
            have HS3 := Aside0.mk (show b1 ≤ (w2.drewN nq).heap.size from Nat.le_trans HP.out.top HB.out.size)
            clear hc1 hc2 hc3 hc4 hf1 hf3 hf4
            generalize w2.drewN nq = w3 at HB3 HG3 HC3 HO3 HK3 HT3 HS3 ⊢
            have hc3 := (blk_cell HG3.out 3).trans (show _ = some (Value.slice A3 p.opn.length c3) from rfl)
            go_wp2_with (first | ((with_reducible refine gate_builtin (b := .append) (xs := #[.tmp 23, .tmp 26]) rfl ?_); at_builtin; refine Kd.R_append (Kd.int .i32) (w0 := w3) b1 rfl (.tmp 23) (.tmp 26) 42 40 (.int .i32 0) 4 rfl Tryz.underlying42 info67 rfl (by decide) (by omega) _ p.opn n [.int .i32 n] (fun _ => True) (fun _ => False) rfl rfl ?aP (fun _ hk => hk.elim) (fun _ _ => trivial) HO3.out (Below.refl _ _) HS3.out ?aL ?_; (case aP => exact rfl); (case aL => have := HOL.out; omega); intro v9 w9 ho hb hg1 hat; obtain ⟨A9, c9, rfl⟩ := Kd.R_slice ho; have HG9 := Aside0.mk (blk_grown HG3.out hg1 (Kd.R_ne HO3.out HG3.out (by decide))); have HR9 := Aside0.mk ho; have HB9 := Aside0.mk (HB3.out.trans (hb.mono HP.out.bl)); have HS9 := Aside0.mk (show b1 ≤ w9.heap.size from Nat.le_trans HS3.out hb.size); have HT9 := Aside0.mk (HT3.out.grown hg1 HS3.out (fun k hk => Kd.R_base HO3.out k hk)); have HK9 := Aside0.mk (HK3.out.grown hg1 (fun k hk => by obtain ⟨cells, hc⟩ := Kd.R_typed HO3.out k hk; exact ⟨cells, 40, hc, by decide⟩)); have HC9 := Aside0.mk (Kd.R_mono (Kd.R_after (Kd.R_mono HC3.out (fun k hk => ⟨trivial, hk⟩) : kcs.R 42 w3 b1 (fun k => True ∧ some k ≠ (Value.slice A3 p.opn.length c3).ownBlock) _ p.cls) hg1 hat) (fun k hk => hk.2)); clear ho hb hg1 hat hc3) | ((with_reducible refine gate_store (t := 42) (p := 29) rfl ?_); refine store_one 42 29 (.tmp 27) rfl rfl rfl (.slice A9 (p.opn ++ [n]).length c9) #[.int .i64 p.vars, .slice A1 p.cls.length c1, .int .i64 p.want, .slice A9 (p.opn ++ [n]).length c9, .int .i64 (p.lits : Nat)] rfl (by first | rfl | (simp; rfl)) HG9.out rfl nsz50 (show 3 + 1 ≤ 5 by omega) rfl rfl ?_; intro w10 hw10 hsb; have HG10 := Aside0.mk hw10; have HSB10 := Aside0.mk hsb; clear hw10 hsb; have hc4 := (blk_cell HG10.out 4).trans (show _ = some (Value.int .i64 (p.lits : Nat)) from rfl)) | ((with_reducible refine gate_store (t := 3) (p := 36) rfl ?_); refine store_one 3 36 (.tmp 34) rfl rfl rfl (.int .i64 ((p.lits : Nat) + 1)) #[.int .i64 p.vars, .slice A1 p.cls.length c1, .int .i64 p.want, .slice A9 (p.opn ++ [n]).length c9, .int .i64 ((p.lits : Nat) + 1)] rfl rfl HG10.out rfl nsz3 (show 4 + 1 ≤ 5 by omega) rfl rfl ?_; intro w11 hw11 hsb; have HG11 := Aside0.mk hw11; have HSB11 := Aside0.mk hsb; clear hw11 hsb hc4))
            go_ret
            rw [HW.out]
            refine ⟨rfl, ⟨⟨_, _, (by rw [HG11.out, HLL.out]; rfl), ?_, HSB11.out.Rt (HSB10.out.Rt HR9.out HG9.out (by decide)) HG10.out (by decide)⟩, HP2.out.bs, HP2.out.bl, by rw [HSB11.out.size, HSB10.out.size]; exact HS9.out⟩, HSB11.out.below (HSB10.out.below HB9.out HP2.out.bs) HP2.out.bs, (HK9.out.same HSB10.out HG9.out (by decide)).same HSB11.out HG10.out (by decide), (HT9.out.same HSB10.out).same HSB11.out⟩
            exact HSB11.out.Rt (HSB10.out.Rt HC9.out HG9.out (by decide)) HG10.out (by decide)
end Go.Proofs.YtigloobbpcnnhaaGreatDoor.PB
end
section
namespace Go.Proofs.YtigloobbpcnnhaaGreatDoor.PB
open Go.RowKit Go.Proofs.YtigloobbpcnnhaaGreatDoorW.PrintWords Go.Proofs.YtigloobbpcnnhaaGreatDoorW.PrintLast Go.Proofs.YtigloobbpcnnhaaGreatDoorW.PrintMore
set_option linter.unusedVariables false
set_option linter.unusedSimpArgs false
theorem dHead_no (p : DP) (ws : List (List UInt8)) (h : ws.length ≠ 4) : dHead p ws = (20, p) := by
  unfold dHead
  split
  · exact absurd rfl h
  · rfl
theorem dHead_four (p : DP) (a b c d : List UInt8) (n1 n2 : Int) (i1 i2 f1 f2 : Bool) (h1 : dNum c false 1048576 = (n1, i1, f1)) (h2 : dNum d false 1048576 = (n2, i2, f2)) : dHead p [a, b, c, d] =
    if a ≠ [112] ∨ b ≠ [99, 110, 102] then (20, p) else if i1 = false ∨ i2 = false then (20, p) else if f1 = false ∨ f2 = false then (22, p) else (0, { p with vars := n1, want := n2 }) := by
  unfold dHead
  simp only [h1, h2]
theorem four_of {α : Type} (ws : List α) (h : ws.length = 4) : ∃ a b c d, ws = [a, b, c, d] := by
  match ws, h with
  | [a, b, c, d], _ => exact ⟨a, b, c, d, rfl⟩
theorem word_eq (a k : List UInt8) : ((baOf a).toList == k) = decide (a = k) := by
  rw [Lib.toList_data, baOf_data]
  by_cases h : a = k
  · rw [decide_eq_true h]; exact beq_iff_eq.2 h
  · rw [decide_eq_false h]; exact beq_eq_false_iff_ne.2 h
set_option maxHeartbeats 2000000 in
set_option maxRecDepth 100000 in
theorem head_calls (b1 base g : Nat) (p : DP) (A : Option Addr) (c : Nat) (ws : List (List UInt8)) (W : World) (hp : PRS b1 base g p W) (hC : Kd.string.C W A ws.length (ws.map baOf)) (hc : ws.length ≤ c) (hx : ∀ x ∈ ws, x.length ≤ 100000) (hlt : LT base W) :
    Calls Tryz.prog 40 #[.pointer (some ⟨g, 0, none⟩), .slice A ws.length c] W (PPost b1 base g (dHead p ws) W) := by
  have HLT := Aside0.mk hlt
  have HP := Aside0.mk hp
  have HBW := Aside0.mk (show base ≤ W.heap.size from Nat.le_trans hp.bs (Nat.le_of_lt hp.lt))
  have HCW := Aside0.mk hC
  by_cases h4 : ws.length = 4
  · obtain ⟨a, b, x3, x4, rfl⟩ := four_of ws h4
    have hxa := Aside0.mk (hx x3 (by simp))
    have hxb := Aside0.mk (hx x4 (by simp))
    have at_ : ∀ (i : Nat) (x : List UInt8), i < 4 → ([a, b, x3, x4] : List (List UInt8))[i]? = some x → ∃ ad, A = some ad ∧ W.cell? (ad.add i) = some (.string (baOf x)) := by
      intro i x hi hx
      obtain ⟨ad, e, h⟩ := Kd.at_string hC (i : Int) (by omega) (by show (i : Int) < 4; omega)
      refine ⟨ad, e, ?_⟩
      rw [Int.toNat_natCast] at h
      rw [h]
      congr 2
      unfold rdOf
      rw [Int.toNat_natCast, List.getD_eq_getElem?_getD, List.getElem?_map, hx]
      rfl
    obtain ⟨ad, rfl, q0⟩ := at_ 0 a (by omega) rfl
    obtain ⟨ad', e1, q1⟩ := at_ 1 b (by omega) rfl
    cases e1
    obtain ⟨ad', e1, q2⟩ := at_ 2 x3 (by omega) rfl
    cases e1
    obtain ⟨ad', e1, q3⟩ := at_ 3 x4 (by omega) rfl
    cases e1
    have af : ∀ i, 0 < i → ad.add i = ⟨ad.block, ad.off + i, none⟩ := fun i hi => by
      have := add_field ad 0 i hi
      rw [Nat.zero_add, show ad.add 0 = ad from by cases ad; rfl] at this
      exact this
    rw [af 1 (by omega)] at q1
    rw [af 2 (by omega)] at q2
    rw [af 3 (by omega)] at q3
    clear af
    have Q2 := Aside0.mk q2
    have Q3 := Aside0.mk q3
    rw [show ad.add 0 = ad from by cases ad; rfl] at q0
    have hlen : (([a, b, x3, x4] : List (List UInt8)).length : Int) = 4 := rfl
    obtain ⟨L, hL⟩ : ∃ L, L = ([a, b, x3, x4] : List (List UInt8)).length := ⟨_, rfl⟩
    rw [← hL] at hlen hc ⊢
    have hL4 : L = 4 := hL
    clear hL
    subst hL4
    obtain ⟨n1, i1, f1, hn1⟩ : ∃ n is fits, dNum x3 false 1048576 = (n, is, fits) := ⟨_, _, _, rfl⟩
    obtain ⟨n2, i2, f2, hn2⟩ : ∃ n is fits, dNum x4 false 1048576 = (n, is, fits) := ⟨_, _, _, rfl⟩
    have hw := dHead_four p a b x3 x4 n1 n2 i1 i2 f1 f2 hn1 hn2
    have HN1 := Aside0.mk (show dNum (baOf x3).data.toList false 1048576 = (n1, i1, f1) from hn1)
    have HN2 := Aside0.mk (show dNum (baOf x4).data.toList false 1048576 = (n2, i2, f2) from hn2)
    have wa := word_eq a [112]
    have wb := word_eq b [99, 110, 102]
    clear hn1 hn2 at_ hx hC hlt hp h4 hlen q2 q3
    by_cases ha : a = [112]
    · have t1 : ((baOf a).toList == ([112] : List UInt8)) = true := by rw [wa]; exact decide_eq_true ha
      have t1n : ((baOf a).toList != ([112] : List UInt8)) = false := by rw [bne, t1]; rfl
      by_cases hb : b = [99, 110, 102]
      · have t2 : ((baOf b).toList == ([99, 110, 102] : List UInt8)) = true := by rw [wb]; exact decide_eq_true hb
        have t2n : ((baOf b).toList != ([99, 110, 102] : List UInt8)) = false := by rw [bne, t2]; rfl
        rw [if_neg (by simp [ha, hb])] at hw
        clear wa wb ha hb
        by_cases hi : i1 = false ∨ i2 = false
        · have HW := Aside0.mk (show dHead p [a, b, x3, x4] = (20, p) by rw [hw, if_pos hi])
          clear hw
          have hh : i1 = false ∨ (i1 = true ∧ i2 = false) := by
            cases i1 with
            | false => exact .inl rfl
            | true => exact .inr ⟨rfl, by rcases hi with h | h; cases h; exact h⟩
          clear hi
          rcases hh with rfl | ⟨rfl, rfl⟩
          · go_enter Tryz.func40, Tryz.ntmps40
            have q2 := Q2.out
            go_wp2_with fail
            refine (number_calls (baOf x3) false 1048576 (by omega) (by omega) hxa.out W (HLT.out.up HBW.out)).mono ?_
            rw [HN1.out]
            rintro e w2 ⟨rfl, hb⟩
            have HB := Aside0.mk hb
            have q3 := pw_cell_below hb Q3.out
            clear hb q2
            go_wp2_with fail
            refine (number_calls (baOf x4) false 1048576 (by omega) (by omega) hxb.out w2 (HLT.out.on (HB.out.mono HBW.out) |>.up (Nat.le_trans HBW.out HB.out.size))).mono ?_
            rw [HN2.out]
            rintro e w3 ⟨rfl, hb⟩
            have HB3 := Aside0.mk (below_step HB.out hb)
            clear hb q3
            go_wp2
            go_ret
            rw [HW.out]
            exact ⟨rfl, HP.out.below HB3.out, HB3.out.mono HBW.out, (KO.refl TP W).below HB3.out, (But.refl b1 g W).below HB3.out HP.out.top⟩
          · go_enter Tryz.func40, Tryz.ntmps40
            have q2 := Q2.out
            go_wp2_with fail
            refine (number_calls (baOf x3) false 1048576 (by omega) (by omega) hxa.out W (HLT.out.up HBW.out)).mono ?_
            rw [HN1.out]
            rintro e w2 ⟨rfl, hb⟩
            have HB := Aside0.mk hb
            have q3 := pw_cell_below hb Q3.out
            clear hb q2
            go_wp2_with fail
            refine (number_calls (baOf x4) false 1048576 (by omega) (by omega) hxb.out w2 (HLT.out.on (HB.out.mono HBW.out) |>.up (Nat.le_trans HBW.out HB.out.size))).mono ?_
            rw [HN2.out]
            rintro e w3 ⟨rfl, hb⟩
            have HB3 := Aside0.mk (below_step HB.out hb)
            clear hb q3
            go_wp2
            go_ret
            rw [HW.out]
            exact ⟨rfl, HP.out.below HB3.out, HB3.out.mono HBW.out, (KO.refl TP W).below HB3.out, (But.refl b1 g W).below HB3.out HP.out.top⟩
        · obtain ⟨rfl, rfl⟩ : i1 = true ∧ i2 = true := by
            constructor
            · cases i1 with
              | true => rfl
              | false => exact absurd (.inl rfl) hi
            · cases i2 with
              | true => rfl
              | false => exact absurd (.inr rfl) hi
          rw [if_neg hi] at hw
          clear hi
          by_cases hf : f1 = false ∨ f2 = false
          · have HW := Aside0.mk (show dHead p [a, b, x3, x4] = (22, p) by rw [hw, if_pos hf])
            clear hw
            have hh : f1 = false ∨ (f1 = true ∧ f2 = false) := by
              cases f1 with
              | false => exact .inl rfl
              | true => exact .inr ⟨rfl, by rcases hf with h | h; cases h; exact h⟩
            clear hf
            rcases hh with rfl | ⟨rfl, rfl⟩
            · go_enter Tryz.func40, Tryz.ntmps40
              have q2 := Q2.out
              go_wp2_with fail
              refine (number_calls (baOf x3) false 1048576 (by omega) (by omega) hxa.out W (HLT.out.up HBW.out)).mono ?_
              rw [HN1.out]
              rintro e w2 ⟨rfl, hb⟩
              have HB := Aside0.mk hb
              have q3 := pw_cell_below hb Q3.out
              clear hb q2
              go_wp2_with fail
              refine (number_calls (baOf x4) false 1048576 (by omega) (by omega) hxb.out w2 (HLT.out.on (HB.out.mono HBW.out) |>.up (Nat.le_trans HBW.out HB.out.size))).mono ?_
              rw [HN2.out]
              rintro e w3 ⟨rfl, hb⟩
              have HB3 := Aside0.mk (below_step HB.out hb)
              clear hb q3
              go_wp2
              go_ret
              rw [HW.out]
              exact ⟨rfl, HP.out.below HB3.out, HB3.out.mono HBW.out, (KO.refl TP W).below HB3.out, (But.refl b1 g W).below HB3.out HP.out.top⟩
            · go_enter Tryz.func40, Tryz.ntmps40
              have q2 := Q2.out
              go_wp2_with fail
              refine (number_calls (baOf x3) false 1048576 (by omega) (by omega) hxa.out W (HLT.out.up HBW.out)).mono ?_
              rw [HN1.out]
              rintro e w2 ⟨rfl, hb⟩
              have HB := Aside0.mk hb
              have q3 := pw_cell_below hb Q3.out
              clear hb q2
              go_wp2_with fail
              refine (number_calls (baOf x4) false 1048576 (by omega) (by omega) hxb.out w2 (HLT.out.on (HB.out.mono HBW.out) |>.up (Nat.le_trans HBW.out HB.out.size))).mono ?_
              rw [HN2.out]
              rintro e w3 ⟨rfl, hb⟩
              have HB3 := Aside0.mk (below_step HB.out hb)
              clear hb q3
              go_wp2
              go_ret
              rw [HW.out]
              exact ⟨rfl, HP.out.below HB3.out, HB3.out.mono HBW.out, (KO.refl TP W).below HB3.out, (But.refl b1 g W).below HB3.out HP.out.top⟩
          · obtain ⟨rfl, rfl⟩ : f1 = true ∧ f2 = true := by
              constructor
              · cases f1 with
                | true => rfl
                | false => exact absurd (.inl rfl) hf
              · cases f2 with
                | true => rfl
                | false => exact absurd (.inr rfl) hf
            rw [if_neg hf] at hw
            have HW := Aside0.mk hw
            clear hw hf
            go_enter Tryz.func40, Tryz.ntmps40
            have q2 := Q2.out
            go_wp2_with fail
            refine (number_calls (baOf x3) false 1048576 (by omega) (by omega) hxa.out W (HLT.out.up HBW.out)).mono ?_
            rw [HN1.out]
            rintro e w2 ⟨rfl, hb⟩
            have HB := Aside0.mk hb
            have q3 := pw_cell_below hb Q3.out
            clear hb q2
            go_wp2_with fail
            refine (number_calls (baOf x4) false 1048576 (by omega) (by omega) hxb.out w2 (HLT.out.on (HB.out.mono HBW.out) |>.up (Nat.le_trans HBW.out HB.out.size))).mono ?_
            rw [HN2.out]
            rintro e w3 ⟨rfl, hb⟩
            have HB3 := Aside0.mk (below_step HB.out hb)
            clear hb q3
            obtain ⟨v1, v3, hg, hcc, hoo⟩ := HP.out.ex
            have HG3 := Aside0.mk (blk_below hg HB3.out)
            have HC3 := Aside0.mk (Kd.R_below hcc HB3.out)
            have HO3 := Aside0.mk (Kd.R_below hoo HB3.out)
            clear hg hcc hoo
            go_wp2_with (first | ((with_reducible refine gate_store (t := 3) (p := 58) rfl ?_); refine store_one 3 58 (.tmp 54) rfl rfl rfl (.int .i64 n1) #[.int .i64 n1, v1, .int .i64 p.want, v3, .int .i64 (p.lits : Nat)] rfl rfl HG3.out rfl nsz3 (show 0 + 1 ≤ 5 by omega) rfl rfl ?_; intro w10 hw10 hsb; have HG10 := Aside0.mk hw10; have HSB10 := Aside0.mk hsb; clear hw10 hsb) | ((with_reducible refine gate_store (t := 3) (p := 60) rfl ?_); refine store_one 3 60 (.tmp 55) rfl rfl rfl (.int .i64 n2) #[.int .i64 n1, v1, .int .i64 n2, v3, .int .i64 (p.lits : Nat)] rfl rfl HG10.out rfl nsz3 (show 2 + 1 ≤ 5 by omega) rfl rfl ?_; intro w11 hw11 hsb; have HG11 := Aside0.mk hw11; have HSB11 := Aside0.mk hsb; clear hw11 hsb))
            go_ret
            rw [HW.out]
            exact ⟨rfl, ⟨⟨_, _, HG11.out, HSB11.out.Rt (HSB10.out.Rt HC3.out HG3.out (by decide)) HG10.out (by decide), HSB11.out.Rt (HSB10.out.Rt HO3.out HG3.out (by decide)) HG10.out (by decide)⟩, HP.out.bs, HP.out.bl, by rw [HSB11.out.size, HSB10.out.size]; exact Nat.le_trans HP.out.top HB3.out.size⟩, HSB11.out.below (HSB10.out.below (HB3.out.mono HBW.out) HP.out.bs) HP.out.bs, (((KO.refl TP W).below HB3.out).same HSB10.out HG3.out (by decide)).same HSB11.out HG10.out (by decide), (((But.refl b1 g W).below HB3.out HP.out.top).same HSB10.out).same HSB11.out⟩
      · have t2 : ((baOf b).toList == ([99, 110, 102] : List UInt8)) = false := by rw [wb]; exact decide_eq_false hb
        have t2n : ((baOf b).toList != ([99, 110, 102] : List UInt8)) = true := by rw [bne, t2]; rfl
        have HW := Aside0.mk (show dHead p [a, b, x3, x4] = (20, p) by rw [hw, if_pos (.inr hb)])
        clear wa wb ha hb hw
        go_enter Tryz.func40, Tryz.ntmps40
        go_wp2
        go_ret
        rw [HW.out]
        exact ⟨rfl, HP.out, Below.refl _ _, KO.refl _ _, But.refl _ _ _⟩
    · have t1 : ((baOf a).toList == ([112] : List UInt8)) = false := by rw [wa]; exact decide_eq_false ha
      have t1n : ((baOf a).toList != ([112] : List UInt8)) = true := by rw [bne, t1]; rfl
      have HW := Aside0.mk (show dHead p [a, b, x3, x4] = (20, p) by rw [hw, if_pos (.inl ha)])
      clear wa wb ha hw
      go_enter Tryz.func40, Tryz.ntmps40
      go_wp2
      go_ret
      rw [HW.out]
      exact ⟨rfl, HP.out, Below.refl _ _, KO.refl _ _, But.refl _ _ _⟩
  · have HW := Aside0.mk (dHead_no p ws h4)
    have t1 : ((ws.length : Int) == 4) = false := beq_eq_false_iff_ne.2 (by omega)
    have t1n : ((ws.length : Int) != 4) = true := by rw [bne, t1]; rfl
    have t2 : (ws.length == 4) = false := beq_eq_false_iff_ne.2 h4
    have t2n : (ws.length != 4) = true := by rw [bne, t2]; rfl
    clear hC hlt hp hx h4
    go_enter Tryz.func40, Tryz.ntmps40
    go_wp2
    go_ret
    rw [HW.out]
    exact ⟨rfl, HP.out, Below.refl _ _, KO.refl _ _, But.refl _ _ _⟩
end Go.Proofs.YtigloobbpcnnhaaGreatDoor.PB
end
end
section
section
section
namespace Go.Proofs.YtigloobbpcnnhaaGreatDoor.PB
open Go.RowKit
set_option linter.unusedVariables false
set_option linter.unusedSimpArgs false
/-- What is said holds on when block Bn alone is written. -/
def AbidesBox {β : Type} (Bn : Nat) (J : β → World → Prop) : Prop :=
  ∀ s W W' row, J s W → W.grownBy W' row → (∀ r, row = some r → r = Bn) → J s W'
/-- .. or blocks from B on that hold no cells. -/
def OwnBox {β : Type} (B Bn : Nat) (I : β → World → Prop) : Prop :=
  ∀ s W W' row, I s W → W.grownBy W' row → (∀ r, row = some r → r = Bn ∨ (B ≤ r ∧ ∃ o : Obj, W.heap[r]? = some o ∧ o.isCells = false)) → I s W'
theorem OwnBox.put {β : Type} {B Bn : Nat} {I : β → World → Prop} (h : OwnBox B Bn I) {s : β} {W : World} {l : Nat} {o : Obj} (o' : Obj) (hs : I s W) (hB : B ≤ l) (hl : W.heap[l]? = some o) (ho : o.isCells = false) : I s (W.putObj l o') :=
  h s W _ (some l) hs (grownBy_putObj' W l o') (fun r e => by cases e; exact .inr ⟨hB, o, hl, ho⟩)
theorem OwnBox.new {β : Type} {B Bn : Nat} {I : β → World → Prop} (h : OwnBox B Bn I) {s : β} {W : World} (o : Obj) (hs : I s W) : I s (W.alloc o) :=
  h s W _ none hs (World.grownBy_alloc W o none) (fun r e => by cases e)
/-- The iterator's word, where it writes its own variable. -/
def SeqBox {α : Type} (F : Fence) (n : Nat) (P : Program) (g : Nat) (lb : Array Value) (encs : α → Array Value) (Kp : World → World → Prop) (S Sp : List α → Prop) (Bn : Nat) (w : World) : Prop :=
  ∀ (l : Nat) (J Jx : List α → World → Prop) (W : World), Below w.heap.size w W → AbidesBox Bn J → AbidesBox Bn Jx →
    (∀ pre x W1, J pre W1 → Sp (pre ++ [x]) → YieldAt F (n - 1) P l (encs x) W1 fun e W' =>
      (e = .returned (.bool true) ∧ J (pre ++ [x]) W' ∧ Kp W1 W') ∨ (e = .returned (.bool false) ∧ Jx (pre ++ [x]) W')) →
    J [] W →
    CallsIn F n P g (#[.func (.yield l) #[] #[]] ++ lb) W fun e W' => (∃ v, e = .returned v) ∧ ((∃ xs, S xs ∧ J xs W') ∨ (∃ pre, Sp pre ∧ Jx pre W'))
variable {F : Fence} {n : Nat} {P : Program}
theorem wpIn_range_box {α : Type} {g : Operand} {ps : Array Tmp} {assign body : Code} {Q : Exit → Act → World → Prop} {a : Act} {w : World}
    (hro : F.round = none) (h1 : 1 ≤ n) {gf : Nat} {lb : Array Value} (hg : a.eval g = .func (.func gf) #[] lb) (hFg : F.fn gf) (eg : ∀ args w, (callFunc gf args).run P w = .ok (.enter gf args) w)
    {encs : α → Array Value} {Kp : World → World → Prop} {S Sp : List α → Prop} {Bn : Nat} (hBn : Bn < w.heap.size) (hseq : SeqBox F (n - 1) P gf lb encs Kp S Sp Bn w)
    (hKt : ∀ {A B C : World}, Kp A B → Kp B C → Kp A C) (hKb : ∀ (W : World) (l : Nat) (o o' : Obj), w.heap.size ≤ l → W.heap[l]? = some o → o.isCells = false → o.isWalk = false → Kp W (W.putObj l o')) (hps : ∀ x, (encs x).size = ps.size)
    (I : List α → World → Prop) (Ix : Code → List α → World → Prop) (hI : OwnBox w.heap.size Bn I) (hIx : ∀ c, OwnBox w.heap.size Bn (Ix c)) (h0 : I [] w) (a₁ : α → Act)
    (hassign : ∀ (l : Nat) (x : α) (W : World) (K : Act → World → Prop), K (a₁ x) W →
      assign.wpIn (F.inRound l) (n - 1 - 1) P (Exit.then K (fun _ _ _ => False)) { tmps := (ps.zip (encs x)).foldl (fun t (p, v) => t.setIfInBounds p v) a.tmps, defers := [] } W)
    (hbody : ∀ (l : Nat) (pre : List α) (x : α) (W : World), I pre W → Sp (pre ++ [x]) → body.wpIn (F.inRound l) (n - 1 - 1) P (ownPostG w.heap.size Kp I Ix (pre ++ [x]) W) (a₁ x) W)
    (hdone : ∀ (D : Nat) (xs : List α) (W : World), w.heap.size ≤ D → S xs → I xs W → W.heap[D]? = some (.deferred (some [])) → Q .normal { a with defers := { target := .collected D, args := #[] } :: a.defers } W)
    (hstop : ∀ (D : Nat) (c : Code) (pre : List α) (W : World), w.heap.size ≤ D → Sp pre → Ix c pre W → W.heap[D]? = some (.deferred (some [])) → c.wpIn F n P Q { a with defers := { target := .collected D, args := #[] } :: a.defers } W) :
    (Code.rangeFunc g ps assign body).wpIn F n P Q a w := by
  refine wpIn_rangeFunc ?_
  intro fn hfn
  rw [hro]
  obtain ⟨rec, hrec⟩ : ∃ rec : LoopState → Option Code → Loop, rec = fun st pe => { state := st, pending := pe, fn, tmps := a.tmps, params := ps, assign, body, defers := w.heap.size } := ⟨_, rfl⟩
  obtain ⟨W1, hW1⟩ : ∃ W1, (w.alloc (.deferred (some []))).alloc (.loop (rec .ready none)) = W1 := ⟨_, rfl⟩
  have hL1 : W1.heap[w.heap.size + 1]? = some (.loop (rec .ready none)) := by
    rw [← hW1]; have := World.alloc_heap_new (w.alloc (.deferred (some []))) (.loop (rec .ready none)); rwa [World.size_alloc] at this
  have hK1 : W1.heap[w.heap.size]? = some (.deferred (some [])) := by
    rw [← hW1]; exact (Below.heap_alloc _ _ _ (by simp)).trans (World.alloc_heap_new w _)
  have hI1 : I [] W1 := by rw [← hW1]; exact hI.new _ (hI.new _ h0)
  have hb1 : Below w.heap.size w W1 := by
    rw [← hW1]; exact ((Below.refl _ w).alloc (Nat.le_refl _) _).alloc (by simp) _
  have stay : ∀ {A B : World} {row : Option Nat} {k : Nat} {o : Obj}, w.heap.size ≤ k → A.grownBy B row → (∀ r, row = some r → r = Bn) → A.heap[k]? = some o → B.heap[k]? = some o := by
    intro A B row k o hk hg' hr hA
    exact (hg'.block k (Array.getElem?_eq_some_iff.1 hA).1 (fun e => by have := hr k e.symm; omega)).trans hA
  refine ⟨w.heap.size + 1, [{ target := .collected w.heap.size, args := #[] }], W1, { target := .fn (.func gf) lb, args := #[.func (.yield (w.heap.size + 1)) #[] #[]] }, W1, gf,
    #[.func (.yield (w.heap.size + 1)) #[] #[]] ++ lb, W1, ?_, ?_, ?_, ?_, fun _ => h1, ?_⟩
  · rw [← hW1, hrec]; exact run_enterLoop_outer _ _ _ _ _
  · simp only [resolve, hg]
    simp [go_sem]
  · intro f' hf'; simp [Target.leads] at hf'; subst hf'; exact hFg
  · simp [invoke, go_sem, eg]
  · refine (hseq (w.heap.size + 1)
      (fun pre W => I pre W ∧ W.heap[w.heap.size + 1]? = some (.loop (rec .ready none)) ∧ W.heap[w.heap.size]? = some (.deferred (some [])))
      (fun pre W => ∃ c, Ix c pre W ∧ W.heap[w.heap.size + 1]? = some (.loop (rec .done (some c))) ∧ W.heap[w.heap.size]? = some (.deferred (some [])))
      W1 hb1
      (fun s A B row hs hg' hr => ⟨hI s A B row hs.1 hg' (fun r e => .inl (hr r e)), stay (by omega) hg' hr hs.2.1, stay (Nat.le_refl _) hg' hr hs.2.2⟩)
      (fun s A B row hs hg' hr => by
        obtain ⟨c, hc, hl, hk⟩ := hs
        exact ⟨c, hIx c s A B row hc hg' (fun r e => .inl (hr r e)), stay (by omega) hg' hr hl, stay (Nat.le_refl _) hg' hr hk⟩)
      ?_ ⟨hI1, hL1, hK1⟩).mono ?_
    · rintro pre x W ⟨hi, hl, hk⟩ hlen
      have hlt : w.heap.size + 1 < W.heap.size := (Array.getElem?_eq_some_iff.1 hl).1
      have hy := run_yield (P := P) (args := encs x) hl (by rw [hrec]; exact hps x)
      rw [hrec] at hy
      refine ⟨fn, _, assign, body, hy, roundIn_of_wpIn hfn (hassign _ x W _ ⟨_, run_beginRound hl (by rw [hrec]), ?_⟩)⟩
      have hl2 : (W.putObj (w.heap.size + 1) (.loop { rec .ready none with state := .busy })).heap[w.heap.size + 1]? = some (.loop { rec .ready none with state := .busy }) := World.putObj_heap_same hlt
      have hk2 : (W.putObj (w.heap.size + 1) (.loop { rec .ready none with state := .busy })).heap[w.heap.size]? = some (.deferred (some [])) := (World.putObj_heap_other (by omega)).trans hk
      have hw2 : Kp W (W.putObj (w.heap.size + 1) (.loop { rec .ready none with state := .busy })) := hKb _ _ _ _ (by omega) hl rfl rfl
      refine wpIn_mono (hbody _ pre x _ (hI.put _ hi (by omega) hl rfl) hlen) ?_
      have fin : ∀ (jump : Option Code) (W3 : World), KeepsFrom w.heap.size (W.putObj (w.heap.size + 1) (.loop { rec .ready none with state := .busy })) W3 →
          (Instr.endRound (w.heap.size + 1) jump).run P W3 = .ok (.bool jump.isNone) (W3.putObj (w.heap.size + 1) (.loop (rec (if jump.isNone then .ready else .done) jump))) ∧
          W3.heap[w.heap.size + 1]? = some (.loop { rec .ready none with state := .busy }) ∧
          (W3.putObj (w.heap.size + 1) (.loop (rec (if jump.isNone then .ready else .done) jump))).heap[w.heap.size + 1]? = some (.loop (rec (if jump.isNone then .ready else .done) jump)) ∧
          (W3.putObj (w.heap.size + 1) (.loop (rec (if jump.isNone then .ready else .done) jump))).heap[w.heap.size]? = some (.deferred (some [])) := fun jump W3 hk3 => by
        have hl3 := hk3.same _ _ (by omega) hl2 rfl
        have := run_endRound (P := P) jump hl3
        rw [hrec] at this ⊢
        exact ⟨this, by rw [hrec] at hl3; exact hl3, World.putObj_heap_same (Array.getElem?_eq_some_iff.1 hl3).1, (World.putObj_heap_other (by omega)).trans (hk3.same _ _ (Nat.le_refl _) hk2 rfl)⟩
      rintro e a3 W3 hp
      cases e with
      | normal =>
        obtain ⟨hk3, hkp3, hi3⟩ := hp
        obtain ⟨hr, hl3, hl4, hk4⟩ := fin none W3 hk3
        exact ⟨_, _, hr, .inl ⟨rfl, ⟨hI.put _ hi3 (by omega) hl3 rfl, hl4, hk4⟩, hKt (hKt hw2 hkp3) (hKb _ _ _ _ (by omega) hl3 rfl rfl)⟩⟩
      | ret =>
        obtain ⟨hk3, hi3⟩ := hp
        obtain ⟨hr, hl3, hl4, hk4⟩ := fin (some .ret) W3 hk3
        exact ⟨_, _, hr, .inr ⟨rfl, .ret, (hIx _).put _ hi3 (by omega) hl3 rfl, hl4, hk4⟩⟩
      | exit id =>
        obtain ⟨hk3, hi3⟩ := hp
        obtain ⟨hr, hl3, hl4, hk4⟩ := fin (some (.exit id)) W3 hk3
        exact ⟨_, _, hr, .inr ⟨rfl, .exit id, (hIx _).put _ hi3 (by omega) hl3 rfl, hl4, hk4⟩⟩
      | goto t =>
        obtain ⟨hk3, hi3⟩ := hp
        obtain ⟨hr, hl3, hl4, hk4⟩ := fin (some (.goto t)) W3 hk3
        exact ⟨_, _, hr, .inr ⟨rfl, .goto t, (hIx _).put _ hi3 (by omega) hl3 rfl, hl4, hk4⟩⟩
      | panic ch => exact hp.elim
      | outgrown => exact hp.elim
    · rintro e W2 ⟨⟨v, rfl⟩, (⟨xs, hS, hi, hl, hk⟩ | ⟨pre, hSp, c, hi, hl, hk⟩)⟩
      · exact ⟨none, _, by have := run_endLoop (P := P) hl (by rw [hrec]; simp); rw [hrec] at this; exact this, hdone _ xs _ (Nat.le_refl _) hS (hI.put _ hi (by omega) hl rfl) ((World.putObj_heap_other (by omega)).trans hk)⟩
      · exact ⟨some c, _, by have := run_endLoop (P := P) hl (by rw [hrec]; simp); rw [hrec] at this; exact this, hstop _ c pre _ (Nat.le_refl _) hSp ((hIx c).put _ hi (by omega) hl rfl) ((World.putObj_heap_other (by omega)).trans hk)⟩
end Go.Proofs.YtigloobbpcnnhaaGreatDoor.PB
end
section
namespace Go.Proofs.YtigloobbpcnnhaaGreatDoor.PB
open Go.RowKit Go.Shelf Go.Proofs.YtigloobbpcnnhaaGreatDoorW.PrintWords Go.Proofs.YtigloobbpcnnhaaGreatDoorW.PrintLast Go.Proofs.YtigloobbpcnnhaaGreatDoorW.PrintMore
set_option linter.unusedVariables false
set_option linter.unusedSimpArgs false
attribute [local go_sem] Oper.semAt_some
/-- What a round keeps. -/
def KpBox (b0 Bn : Nat) (W W' : World) : Prop := Below b0 W W' ∧ W'.heap[Bn]? = W.heap[Bn]?
theorem below_set_box {b0 Bn : Nat} {W : World} (h : b0 ≤ Bn) (v : Value) : Below b0 W (W.setCell ⟨Bn, 0, none⟩ v) := (Below.refl b0 W).setCell (p := ⟨Bn, 0, none⟩) h v
theorem grown_drewN (W : World) (n : Nat) : W.grownBy (W.drewN n) none := ⟨rfl, rfl, rfl, Nat.le_refl _, fun _ _ _ => rfl⟩
theorem grown_set (W : World) (Bn j : Nat) (v : Value) : W.grownBy (W.setCell ⟨Bn, j, none⟩ v) (some Bn) := ⟨rfl, rfl, rfl, by simp [World.setCell], fun k _ hk => Below.heap_setCell W ⟨Bn, j, none⟩ v k (fun e => hk (by rw [e]))⟩
section
variable {P : Program} {n l : Nat} {ops ops0 : Array Oper} {rest : List Oper} {o : Oper} {a : Act} {W : World} {Q : Exit → Act → World → Prop}
/-- The wide fence, or a round within it. -/
def WF (F : Fence) : Prop := F = Fence.wide ∨ ∃ l, F = Fence.wide.inRound l
theorem WF.fn {F : Fence} (h : WF F) (f : FuncId) : F.fn f := by
  rcases h with rfl | ⟨l, rfl⟩ <;> trivial
theorem WF.depth {F : Fence} (h : WF F) : ¬ F.depth.isSome = true := by
  rcases h with rfl | ⟨l, rfl⟩ <;> (intro hd; cases hd)
theorem WF.calls {F : Fence} (h : WF F) {m : Nat} {f : FuncId} {args : Array Value} {w : World} {R : Ending → World → Prop} (hc : Calls P f args w R) : CallsIn F m P f args w R := by
  rcases h with rfl | ⟨l, rfl⟩
  · exact callsIn_wide.2 hc
  · exact CallsIn.inRound l (callsIn_wide.2 hc)
theorem WF.rows {F : Fence} (h : WF F) {m : Nat} {row : String} {args : Array Value} {w : World} {R : Value → World → Prop} (hc : Rows P row args w R) : RowsIn F m P row args w R := by
  rcases h with rfl | ⟨l, rfl⟩
  · exact fun c cs _ => let ⟨v, w', r, s⟩ := hc c cs; ⟨v, w', r, stepsIn_wide.2 s⟩
  · exact fun c cs _ => let ⟨v, w', r, s⟩ := hc c cs; ⟨v, w', r, stepsIn_wide.2 s⟩
variable {F : Fence}
theorem op_in (hF : WF F) {next φ : Act → World → Prop} {Q0 : Exit → Act → World → Prop} (hnd : ∀ c, o.op ≠ .defer c) (h : o.wp P a W φ Q0) (hp : ∀ ch a' w', ¬ Q0 (.panic ch) a' w') (ho : ¬ LetsOut Q0) (hn : ∀ a' w', φ a' w' → next a' w') : o.wpIn F n P a W next Q := by
  refine ⟨fun f _ => hF.fn f, ?_⟩
  rw [Oper.semAt_plain F _ _ hnd]
  unfold Oper.wp at h
  revert h
  generalize (execOp a.eval o).run P W = r
  intro h
  unfold Oper.upon at h
  unfold Oper.uponIn
  split at h
  · exact hn _ _ h
  · exact hn _ _ h
  · exact hn _ _ h
  · refine ⟨(fun hd => (hF.depth hd).elim), hF.calls (h.mono ?_)⟩
    intro e w' hR
    cases e with
    | returned v => exact hn _ _ hR
    | panicked ch => exact (hp _ _ _ hR).elim
    | outgrown => exact (ho hR).elim
  · exact ⟨(fun hd => (hF.depth hd).elim), hF.rows (h.mono fun v w' r => hn _ _ r)⟩
  · exact (hp _ _ _ h).elim
  · exact h.elim
theorem list_in (hF : WF F) {φ : Act → World → Prop} (hgd : o.guard = none) (hnd : ∀ c, o.op ≠ .defer c) (hlaw : wpList P ops0 (fun e a' w' => e = Exit.normal ∧ φ a' w') [o] a W) (h : ∀ a' w', φ a' w' → wpListIn F n P ops Q rest a' w') : wpListIn F n P ops Q (o :: rest) a W := by
  refine wpListIn_plain hgd fun K hK => ?_
  have hw : Region.wanted o (yielded ops0 a.tmps) = true := by simp [Region.wanted, hgd]
  unfold wpList at hlaw
  rw [if_pos hw] at hlaw
  rcases hlaw with hl | ⟨_, _, _, he, _⟩
  · refine op_in hF hnd hl (fun _ _ _ he => by cases he.1) (fun ⟨_, _, he, _⟩ => by cases he) (fun a' w' hq => hK _ _ (h a' w' ?_))
    unfold wpList at hq
    exact hq.2
  · cases he
theorem box_in (hF : WF F) (hgd : o.guard = none) (hnd : ∀ c, o.op ≠ .defer c) {N : Tmp} (hd : o.dst = some N) {cs : Array Value} {t : TypeId}
    (hrun : (execOp a.eval o).run P W = .ok (.value (.pointer (some ⟨W.heap.size, 0, none⟩))) (W.alloc (.cells cs t (0, 0))))
    (h : ∀ g, g = W.heap.size → ∀ w1, w1.heap[g]? = some (.cells cs t (0, 0)) → Below W.heap.size W w1 → wpListIn F n P ops Q rest (a.put o.dst (.pointer (some ⟨g, 0, none⟩))) w1) : wpListIn F n P ops Q (o :: rest) a W :=
  list_in hF (ops0 := #[]) hgd hnd (φ := fun a' w' => ∃ g, g = W.heap.size ∧ a' = a.put o.dst (.pointer (some ⟨g, 0, none⟩)) ∧ w'.heap[g]? = some (.cells cs t (0, 0)) ∧ Below W.heap.size W w') (box_event hgd hd hrun (fun g hg w1 h1 h2 => ⟨rfl, g, hg, rfl, h1, h2⟩)) (by rintro a' w' ⟨g, hg, rfl, h1, h2⟩; exact h g hg w' h1 h2)
theorem store_one_in (hF : WF F) (t : TypeId) (p : Tmp) (v : Operand) (ho : o.op = .store t (.tmp p) v) (hgd : o.guard = none) (hN : o.dst = none) {g off : Nat} {e : TypeId} {cur : Array Value} (u : Value) (cur' : Array Value)
    (haddr : a.eval (.tmp p) = .pointer (some ⟨g, off, none⟩)) (hv : a.eval v = u) (hh : W.heap[g]? = some (.cells cur e (0, 0))) (hu : u.cells.toList = [u]) (ht : (P.info? t).map (·.size) = some 1) (hfit : off + 1 ≤ cur.size)
    (h1 : u.oneCell' = true) (hcur : cur.setIfInBounds off u = cur')
    (h : ∀ w1, w1.heap[g]? = some (.cells cur' e (0, 0)) → SameBut g W w1 → wpListIn F n P ops Q rest a w1) : wpListIn F n P ops Q (o :: rest) a W :=
  list_in hF (ops0 := #[]) hgd (by intro c hc; rw [ho] at hc; cases hc) (φ := fun a' w' => a' = a ∧ w'.heap[g]? = some (.cells cur' e (0, 0)) ∧ SameBut g W w') (store_one t p v ho hgd hN u cur' haddr hv hh hu ht hfit h1 hcur (fun w1 e1 e2 => ⟨rfl, rfl, e1, e2⟩)) (by rintro a' w' ⟨rfl, e1, e2⟩; exact h w' e1 e2)
theorem keeps_same {B g : Nat} {A C : World} {cs : Array Value} {t : TypeId} (h : SameBut g A C) (hg : A.heap[g]? = some (.cells cs t (0, 0))) : KeepsFrom B A C :=
  ⟨Nat.le_of_eq h.size.symm, fun k o _ hk ho => by
    by_cases e : k = g
    · subst e; rw [hg] at hk; cases hk; cases ho
    · exact (h.blk k e).trans hk⟩
theorem gin_dst {N : Tmp} (_hN : o.dst = some N) (h : wpListIn F n P ops Q (o :: rest) a W) : wpListIn F n P ops Q (o :: rest) a W := h
theorem gin_store {t : TypeId} {p : Tmp} {v : Operand} (_ho : o.op = .store t (.tmp p) v) (h : wpListIn F n P ops Q (o :: rest) a W) : wpListIn F n P ops Q (o :: rest) a W := h
end
theorem blk_row {W W' : World} {row : Option Nat} {B Bn k : Nat} {cs : Array Value} {t : TypeId} (hg : W.grownBy W' row) (hr : ∀ r, row = some r → r = Bn ∨ (B ≤ r ∧ ∃ o : Obj, W.heap[r]? = some o ∧ o.isCells = false)) (h : W.heap[k]? = some (.cells cs t (0, 0))) (hk : k ≠ Bn) : W'.heap[k]? = some (.cells cs t (0, 0)) := by
  refine (hg.block k (blk_lt h) (fun e => ?_)).trans h
  rcases hr k e.symm with e2 | ⟨_, o, ho, hc⟩
  · exact hk e2
  · rw [h] at ho
    cases ho
    cases hc
end Go.Proofs.YtigloobbpcnnhaaGreatDoor.PB
end
end
section
namespace Go.Proofs.YtigloobbpcnnhaaGreatDoor.PB
open Go.RowKit Go.Shelf Go.Proofs.YtigloobbpcnnhaaGreatDoorW.PrintWords Go.Proofs.YtigloobbpcnnhaaGreatDoorW.PrintLast Go.Proofs.YtigloobbpcnnhaaGreatDoorW.PrintMore
set_option linter.unusedVariables false
set_option linter.unusedSimpArgs false
attribute [local go_sem] Oper.semAt_some
theorem bI_mem (l : List UInt8) : ∀ x ∈ bI l, 0 ≤ x ∧ x < 256 := by
  intro x hx
  obtain ⟨b, _, rfl⟩ := List.mem_map.1 hx
  have := b.toNat_lt
  omega
theorem bI_take (l : List UInt8) (k : Nat) : (bI l).take k = bI (l.take k) := by unfold bI; rw [List.map_take]
theorem bI_drop (l : List UInt8) (k : Nat) : (bI l).drop k = bI (l.drop k) := by unfold bI; rw [List.map_drop]
theorem bytesIn_C {w : World} {A : Option Addr} {l : List UInt8} (h : (Kd.int .u8).C w A l.length (bI l)) : Lib.BytesIn w A l.length (bI l) := by
  intro hn
  obtain ⟨ad, rfl, hc⟩ := (Kd.reads_of_C (enc := Value.int .u8) (d := (0 : Int)) (h1 := fun _ => rfl) h).2.2 hn
  exact Lib.BytesIn.of_cells hc hn
theorem cut_calls (A : Option Addr) (c b2 d2 : Nat) (t : List UInt8) (w0 w : World) (hw : Below w0.heap.size w0 w) (hC : (Kd.int .u8).C w0 A t.length (bI t)) (hc : t.length ≤ c) (hne : t ≠ []) (hs : t.length ≤ 100000) (hlt : LF w) (hb2 : w.heap[b2]? = some (.cells #[.int .u8 10] 5 (0, 0))) :
    Calls Tryz.prog 32 #[.slice A t.length c, .slice (some ⟨b2, 0, none⟩) 1 d2] w fun e w' => ∃ (l r : List UInt8) (A2 : Option Addr) (c2 : Nat) (fl : Bool), e = .returned (.tuple #[.slice A l.length c, .slice A2 r.length c2, .bool fl]) ∧ dLines t = l :: dLines r ∧ (Kd.int .u8).C w0 A l.length (bI l) ∧ l.length ≤ c ∧ (Kd.int .u8).C w0 A2 r.length (bI r) ∧ r.length ≤ c2 ∧ r.length < t.length ∧ ∃ q, w' = w.drewN q := by
  obtain ⟨m, hm⟩ := hlt.m
  have hpos : 0 < t.length := List.length_pos_iff.2 hne
  have hin2 : Lib.BytesIn w (some ⟨b2, 0, none⟩) 1 [10] := fun _ => ⟨b2, 0, rfl, fun i hi => by
    obtain rfl : i = 0 := by omega
    exact (blk_cell hb2 0).trans rfl⟩
  obtain ⟨ad, rfl, _⟩ := Kd.at_int hC 0 (by omega) (by omega)
  refine (Tryz.bytes_Cut_all (some ad) (some ⟨b2, 0, none⟩) t.length c 1 d2 (bI t) [10] m w (bI_length t) rfl (bI_mem t) (by intro y hy; rw [List.mem_singleton.1 hy]; omega) (bytesIn_C (Kd.C_below hC hw)) hin2 (fun e => by cases e) hc (by omega) (by omega) hm).mono ?_
  rw [bI_back, show Lib.bytesOf [10] = [10] from rfl]
  rintro e w' ⟨rfl, q, rfl⟩
  rcases split_first t with h | ⟨l, r, ht, h⟩
  · refine ⟨t, [], none, 0, false, ?_, by rw [dLines_no t hne h]; rfl, hC, hc, Kd.C_nil _ _, Nat.le_refl _, by simpa using hpos, q, rfl⟩
    unfold Lib.cutV
    rw [index_no t 10 h, if_neg (by omega)]
    rfl
  · have hlen : t.length = l.length + 1 + r.length := by rw [ht, List.length_append, List.length_cons]; omega
    have hix : Lib.index t [10] = (l.length : Int) := by rw [ht]; exact index_at l r 10 h
    have hl : t.take l.length = l := by rw [ht, List.take_left]
    have hr : t.drop (l.length + 1) = r := by
      rw [ht, ← List.drop_drop, List.drop_left]
      rfl
    have hC' := hC
    rw [← bI_length t] at hC'
    have hCl := Kd.C_take (m := l.length) hC' (by rw [bI_length]; omega)
    have hCr := Kd.C_drop (m := l.length + 1) (c := c) hC' (by rw [bI_length]; omega) (by rw [bI_length]; exact hc)
    rw [bI_take, hl, bI_length] at hCl
    rw [bI_drop, hr, bI_length, show (Kd.int .u8).sz = 1 from rfl, Nat.mul_one] at hCr
    refine ⟨l, r, _, c - (l.length + 1), true, ?_, by rw [ht]; exact dLines_cut l r h, hCl, by omega, hCr, by omega, by omega, q, rfl⟩
    unfold Lib.cutV Lib.fromV
    rw [hix, if_pos (Int.natCast_nonneg _), Int.toNat_natCast, show t.length - (l.length + 1) = r.length by omega]
/-- A line as the iterator hands it out. -/
structure LR where
  n : Nat
  A : Option Addr
  c : Nat
  l : List UInt8
def LR.enc (x : LR) : Array Value := #[.int .i64 (x.n : Int), .slice x.A x.l.length x.c]
/-- What has been handed out of a text. -/
structure LOK (w : World) (s : List UInt8) (pre : List LR) : Prop where
  px : pre.map (·.l) <+: dLines s
  at_ : ∀ x ∈ pre, (Kd.int .u8).C w x.A x.l.length (bI x.l) ∧ x.l.length ≤ x.c
  num : pre.map (·.n) = (List.range pre.length).map (· + 1)
theorem LOK.nil (w : World) (s : List UInt8) : LOK w s [] := ⟨List.nil_prefix, (fun x h => by cases h), rfl⟩
theorem LOK.snoc {w : World} {s : List UInt8} {pre : List LR} {x : LR} (h : LOK w s pre) (hp : pre.map (·.l) ++ [x.l] <+: dLines s) (hx : (Kd.int .u8).C w x.A x.l.length (bI x.l) ∧ x.l.length ≤ x.c) (hn : x.n = pre.length + 1) : LOK w s (pre ++ [x]) :=
  ⟨by rw [List.map_append]; exact hp, fun y hy => by
    rcases List.mem_append.1 hy with hy | hy
    · exact h.at_ y hy
    · rw [List.mem_singleton] at hy; subst hy; exact hx, by
    rw [List.map_append, h.num, List.length_append, List.length_singleton, List.range_succ, List.map_append, List.map_singleton, List.map_singleton, hn]⟩
theorem LOK.last {w : World} {s : List UInt8} {pre : List LR} {x : LR} (h : LOK w s (pre ++ [x])) : x.n = pre.length + 1 := by
  have := h.num
  rw [List.map_append, List.length_append, List.length_singleton, List.range_succ, List.map_append] at this
  have := List.append_inj_right' this rfl
  simpa using this
def boxLen (Bn : Nat) (W : World) : Nat := match W.cell? ⟨Bn, 0, none⟩ with | some (.slice _ n _) => n | _ => 0
theorem boxLen_eq {Bn : Nat} {W : World} {A : Option Addr} {n c : Nat} (h : W.heap[Bn]? = some (.cells #[.slice A n c] 46 (0, 0))) : boxLen Bn W = n := by
  unfold boxLen
  rw [(blk_cell h 0).trans (show _ = some (Value.slice A n c) from rfl)]
theorem lines_calls (A : Option Addr) (n c : Nat) (w : World) : Calls Tryz.prog 14 #[.slice A n c] w fun e w' => ∃ g, g = w.heap.size ∧ e = .returned (.func (.func 31) #[] #[.pointer (some ⟨g, 0, none⟩)]) ∧ w'.heap[g]? = some (.cells #[.slice A n c] 46 (0, 0)) ∧ Below w.heap.size w w' := by
  go_enter Tryz.func14, Tryz.ntmps14
  go_wp2
  go_ret
  exact ⟨_, rfl, rfl, blk_new w _, below_alloc (Below.refl _ _) _⟩
set_option maxRecDepth 100000 in
set_option maxHeartbeats 1000000 in
theorem lines_in (n : Nat) (hn : 1 ≤ n) (l Bn : Nat) (w0 : World) (A0 : Option Addr) (c0 : Nat) (s : List UInt8) (hs : s.length ≤ 100000) (hC0 : (Kd.int .u8).C w0 A0 s.length (bI s)) (hc0 : s.length ≤ c0) (J Jx : List LR → World → Prop) (hJ : AbidesBox Bn J)
    (hY : ∀ pre x W, J pre W → LOK w0 s (pre ++ [x]) → YieldAt Fence.wide (n - 1) Tryz.prog l x.enc W fun e W' =>
      (e = .returned (.bool true) ∧ J (pre ++ [x]) W' ∧ KpBox w0.heap.size Bn W W') ∨ (e = .returned (.bool false) ∧ Jx (pre ++ [x]) W'))
    (W : World) (hB : w0.heap.size ≤ Bn) (hBn : W.heap[Bn]? = some (.cells #[.slice A0 s.length c0] 46 (0, 0))) (hW : Below w0.heap.size w0 W) (hlt : LT w0.heap.size w0) (h0 : J [] W) :
    CallsIn Fence.wide n Tryz.prog 31 #[.func (.yield l) #[] #[], .pointer (some ⟨Bn, 0, none⟩)] W fun e W' => (∃ v, e = .returned v) ∧
      ((∃ ys, (ys.map (·.l) = dLines s ∧ LOK w0 s ys) ∧ J ys W') ∨ (∃ pre, LOK w0 s pre ∧ Jx pre W')) := by
  refine callsIn_of_wp Tryz.func31 rfl trivial ?_ rfl
  simp only [Tryz.ntmps31, List.size_toArray, List.length_cons, List.length_nil, Nat.reduceAdd, Nat.reduceSub, Array.replicate_succ, Array.replicate_zero, List.push_toArray, List.append_toArray, List.nil_append, List.cons_append]
  have HBN := Aside0.mk hBn
  have HLT := Aside0.mk hlt
  have HS := Aside0.mk hs
  have H0 := Aside0.mk h0
  have HY := Aside0.mk hY
  have HJ := Aside0.mk hJ
  have HC0 := Aside0.mk hC0
  have HL0 := Aside0.mk hc0
  have HW := Aside0.mk hW
  clear hBn hlt hs h0 hY hJ hC0 hc0 hW
  gi_wp2
  gi_loopw [3] (fun v wr => ∃ (pre : List LR) (t : List UInt8) (A : Option Addr) (c : Nat), v = .int .i64 ((pre.length : Int) + 1) ∧ Aside0 (t.length ≤ s.length ∧ pre.length + t.length ≤ s.length) ∧ Aside0 (dLines s = pre.map (·.l) ++ dLines t) ∧ Aside0 (LOK w0 s pre) ∧ Aside0 ((Kd.int .u8).C w0 A t.length (bI t)) ∧ t.length ≤ c ∧ Aside0 (wr.heap[Bn]? = some (.cells #[.slice A t.length c] 46 (0, 0))) ∧ Aside0 (Below w0.heap.size w0 wr) ∧ Aside0 (J pre wr))
    (fun _ wr => boxLen Bn wr)
  case atStart => exact ⟨[], s, A0, c0, rfl, ⟨Nat.le_refl _, by simp⟩, ⟨rfl⟩, ⟨LOK.nil _ _⟩, HC0, HL0.out, HBN, HW, H0⟩
  case round =>
    clear HBN H0 HC0 HL0 HW
    obtain ⟨pre, t, A, c, rfl, HT, HQ, HOK, HC, hc, HBN, HW, HJJ⟩ := hrel
    have hcz := (blk_cell HBN.out 0).trans (show _ = some (Value.slice A t.length c) from rfl)
    have hf := blk_frozen HBN.out 0
    have hps : pre.length ≤ 100000 := by have := HT.out; have := HS.out; omega
    have hts : t.length ≤ 100000 := by have := HT.out; have := HS.out; omega
    by_cases hz : t = []
    · have hz1 : decide (0 < (t.length : Int)) = false := by rw [hz]; rfl
      have hz2 : decide (0 < t.length) = false := by rw [hz]; rfl
      have hz3 := Aside0.mk hz
      clear hz
      gi_wp2
      go_end0
      exact ⟨⟨_, rfl⟩, .inl ⟨pre, ⟨by rw [HQ.out, hz3.out, dLines_nil, List.append_nil], HOK.out⟩, HJJ.out⟩⟩
    · have hpos : 0 < t.length := List.length_pos_iff.2 hz
      have hz1 : decide (0 < (t.length : Int)) = true := decide_eq_true (by omega)
      have hz2 : decide (0 < t.length) = true := decide_eq_true hpos
      have HNE := Aside0.mk hz
      clear hz
      gi_wp2_with ((refine ⟨trivial, ?_⟩; gi_at_call 32; refine (callsIn_wide.2 (cut_calls A c wr.heap.size 1 t w0 _ (below_alloc HW.out _) HC.out hc HNE.out hts ((HLT.out.on (below_alloc HW.out _)).here) (blk_new wr _))).mono ?_; rintro e w2 ⟨q, r, A2, c2, fl, rfl, hd, hCl, hlc, hCr, hrc, hrt, nd, rfl⟩; have HD := Aside0.mk hd; have HRT := Aside0.mk hrt; have HOKX := Aside0.mk (show LOK w0 s (pre ++ [⟨pre.length + 1, A, c, q⟩]) from HOK.out.snoc ⟨dLines r, by rw [HQ.out, HD.out]; simp⟩ ⟨hCl, hlc⟩ rfl); obtain ⟨fn, tmps, assign, body, hy, hR⟩ := HY.out pre ⟨pre.length + 1, A, c, q⟩ _ (HJ.out _ _ _ none (HJ.out _ _ _ none HJJ.out (World.grownBy_alloc wr (.cells #[.int .u8 10] 5) none) (fun r e => by cases e)) (grown_drewN (wr.alloc (.cells #[.int .u8 10] 5)) nd) (fun r e => by cases e)) HOKX.out; have HRR := Aside0.mk hR; replace hy : (Instr.yield l #[.int .i64 ((pre.length : Int) + 1), .slice A q.length c]).run Tryz.prog _ = _ := hy; have HRC := Aside0.mk hCr; clear hR hd hCr hCl hrt))
      refine HRR.out.mono ?_
      have HB2 := Aside0.mk (show Below w0.heap.size w0 ((wr.alloc (.cells #[.int .u8 10] 5)).drewN nd) from pw_below_drewN (below_alloc HW.out _) nd)
      have HBN2 := Aside0.mk (show ((wr.alloc (.cells #[.int .u8 10] 5)).drewN nd).heap[Bn]? = some (.cells #[.slice A t.length c] 46 (0, 0)) from blk_drewN (blk_alloc HBN.out _) nd)
      rintro e W3 (⟨rfl, hJ3, hk3, hb3⟩ | ⟨rfl, hJx3⟩)
      · have HB3 := Aside0.mk (show W3.heap[Bn]? = some (.cells #[.slice A t.length c] 46 (0, 0)) from hb3.trans HBN2.out)
        have HW3 := Aside0.mk (HB2.out.trans hk3)
        have hc3 := (blk_cell HB3.out 0).trans (show _ = some (Value.slice A t.length c) from rfl)
        have hf3 := blk_frozen HB3.out 0
        have HJ3 := Aside0.mk hJ3
        clear hJ3 hk3 hb3
        gi_wp2
        go_roundw
        case rel => exact ⟨pre ++ [⟨pre.length + 1, A, c, q⟩], r, A2, c2, (by rw [List.length_append, List.length_singleton]; rfl), ⟨by have h1 := HRT.out; have h2 := HT.out; rw [List.length_append, List.length_singleton]; omega⟩, ⟨by rw [HQ.out, HD.out]; simp⟩, HOKX, HRC, hrc, ⟨blk_put HB3.out 0 _ rfl⟩, ⟨HW3.out.trans (below_set_box hB _)⟩, ⟨HJ.out _ _ _ (some Bn) HJ3.out (grown_set W3 Bn 0 _) (fun r e => by cases e; rfl)⟩⟩
        case measure => rw [boxLen_eq (blk_put HB3.out 0 _ rfl), boxLen_eq HBN.out]; exact HRT.out
      · gi_wp2
        refine bodyPost_ret (results_none rfl _ _ _) rfl ?_
        exact ⟨⟨_, rfl⟩, .inr ⟨pre ++ [⟨pre.length + 1, A, c, q⟩], HOKX.out, hJx3⟩⟩
end Go.Proofs.YtigloobbpcnnhaaGreatDoor.PB
end
section
namespace Go.Proofs.YtigloobbpcnnhaaGreatDoor.PB
open Go.RowKit Go.Proofs.YtigloobbpcnnhaaGreatDoorW.PrintWords Go.Proofs.YtigloobbpcnnhaaGreatDoorW.PrintLast Go.Proofs.YtigloobbpcnnhaaGreatDoorW.PrintMore
set_option linter.unusedVariables false
set_option linter.unusedSimpArgs false
theorem count_calls (ad : Addr) (c b2 d : Nat) (b : List UInt8) (w : World) (hC : (Kd.int .u8).C w (some ad) b.length (bI b)) (hb2 : w.heap[b2]? = some (.cells #[.int .u8 10] 5 (0, 0))) :
    Calls Tryz.prog 61 #[.slice (some ad) b.length c, .slice (some ⟨b2, 0, none⟩) 1 d] w fun e w' => e = .returned (.int .i64 ((b.count 10 : Nat) : Int)) ∧ w = w' := by
  refine (Tryz.bytes_Count_one_at ad b.length c b2 0 d (bI b) 10 w (bI_length b) ?_ ((blk_cell hb2 0).trans rfl)).mono ?_
  · intro i hi
    obtain ⟨ad', e, h⟩ := Kd.at_int hC (i : Int) (by omega) (by omega)
    cases e
    rw [Int.toNat_natCast] at h
    rw [h]
    unfold rd
    rw [Int.toNat_natCast]
  · rintro e w' ⟨rfl, rfl⟩
    refine ⟨?_, rfl⟩
    rw [bI_back]
    rfl
theorem bI_last (b : List UInt8) (h : b ≠ []) : rd (bI b) ((b.length : Int) - 1) = ((b.getLast h).toNat : Int) := by
  have hp : 0 < b.length := List.length_pos_iff.2 h
  unfold rd
  rw [show ((b.length : Int) - 1).toNat = b.length - 1 by omega, List.getLast_eq_getElem, List.getD_eq_getElem?_getD]
  unfold bI
  rw [List.getElem?_map, List.getElem?_eq_getElem (by omega)]
  rfl
set_option maxHeartbeats 1000000 in
set_option maxRecDepth 100000 in
theorem last_calls (ad : Addr) (c : Nat) (b : List UInt8) (w : World) (hC : (Kd.int .u8).C w (some ad) b.length (bI b)) (hc : b.length ≤ c) (hs : b.length ≤ 100000) :
    Calls Tryz.prog 42 #[.slice (some ad) b.length c] w fun e w' => e = .returned (.int .i64 (((dLines b).length : Nat) : Int)) ∧ Below w.heap.size w w' := by
  have HC := Aside0.mk hC
  have hcl : b.count 10 ≤ 100000 := Nat.le_trans (List.count_le_length) hs
  obtain ⟨k, hk⟩ : ∃ k, k = b.count 10 := ⟨_, rfl⟩
  have HK := Aside0.mk hk
  rw [← hk] at hcl
  have hl := dLines_count b
  rw [← hk] at hl
  by_cases h0 : b = []
  · have hd := Aside0.mk (show (dLines b).length = k by rw [hl, if_neg (fun h => h.1 h0)]; rfl)
    have t1 : decide (0 < (b.length : Int)) = false := by rw [h0]; rfl
    have t2 : decide (0 < b.length) = false := by rw [h0]; rfl
    clear hC hk hl h0
    go_enter Tryz.func42, Tryz.ntmps42
    go_wp2_with (go_at_call 61; refine (count_calls ad c w.heap.size 1 b _ (Kd.C_below HC.out (below_alloc (Below.refl _ _) _)) (blk_new w _)).mono ?_; rw [← HK.out]; rintro e w2 ⟨rfl, rfl⟩)
    go_ret
    exact ⟨by rw [hd.out]; rfl, below_alloc (Below.refl _ _) _⟩
  · have hp : 0 < b.length := List.length_pos_iff.2 h0
    have t1 : decide (0 < (b.length : Int)) = true := decide_eq_true (by omega)
    have t2 : decide (0 < b.length) = true := decide_eq_true hp
    have p0 : (0 : Int) ≤ (b.length : Int) - 1 := by omega
    have p1 : (b.length : Int) - 1 < (b.length : Int) := by omega
    have p2 : b.length - 1 < b.length := by omega
    obtain ⟨ad', e, hx⟩ := Kd.at_int hC ((b.length : Int) - 1) p0 p1
    cases e
    rw [bI_last b h0] at hx
    obtain ⟨y, hy⟩ : ∃ y, y = b.getLast h0 := ⟨_, rfl⟩
    rw [← hy, show ((b.length : Int) - 1).toNat = b.length - 1 by omega] at hx
    have hgl : b.getLast? = some y := by rw [hy, List.getLast?_eq_some_getLast h0]
    have HX := Aside0.mk hx
    by_cases h10 : y = 10
    · have hd := Aside0.mk (show (dLines b).length = k by rw [hl, if_neg (fun h => h.2 (by rw [hgl, h10]))]; rfl)
      have t3 : ((y.toNat : Int) == 10) = true := by rw [h10]; rfl
      have t3n : ((y.toNat : Int) != 10) = false := by rw [bne, t3]; rfl
      clear hC hk hl h0 hy hgl h10 hx
      go_enter Tryz.func42, Tryz.ntmps42
      go_wp2_with (go_at_call 61; refine (count_calls ad c w.heap.size 1 b _ (Kd.C_below HC.out (below_alloc (Below.refl _ _) _)) (blk_new w _)).mono ?_; rw [← HK.out]; rintro e w2 ⟨rfl, rfl⟩; have hx := pw_cell_below (below_alloc (Below.refl _ w) (.cells #[.int .u8 10] 5)) HX.out)
      go_ret
      exact ⟨by rw [hd.out]; rfl, below_alloc (Below.refl _ _) _⟩
    · have hd := Aside0.mk (show (((dLines b).length : Nat) : Int) = (k : Int) + 1 by rw [hl, if_pos ⟨h0, by rw [hgl]; intro e; exact h10 (Option.some.inj e)⟩]; rfl)
      have t3 : ((y.toNat : Int) == 10) = false := by
        rw [beq_eq_false_iff_ne]
        intro e
        exact h10 (UInt8.toNat_inj.1 (by show y.toNat = 10; omega))
      have t3n : ((y.toNat : Int) != 10) = true := by rw [bne, t3]; rfl
      clear hC hk hl h0 hy hgl h10 hx
      go_enter Tryz.func42, Tryz.ntmps42
      go_wp2_with (go_at_call 61; refine (count_calls ad c w.heap.size 1 b _ (Kd.C_below HC.out (below_alloc (Below.refl _ _) _)) (blk_new w _)).mono ?_; rw [← HK.out]; rintro e w2 ⟨rfl, rfl⟩; have hx := pw_cell_below (below_alloc (Below.refl _ w) (.cells #[.int .u8 10] 5)) HX.out)
      go_ret
      exact ⟨by rw [hd.out]; rfl, below_alloc (Below.refl _ _) _⟩
end Go.Proofs.YtigloobbpcnnhaaGreatDoor.PB
end
section
namespace Go.Proofs.YtigloobbpcnnhaaGreatDoor.PB
open Go.RowKit Go.Shelf Go.Proofs.YtigloobbpcnnhaaGreatDoorW.PrintWords Go.Proofs.YtigloobbpcnnhaaGreatDoorW.PrintLast Go.Proofs.YtigloobbpcnnhaaGreatDoorW.PrintMore
set_option linter.unusedVariables false
set_option linter.unusedSimpArgs false
attribute [local go_sem] Oper.semAt_some
theorem nsz48 : (Tryz.prog.info? 81).map (·.size) = some 1 := by kernel_rfl
theorem nsz26 : (Tryz.prog.info? 24).map (·.size) = some 1 := by kernel_rfl
theorem nsz4 : (Tryz.prog.info? 4).map (·.size) = some 1 := by kernel_rfl
theorem nsz25 : (Tryz.prog.info? 35).map (·.size) = some 2 := by kernel_rfl
abbrev stOf (pre : List LR) : DS := dState (pre.map (·.l))
/-- Between two rounds. -/
structure PI (w : World) (g2 g3 g4 gp g5 g6 Bn : Nat) (pre : List LR) (W : World) : Prop where
  ok : (stOf pre).err = 0
  r2 : W.heap[g2]? = some (.cells #[.int .i64 0, .slice none 0 0] 35 (0, 0))
  r3 : W.heap[g3]? = some (.cells #[.int .i64 0] 24 (0, 0))
  r4 : W.heap[g4]? = some (.cells #[.int .i64 0] 3 (0, 0))
  prs : PRS (Bn + 1) w.heap.size gp (stOf pre).p W
  r5 : W.heap[g5]? = some (.cells #[.pointer (some ⟨gp, 0, none⟩)] 81 (0, 0))
  r6 : W.heap[g6]? = some (.cells #[.bool (stOf pre).headed] 4 (0, 0))
  bw : Below w.heap.size w W
/-- Behind the line that is wrong. -/
structure PX (w : World) (g2 g3 g4 : Nat) (pre : List LR) (W : World) : Prop where
  bad : (stOf pre).err ≠ 0
  r2 : W.heap[g2]? = some (.cells #[.int .i64 0, .slice none 0 0] 35 (0, 0))
  r3 : W.heap[g3]? = some (.cells #[.int .i64 (stOf pre).err] 24 (0, 0))
  r4 : W.heap[g4]? = some (.cells #[.int .i64 ((stOf pre).n : Nat)] 3 (0, 0))
  bw : Below w.heap.size w W
theorem PRS.own {Bn base g : Nat} {p : DP} {W W' : World} {B : Nat} {row : Option Nat} (h : PRS (Bn + 1) base g p W) (hg : W.grownBy W' row) (hr : ∀ r, row = some r → r = Bn ∨ (B ≤ r ∧ ∃ o : Obj, W.heap[r]? = some o ∧ o.isCells = false)) (hne : g ≠ Bn) : PRS (Bn + 1) base g p W' := by
  obtain ⟨v1, v3, hc, h1, h3⟩ := h.ex
  have step : ∀ k : Nat, Bn + 1 ≤ k → (∃ cells q, W.heap[k]? = some (.cells cells q (0, 0))) → W'.heap[k]? = W.heap[k]? := by
    rintro k hk ⟨cells, q, hq⟩
    rw [blk_row hg hr hq (by omega), hq]
  refine ⟨⟨v1, v3, blk_row hg hr hc hne, ?_, ?_⟩, h.bs, h.bl, Nat.le_trans h.top hg.size⟩
  · exact Kd.R_mono (Kd.R_step (Kd.R_bound h1) (fun k hk _ => by
      obtain ⟨_, hk1, _, q, _, cells, hq⟩ := hk
      exact step k hk1 ⟨cells, q, hq⟩)) (fun _ hk => hk.1)
  · exact Kd.R_mono (Kd.R_step (Kd.R_bound h3) (fun k hk _ => by
      obtain ⟨_, hk1, _, q, _, cells, hq⟩ := hk
      exact step k hk1 ⟨cells, q, hq⟩)) (fun _ hk => hk.1)
theorem PI.own {w : World} {g2 g3 g4 gp g5 g6 Bn B : Nat} (h2 : g2 < Bn) (h3 : g3 < Bn) (h4 : g4 < Bn) (hp : gp < Bn) (h5 : g5 < Bn) (h6 : g6 < Bn) (hw : w.heap.size ≤ Bn) (hB : w.heap.size ≤ B) : OwnBox B Bn (PI w g2 g3 g4 gp g5 g6 Bn) := by
  intro pre W W' row h hg hr
  refine ⟨h.ok, blk_row hg hr h.r2 (by omega), blk_row hg hr h.r3 (by omega), blk_row hg hr h.r4 (by omega), h.prs.own hg hr (by omega), blk_row hg hr h.r5 (by omega), blk_row hg hr h.r6 (by omega), ?_⟩
  refine h.bw.grown hg h.bw.size (fun k e => ?_)
  rcases hr k e with e2 | ⟨e2, _⟩
  · omega
  · omega
theorem PX.own {w : World} {g2 g3 g4 Bn B : Nat} (h2 : g2 < Bn) (h3 : g3 < Bn) (h4 : g4 < Bn) (hw : w.heap.size ≤ Bn) (hB : w.heap.size ≤ B) : OwnBox B Bn (PX w g2 g3 g4) := by
  intro pre W W' row h hg hr
  refine ⟨h.bad, blk_row hg hr h.r2 (by omega), blk_row hg hr h.r3 (by omega), blk_row hg hr h.r4 (by omega), ?_⟩
  refine h.bw.grown hg h.bw.size (fun k e => ?_)
  rcases hr k e with e2 | ⟨e2, _⟩
  · omega
  · omega
theorem stOf_snoc (pre : List LR) (x : LR) : stOf (pre ++ [x]) = dLine (stOf pre) x.l := by
  unfold stOf
  rw [List.map_append, List.map_singleton, dState_snoc]
section
variable {P : Program} {n l : Nat} {ops ops0 : Array Oper} {rest : List Oper} {o : Oper} {a : Act} {W : World} {Q : Exit → Act → World → Prop} {F : Fence}
theorem store_two {W : World} (t : TypeId) (p : Tmp) (v : Operand) (ho : o.op = .store t (.tmp p) v) (hgd : o.guard = none) (hN : o.dst = none) {g off : Nat} {e : TypeId} {cur : Array Value} (v0 v1 : Value) (cur' : Array Value)
    (haddr : a.eval (.tmp p) = .pointer (some ⟨g, off, none⟩)) (hv : a.eval v = .agg #[v0, v1]) (hh : W.heap[g]? = some (.cells cur e (0, 0))) (ht : (P.info? t).map (·.size) = some 2) (hfit : off + 2 ≤ cur.size)
    (h0 : v0.oneCell' = true) (h1 : v1.oneCell' = true) (hcur : setSeg cur off [v0, v1] = cur')
    (h : ∀ w1, w1.heap[g]? = some (.cells cur' e (0, 0)) → SameBut g W w1 → wpList P ops Q rest a w1) : wpList P ops Q (o :: rest) a W :=
  store_block t p v ho hgd hN _ [v0, v1] cur' haddr hv hh rfl ht hfit (by
    intro q hq
    simp only [List.mem_cons, List.not_mem_nil, or_false] at hq
    rcases hq with rfl | rfl
    · exact h0
    · exact h1) hcur h
theorem store_two_in (hF : WF F) (t : TypeId) (p : Tmp) (v : Operand) (ho : o.op = .store t (.tmp p) v) (hgd : o.guard = none) (hN : o.dst = none) {g off : Nat} {e : TypeId} {cur : Array Value} (v0 v1 : Value) (cur' : Array Value)
    (haddr : a.eval (.tmp p) = .pointer (some ⟨g, off, none⟩)) (hv : a.eval v = .agg #[v0, v1]) (hh : W.heap[g]? = some (.cells cur e (0, 0))) (ht : (P.info? t).map (·.size) = some 2) (hfit : off + 2 ≤ cur.size)
    (h0 : v0.oneCell' = true) (h1 : v1.oneCell' = true) (hcur : setSeg cur off [v0, v1] = cur')
    (h : ∀ w1, w1.heap[g]? = some (.cells cur' e (0, 0)) → SameBut g W w1 → wpListIn F n P ops Q rest a w1) : wpListIn F n P ops Q (o :: rest) a W :=
  list_in hF (ops0 := #[]) hgd (by intro c hc; rw [ho] at hc; cases hc) (φ := fun a' w' => a' = a ∧ w'.heap[g]? = some (.cells cur' e (0, 0)) ∧ SameBut g W w') (store_two t p v ho hgd hN v0 v1 cur' haddr hv hh ht hfit h0 h1 hcur (fun w1 e1 e2 => ⟨rfl, rfl, e1, e2⟩)) (by rintro a' w' ⟨rfl, e1, e2⟩; exact h w' e1 e2)
end
theorem keeps_ko {B : Nat} {T : List Nat} {A C : World} (h : KO T A C) : KeepsFrom B A C := ⟨h.size, fun k o _ hk ho => h.blk k o hk (fun cs t fr e => by subst e; cases ho)⟩
theorem ko_R {w w' : World} {base : Nat} {v : Value} {xs : List ByteArray} (h : Kd.string.R 9 w base (fun _ => True) v xs) (hk : KO TP w w') : Kd.string.R 9 w' base (fun _ => True) v xs :=
  Kd.R_mono (Kd.R_step (Kd.R_bound h) (fun k hk2 _ => by
    obtain ⟨_, _, _, q, hq, cells, hc⟩ := hk2
    simp only [Kd.string, Kd.scalar, List.mem_cons, List.not_mem_nil, or_false] at hq
    subst hq
    rw [hk.cells hc (by decide), hc])) (fun _ _ => trivial)
theorem dLine_head (n : Nat) (p : DP) (l : List UInt8) (h : dWords l ≠ []) : dLine ⟨0, n, false, p⟩ l = ⟨(dHead p (dWords l)).1, n + 1, true, (dHead p (dWords l)).2⟩ := by
  unfold dLine
  rw [if_neg (fun h => h rfl), if_pos rfl, if_neg h]
theorem dLine_words (n : Nat) (hd : Bool) (p : DP) (l : List UInt8) (h : hd = true ∨ dWords l = []) : dLine ⟨0, n, hd, p⟩ l = ⟨(dWordsL p (dWords l)).1, n + 1, hd, (dWordsL p (dWords l)).2⟩ := by
  unfold dLine
  rw [if_neg (fun h => h rfl)]
  cases hd with
  | true => rfl
  | false =>
    rcases h with h | h
    · cases h
    · rw [if_pos rfl, if_pos h, h]
      rfl
theorem dWordsL_cons (p : DP) (x : List UInt8) (r : List (List UInt8)) (e : Int) (p' : DP) (h : dWord p x = (e, p')) : dWordsL p (x :: r) = if e ≠ 0 then (e, p') else dWordsL p' r := by
  rw [dWordsL, h]
set_option maxRecDepth 100000 in
set_option maxHeartbeats 2000000 in
theorem parse_calls (ad : Addr) (c : Nat) (b : List UInt8) (w : World) (hC : (Kd.int .u8).C w (some ad) b.length (bI b)) (hc : b.length ≤ c) (hs : b.length ≤ 100000) (hlt : LT w.heap.size w) :
    Calls Tryz.prog 20 #[.slice (some ad) b.length c] w fun e w' => ∃ v, e = .returned (.tuple #[.agg #[.int .i64 (dParse b).1.1, v], .int .i64 (dParse b).2.1, .int .i64 (dParse b).2.2]) ∧ kcs.R 42 w' w.heap.size (fun _ => True) v (dParse b).1.2 ∧ Below w.heap.size w w' := by
  have HLT := Aside0.mk hlt
  have HS := Aside0.mk hs
  have HC := Aside0.mk hC
  clear hlt hs hC
  refine (callsIn_wide (n := 5)).1 ?_
  refine callsIn_of_wp_marks Tryz.func20 rfl trivial ?_ rfl
  simp only [Tryz.ntmps20, List.size_toArray, List.length_cons, List.length_nil, Nat.reduceAdd, Nat.reduceSub, Array.replicate_succ, Array.replicate_zero, List.push_toArray, List.append_toArray, List.nil_append, List.cons_append]
  gi_wp2_with (first | ((with_reducible refine gin_dst (N := 2) rfl ?_); refine box_in (.inl rfl) ?hg (by intro c hc; cases hc) (N := 2) ?hd (cs := #[.int .i64 0, .slice none 0 0]) (t := 35) ?hr ?_; (case hd => rfl); (case hg => rfl); (case hr => first | (go_simp; done) | (go_simp; rfl)); intro g2 hgb Wg2 hbox hb; have Hg2 := Aside0.mk hbox; have HB := Aside0.mk hb; have HLg2 := Aside0.mk (show w.heap.size ≤ g2 by rw [hgb]; exact Nat.le_refl _); clear hbox hb hgb) | ((with_reducible refine gin_dst (N := 3) rfl ?_); refine box_in (.inl rfl) ?hg (by intro c hc; cases hc) (N := 3) ?hd (cs := #[.int .i64 0]) (t := 24) ?hr ?_; (case hd => rfl); (case hg => rfl); (case hr => first | (go_simp; done) | (go_simp; rfl)); intro g3 hgb Wg3 hbox hb; have Hg3 := Aside0.mk hbox; have HLg3 := Aside0.mk (show w.heap.size ≤ g3 by rw [hgb]; exact HB.out.size); have HB' := Aside0.mk (below_step HB.out hb); clear HB; have HB := HB'; clear HB'; have Hg2' := Aside0.mk (blk_below Hg2.out hb); clear Hg2; have Hg2 := Hg2'; clear Hg2'; clear hbox hb hgb) | ((with_reducible refine gin_dst (N := 4) rfl ?_); refine box_in (.inl rfl) ?hg (by intro c hc; cases hc) (N := 4) ?hd (cs := #[.int .i64 0]) (t := 3) ?hr ?_; (case hd => rfl); (case hg => rfl); (case hr => first | (go_simp; done) | (go_simp; rfl)); intro g4 hgb Wg4 hbox hb; have Hg4 := Aside0.mk hbox; have HLg4 := Aside0.mk (show w.heap.size ≤ g4 by rw [hgb]; exact HB.out.size); have HB' := Aside0.mk (below_step HB.out hb); clear HB; have HB := HB'; clear HB'; have Hg2' := Aside0.mk (blk_below Hg2.out hb); clear Hg2; have Hg2 := Hg2'; clear Hg2'; have Hg3' := Aside0.mk (blk_below Hg3.out hb); clear Hg3; have Hg3 := Hg3'; clear Hg3'; clear hbox hb hgb) | ((with_reducible refine gin_dst (N := 15) rfl ?_); refine box_in (.inl rfl) ?hg (by intro c hc; cases hc) (N := 15) ?hd (cs := #[.int .i64 0, .slice none 0 0, .int .i64 0, .slice none 0 0, .int .i64 0]) (t := 83) ?hr ?_; (case hd => rfl); (case hg => rfl); (case hr => first | (go_simp; done) | (go_simp; rfl)); intro gp hgb Wgp hbox hb; have Hgp := Aside0.mk hbox; have HLgp := Aside0.mk (show w.heap.size ≤ gp by rw [hgb]; exact HB.out.size); have HB' := Aside0.mk (below_step HB.out hb); clear HB; have HB := HB'; clear HB'; have Hg2' := Aside0.mk (blk_below Hg2.out hb); clear Hg2; have Hg2 := Hg2'; clear Hg2'; have Hg3' := Aside0.mk (blk_below Hg3.out hb); clear Hg3; have Hg3 := Hg3'; clear Hg3'; have Hg4' := Aside0.mk (blk_below Hg4.out hb); clear Hg4; have Hg4 := Hg4'; clear Hg4'; clear hbox hb hgb) | ((with_reducible refine gin_dst (N := 5) rfl ?_); refine box_in (.inl rfl) ?hg (by intro c hc; cases hc) (N := 5) ?hd (cs := #[.pointer none]) (t := 81) ?hr ?_; (case hd => rfl); (case hg => rfl); (case hr => first | (go_simp; done) | (go_simp; rfl)); intro g5 hgb Wg5 hbox hb; have Hg5 := Aside0.mk hbox; have HLg5 := Aside0.mk (show w.heap.size ≤ g5 by rw [hgb]; exact HB.out.size); have HB' := Aside0.mk (below_step HB.out hb); clear HB; have HB := HB'; clear HB'; have Hg2' := Aside0.mk (blk_below Hg2.out hb); clear Hg2; have Hg2 := Hg2'; clear Hg2'; have Hg3' := Aside0.mk (blk_below Hg3.out hb); clear Hg3; have Hg3 := Hg3'; clear Hg3'; have Hg4' := Aside0.mk (blk_below Hg4.out hb); clear Hg4; have Hg4 := Hg4'; clear Hg4'; have Hgp' := Aside0.mk (blk_below Hgp.out hb); clear Hgp; have Hgp := Hgp'; clear Hgp'; clear hbox hb hgb) | ((with_reducible refine gin_store (t := 81) (p := 5) rfl ?_); refine store_one_in (.inl rfl) 81 5 (.tmp 15) rfl rfl rfl (.pointer (some ⟨gp, 0, none⟩)) #[.pointer (some ⟨gp, 0, none⟩)] rfl rfl Hg5.out rfl nsz48 (show 0 + 1 ≤ 1 by omega) rfl rfl ?_; intro WSg5 hw hsb; have Hg2' := Aside0.mk (hsb.other Hg2.out (blk_ne Hg2.out Hg5.out (by decide))); clear Hg2; have Hg2 := Hg2'; clear Hg2'; have Hg3' := Aside0.mk (hsb.other Hg3.out (blk_ne Hg3.out Hg5.out (by decide))); clear Hg3; have Hg3 := Hg3'; clear Hg3'; have Hg4' := Aside0.mk (hsb.other Hg4.out (blk_ne Hg4.out Hg5.out (by decide))); clear Hg4; have Hg4 := Hg4'; clear Hg4'; have Hgp' := Aside0.mk (hsb.other Hgp.out (blk_ne Hgp.out Hg5.out (by decide))); clear Hgp; have Hgp := Hgp'; clear Hgp'; have HB' := Aside0.mk (hsb.below HB.out HLg5.out); clear HB; have HB := HB'; clear HB'; clear Hg5; have Hg5 := Aside0.mk hw; clear hw hsb) | ((with_reducible refine gin_dst (N := 6) rfl ?_); refine box_in (.inl rfl) ?hg (by intro c hc; cases hc) (N := 6) ?hd (cs := #[.bool false]) (t := 4) ?hr ?_; (case hd => rfl); (case hg => rfl); (case hr => first | (go_simp; done) | (go_simp; rfl)); intro g6 hgb Wg6 hbox hb; have Hg6 := Aside0.mk hbox; have HLg6 := Aside0.mk (show w.heap.size ≤ g6 by rw [hgb]; exact HB.out.size); have HB' := Aside0.mk (below_step HB.out hb); clear HB; have HB := HB'; clear HB'; have Hg2' := Aside0.mk (blk_below Hg2.out hb); clear Hg2; have Hg2 := Hg2'; clear Hg2'; have Hg3' := Aside0.mk (blk_below Hg3.out hb); clear Hg3; have Hg3 := Hg3'; clear Hg3'; have Hg4' := Aside0.mk (blk_below Hg4.out hb); clear Hg4; have Hg4 := Hg4'; clear Hg4'; have Hgp' := Aside0.mk (blk_below Hgp.out hb); clear Hgp; have Hgp := Hgp'; clear Hgp'; have Hg5' := Aside0.mk (blk_below Hg5.out hb); clear Hg5; have Hg5 := Hg5'; clear Hg5'; clear hbox hb hgb) | ((with_reducible refine gin_store (t := 4) (p := 6) rfl ?_); refine store_one_in (.inl rfl) 4 6 (.const (.bool false)) rfl rfl rfl (.bool false) #[.bool false] rfl rfl Hg6.out rfl nsz4 (show 0 + 1 ≤ 1 by omega) rfl rfl ?_; intro WSg6 hw hsb; have Hg2' := Aside0.mk (hsb.other Hg2.out (blk_ne Hg2.out Hg6.out (by decide))); clear Hg2; have Hg2 := Hg2'; clear Hg2'; have Hg3' := Aside0.mk (hsb.other Hg3.out (blk_ne Hg3.out Hg6.out (by decide))); clear Hg3; have Hg3 := Hg3'; clear Hg3'; have Hg4' := Aside0.mk (hsb.other Hg4.out (blk_ne Hg4.out Hg6.out (by decide))); clear Hg4; have Hg4 := Hg4'; clear Hg4'; have Hgp' := Aside0.mk (hsb.other Hgp.out (blk_ne Hgp.out Hg6.out (by decide))); clear Hgp; have Hgp := Hgp'; clear Hgp'; have Hg5' := Aside0.mk (hsb.other Hg5.out (blk_ne Hg5.out Hg6.out (by decide))); clear Hg5; have Hg5 := Hg5'; clear Hg5'; have HB' := Aside0.mk (hsb.below HB.out HLg6.out); clear HB; have HB := HB'; clear HB'; clear Hg6; have Hg6 := Aside0.mk hw; clear hw hsb) | (refine ⟨trivial, ?_⟩; gi_at_call 14; refine (callsIn_wide.2 (lines_calls (some ad) b.length c _)).mono ?_; rintro e W0 ⟨Bn, hBn, rfl, hbox, hb⟩; have HBN := Aside0.mk hbox; have HBNL := Aside0.mk (show w.heap.size ≤ Bn by rw [hBn]; exact HB.out.size); have HXg2 := Aside0.mk (show g2 < Bn by rw [hBn]; exact blk_lt Hg2.out); have Hg2' := Aside0.mk (blk_below Hg2.out hb); clear Hg2; have Hg2 := Hg2'; clear Hg2'; have HXg3 := Aside0.mk (show g3 < Bn by rw [hBn]; exact blk_lt Hg3.out); have Hg3' := Aside0.mk (blk_below Hg3.out hb); clear Hg3; have Hg3 := Hg3'; clear Hg3'; have HXg4 := Aside0.mk (show g4 < Bn by rw [hBn]; exact blk_lt Hg4.out); have Hg4' := Aside0.mk (blk_below Hg4.out hb); clear Hg4; have Hg4 := Hg4'; clear Hg4'; have HXgp := Aside0.mk (show gp < Bn by rw [hBn]; exact blk_lt Hgp.out); have Hgp' := Aside0.mk (blk_below Hgp.out hb); clear Hgp; have Hgp := Hgp'; clear Hgp'; have HXg5 := Aside0.mk (show g5 < Bn by rw [hBn]; exact blk_lt Hg5.out); have Hg5' := Aside0.mk (blk_below Hg5.out hb); clear Hg5; have Hg5 := Hg5'; clear Hg5'; have HXg6 := Aside0.mk (show g6 < Bn by rw [hBn]; exact blk_lt Hg6.out); have Hg6' := Aside0.mk (blk_below Hg6.out hb); clear Hg6; have Hg6 := Hg6'; clear Hg6'; have HB' := Aside0.mk (below_step HB.out hb); clear HB; have HB := HB'; clear HB'; clear hbox hb hBn))
  have HPI := Aside0.mk (show PI w g2 g3 g4 gp g5 g6 Bn [] W0 from ⟨rfl, Hg2.out, Hg3.out, Hg4.out, ⟨⟨_, _, Hgp.out, Kd.R_nil _ _ _ _ _, Kd.R_nil _ _ _ _ _⟩, HLgp.out, Nat.le_succ_of_le HBNL.out, blk_lt HBN.out⟩, Hg5.out, Hg6.out, HB.out⟩)
  clear Hg2 Hg3 Hg4 Hgp Hg5 Hg6
  refine wpIn_range_box rfl (by omega) (gf := 31) (lb := #[.pointer (some ⟨Bn, 0, none⟩)]) rfl trivial (enters_of Tryz.func31 (by kernel_rfl) rfl)
    (encs := LR.enc) (Kp := KpBox w.heap.size Bn) (S := fun ys => ys.map (·.l) = dLines b ∧ LOK w b ys) (Sp := fun pre => LOK w b pre) (Bn := Bn) (blk_lt HBN.out) ?seq (fun h k => ⟨h.1.trans k.1, k.2.trans h.2⟩) ?kb (fun _ => rfl)
    (PI w g2 g3 g4 gp g5 g6 Bn) (fun c pre W => c = .ret ∧ PX w g2 g3 g4 pre W) (PI.own HXg2.out HXg3.out HXg4.out HXgp.out HXg5.out HXg6.out HBNL.out HB.out.size) (fun c s A B row h hg hr => ⟨h.1, PX.own HXg2.out HXg3.out HXg4.out HBNL.out HB.out.size s A B row h.2 hg hr⟩) HPI.out
    (fun x => { tmps := #[.slice (some ad) b.length c, undef, .pointer (some ⟨g2, 0, none⟩), .pointer (some ⟨g3, 0, none⟩), .pointer (some ⟨g4, 0, none⟩), .pointer (some ⟨g5, 0, none⟩), .pointer (some ⟨g6, 0, none⟩), .int .i64 (x.n : Int), .slice x.A x.l.length x.c, undef, undef, undef, undef, undef, .agg #[.int .i64 0, .slice none 0 0, .int .i64 0, .slice none 0 0, .int .i64 0], .pointer (some ⟨gp, 0, none⟩), .slice (some ad) b.length c, .func (.func 31) #[] #[.pointer (some ⟨Bn, 0, none⟩)], .int .i64 (x.n : Int), .slice x.A x.l.length x.c, undef, undef, undef, undef, undef, undef, undef, undef, undef, undef, undef, undef, undef, undef, undef, undef, undef, undef, undef, undef, undef, undef, undef, undef, undef, undef, undef, undef, undef, undef, undef, undef, undef, undef, undef, undef, undef, undef, undef, undef, undef, undef, undef, undef, undef, undef, undef, undef, undef, undef, undef, undef, undef, undef, undef, undef, undef, undef, undef, undef, undef, undef, undef, undef, undef], defers := [] }) ?assign ?body ?done ?stop
  case seq =>
    intro l J Jx W hb hJ hJx hY h0
    exact lines_in 4 (by omega) l Bn w (some ad) c b HS.out HC.out hc J Jx hJ hY W HBNL.out ((hb.block Bn (blk_lt HBN.out)).trans HBN.out) (HB.out.trans (hb.mono HB.out.size)) HLT.out h0
  case kb =>
    intro W l o o' hl hW _ _
    have hlt := (Array.getElem?_eq_some_iff.1 hW).1
    refine ⟨(Below.refl _ W).grown (grownBy_putObj' W l o') (by have := HB.out.size; omega) (fun k e => by cases e; have := HB.out.size; omega), World.putObj_heap_other ?_⟩
    have := blk_lt HBN.out
    omega
  case assign =>
    rintro l ⟨xn, xA, xc, xl⟩ W K hK
    simp only [LR.enc]
    gi_wp2
    exact hK
  case body =>
    rintro l pre ⟨xn, xA, xc, xl⟩ W hI hok
    have HI := Aside0.mk hI
    have hxn : xn = pre.length + 1 := hok.last
    subst hxn
    have hxl : xl ∈ dLines b := hok.px.subset (List.mem_map.2 ⟨⟨pre.length + 1, xA, xc, xl⟩, List.mem_append_right _ (List.mem_singleton.2 rfl), rfl⟩)
    have hxs : xl.length ≤ 100000 := Nat.le_trans (dLines_mem b xl hxl) HS.out
    have hat := hok.at_ ⟨pre.length + 1, xA, xc, xl⟩ (List.mem_append_right _ (List.mem_singleton.2 rfl))
    have HCX := Aside0.mk (show (Kd.int .u8).C W xA xl.length (bI xl) from Kd.C_below hat.1 hI.bw)
    have hxc : xl.length ≤ xc := hat.2
    have hnle : pre.length ≤ 100000 := by
      have h1 := hok.px.length_le
      have h2 := (dLines_sum b).2
      have h3 := HS.out
      rw [List.length_map, List.length_append, List.length_singleton] at h1
      omega
    obtain ⟨hd, p, hst⟩ : ∃ hd p, stOf pre = ⟨0, pre.length, hd, p⟩ := by
      have h1 := dState_n _ (pre.map (·.l)) rfl hI.ok
      have h2 := hI.ok
      have h3 : stOf pre = dState (pre.map (·.l)) := rfl
      rw [← h3] at h1
      revert h1 h2
      cases stOf pre with
      | mk e n hd p =>
        intro h1 h2
        simp only at h1 h2
        rw [List.length_map] at h1
        exact ⟨hd, p, by rw [h1, h2]⟩
    have hsn := stOf_snoc pre ⟨pre.length + 1, xA, xc, xl⟩
    rw [hst] at hsn
    have HP0 := Aside0.mk (show PRS (Bn + 1) w.heap.size gp p W by have := hI.prs; rw [hst] at this; exact this)
    have HR6 := Aside0.mk (show W.heap[g6]? = some (.cells #[.bool hd] 4 (0, 0)) by have := hI.r6; rw [hst] at this; exact this)
    have hinv := dState_inv (pre.map (·.l))
    rw [show dState (pre.map (·.l)) = stOf pre from rfl, hst] at hinv
    have HINV := Aside0.mk (show DInv p from hinv.p)
    obtain ⟨ws, hws⟩ : ∃ ws, ws = dWords xl := ⟨_, rfl⟩
    have HWS := Aside0.mk hws
    have hwl : ws.length ≤ 100000 := by rw [hws]; exact Nat.le_trans (dWords_len xl) hxs
    have HWM := Aside0.mk (show ∀ x ∈ ws, x.length ≤ 100000 by rw [hws]; exact fun x hx => Nat.le_trans (dWords_mem xl x hx).2 hxs)
    have HNE := Aside0.mk (show g6 ≠ gp ∧ g5 ≠ gp ∧ g2 ≠ gp ∧ g3 ≠ gp ∧ g4 ≠ gp from by
      obtain ⟨_, _, hgp, _⟩ := HP0.out.ex
      exact ⟨blk_ne HR6.out hgp (by decide), blk_ne hI.r5 hgp (by decide), blk_ne hI.r2 hgp (by decide), blk_ne hI.r3 hgp (by decide), blk_ne hI.r4 hgp (by decide)⟩)
    have HTOP := Aside0.mk (show Bn + 1 ≤ W.heap.size from HP0.out.top)
    by_cases hpath : hd = false ∧ ws ≠ []
    · obtain ⟨rfl, hwne⟩ := hpath
      rw [dLine_head _ _ _ (by rw [← hws]; exact hwne), ← hws] at hsn
      have hwp : 0 < ws.length := List.length_pos_iff.2 hwne
      have t1 : decide (0 < (ws.length : Int)) = true := decide_eq_true (by omega)
      have t2 : decide (0 < ws.length) = true := decide_eq_true hwp
      obtain ⟨ec, p', hh⟩ : ∃ ec p', dHead p ws = (ec, p') := ⟨_, _, rfl⟩
      rw [hh] at hsn
      have HHD := Aside0.mk hh
      have HSN := Aside0.mk hsn
      by_cases he : ec = 0
      · subst he
        clear hI hok hxl hat hst hsn hinv hws hwne hh
        gi_wp2_with (first | (refine ⟨trivial, ?_⟩; gi_at_call 15; refine (CallsIn.inRound l (callsIn_wide.2 (words_calls xA xc xl W HCX.out hxc hxs))).mono ?_; rw [← HWS.out]; rintro e W1 ⟨v, rfl, hR, hb⟩; obtain ⟨Aw, cw, ev⟩ := Kd.R_slice hR; rw [List.length_map] at ev; subst ev; have HR := Aside0.mk hR; have HB1 := Aside0.mk hb; have HBW1 := Aside0.mk (HI.out.bw.trans (hb.mono HI.out.bw.size)); have HP1 := Aside0.mk (HP0.out.below hb); have hc6 := (blk_cell (blk_below HR6.out hb) 0).trans (show _ = some (Value.bool false) from rfl); have hc5 := (blk_cell (blk_below HI.out.r5 hb) 0).trans (show _ = some (Value.pointer (some ⟨gp, 0, none⟩)) from rfl); clear hR hb) | (refine ⟨trivial, ?_⟩; gi_at_call 40; refine (CallsIn.inRound l (callsIn_wide.2 (head_calls (Bn + 1) w.heap.size gp p Aw cw ws W1 HP1.out (by have := (Kd.R_reads' HR.out).2.2; rw [List.length_map] at this; exact this) (Kd.R_reads' HR.out).2.1 HWM.out (HLT.out.on HBW1.out)))).mono ?_; rw [HHD.out]; rintro e2 W2 ⟨rfl, hprs, hbw, hko, hbut⟩; have HPR := Aside0.mk hprs; have HBW2 := Aside0.mk (HBW1.out.trans hbw); have HKO := Aside0.mk (((KO.refl TP W).below HB1.out).trans hko); have HBUT := Aside0.mk (((But.refl (Bn + 1) gp W).below HB1.out HTOP.out).trans hbut); have H62 := Aside0.mk (show W2.heap[g6]? = some (.cells #[.bool false] 4 (0, 0)) from (HBUT.out.blk g6 (by have := HXg6.out; omega) HNE.out.1).trans HR6.out); clear hprs hbw hko hbut hc6 hc5) | ((with_reducible refine gin_store (t := 4) (p := 6) rfl ?_); refine store_one_in (.inr ⟨l, rfl⟩) 4 6 (.const (.bool true)) rfl rfl rfl (.bool true) #[.bool true] rfl rfl H62.out rfl nsz4 (show 0 + 1 ≤ 1 by omega) rfl rfl ?_; intro V2 hw hsb; have HV2 := Aside0.mk hw; have HSV2 := Aside0.mk hsb; clear hw hsb))
        have h2 := HXg2.out
        have h3 := HXg3.out
        have h4 := HXg4.out
        have h5 := HXg5.out
        have h6 := HXg6.out
        refine ⟨(keeps_ko HKO.out).trans (keeps_same HSV2.out H62.out), ⟨HSV2.out.below ((Below.refl _ _).trans (show Below w.heap.size W W2 from ⟨HBW2.out.os.trans HI.out.bw.os.symm, HBW2.out.tape.trans HI.out.bw.tape.symm, HBW2.out.output.trans HI.out.bw.output.symm, HKO.out.size, fun k hk => (HBW2.out.block k hk).trans (HI.out.bw.block k hk).symm⟩)) HLg6.out, (HSV2.out.blk Bn (by omega)).trans (HBUT.out.blk Bn (by omega) (by have := HXgp.out; omega))⟩, ?_⟩
        refine ⟨by rw [HSN.out], (HSV2.out.blk g2 (blk_ne HI.out.r2 HR6.out (by decide))).trans ((HBUT.out.blk g2 (by omega) HNE.out.2.2.1).trans HI.out.r2), (HSV2.out.blk g3 (blk_ne HI.out.r3 HR6.out (by decide))).trans ((HBUT.out.blk g3 (by omega) HNE.out.2.2.2.1).trans HI.out.r3), (HSV2.out.blk g4 (blk_ne HI.out.r4 HR6.out (by decide))).trans ((HBUT.out.blk g4 (by omega) HNE.out.2.2.2.2).trans HI.out.r4), by rw [HSN.out]; exact HPR.out.other HSV2.out H62.out (by decide), (HSV2.out.blk g5 (blk_ne HI.out.r5 HR6.out (by decide))).trans ((HBUT.out.blk g5 (by omega) HNE.out.2.1).trans HI.out.r5), by rw [HSN.out]; exact HV2.out, HSV2.out.below HBW2.out HLg6.out⟩
      · have t3 : (ec == 0) = false := beq_eq_false_iff_ne.2 he
        have t3n : (ec != 0) = true := by rw [bne, t3]; rfl
        have HE0 := Aside0.mk he
        clear hI hok hxl hat hst hsn hinv hws hwne hh he
        gi_wp2_with (first | (refine ⟨trivial, ?_⟩; gi_at_call 15; refine (CallsIn.inRound l (callsIn_wide.2 (words_calls xA xc xl W HCX.out hxc hxs))).mono ?_; rw [← HWS.out]; rintro e W1 ⟨v, rfl, hR, hb⟩; obtain ⟨Aw, cw, ev⟩ := Kd.R_slice hR; rw [List.length_map] at ev; subst ev; have HR := Aside0.mk hR; have HB1 := Aside0.mk hb; have HBW1 := Aside0.mk (HI.out.bw.trans (hb.mono HI.out.bw.size)); have HP1 := Aside0.mk (HP0.out.below hb); have hc6 := (blk_cell (blk_below HR6.out hb) 0).trans (show _ = some (Value.bool false) from rfl); have hc5 := (blk_cell (blk_below HI.out.r5 hb) 0).trans (show _ = some (Value.pointer (some ⟨gp, 0, none⟩)) from rfl); clear hR hb) | (refine ⟨trivial, ?_⟩; gi_at_call 40; refine (CallsIn.inRound l (callsIn_wide.2 (head_calls (Bn + 1) w.heap.size gp p Aw cw ws W1 HP1.out (by have := (Kd.R_reads' HR.out).2.2; rw [List.length_map] at this; exact this) (Kd.R_reads' HR.out).2.1 HWM.out (HLT.out.on HBW1.out)))).mono ?_; rw [HHD.out]; rintro e2 W2 ⟨rfl, hprs, hbw, hko, hbut⟩; have HBW := Aside0.mk (HBW1.out.trans hbw); have HKO := Aside0.mk (((KO.refl TP W).below HB1.out).trans hko); have HBUT := Aside0.mk (((But.refl (Bn + 1) gp W).below HB1.out HTOP.out).trans hbut); have Hr2 := Aside0.mk ((HBUT.out.blk g2 (by have := HXg2.out; omega) HNE.out.2.2.1).trans HI.out.r2); have Hr3 := Aside0.mk ((HBUT.out.blk g3 (by have := HXg3.out; omega) HNE.out.2.2.2.1).trans HI.out.r3); have Hr4 := Aside0.mk ((HBUT.out.blk g4 (by have := HXg4.out; omega) HNE.out.2.2.2.2).trans HI.out.r4); clear hprs hbw hko hbut hc6 hc5) | ((with_reducible refine gin_store (t := 35) (p := 2) rfl ?_); refine store_two_in (.inr ⟨l, rfl⟩) 35 2 (.tmp 34) rfl rfl rfl (.int .i64 0) (.slice none 0 0) #[.int .i64 0, .slice none 0 0] rfl rfl Hr2.out nsz25 (Nat.le_refl 2) rfl rfl rfl ?_; intro V2 hw hsb; have HV2 := Aside0.mk hw; have HSV2 := Aside0.mk hsb; have Hr3' := Aside0.mk (hsb.other Hr3.out (blk_ne Hr3.out Hr2.out (by decide))); have Hr4' := Aside0.mk (hsb.other Hr4.out (blk_ne Hr4.out Hr2.out (by decide))); clear hw hsb) | ((with_reducible refine gin_store (t := 24) (p := 3) rfl ?_); refine store_one_in (.inr ⟨l, rfl⟩) 24 3 (.tmp 35) rfl rfl rfl (.int .i64 ec) #[.int .i64 ec] rfl rfl Hr3'.out rfl nsz26 (show 0 + 1 ≤ 1 by omega) rfl rfl ?_; intro V3 hw hsb; have HV3 := Aside0.mk hw; have HSV3 := Aside0.mk hsb; have HV23 := Aside0.mk (hsb.other HV2.out (blk_ne HV2.out Hr3'.out (by decide))); have Hr4q := Aside0.mk (hsb.other Hr4'.out (blk_ne Hr4'.out Hr3'.out (by decide))); clear hw hsb) | ((with_reducible refine gin_store (t := 3) (p := 4) rfl ?_); refine store_one_in (.inr ⟨l, rfl⟩) 3 4 (.tmp 36) rfl rfl rfl (.int .i64 ((pre.length : Int) + 1)) #[.int .i64 ((pre.length : Int) + 1)] rfl (by first | rfl | (simp; done)) Hr4q.out rfl nsz3 (show 0 + 1 ≤ 1 by omega) rfl rfl ?_; intro V4 hw hsb; have HV4 := Aside0.mk hw; have HSV4 := Aside0.mk hsb; have HV24 := Aside0.mk (hsb.other HV23.out (blk_ne HV23.out Hr4q.out (by decide))); have HV34 := Aside0.mk (hsb.other HV3.out (blk_ne HV3.out Hr4q.out (by decide))); clear hw hsb))
        exact ⟨((keeps_ko HKO.out).trans (keeps_same HSV2.out Hr2.out)).trans ((keeps_same HSV3.out Hr3'.out).trans (keeps_same HSV4.out Hr4q.out)), rfl, ⟨(by rw [HSN.out]; exact HE0.out), HV24.out, (by rw [HSN.out]; exact HV34.out), (by rw [HSN.out]; exact HV4.out), HSV4.out.below (HSV3.out.below (HSV2.out.below HBW.out HLg2.out) HLg3.out) HLg4.out⟩⟩
    · have hcase : hd = true ∨ dWords xl = [] := by
        rw [← hws]
        cases hd with
        | true => exact .inl rfl
        | false => exact .inr (Classical.byContradiction fun h => hpath ⟨rfl, h⟩)
      rw [dLine_words _ _ _ _ hcase, ← hws] at hsn
      rw [← hws] at hcase
      have HSN := Aside0.mk hsn
      clear hpath hok hxl hat hst hsn hinv hws hI
      have hkeys : (hd = true) ∨ (hd = false ∧ decide (0 < (ws.length : Int)) = false ∧ decide (0 < ws.length) = false) := by
        cases hd with
        | true => exact .inl rfl
        | false =>
          rcases hcase with h | h
          · cases h
          · exact .inr ⟨rfl, by rw [h]; rfl, by rw [h]; rfl⟩
      clear hcase
      rcases hkeys with rfl | ⟨rfl, t1, t2⟩
      · gi_wp2_with ((refine ⟨trivial, ?_⟩; gi_at_call 15; refine (CallsIn.inRound l (callsIn_wide.2 (words_calls xA xc xl W HCX.out hxc hxs))).mono ?_; rw [← HWS.out]; rintro e W1 ⟨v, rfl, hR, hb⟩; obtain ⟨Aw, cw, ev⟩ := Kd.R_slice hR; rw [List.length_map] at ev; subst ev; have HR := Aside0.mk hR; have HB1 := Aside0.mk hb; have HBW1 := Aside0.mk (HI.out.bw.trans (hb.mono HI.out.bw.size)); have HP1 := Aside0.mk (HP0.out.below hb); have hc6 := (blk_cell (blk_below HR6.out hb) 0).trans (show _ = some (Value.bool true) from rfl); have hc5 := (blk_cell (blk_below HI.out.r5 hb) 0).trans (show _ = some (Value.pointer (some ⟨gp, 0, none⟩)) from rfl); clear hR hb))
        clear hc5 hc6
        have HR6 := Aside0.mk (show W1.heap[g6]? = some (.cells #[.bool true] 4 (0, 0)) from blk_below HR6.out HB1.out)
        gi_loopw [39] (fun v39 wr => ∃ (j : Nat) (pj : DP), v39 = .int .i64 (j : Int) ∧ j ≤ ws.length ∧ Aside0 (dWordsL p ws = dWordsL pj (ws.drop j)) ∧ Aside0 (DInv pj) ∧ Aside0 (PRS (Bn + 1) w.heap.size gp pj wr) ∧ Aside0 (KO TP W1 wr) ∧ Aside0 (But (Bn + 1) gp W1 wr) ∧ Aside0 (Below w.heap.size w wr)) (fun v _ => ws.length - (intOf v).toNat)
        case atStart => exact ⟨0, p, rfl, Nat.zero_le _, ⟨rfl⟩, HINV, HP1, ⟨KO.refl _ _⟩, ⟨But.refl _ _ _⟩, HBW1⟩
        case round =>
          clear HP1 HINV HP0
          obtain ⟨j, pj, rfl, hj, HQ, HINV, HPJ, HKJ, HBJ, HBWJ⟩ := hrel
          have HKO0 := Aside0.mk (((KO.refl TP W).below HB1.out).trans HKJ.out)
          have HBUT0 := Aside0.mk (((But.refl (Bn + 1) gp W).below HB1.out HTOP.out).trans HBJ.out)
          by_cases hlt : j < ws.length
          · have t5 : decide ((j : Int) < (ws.length : Int)) = true := decide_eq_true (by omega)
            have t6 : decide (j < ws.length) = true := decide_eq_true hlt
            obtain ⟨x, hx⟩ : ∃ x, x = ws[j] := ⟨_, rfl⟩
            have hdr : ws.drop j = x :: ws.drop (j + 1) := by rw [hx]; exact List.drop_eq_getElem_cons hlt
            have hxz : x.length ≤ 100000 := HWM.out x (by rw [hx]; exact List.getElem_mem hlt)
            obtain ⟨ec, p', hh⟩ : ∃ ec p', dWord pj x = (ec, p') := ⟨_, _, rfl⟩
            have hq := HQ.out
            rw [hdr, dWordsL_cons pj x _ ec p' hh] at hq
            have HHD := Aside0.mk hh
            have HRJ := Aside0.mk (ko_R HR.out HKJ.out)
            obtain ⟨aw, e1, hxw⟩ := Kd.at_string (Kd.R_reads' HRJ.out).2.2 (j : Int) (by omega) (by rw [List.length_map]; omega)
            cases e1
            rw [Int.toNat_natCast, show rdOf ByteArray.empty (ws.map baOf) (j : Int) = baOf x by
              unfold rdOf
              rw [Int.toNat_natCast, List.getD_eq_getElem?_getD, List.getElem?_map, List.getElem?_eq_getElem hlt, hx]
              rfl] at hxw
            have hc5 := (blk_cell ((HBUT0.out.blk g5 (by have := HXg5.out; omega) HNE.out.2.1).trans HI.out.r5) 0).trans (show _ = some (Value.pointer (some ⟨gp, 0, none⟩)) from rfl)
            have hji : (0 : Int) ≤ (j : Int) := Int.natCast_nonneg _
            have hjl : (j : Int) < (ws.length : Int) := by omega
            have hj1 : (j : Int) + 1 ≤ 100000 := by omega
            have HINV' := Aside0.mk (show DInv p' by have := dWord_inv pj x HINV.out; rw [hh] at this; exact this)
            by_cases he : ec = 0
            · subst he
              rw [if_neg (fun h => h rfl)] at hq
              have HQ' := Aside0.mk hq
              clear hq hh hx hdr
              gi_wp2_with (refine ⟨trivial, ?_⟩; gi_at_call 41; refine (CallsIn.inRound l (callsIn_wide.2 (word_calls (Bn + 1) w.heap.size gp pj x wr HPJ.out HINV.out hxz (HLT.out.on HBWJ.out)))).mono ?_; rw [HHD.out]; rintro e2 W2 ⟨rfl, hprs, hbw, hko, hbut⟩; have HPR := Aside0.mk hprs; have HBW2 := Aside0.mk (HBWJ.out.trans hbw); have HKO2 := Aside0.mk (HKJ.out.trans hko); have HBUT2 := Aside0.mk (HBJ.out.trans hbut); clear hprs hbw hko hbut hc5 hxw)
              go_roundw
              case rel => exact ⟨j + 1, p', by go_num, by omega, HQ', HINV', HPR, HKO2, HBUT2, HBW2⟩
              case measure => simp [intOf]; omega
            · rw [if_pos he] at hq
              have t3 : (ec == 0) = false := beq_eq_false_iff_ne.2 he
              have t3n : (ec != 0) = true := by rw [bne, t3]; rfl
              have HE0 := Aside0.mk (show (stOf (pre ++ [⟨pre.length + 1, xA, xc, xl⟩])).err ≠ 0 ∧ (stOf (pre ++ [⟨pre.length + 1, xA, xc, xl⟩])).err = ec by rw [HSN.out, hq]; exact ⟨he, rfl⟩)
              clear hq hh hx hdr he
              gi_wp2_with (first | (refine ⟨trivial, ?_⟩; gi_at_call 41; refine (CallsIn.inRound l (callsIn_wide.2 (word_calls (Bn + 1) w.heap.size gp pj x wr HPJ.out HINV.out hxz (HLT.out.on HBWJ.out)))).mono ?_; rw [HHD.out]; rintro e2 W2 ⟨rfl, hprs, hbw, hko, hbut⟩; have HBW := Aside0.mk (HBWJ.out.trans hbw); have HKO := Aside0.mk (HKO0.out.trans hko); have HBUT := Aside0.mk (HBUT0.out.trans hbut); have Hr2 := Aside0.mk ((HBUT.out.blk g2 (by have := HXg2.out; omega) HNE.out.2.2.1).trans HI.out.r2); have Hr3 := Aside0.mk ((HBUT.out.blk g3 (by have := HXg3.out; omega) HNE.out.2.2.2.1).trans HI.out.r3); have Hr4 := Aside0.mk ((HBUT.out.blk g4 (by have := HXg4.out; omega) HNE.out.2.2.2.2).trans HI.out.r4); clear hprs hbw hko hbut hc5 hxw) | ((with_reducible refine gin_store (t := 35) (p := 2) rfl ?_); refine store_two_in (.inr ⟨l, rfl⟩) 35 2 (.tmp 48) rfl rfl rfl (.int .i64 0) (.slice none 0 0) #[.int .i64 0, .slice none 0 0] rfl rfl Hr2.out nsz25 (Nat.le_refl 2) rfl rfl rfl ?_; intro V2 hw hsb; have HV2 := Aside0.mk hw; have HSV2 := Aside0.mk hsb; have Hr3' := Aside0.mk (hsb.other Hr3.out (blk_ne Hr3.out Hr2.out (by decide))); have Hr4' := Aside0.mk (hsb.other Hr4.out (blk_ne Hr4.out Hr2.out (by decide))); clear hw hsb) | ((with_reducible refine gin_store (t := 24) (p := 3) rfl ?_); refine store_one_in (.inr ⟨l, rfl⟩) 24 3 (.tmp 49) rfl rfl rfl (.int .i64 ec) #[.int .i64 ec] rfl rfl Hr3'.out rfl nsz26 (show 0 + 1 ≤ 1 by omega) rfl rfl ?_; intro V3 hw hsb; have HV3 := Aside0.mk hw; have HSV3 := Aside0.mk hsb; have HV23 := Aside0.mk (hsb.other HV2.out (blk_ne HV2.out Hr3'.out (by decide))); have Hr4q := Aside0.mk (hsb.other Hr4'.out (blk_ne Hr4'.out Hr3'.out (by decide))); clear hw hsb) | ((with_reducible refine gin_store (t := 3) (p := 4) rfl ?_); refine store_one_in (.inr ⟨l, rfl⟩) 3 4 (.tmp 50) rfl rfl rfl (.int .i64 ((pre.length : Int) + 1)) #[.int .i64 ((pre.length : Int) + 1)] rfl (by first | rfl | (simp; done)) Hr4q.out rfl nsz3 (show 0 + 1 ≤ 1 by omega) rfl rfl ?_; intro V4 hw hsb; have HV4 := Aside0.mk hw; have HSV4 := Aside0.mk hsb; have HV24 := Aside0.mk (hsb.other HV23.out (blk_ne HV23.out Hr4q.out (by decide))); have HV34 := Aside0.mk (hsb.other HV3.out (blk_ne HV3.out Hr4q.out (by decide))); clear hw hsb))
              exact ⟨((keeps_ko HKO.out).trans (keeps_same HSV2.out Hr2.out)).trans ((keeps_same HSV3.out Hr3'.out).trans (keeps_same HSV4.out Hr4q.out)), rfl, ⟨HE0.out.1, HV24.out, (by rw [HE0.out.2]; exact HV34.out), (by rw [HSN.out]; exact HV4.out), HSV4.out.below (HSV3.out.below (HSV2.out.below HBW.out HLg2.out) HLg3.out) HLg4.out⟩⟩
          · have t5 : decide ((j : Int) < (ws.length : Int)) = false := decide_eq_false (by omega)
            have t6 : decide (j < ws.length) = false := decide_eq_false hlt
            obtain rfl : j = ws.length := by omega
            have HQ' := Aside0.mk (show dWordsL p ws = (0, pj) by rw [HQ.out, List.drop_length]; rfl)
            gi_wp2
            have h2 := HXg2.out
            have h3 := HXg3.out
            have h4 := HXg4.out
            have h5 := HXg5.out
            have h6 := HXg6.out
            refine ⟨keeps_ko HKO0.out, ⟨⟨HBWJ.out.os.trans HI.out.bw.os.symm, HBWJ.out.tape.trans HI.out.bw.tape.symm, HBWJ.out.output.trans HI.out.bw.output.symm, HKO0.out.size, fun k hk => (HBWJ.out.block k hk).trans (HI.out.bw.block k hk).symm⟩, HBUT0.out.blk Bn (by omega) (by have := HXgp.out; omega)⟩, ?_⟩
            exact ⟨by rw [HSN.out, HQ'.out], (HBUT0.out.blk g2 (by omega) HNE.out.2.2.1).trans HI.out.r2, (HBUT0.out.blk g3 (by omega) HNE.out.2.2.2.1).trans HI.out.r3, (HBUT0.out.blk g4 (by omega) HNE.out.2.2.2.2).trans HI.out.r4, by rw [HSN.out, HQ'.out]; exact HPJ.out, (HBUT0.out.blk g5 (by omega) HNE.out.2.1).trans HI.out.r5, by rw [HSN.out]; exact (HBJ.out.blk g6 (by omega) HNE.out.1).trans HR6.out, HBWJ.out⟩
      · gi_wp2_with ((refine ⟨trivial, ?_⟩; gi_at_call 15; refine (CallsIn.inRound l (callsIn_wide.2 (words_calls xA xc xl W HCX.out hxc hxs))).mono ?_; rw [← HWS.out]; rintro e W1 ⟨v, rfl, hR, hb⟩; obtain ⟨Aw, cw, ev⟩ := Kd.R_slice hR; rw [List.length_map] at ev; subst ev; have HR := Aside0.mk hR; have HB1 := Aside0.mk hb; have HBW1 := Aside0.mk (HI.out.bw.trans (hb.mono HI.out.bw.size)); have HP1 := Aside0.mk (HP0.out.below hb); have hc6 := (blk_cell (blk_below HR6.out hb) 0).trans (show _ = some (Value.bool false) from rfl); have hc5 := (blk_cell (blk_below HI.out.r5 hb) 0).trans (show _ = some (Value.pointer (some ⟨gp, 0, none⟩)) from rfl); clear hR hb))
        clear hc5 hc6
        have HR6 := Aside0.mk (show W1.heap[g6]? = some (.cells #[.bool false] 4 (0, 0)) from blk_below HR6.out HB1.out)
        gi_loopw [39] (fun v39 wr => ∃ (j : Nat) (pj : DP), v39 = .int .i64 (j : Int) ∧ j ≤ ws.length ∧ Aside0 (dWordsL p ws = dWordsL pj (ws.drop j)) ∧ Aside0 (DInv pj) ∧ Aside0 (PRS (Bn + 1) w.heap.size gp pj wr) ∧ Aside0 (KO TP W1 wr) ∧ Aside0 (But (Bn + 1) gp W1 wr) ∧ Aside0 (Below w.heap.size w wr)) (fun v _ => ws.length - (intOf v).toNat)
        case atStart => exact ⟨0, p, rfl, Nat.zero_le _, ⟨rfl⟩, HINV, HP1, ⟨KO.refl _ _⟩, ⟨But.refl _ _ _⟩, HBW1⟩
        case round =>
          clear HP1 HINV HP0
          obtain ⟨j, pj, rfl, hj, HQ, HINV, HPJ, HKJ, HBJ, HBWJ⟩ := hrel
          have HKO0 := Aside0.mk (((KO.refl TP W).below HB1.out).trans HKJ.out)
          have HBUT0 := Aside0.mk (((But.refl (Bn + 1) gp W).below HB1.out HTOP.out).trans HBJ.out)
          by_cases hlt : j < ws.length
          · have t5 : decide ((j : Int) < (ws.length : Int)) = true := decide_eq_true (by omega)
            have t6 : decide (j < ws.length) = true := decide_eq_true hlt
            obtain ⟨x, hx⟩ : ∃ x, x = ws[j] := ⟨_, rfl⟩
            have hdr : ws.drop j = x :: ws.drop (j + 1) := by rw [hx]; exact List.drop_eq_getElem_cons hlt
            have hxz : x.length ≤ 100000 := HWM.out x (by rw [hx]; exact List.getElem_mem hlt)
            obtain ⟨ec, p', hh⟩ : ∃ ec p', dWord pj x = (ec, p') := ⟨_, _, rfl⟩
            have hq := HQ.out
            rw [hdr, dWordsL_cons pj x _ ec p' hh] at hq
            have HHD := Aside0.mk hh
            have HRJ := Aside0.mk (ko_R HR.out HKJ.out)
            obtain ⟨aw, e1, hxw⟩ := Kd.at_string (Kd.R_reads' HRJ.out).2.2 (j : Int) (by omega) (by rw [List.length_map]; omega)
            cases e1
            rw [Int.toNat_natCast, show rdOf ByteArray.empty (ws.map baOf) (j : Int) = baOf x by
              unfold rdOf
              rw [Int.toNat_natCast, List.getD_eq_getElem?_getD, List.getElem?_map, List.getElem?_eq_getElem hlt, hx]
              rfl] at hxw
            have hc5 := (blk_cell ((HBUT0.out.blk g5 (by have := HXg5.out; omega) HNE.out.2.1).trans HI.out.r5) 0).trans (show _ = some (Value.pointer (some ⟨gp, 0, none⟩)) from rfl)
            have hji : (0 : Int) ≤ (j : Int) := Int.natCast_nonneg _
            have hjl : (j : Int) < (ws.length : Int) := by omega
            have hj1 : (j : Int) + 1 ≤ 100000 := by omega
            have HINV' := Aside0.mk (show DInv p' by have := dWord_inv pj x HINV.out; rw [hh] at this; exact this)
            by_cases he : ec = 0
            · subst he
              rw [if_neg (fun h => h rfl)] at hq
              have HQ' := Aside0.mk hq
              clear hq hh hx hdr
              gi_wp2_with (refine ⟨trivial, ?_⟩; gi_at_call 41; refine (CallsIn.inRound l (callsIn_wide.2 (word_calls (Bn + 1) w.heap.size gp pj x wr HPJ.out HINV.out hxz (HLT.out.on HBWJ.out)))).mono ?_; rw [HHD.out]; rintro e2 W2 ⟨rfl, hprs, hbw, hko, hbut⟩; have HPR := Aside0.mk hprs; have HBW2 := Aside0.mk (HBWJ.out.trans hbw); have HKO2 := Aside0.mk (HKJ.out.trans hko); have HBUT2 := Aside0.mk (HBJ.out.trans hbut); clear hprs hbw hko hbut hc5 hxw)
              go_roundw
              case rel => exact ⟨j + 1, p', by go_num, by omega, HQ', HINV', HPR, HKO2, HBUT2, HBW2⟩
              case measure => simp [intOf]; omega
            · rw [if_pos he] at hq
              have t3 : (ec == 0) = false := beq_eq_false_iff_ne.2 he
              have t3n : (ec != 0) = true := by rw [bne, t3]; rfl
              have HE0 := Aside0.mk (show (stOf (pre ++ [⟨pre.length + 1, xA, xc, xl⟩])).err ≠ 0 ∧ (stOf (pre ++ [⟨pre.length + 1, xA, xc, xl⟩])).err = ec by rw [HSN.out, hq]; exact ⟨he, rfl⟩)
              clear hq hh hx hdr he
              gi_wp2_with (first | (refine ⟨trivial, ?_⟩; gi_at_call 41; refine (CallsIn.inRound l (callsIn_wide.2 (word_calls (Bn + 1) w.heap.size gp pj x wr HPJ.out HINV.out hxz (HLT.out.on HBWJ.out)))).mono ?_; rw [HHD.out]; rintro e2 W2 ⟨rfl, hprs, hbw, hko, hbut⟩; have HBW := Aside0.mk (HBWJ.out.trans hbw); have HKO := Aside0.mk (HKO0.out.trans hko); have HBUT := Aside0.mk (HBUT0.out.trans hbut); have Hr2 := Aside0.mk ((HBUT.out.blk g2 (by have := HXg2.out; omega) HNE.out.2.2.1).trans HI.out.r2); have Hr3 := Aside0.mk ((HBUT.out.blk g3 (by have := HXg3.out; omega) HNE.out.2.2.2.1).trans HI.out.r3); have Hr4 := Aside0.mk ((HBUT.out.blk g4 (by have := HXg4.out; omega) HNE.out.2.2.2.2).trans HI.out.r4); clear hprs hbw hko hbut hc5 hxw) | ((with_reducible refine gin_store (t := 35) (p := 2) rfl ?_); refine store_two_in (.inr ⟨l, rfl⟩) 35 2 (.tmp 48) rfl rfl rfl (.int .i64 0) (.slice none 0 0) #[.int .i64 0, .slice none 0 0] rfl rfl Hr2.out nsz25 (Nat.le_refl 2) rfl rfl rfl ?_; intro V2 hw hsb; have HV2 := Aside0.mk hw; have HSV2 := Aside0.mk hsb; have Hr3' := Aside0.mk (hsb.other Hr3.out (blk_ne Hr3.out Hr2.out (by decide))); have Hr4' := Aside0.mk (hsb.other Hr4.out (blk_ne Hr4.out Hr2.out (by decide))); clear hw hsb) | ((with_reducible refine gin_store (t := 24) (p := 3) rfl ?_); refine store_one_in (.inr ⟨l, rfl⟩) 24 3 (.tmp 49) rfl rfl rfl (.int .i64 ec) #[.int .i64 ec] rfl rfl Hr3'.out rfl nsz26 (show 0 + 1 ≤ 1 by omega) rfl rfl ?_; intro V3 hw hsb; have HV3 := Aside0.mk hw; have HSV3 := Aside0.mk hsb; have HV23 := Aside0.mk (hsb.other HV2.out (blk_ne HV2.out Hr3'.out (by decide))); have Hr4q := Aside0.mk (hsb.other Hr4'.out (blk_ne Hr4'.out Hr3'.out (by decide))); clear hw hsb) | ((with_reducible refine gin_store (t := 3) (p := 4) rfl ?_); refine store_one_in (.inr ⟨l, rfl⟩) 3 4 (.tmp 50) rfl rfl rfl (.int .i64 ((pre.length : Int) + 1)) #[.int .i64 ((pre.length : Int) + 1)] rfl (by first | rfl | (simp; done)) Hr4q.out rfl nsz3 (show 0 + 1 ≤ 1 by omega) rfl rfl ?_; intro V4 hw hsb; have HV4 := Aside0.mk hw; have HSV4 := Aside0.mk hsb; have HV24 := Aside0.mk (hsb.other HV23.out (blk_ne HV23.out Hr4q.out (by decide))); have HV34 := Aside0.mk (hsb.other HV3.out (blk_ne HV3.out Hr4q.out (by decide))); clear hw hsb))
              exact ⟨((keeps_ko HKO.out).trans (keeps_same HSV2.out Hr2.out)).trans ((keeps_same HSV3.out Hr3'.out).trans (keeps_same HSV4.out Hr4q.out)), rfl, ⟨HE0.out.1, HV24.out, (by rw [HE0.out.2]; exact HV34.out), (by rw [HSN.out]; exact HV4.out), HSV4.out.below (HSV3.out.below (HSV2.out.below HBW.out HLg2.out) HLg3.out) HLg4.out⟩⟩
          · have t5 : decide ((j : Int) < (ws.length : Int)) = false := decide_eq_false (by omega)
            have t6 : decide (j < ws.length) = false := decide_eq_false hlt
            obtain rfl : j = ws.length := by omega
            have HQ' := Aside0.mk (show dWordsL p ws = (0, pj) by rw [HQ.out, List.drop_length]; rfl)
            gi_wp2
            have h2 := HXg2.out
            have h3 := HXg3.out
            have h4 := HXg4.out
            have h5 := HXg5.out
            have h6 := HXg6.out
            refine ⟨keeps_ko HKO0.out, ⟨⟨HBWJ.out.os.trans HI.out.bw.os.symm, HBWJ.out.tape.trans HI.out.bw.tape.symm, HBWJ.out.output.trans HI.out.bw.output.symm, HKO0.out.size, fun k hk => (HBWJ.out.block k hk).trans (HI.out.bw.block k hk).symm⟩, HBUT0.out.blk Bn (by omega) (by have := HXgp.out; omega)⟩, ?_⟩
            exact ⟨by rw [HSN.out, HQ'.out], (HBUT0.out.blk g2 (by omega) HNE.out.2.2.1).trans HI.out.r2, (HBUT0.out.blk g3 (by omega) HNE.out.2.2.2.1).trans HI.out.r3, (HBUT0.out.blk g4 (by omega) HNE.out.2.2.2.2).trans HI.out.r4, by rw [HSN.out, HQ'.out]; exact HPJ.out, (HBUT0.out.blk g5 (by omega) HNE.out.2.1).trans HI.out.r5, by rw [HSN.out]; exact (HBJ.out.blk g6 (by omega) HNE.out.1).trans HR6.out, HBWJ.out⟩
  case done =>
    rintro D ys W hD ⟨hys, hok⟩ hI hK
    have HI := Aside0.mk hI
    have HK := Aside0.mk hK
    have hdp : dParse b = dFinal (stOf ys) := by unfold dParse stOf; rw [hys]
    obtain ⟨hd, p, hst⟩ : ∃ hd p, stOf ys = ⟨0, (dLines b).length, hd, p⟩ := by
      have h1 := dState_n _ (ys.map (·.l)) rfl hI.ok
      have h2 := hI.ok
      have h3 : stOf ys = dState (ys.map (·.l)) := rfl
      rw [← h3, hys] at h1
      revert h1 h2
      cases stOf ys with
      | mk e n hd p =>
        intro h1 h2
        simp only at h1 h2
        exact ⟨hd, p, by rw [h1, h2]⟩
    rw [hst] at hdp
    have HP := Aside0.mk (show PRS (Bn + 1) w.heap.size gp p W by have := hI.prs; rw [hst] at this; exact this)
    have hnl : (dLines b).length ≤ 100000 := Nat.le_trans (dLines_sum b).2 HS.out
    obtain ⟨nl, hnl2⟩ : ∃ nl, nl = (dLines b).length := ⟨_, rfl⟩
    rw [← hnl2] at hnl hdp
    have HNL := Aside0.mk hnl2
    have hc5 := (blk_cell hI.r5 0).trans (show _ = some (Value.pointer (some ⟨gp, 0, none⟩)) from rfl)
    have hc6 := (blk_cell hI.r6 0).trans (show _ = some (Value.bool hd) by rw [hst]; rfl)
    have Hr2 := Aside0.mk hI.r2
    have Hr3 := Aside0.mk hI.r3
    have Hr4 := Aside0.mk hI.r4
    have HBWW := Aside0.mk hI.bw
    have hDlt := (Array.getElem?_eq_some_iff.1 hK).1
    cases hd with
    | false =>
      have HDP := Aside0.mk (show dParse b = ((0, []), 20, (nl : Int) + 1) by rw [hdp]; rfl)
      clear hdp hys hok hI hK hst hnl2
      gi_wp2_with (first | (refine ⟨trivial, ?_⟩; gi_at_call 42; refine (callsIn_wide.2 (last_calls ad c b W (Kd.C_below HC.out HBWW.out) hc HS.out)).mono ?_; rw [← HNL.out]; rintro e W2 ⟨rfl, hb⟩; have HK2 := Aside0.mk (blk_below HK.out hb); have HBW2 := Aside0.mk (below_step HBWW.out hb); have Hr2' := Aside0.mk (blk_below Hr2.out hb); clear Hr2; have Hr2 := Hr2'; clear Hr2'; have Hr3' := Aside0.mk (blk_below Hr3.out hb); clear Hr3; have Hr3 := Hr3'; clear Hr3'; have Hr4' := Aside0.mk (blk_below Hr4.out hb); clear Hr4; have Hr4 := Hr4'; clear Hr4'; clear hb hc5 hc6) | ((with_reducible refine gin_store (t := 35) (p := 2) rfl ?_); refine store_two_in (.inl rfl) 35 2 (.tmp 55) rfl rfl rfl (.int .i64 0) (.slice none 0 0) #[.int .i64 0, .slice none 0 0] rfl rfl Hr2.out nsz25 (Nat.le_refl 2) rfl rfl rfl ?_; intro V2 hw hsb; have HV2 := Aside0.mk hw; have HSV2 := Aside0.mk hsb; have Hr3' := Aside0.mk (hsb.other Hr3.out (blk_ne Hr3.out Hr2.out (by decide))); have Hr4' := Aside0.mk (hsb.other Hr4.out (blk_ne Hr4.out Hr2.out (by decide))); clear hw hsb) | ((with_reducible refine gin_store (t := 24) (p := 3) rfl ?_); refine store_one_in (.inl rfl) 24 3 (.const (.int .i64 20)) rfl rfl rfl (.int .i64 20) #[.int .i64 20] rfl rfl Hr3'.out rfl nsz26 (show 0 + 1 ≤ 1 by omega) rfl rfl ?_; intro V3 hw hsb; have HV3 := Aside0.mk hw; have HSV3 := Aside0.mk hsb; have HV23 := Aside0.mk (hsb.other HV2.out (blk_ne HV2.out Hr3'.out (by decide))); have Hr4q := Aside0.mk (hsb.other Hr4'.out (blk_ne Hr4'.out Hr3'.out (by decide))); clear hw hsb) | ((with_reducible refine gin_store (t := 3) (p := 4) rfl ?_); refine store_one_in (.inl rfl) 3 4 (.tmp 58) rfl rfl rfl (.int .i64 ((nl : Int) + 1)) #[.int .i64 ((nl : Int) + 1)] rfl (by first | rfl | (simp; done)) Hr4q.out rfl nsz3 (show 0 + 1 ≤ 1 by omega) rfl rfl ?_; intro V4 hw hsb; have HV4 := Aside0.mk hw; have HSV4 := Aside0.mk hsb; have HV24 := Aside0.mk (hsb.other HV23.out (blk_ne HV23.out Hr4q.out (by decide))); have HV34 := Aside0.mk (hsb.other HV3.out (blk_ne HV3.out Hr4q.out (by decide))); clear hw hsb))
      have hBD := blk_lt HBN.out
      have x2 := HXg2.out
      have x3 := HXg3.out
      have x4 := HXg4.out
      have hK4 : V4.heap[D]? = some (.deferred (some [])) := (HSV4.out.blk D (by omega)).trans ((HSV3.out.blk D (by omega)).trans ((HSV2.out.blk D (by omega)).trans HK2.out))
      rw [HDP.out]
      refine ⟨by simp, .inl ⟨_, _, rfl, run_takeDeferred hK4, ?_⟩⟩
      have h2a := cell_kept ((blk_cell HV24.out 0).trans (show _ = some (Value.int .i64 0) from rfl)) (grownBy_putObj' _ D (.deferred none)) (fun r e => by cases e; exact ⟨_, hK4, rfl⟩)
      have h2b := cell_kept ((blk_cell HV24.out 1).trans (show _ = some (Value.slice none 0 0) from rfl)) (grownBy_putObj' _ D (.deferred none)) (fun r e => by cases e; exact ⟨_, hK4, rfl⟩)
      have h3 := cell_kept ((blk_cell HV34.out 0).trans (show _ = some (Value.int .i64 (20)) from rfl)) (grownBy_putObj' _ D (.deferred none)) (fun r e => by cases e; exact ⟨_, hK4, rfl⟩)
      have h4 := cell_kept ((blk_cell HV4.out 0).trans (show _ = some (Value.int .i64 ((nl : Int) + 1)) from rfl)) (grownBy_putObj' _ D (.deferred none)) (fun r e => by cases e; exact ⟨_, hK4, rfl⟩)
      refine ⟨.tuple #[.agg #[.int .i64 0, .slice none 0 0], .int .i64 (20), .int .i64 ((nl : Int) + 1)], by simp [results, Tryz.f20, go_sem, h2a, h2b, h3, h4], _, rfl, ?_, ?_⟩
      · exact Kd.R_nil _ _ _ _ _
      · exact (HSV4.out.below (HSV3.out.below (HSV2.out.below HBW2.out HLg2.out) HLg3.out) HLg4.out).grown (grownBy_putObj' _ D (.deferred none)) ((HSV4.out.below (HSV3.out.below (HSV2.out.below HBW2.out HLg2.out) HLg3.out) HLg4.out).size) (fun k e => by cases e; have := HLg2.out; omega)
    | true =>
      by_cases ho : p.opn = []
      · have hl : p.opn.length = 0 := by rw [ho]; rfl
        have t1 : decide (0 < (p.opn.length : Int)) = false := decide_eq_false (by omega)
        have t2 : decide (0 < p.opn.length) = false := decide_eq_false (by omega)
        obtain ⟨v1, v3, hgp, hcc, hoo⟩ := HP.out.ex
        obtain ⟨A1, c1, rfl⟩ := Kd.R_slice hcc
        obtain ⟨A3, c3, rfl⟩ := Kd.R_slice hoo
        have HGP := Aside0.mk hgp
        have HCC := Aside0.mk hcc
        have hp0 := (blk_cell hgp 0).trans (show _ = some (Value.int .i64 p.vars) from rfl)
        have hp1 := (blk_cell hgp 1).trans (show _ = some (Value.slice A1 p.cls.length c1) from rfl)
        have hp2 := (blk_cell hgp 2).trans (show _ = some (Value.int .i64 p.want) from rfl)
        have hp3 := (blk_cell hgp 3).trans (show _ = some (Value.slice A3 p.opn.length c3) from rfl)
        by_cases hw : (p.cls.length : Int) < p.want
        · have HDP := Aside0.mk (show dParse b = ((0, []), 23, (nl : Int) + 1) by rw [hdp]; unfold dFinal; rw [if_neg (fun h => h rfl), if_neg (by simp), if_pos (.inr hw)])
          have t3 : decide ((p.cls.length : Int) < p.want) = true := decide_eq_true hw
          clear hdp hys hok hI hK hst hnl2 hgp hcc hoo hw ho hl
          gi_wp2
          gi_quiet (fail)
          obtain ⟨WQ, hWQ⟩ : ∃ WQ, WQ = W.drewN nq := ⟨_, rfl⟩
          have HBQ := Aside0.mk (show Below w.heap.size w WQ by rw [hWQ]; exact pw_below_drewN HBWW.out nq)
          have HKQ := Aside0.mk (show WQ.heap[D]? = some (.deferred (some [])) by rw [hWQ]; exact blk_drewN HK.out nq)
          have Hr2' := Aside0.mk (show WQ.heap[g2]? = some (.cells #[.int .i64 0, .slice none 0 0] 35 (0, 0)) by rw [hWQ]; exact blk_drewN Hr2.out nq)
          have Hr3' := Aside0.mk (show WQ.heap[g3]? = some (.cells #[.int .i64 0] 24 (0, 0)) by rw [hWQ]; exact blk_drewN Hr3.out nq)
          have Hr4' := Aside0.mk (show WQ.heap[g4]? = some (.cells #[.int .i64 0] 3 (0, 0)) by rw [hWQ]; exact blk_drewN Hr4.out nq)
          have HGPQ := Aside0.mk (show WQ.heap[gp]? = some (.cells (p.cells (.slice A1 p.cls.length c1) (.slice A3 p.opn.length c3)) 83 (0, 0)) by rw [hWQ]; exact blk_drewN HGP.out nq)
          have HCCQ := Aside0.mk (show kcs.R 42 WQ (Bn + 1) (fun k => some k ≠ (Value.slice A3 p.opn.length c3).ownBlock) (.slice A1 p.cls.length c1) p.cls by rw [hWQ]; exact Kd.R_drewN HCC.out nq)
          have HR5Q := Aside0.mk (show WQ.heap[g5]? = some (.cells #[.pointer (some ⟨gp, 0, none⟩)] 81 (0, 0)) by rw [hWQ]; exact blk_drewN HI.out.r5 nq)
          clear Hr2 Hr3 Hr4
          have Hr2 := Hr2'
          have Hr3 := Hr3'
          have Hr4 := Hr4'
          clear Hr2' Hr3' Hr4' hp0 hp1 hp2 hp3 hc5 hc6
          rw [← hWQ]
          clear hWQ
          gi_wp2_with (first | (refine ⟨trivial, ?_⟩; gi_at_call 42; refine (callsIn_wide.2 (last_calls ad c b WQ (Kd.C_below HC.out HBQ.out) hc HS.out)).mono ?_; rw [← HNL.out]; rintro e W2 ⟨rfl, hb⟩; have HK2 := Aside0.mk (blk_below HKQ.out hb); have HBW2 := Aside0.mk (below_step HBQ.out hb); have Hr2' := Aside0.mk (blk_below Hr2.out hb); clear Hr2; have Hr2 := Hr2'; clear Hr2'; have Hr3' := Aside0.mk (blk_below Hr3.out hb); clear Hr3; have Hr3 := Hr3'; clear Hr3'; have Hr4' := Aside0.mk (blk_below Hr4.out hb); clear Hr4; have Hr4 := Hr4'; clear Hr4'; clear hb) | ((with_reducible refine gin_store (t := 35) (p := 2) rfl ?_); refine store_two_in (.inl rfl) 35 2 (.tmp 77) rfl rfl rfl (.int .i64 0) (.slice none 0 0) #[.int .i64 0, .slice none 0 0] rfl rfl Hr2.out nsz25 (Nat.le_refl 2) rfl rfl rfl ?_; intro V2 hw hsb; have HV2 := Aside0.mk hw; have HSV2 := Aside0.mk hsb; have Hr3' := Aside0.mk (hsb.other Hr3.out (blk_ne Hr3.out Hr2.out (by decide))); have Hr4' := Aside0.mk (hsb.other Hr4.out (blk_ne Hr4.out Hr2.out (by decide))); clear hw hsb) | ((with_reducible refine gin_store (t := 24) (p := 3) rfl ?_); refine store_one_in (.inl rfl) 24 3 (.const (.int .i64 23)) rfl rfl rfl (.int .i64 23) #[.int .i64 23] rfl rfl Hr3'.out rfl nsz26 (show 0 + 1 ≤ 1 by omega) rfl rfl ?_; intro V3 hw hsb; have HV3 := Aside0.mk hw; have HSV3 := Aside0.mk hsb; have HV23 := Aside0.mk (hsb.other HV2.out (blk_ne HV2.out Hr3'.out (by decide))); have Hr4q := Aside0.mk (hsb.other Hr4'.out (blk_ne Hr4'.out Hr3'.out (by decide))); clear hw hsb) | ((with_reducible refine gin_store (t := 3) (p := 4) rfl ?_); refine store_one_in (.inl rfl) 3 4 (.tmp 80) rfl rfl rfl (.int .i64 ((nl : Int) + 1)) #[.int .i64 ((nl : Int) + 1)] rfl (by first | rfl | (simp; done)) Hr4q.out rfl nsz3 (show 0 + 1 ≤ 1 by omega) rfl rfl ?_; intro V4 hw hsb; have HV4 := Aside0.mk hw; have HSV4 := Aside0.mk hsb; have HV24 := Aside0.mk (hsb.other HV23.out (blk_ne HV23.out Hr4q.out (by decide))); have HV34 := Aside0.mk (hsb.other HV3.out (blk_ne HV3.out Hr4q.out (by decide))); clear hw hsb))
          have hBD := blk_lt HBN.out
          have x2 := HXg2.out
          have x3 := HXg3.out
          have x4 := HXg4.out
          have hK4 : V4.heap[D]? = some (.deferred (some [])) := (HSV4.out.blk D (by omega)).trans ((HSV3.out.blk D (by omega)).trans ((HSV2.out.blk D (by omega)).trans HK2.out))
          rw [HDP.out]
          refine ⟨by simp, .inl ⟨_, _, rfl, run_takeDeferred hK4, ?_⟩⟩
          have h2a := cell_kept ((blk_cell HV24.out 0).trans (show _ = some (Value.int .i64 0) from rfl)) (grownBy_putObj' _ D (.deferred none)) (fun r e => by cases e; exact ⟨_, hK4, rfl⟩)
          have h2b := cell_kept ((blk_cell HV24.out 1).trans (show _ = some (Value.slice none 0 0) from rfl)) (grownBy_putObj' _ D (.deferred none)) (fun r e => by cases e; exact ⟨_, hK4, rfl⟩)
          have h3 := cell_kept ((blk_cell HV34.out 0).trans (show _ = some (Value.int .i64 (23)) from rfl)) (grownBy_putObj' _ D (.deferred none)) (fun r e => by cases e; exact ⟨_, hK4, rfl⟩)
          have h4 := cell_kept ((blk_cell HV4.out 0).trans (show _ = some (Value.int .i64 ((nl : Int) + 1)) from rfl)) (grownBy_putObj' _ D (.deferred none)) (fun r e => by cases e; exact ⟨_, hK4, rfl⟩)
          refine ⟨.tuple #[.agg #[.int .i64 0, .slice none 0 0], .int .i64 (23), .int .i64 ((nl : Int) + 1)], by simp [results, Tryz.f20, go_sem, h2a, h2b, h3, h4], _, rfl, ?_, ?_⟩
          · exact Kd.R_nil _ _ _ _ _
          · exact (HSV4.out.below (HSV3.out.below (HSV2.out.below HBW2.out HLg2.out) HLg3.out) HLg4.out).grown (grownBy_putObj' _ D (.deferred none)) ((HSV4.out.below (HSV3.out.below (HSV2.out.below HBW2.out HLg2.out) HLg3.out) HLg4.out).size) (fun k e => by cases e; have := HLg2.out; omega)
        · have HDP := Aside0.mk (show dParse b = ((p.vars, p.cls), 0, 0) by rw [hdp]; unfold dFinal; rw [if_neg (fun h => h rfl), if_neg (by simp), if_neg (by rintro (h | h); exact h ho; exact hw h)])
          have t3 : decide ((p.cls.length : Int) < p.want) = false := decide_eq_false hw
          clear hdp hys hok hI hK hst hnl2 hgp hcc hoo hw ho hl
          gi_wp2
          gi_quiet (fail)
          obtain ⟨WQ, hWQ⟩ : ∃ WQ, WQ = W.drewN nq := ⟨_, rfl⟩
          have HBQ := Aside0.mk (show Below w.heap.size w WQ by rw [hWQ]; exact pw_below_drewN HBWW.out nq)
          have HKQ := Aside0.mk (show WQ.heap[D]? = some (.deferred (some [])) by rw [hWQ]; exact blk_drewN HK.out nq)
          have Hr2' := Aside0.mk (show WQ.heap[g2]? = some (.cells #[.int .i64 0, .slice none 0 0] 35 (0, 0)) by rw [hWQ]; exact blk_drewN Hr2.out nq)
          have Hr3' := Aside0.mk (show WQ.heap[g3]? = some (.cells #[.int .i64 0] 24 (0, 0)) by rw [hWQ]; exact blk_drewN Hr3.out nq)
          have Hr4' := Aside0.mk (show WQ.heap[g4]? = some (.cells #[.int .i64 0] 3 (0, 0)) by rw [hWQ]; exact blk_drewN Hr4.out nq)
          have HGPQ := Aside0.mk (show WQ.heap[gp]? = some (.cells (p.cells (.slice A1 p.cls.length c1) (.slice A3 p.opn.length c3)) 83 (0, 0)) by rw [hWQ]; exact blk_drewN HGP.out nq)
          have HCCQ := Aside0.mk (show kcs.R 42 WQ (Bn + 1) (fun k => some k ≠ (Value.slice A3 p.opn.length c3).ownBlock) (.slice A1 p.cls.length c1) p.cls by rw [hWQ]; exact Kd.R_drewN HCC.out nq)
          have HR5Q := Aside0.mk (show WQ.heap[g5]? = some (.cells #[.pointer (some ⟨gp, 0, none⟩)] 81 (0, 0)) by rw [hWQ]; exact blk_drewN HI.out.r5 nq)
          clear Hr2 Hr3 Hr4
          have Hr2 := Hr2'
          have Hr3 := Hr3'
          have Hr4 := Hr4'
          clear Hr2' Hr3' Hr4' hp0 hp1 hp2 hp3 hc5 hc6
          rw [← hWQ]
          clear hWQ
          have hp0 := (blk_cell HGPQ.out 0).trans (show _ = some (Value.int .i64 p.vars) from rfl)
          have hp1 := (blk_cell HGPQ.out 1).trans (show _ = some (Value.slice A1 p.cls.length c1) from rfl)
          have hc5 := (blk_cell HR5Q.out 0).trans (show _ = some (Value.pointer (some ⟨gp, 0, none⟩)) from rfl)
          gi_wp2_with (first | ((with_reducible refine gin_store (t := 35) (p := 2) rfl ?_); refine store_two_in (.inl rfl) 35 2 (.tmp 84) rfl rfl rfl (.int .i64 p.vars) (.slice A1 p.cls.length c1) #[.int .i64 p.vars, .slice A1 p.cls.length c1] rfl rfl Hr2.out nsz25 (Nat.le_refl 2) rfl rfl rfl ?_; intro V2 hw hsb; have HV2 := Aside0.mk hw; have HSV2 := Aside0.mk hsb; have Hr3' := Aside0.mk (hsb.other Hr3.out (blk_ne Hr3.out Hr2.out (by decide))); have Hr4' := Aside0.mk (hsb.other Hr4.out (blk_ne Hr4.out Hr2.out (by decide))); clear hw hsb) | ((with_reducible refine gin_store (t := 24) (p := 3) rfl ?_); refine store_one_in (.inl rfl) 24 3 (.const (.int .i64 0)) rfl rfl rfl (.int .i64 0) #[.int .i64 0] rfl rfl Hr3'.out rfl nsz26 (show 0 + 1 ≤ 1 by omega) rfl rfl ?_; intro V3 hw hsb; have HV3 := Aside0.mk hw; have HSV3 := Aside0.mk hsb; have HV23 := Aside0.mk (hsb.other HV2.out (blk_ne HV2.out Hr3'.out (by decide))); have Hr4q := Aside0.mk (hsb.other Hr4'.out (blk_ne Hr4'.out Hr3'.out (by decide))); clear hw hsb) | ((with_reducible refine gin_store (t := 3) (p := 4) rfl ?_); refine store_one_in (.inl rfl) 3 4 (.const (.int .i64 0)) rfl rfl rfl (.int .i64 (0)) #[.int .i64 (0)] rfl (by first | rfl | (simp; done)) Hr4q.out rfl nsz3 (show 0 + 1 ≤ 1 by omega) rfl rfl ?_; intro V4 hw hsb; have HV4 := Aside0.mk hw; have HSV4 := Aside0.mk hsb; have HV24 := Aside0.mk (hsb.other HV23.out (blk_ne HV23.out Hr4q.out (by decide))); have HV34 := Aside0.mk (hsb.other HV3.out (blk_ne HV3.out Hr4q.out (by decide))); clear hw hsb))
          have HBW2 := HBQ
          have HK2 := HKQ
          have hBD := blk_lt HBN.out
          have x2 := HXg2.out
          have x3 := HXg3.out
          have x4 := HXg4.out
          have hK4 : V4.heap[D]? = some (.deferred (some [])) := (HSV4.out.blk D (by omega)).trans ((HSV3.out.blk D (by omega)).trans ((HSV2.out.blk D (by omega)).trans HK2.out))
          rw [HDP.out]
          refine ⟨by simp, .inl ⟨_, _, rfl, run_takeDeferred hK4, ?_⟩⟩
          have h2a := cell_kept ((blk_cell HV24.out 0).trans (show _ = some (Value.int .i64 p.vars) from rfl)) (grownBy_putObj' _ D (.deferred none)) (fun r e => by cases e; exact ⟨_, hK4, rfl⟩)
          have h2b := cell_kept ((blk_cell HV24.out 1).trans (show _ = some (Value.slice A1 p.cls.length c1) from rfl)) (grownBy_putObj' _ D (.deferred none)) (fun r e => by cases e; exact ⟨_, hK4, rfl⟩)
          have h3 := cell_kept ((blk_cell HV34.out 0).trans (show _ = some (Value.int .i64 (0)) from rfl)) (grownBy_putObj' _ D (.deferred none)) (fun r e => by cases e; exact ⟨_, hK4, rfl⟩)
          have h4 := cell_kept ((blk_cell HV4.out 0).trans (show _ = some (Value.int .i64 (0)) from rfl)) (grownBy_putObj' _ D (.deferred none)) (fun r e => by cases e; exact ⟨_, hK4, rfl⟩)
          refine ⟨.tuple #[.agg #[.int .i64 p.vars, .slice A1 p.cls.length c1], .int .i64 (0), .int .i64 (0)], by simp [results, Tryz.f20, go_sem, h2a, h2b, h3, h4], _, rfl, ?_, ?_⟩
          · exact Kd.R_mono (Kd.R_step (Kd.R_bound (HSV4.out.Rt (HSV3.out.Rt (HSV2.out.Rt (Kd.R_lower HCCQ.out HP.out.bl) Hr2.out (by decide)) Hr3'.out (by decide)) Hr4q.out (by decide))) (fun k hk _ => by
              obtain ⟨_, _, _, q, _, cells, hq⟩ := hk
              refine World.putObj_heap_other ?_
              rintro rfl
              rw [hK4] at hq
              cases hq)) (fun _ _ => trivial)
          · exact (HSV4.out.below (HSV3.out.below (HSV2.out.below HBW2.out HLg2.out) HLg3.out) HLg4.out).grown (grownBy_putObj' _ D (.deferred none)) ((HSV4.out.below (HSV3.out.below (HSV2.out.below HBW2.out HLg2.out) HLg3.out) HLg4.out).size) (fun k e => by cases e; have := HLg2.out; omega)
      · have hl : 0 < p.opn.length := List.length_pos_iff.2 ho
        have t1 : decide (0 < (p.opn.length : Int)) = true := decide_eq_true (by omega)
        have t2 : decide (0 < p.opn.length) = true := decide_eq_true hl
        obtain ⟨v1, v3, hgp, hcc, hoo⟩ := HP.out.ex
        obtain ⟨A3, c3, rfl⟩ := Kd.R_slice hoo
        have hp3 := (blk_cell hgp 3).trans (show _ = some (Value.slice A3 p.opn.length c3) from rfl)
        have HDP := Aside0.mk (show dParse b = ((0, []), 23, (nl : Int) + 1) by rw [hdp]; unfold dFinal; rw [if_neg (fun h => h rfl), if_neg (by simp), if_pos (.inl ho)])
        clear hdp hys hok hI hK hst hnl2 hgp hcc hoo ho
        gi_wp2_with (first | (refine ⟨trivial, ?_⟩; gi_at_call 42; refine (callsIn_wide.2 (last_calls ad c b W (Kd.C_below HC.out HBWW.out) hc HS.out)).mono ?_; rw [← HNL.out]; rintro e W2 ⟨rfl, hb⟩; have HK2 := Aside0.mk (blk_below HK.out hb); have HBW2 := Aside0.mk (below_step HBWW.out hb); have Hr2' := Aside0.mk (blk_below Hr2.out hb); clear Hr2; have Hr2 := Hr2'; clear Hr2'; have Hr3' := Aside0.mk (blk_below Hr3.out hb); clear Hr3; have Hr3 := Hr3'; clear Hr3'; have Hr4' := Aside0.mk (blk_below Hr4.out hb); clear Hr4; have Hr4 := Hr4'; clear Hr4'; clear hb hc5 hc6 hp3) | ((with_reducible refine gin_store (t := 35) (p := 2) rfl ?_); refine store_two_in (.inl rfl) 35 2 (.tmp 77) rfl rfl rfl (.int .i64 0) (.slice none 0 0) #[.int .i64 0, .slice none 0 0] rfl rfl Hr2.out nsz25 (Nat.le_refl 2) rfl rfl rfl ?_; intro V2 hw hsb; have HV2 := Aside0.mk hw; have HSV2 := Aside0.mk hsb; have Hr3' := Aside0.mk (hsb.other Hr3.out (blk_ne Hr3.out Hr2.out (by decide))); have Hr4' := Aside0.mk (hsb.other Hr4.out (blk_ne Hr4.out Hr2.out (by decide))); clear hw hsb) | ((with_reducible refine gin_store (t := 24) (p := 3) rfl ?_); refine store_one_in (.inl rfl) 24 3 (.const (.int .i64 23)) rfl rfl rfl (.int .i64 23) #[.int .i64 23] rfl rfl Hr3'.out rfl nsz26 (show 0 + 1 ≤ 1 by omega) rfl rfl ?_; intro V3 hw hsb; have HV3 := Aside0.mk hw; have HSV3 := Aside0.mk hsb; have HV23 := Aside0.mk (hsb.other HV2.out (blk_ne HV2.out Hr3'.out (by decide))); have Hr4q := Aside0.mk (hsb.other Hr4'.out (blk_ne Hr4'.out Hr3'.out (by decide))); clear hw hsb) | ((with_reducible refine gin_store (t := 3) (p := 4) rfl ?_); refine store_one_in (.inl rfl) 3 4 (.tmp 80) rfl rfl rfl (.int .i64 ((nl : Int) + 1)) #[.int .i64 ((nl : Int) + 1)] rfl (by first | rfl | (simp; done)) Hr4q.out rfl nsz3 (show 0 + 1 ≤ 1 by omega) rfl rfl ?_; intro V4 hw hsb; have HV4 := Aside0.mk hw; have HSV4 := Aside0.mk hsb; have HV24 := Aside0.mk (hsb.other HV23.out (blk_ne HV23.out Hr4q.out (by decide))); have HV34 := Aside0.mk (hsb.other HV3.out (blk_ne HV3.out Hr4q.out (by decide))); clear hw hsb))
        have hBD := blk_lt HBN.out
        have x2 := HXg2.out
        have x3 := HXg3.out
        have x4 := HXg4.out
        have hK4 : V4.heap[D]? = some (.deferred (some [])) := (HSV4.out.blk D (by omega)).trans ((HSV3.out.blk D (by omega)).trans ((HSV2.out.blk D (by omega)).trans HK2.out))
        rw [HDP.out]
        refine ⟨by simp, .inl ⟨_, _, rfl, run_takeDeferred hK4, ?_⟩⟩
        have h2a := cell_kept ((blk_cell HV24.out 0).trans (show _ = some (Value.int .i64 0) from rfl)) (grownBy_putObj' _ D (.deferred none)) (fun r e => by cases e; exact ⟨_, hK4, rfl⟩)
        have h2b := cell_kept ((blk_cell HV24.out 1).trans (show _ = some (Value.slice none 0 0) from rfl)) (grownBy_putObj' _ D (.deferred none)) (fun r e => by cases e; exact ⟨_, hK4, rfl⟩)
        have h3 := cell_kept ((blk_cell HV34.out 0).trans (show _ = some (Value.int .i64 (23)) from rfl)) (grownBy_putObj' _ D (.deferred none)) (fun r e => by cases e; exact ⟨_, hK4, rfl⟩)
        have h4 := cell_kept ((blk_cell HV4.out 0).trans (show _ = some (Value.int .i64 ((nl : Int) + 1)) from rfl)) (grownBy_putObj' _ D (.deferred none)) (fun r e => by cases e; exact ⟨_, hK4, rfl⟩)
        refine ⟨.tuple #[.agg #[.int .i64 0, .slice none 0 0], .int .i64 (23), .int .i64 ((nl : Int) + 1)], by simp [results, Tryz.f20, go_sem, h2a, h2b, h3, h4], _, rfl, ?_, ?_⟩
        · exact Kd.R_nil _ _ _ _ _
        · exact (HSV4.out.below (HSV3.out.below (HSV2.out.below HBW2.out HLg2.out) HLg3.out) HLg4.out).grown (grownBy_putObj' _ D (.deferred none)) ((HSV4.out.below (HSV3.out.below (HSV2.out.below HBW2.out HLg2.out) HLg3.out) HLg4.out).size) (fun k e => by cases e; have := HLg2.out; omega)
  case stop =>
    rintro D c0 pre W hD hok ⟨rfl, hPX⟩ hK
    gi_wp2
    obtain ⟨suf, hs⟩ := hok.px
    have hdp : dParse b = ((0, []), (stOf pre).err, ((stOf pre).n : Int)) := by
      unfold dParse
      rw [← hs, dState_pre _ suf hPX.bad]
      unfold dFinal
      rw [if_pos hPX.bad]
    rw [hdp]
    have hBD := blk_lt HBN.out
    refine ⟨by simp, .inl ⟨_, _, rfl, run_takeDeferred hK, ?_⟩⟩
    have h2a := cell_kept ((blk_cell hPX.r2 0).trans (show _ = some (Value.int .i64 0) from rfl)) (grownBy_putObj' _ D (.deferred none)) (fun r e => by cases e; exact ⟨_, hK, rfl⟩)
    have h2b := cell_kept ((blk_cell hPX.r2 1).trans (show _ = some (Value.slice none 0 0) from rfl)) (grownBy_putObj' _ D (.deferred none)) (fun r e => by cases e; exact ⟨_, hK, rfl⟩)
    have h3 := cell_kept ((blk_cell hPX.r3 0).trans (show _ = some (Value.int .i64 (stOf pre).err) from rfl)) (grownBy_putObj' _ D (.deferred none)) (fun r e => by cases e; exact ⟨_, hK, rfl⟩)
    have h4 := cell_kept ((blk_cell hPX.r4 0).trans (show _ = some (Value.int .i64 ((stOf pre).n : Nat)) from rfl)) (grownBy_putObj' _ D (.deferred none)) (fun r e => by cases e; exact ⟨_, hK, rfl⟩)
    refine ⟨.tuple #[.agg #[.int .i64 0, .slice none 0 0], .int .i64 (stOf pre).err, .int .i64 ((stOf pre).n : Nat)], by simp [results, Tryz.f20, go_sem, h2a, h2b, h3, h4], _, rfl, Kd.R_nil _ _ _ _ _, ?_⟩
    exact hPX.bw.grown (grownBy_putObj' _ D (.deferred none)) hPX.bw.size (fun k e => by cases e; have := HB.out.size; omega)
end Go.Proofs.YtigloobbpcnnhaaGreatDoor.PB
end
end
