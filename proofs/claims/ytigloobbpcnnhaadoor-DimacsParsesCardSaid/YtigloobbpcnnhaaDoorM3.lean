import Derived.Test.YtigloobbpcnnhaaDoorM1
import Derived.Test.YtigloobbpcnnhaaDoorM2
section
namespace Go.Proofs.YtigloobbpcnnhaaDoor.PB
open Go.RowKit Go.Proofs.YtigloobbpcnnhaaDoorW.PrintWords Go.Proofs.YtigloobbpcnnhaaDoorW.PrintLast Go.Proofs.YtigloobbpcnnhaaDoorW.PrintMore
set_option linter.unusedVariables false
set_option linter.unusedSimpArgs false
/-! ### words -/
/-- A list of bytes as whole numbers. -/
def bI (l : List UInt8) : List Int := l.map fun b => (b.toNat : Int)
theorem bI_length (l : List UInt8) : (bI l).length = l.length := List.length_map _
theorem bI_str (l : List UInt8) : strOfNums (bI l) = baOf l := by
  unfold strOfNums bI baOf
  rw [List.map_map]
  congr 2
  have : ((fun n : Int => UInt8.ofNat n.toNat) ∘ fun b : UInt8 => (b.toNat : Int)) = id := by
    funext b
    simp
  rw [this, List.map_id]
theorem bI_back (l : List UInt8) : Lib.bytesOf (bI l) = l := by
  unfold Lib.bytesOf bI
  rw [List.map_map]
  have : ((fun n : Int => UInt8.ofNat n.toNat) ∘ fun b : UInt8 => (b.toNat : Int)) = id := by
    funext b
    simp
  rw [this, List.map_id]
theorem baOf_data (l : List UInt8) : (baOf l).data.toList = l := rfl
theorem bI_rd (l : List UInt8) (h : 0 < l.length) : rd (bI l) 0 = ((l.head?.getD 0).toNat : Int) := by
  cases l with
  | nil => exact absurd h (by decide)
  | cons a r => rfl
theorem blank_calls (x : Nat) (w : World) (hx : x ≤ 1114111) : Calls Tryd.prog 39 #[.int .i32 (x : Int)] w fun e w' => e = .returned (.bool (pBl x)) ∧ w = w' := by
  obtain ⟨b1, h1⟩ : ∃ b : Bool, ((x : Int) == 32) = b := ⟨_, rfl⟩
  obtain ⟨b2, h2⟩ : ∃ b : Bool, ((x : Int) == 9) = b := ⟨_, rfl⟩
  obtain ⟨b3, h3⟩ : ∃ b : Bool, ((x : Int) == 13) = b := ⟨_, rfl⟩
  have e : pBl x = (b1 || b2 || b3) := by
    have hh : ∀ n : Nat, ((x : Int) == (n : Int)) = (x == n) := by
      intro n
      rw [Bool.eq_iff_iff, beq_iff_eq, beq_iff_eq]
      omega
    unfold pBl
    rw [← h1, ← h2, ← h3, ← hh 32, ← hh 9, ← hh 13]
    rfl
  have E := Aside0.mk e
  clear e
  cases b1
  · cases b2
    · cases b3
      all_goals
        go_enter Tryd.func39, Tryd.ntmps39
        go_wp2
        go_ret
        exact ⟨by rw [E.out]; rfl, rfl⟩
    · go_enter Tryd.func39, Tryd.ntmps39
      go_wp2
      go_ret
      exact ⟨by rw [E.out]; rfl, rfl⟩
  · go_enter Tryd.func39, Tryd.ntmps39
    go_wp2
    go_ret
    exact ⟨by rw [E.out]; rfl, rfl⟩
theorem blank_grows (w : World) : PredGrows Tryd.prog 39 #[] pBl w := by
  intro W x hx _
  refine (blank_calls x W hx).mono ?_
  rintro e w' ⟨rfl, rfl⟩
  exact ⟨rfl, Below.refl _ _⟩
/-- The words as the call hands them out. -/
theorem fields_calls (l : List UInt8) (w : World) (hs : l.length ≤ 100000) :
    Calls Tryd.prog 40 #[.string (baOf l), .func (.func 39) #[] #[]] w fun e w' => ∃ v, e = .returned v ∧ Kd.string.R 9 w' w.heap.size (fun _ => True) v ((dFields l []).map baOf) ∧ Below w.heap.size w w' := by
  refine (Tryd.strings_FieldsFunc_grows 39 #[] (enters_of Tryd.func39 (by kernel_rfl) rfl) pBl (baOf l) w (by show l.length ≤ _; omega) (blank_grows w)).mono ?_
  rw [fields_blank, baOf_data]
  rintro e w' ⟨A, rfl, _, ho, hb⟩
  exact ⟨_, rfl, Kd.R_of_own ho (fun _ _ => trivial), hb⟩
set_option maxHeartbeats 1000000 in
set_option maxRecDepth 100000 in
theorem words_calls (A : Option Addr) (c : Nat) (l : List UInt8) (w : World) (hC : (Kd.int .u8).C w A l.length (bI l)) (hc : l.length ≤ c) (hs : l.length ≤ 100000) :
    Calls Tryd.prog 20 #[.slice A l.length c] w fun e w' => ∃ v, e = .returned v ∧ Kd.string.R 9 w' w.heap.size (fun _ => True) v ((dWords l).map baOf) ∧ Below w.heap.size w w' := by
  have HC := Aside0.mk hC
  have hcv := Kd.C_string (P := Tryd.prog) (c := c) Tryd.underlying22 Tryd.underlying5 Tryd.underlying9 HC.out
  rw [bI_str] at hcv
  by_cases h0 : 0 < l.length
  · obtain ⟨ad, rfl, hx⟩ := Kd.at_int HC.out 0 (by omega) (by omega)
    rw [bI_rd l h0, show (ad.add (0 : Int).toNat) = ad from by cases ad; rfl] at hx
    obtain ⟨b, hb⟩ : ∃ b, b = l.head?.getD 0 := ⟨_, rfl⟩
    rw [← hb] at hx
    have hhd : l.head? = some b := by
      cases l with
      | nil => exact absurd h0 (by decide)
      | cons a r => rw [hb]; rfl
    have hp1 : decide (0 < (l.length : Int)) = true := decide_eq_true (by omega)
    have hp2 : decide (0 < l.length) = true := decide_eq_true h0
    have hp3 : (0 : Int) < (l.length : Int) := by omega
    by_cases h99 : b = 99
    · have hw := Aside0.mk (show dWords l = [] by unfold dWords; rw [if_pos (by rw [hhd, h99])])
      have t1 : ((b.toNat : Int) == 99) = true := by rw [h99]; rfl
      clear hC hhd hb h99 hcv
      go_enter Tryd.func20, Tryd.ntmps20
      go_wp2
      go_ret
      exact ⟨_, rfl, by rw [hw.out]; exact Kd.R_nil _ _ _ _ _, Below.refl _ _⟩
    · have hw := Aside0.mk (show dWords l = dFields l [] by unfold dWords; rw [if_neg (by rw [hhd]; intro e; exact h99 (Option.some.inj e))])
      have t1 : ((b.toNat : Int) == 99) = false := by
        rw [beq_eq_false_iff_ne]
        intro e
        exact h99 (UInt8.toNat_inj.1 (by show b.toNat = 99; omega))
      clear hC hhd hb h99
      go_enter Tryd.func20, Tryd.ntmps20
      go_wp2_with (go_at_call 40; refine (fields_calls l w hs).mono ?_; rintro e w2 ⟨v, rfl, hR, hb⟩; have HR := Aside0.mk hR; have HB := Aside0.mk hb; clear hR hb)
      go_ret
      exact ⟨_, rfl, by rw [hw.out]; exact HR.out, HB.out⟩
  · have hl : l = [] := List.eq_nil_of_length_eq_zero (by omega)
    have hp1 : decide (0 < (l.length : Int)) = false := decide_eq_false (by omega)
    have hp2 : decide (0 < l.length) = false := decide_eq_false h0
    have hw := Aside0.mk (show dWords l = dFields l [] by rw [hl]; rfl)
    clear hC hl h0
    go_enter Tryd.func20, Tryd.ntmps20
    go_wp2_with (go_at_call 40; refine (fields_calls l w hs).mono ?_; rintro e w2 ⟨v, rfl, hR, hb⟩; have HR := Aside0.mk hR; have HB := Aside0.mk hb; clear hR hb)
    go_ret
    exact ⟨_, rfl, by rw [hw.out]; exact HR.out, HB.out⟩
end Go.Proofs.YtigloobbpcnnhaaDoor.PB
end

section
namespace Go.Proofs.YtigloobbpcnnhaaDoor.PB
open Go.RowKit Go.Proofs.YtigloobbpcnnhaaDoorW.PrintWords Go.Proofs.YtigloobbpcnnhaaDoorW.PrintLast Go.Proofs.YtigloobbpcnnhaaDoorW.PrintMore
set_option linter.unusedVariables false
set_option linter.unusedSimpArgs false
/-! ### The parser, at block g -/
/-- Blocks that hold no cells of the types of T are as they were. -/
structure KO (T : List Nat) (w w' : World) : Prop where
  size : w.heap.size ≤ w'.heap.size
  blk : ∀ (i : Nat) (o : Obj), w.heap[i]? = some o → (∀ cs t fr, o = .cells cs t fr → t ∉ T) → w'.heap[i]? = some o
theorem KO.refl (T : List Nat) (w : World) : KO T w w := ⟨Nat.le_refl _, fun _ _ h _ => h⟩
theorem KO.trans {T : List Nat} {a b c : World} (h : KO T a b) (k : KO T b c) : KO T a c := ⟨Nat.le_trans h.size k.size, fun i o hi ht => k.blk i o (h.blk i o hi ht) ht⟩
theorem KO.below {T : List Nat} {a b c : World} (h : KO T a b) (k : Below b.heap.size b c) : KO T a c := h.trans ⟨k.size, fun i o hi _ => (k.block i (Array.getElem?_eq_some_iff.1 hi).1).trans hi⟩
theorem KO.drewN {T : List Nat} {a b : World} (h : KO T a b) (n : Nat) : KO T a (b.drewN n) := ⟨h.size, h.blk⟩
theorem KO.same {T : List Nat} {g t : Nat} {a w w' : World} {cs : Array Value} (hk : KO T a w) (h : SameBut g w w') (hb : w.heap[g]? = some (.cells cs t (0, 0))) (ht : t ∈ T) : KO T a w' :=
  hk.trans ⟨Nat.le_of_eq h.size.symm, fun i o hi ht' => by
    by_cases e : i = g
    · subst e
      rw [hb] at hi
      injection hi with hi
      exact absurd ht (ht' _ _ _ hi.symm)
    · exact (h.blk i e).trans hi⟩
theorem KO.grown {T : List Nat} {a b c : World} (h : KO T a b) {row : Option Nat} (hg : b.grownBy c row) (hr : ∀ k, row = some k → ∃ cells t, b.heap[k]? = some (.cells cells t (0, 0)) ∧ t ∈ T) : KO T a c :=
  h.trans ⟨hg.size, fun i o hi ht => by
    refine (hg.block i (Array.getElem?_eq_some_iff.1 hi).1 ?_).trans hi
    intro e
    obtain ⟨cells, t', h1, h2⟩ := hr i e.symm
    rw [hi] at h1
    injection h1 with h1
    exact ht _ _ _ h1 h2⟩
theorem KO.cells {T : List Nat} {a b : World} (h : KO T a b) {i : Nat} {cs : Array Value} {t : TypeId} (hi : a.heap[i]? = some (.cells cs t (0, 0))) (ht : t ∉ T) : b.heap[i]? = some (.cells cs t (0, 0)) :=
  h.blk i _ hi (fun cs' t' fr e => by injection e with _ e _; subst e; exact ht)
/-- Below block number B all is as it was, but block g. -/
structure But (B g : Nat) (w w' : World) : Prop where
  size : w.heap.size ≤ w'.heap.size
  blk : ∀ k, k < B → k ≠ g → w'.heap[k]? = w.heap[k]?
theorem But.refl (B g : Nat) (w : World) : But B g w w := ⟨Nat.le_refl _, fun _ _ _ => rfl⟩
theorem But.trans {B g : Nat} {a b c : World} (h : But B g a b) (k : But B g b c) : But B g a c := ⟨Nat.le_trans h.size k.size, fun i hi hne => (k.blk i hi hne).trans (h.blk i hi hne)⟩
theorem But.same {B g : Nat} {w a b : World} (h : But B g w a) (k : SameBut g a b) : But B g w b := ⟨Nat.le_trans h.size (Nat.le_of_eq k.size.symm), fun i hi hne => (k.blk i hne).trans (h.blk i hi hne)⟩
theorem But.grown {B g : Nat} {w a b : World} (h : But B g w a) {row : Option Nat} (k : a.grownBy b row) (hB : B ≤ a.heap.size) (hr : ∀ i, row = some i → B ≤ i) : But B g w b :=
  ⟨Nat.le_trans h.size k.size, fun i hi hne => (k.block i (by omega) (fun e => by have := hr i e.symm; omega)).trans (h.blk i hi hne)⟩
theorem But.below {B g : Nat} {w a b : World} (h : But B g w a) (k : Below a.heap.size a b) (hB : B ≤ a.heap.size) : But B g w b := ⟨Nat.le_trans h.size k.size, fun i hi hne => (k.block i (by omega)).trans (h.blk i hi hne)⟩
theorem But.drewN {B g : Nat} {a b : World} (h : But B g a b) (n : Nat) : But B g a (b.drewN n) := ⟨h.size, h.blk⟩
def TP : List Nat := [50, 67, 52]
theorem nsz3 : (Tryd.prog.info? 3).map (·.size) = some 1 := by kernel_rfl
theorem nsz23 : (Tryd.prog.info? 23).map (·.size) = some 1 := by kernel_rfl
theorem nsz50 : (Tryd.prog.info? 50).map (·.size) = some 1 := by kernel_rfl
theorem info67 : (Tryd.prog.info? 67).map (fun i => (i.zero, i.size, i.bytes)) = some (some (.int .i32 0), 1, 4) := by kernel_rfl
theorem info50 : (Tryd.prog.info? 50).map (fun i => (i.zero, i.size, i.bytes)) = some (some (.slice none 0 0), 1, 24) := by kernel_rfl
abbrev kcs : Kd (List Int) := Kd.slice 67 (Kd.int .i32)
def DP.cells (p : DP) (v1 v3 : Value) : Array Value := #[.int .i64 p.vars, v1, .int .i64 p.want, v3, .int .i64 (p.lits : Nat)]
structure PRS (b1 base g : Nat) (p : DP) (W : World) : Prop where
  ex : ∃ v1 v3, W.heap[g]? = some (.cells (p.cells v1 v3) 52 (0, 0)) ∧ kcs.R 50 W b1 (fun k => some k ≠ v3.ownBlock) v1 p.cls ∧ (Kd.int .i32).R 67 W b1 (fun _ => True) v3 p.opn
  bs : base ≤ g
  bl : base ≤ b1
  top : b1 ≤ W.heap.size
theorem PRS.lt {b1 base g : Nat} {p : DP} {W : World} (h : PRS b1 base g p W) : g < W.heap.size := by
  obtain ⟨_, _, hg, _⟩ := h.ex
  exact blk_lt hg
theorem PRS.below {b1 base g : Nat} {p : DP} {W W' : World} (h : PRS b1 base g p W) (hb : Below W.heap.size W W') : PRS b1 base g p W' := by
  obtain ⟨v1, v3, hg, h1, h3⟩ := h.ex
  exact ⟨⟨v1, v3, blk_below hg hb, Kd.R_below h1 hb, Kd.R_below h3 hb⟩, h.bs, h.bl, Nat.le_trans h.top hb.size⟩
theorem PRS.drewN {b1 base g : Nat} {p : DP} {W : World} (h : PRS b1 base g p W) (n : Nat) : PRS b1 base g p (W.drewN n) := h.below (pw_below_drewN (Below.refl _ _) n)
theorem PRS.other {b1 base g : Nat} {p : DP} {W W' : World} {g2 t : Nat} {cs : Array Value} (h : PRS b1 base g p W) (hs : SameBut g2 W W') (hb : W.heap[g2]? = some (.cells cs t (0, 0))) (ht : t ≠ 50 ∧ t ≠ 67 ∧ t ≠ 52) : PRS b1 base g p W' := by
  obtain ⟨v1, v3, hg, h1, h3⟩ := h.ex
  refine ⟨⟨v1, v3, (hs.blk g (blk_ne hg hb (fun e => ht.2.2 e.symm))).trans hg, hs.Rt h1 hb ?_, hs.Rt h3 hb ?_⟩, h.bs, h.bl, by rw [hs.size]; exact h.top⟩
  · intro q hq
    simp only [Kd.slice, Kd.int, Kd.scalar, List.mem_cons, List.not_mem_nil, or_false] at hq
    rcases hq with rfl | rfl
    · exact fun e => ht.1 e.symm
    · exact fun e => ht.2.1 e.symm
  · intro q hq
    simp only [Kd.int, Kd.scalar, List.mem_cons, List.not_mem_nil, or_false] at hq
    subst hq
    exact fun e => ht.2.1 e.symm
theorem wrap32_lit {v x : Int} (h0 : 0 ≤ v) (h : v ≤ 1048576) (h1 : -v ≤ x) (h2 : x ≤ v) : wrap32 x = x := by unfold wrap32; omega
/-- What a call has done. -/
def PPost (b1 base g : Nat) (r : Int × DP) (W : World) (e : Ending) (w' : World) : Prop := e = .returned (.int .i64 r.1) ∧ PRS b1 base g r.2 w' ∧ Below base W w' ∧ KO TP W w' ∧ But b1 g W w'
def word.T12 : Bool × List (List Nat × List Nat) := (true, [([], []), ([], []), ([1], [1]), ([2], [2]), ([3], [3]), ([4], [4]), ([], []), ([6], [6]), ([7], [7]), ([8], [8]), ([9], [9]), ([5, 10], [5, 10]), ([0, 0, 1, 2, 3, 4, 5, 6, 7, 8, 9, 10, 11], [0]), ([12, 0, 1, 2, 3, 4, 5, 6, 7, 8, 9, 10, 11], [12]), ([13, 0, 1, 2, 3, 4, 5, 6, 7, 8, 9, 10, 11], [13]), ([14, 11, 11, 0, 1, 2, 3, 4, 5, 6, 7, 8, 9, 10, 11], [11, 14])])
def word.B12 : List Nat := [0, 0, 2, 6, 14, 30, 0, 64, 192, 448, 960, 2046, 4095, 8191, 16383, 32767]
theorem word.tab12 : rtab .any (opsOf Tryd.f22 12) = word.T12 := by kernel_rfl
theorem word.bits12 : waitsOk word.T12.2 word.B12 = true := by kernel_rfl
theorem dWord_of (p : DP) (x : List UInt8) (n : Int) (is fits : Bool) (h : dNum x true p.vars = (n, is, fits)) : dWord p x =
    if is = false then (21, p) else if (p.cls.length : Int) = p.want then (24, p) else if fits = false ∨ (n ≠ 0 ∧ p.lits = 16777216) then (22, p)
    else if n = 0 then (0, { p with cls := p.cls ++ [p.opn], opn := [] }) else (0, { p with opn := p.opn ++ [n], lits := p.lits + 1 }) := by
  unfold dWord
  rw [h]
set_option maxHeartbeats 2000000 in
set_option maxRecDepth 100000 in
theorem word_calls (b1 base g : Nat) (p : DP) (x : List UInt8) (W : World) (hp : PRS b1 base g p W) (hi : DInv p) (hx : x.length ≤ 100000) (hlt : LT base W) :
    Calls Tryd.prog 22 #[.pointer (some ⟨g, 0, none⟩), .string (baOf x)] W (PPost b1 base g (dWord p x) W) := by
  have h0 := hi.v0
  have h1 := hi.v1
  have HLT := Aside0.mk hlt
  have HP := Aside0.mk hp
  have HBW := Aside0.mk (show base ≤ W.heap.size from Nat.le_trans hp.bs (Nat.le_of_lt hp.lt))
  have HCL := Aside0.mk (show p.cls.length ≤ 1048576 by have := hi.c; have := hi.w1; omega)
  have hl0 : p.lits ≤ 16777216 := hi.l
  have HOL := Aside0.mk (show p.opn.length ≤ 16777216 by have := hi.t; omega)
  obtain ⟨v1, v3, hg, hc, ho⟩ := hp.ex
  obtain ⟨A1, c1, rfl⟩ := Kd.R_slice hc
  obtain ⟨A3, c3, rfl⟩ := Kd.R_slice ho
  have HG := Aside0.mk hg
  have HC := Aside0.mk hc
  have HO := Aside0.mk ho
  have hc0 := (blk_cell hg 0).trans (show _ = some (Value.int .i64 p.vars) from rfl)
  have hc1 := (blk_cell hg 1).trans (show _ = some (Value.slice A1 p.cls.length c1) from rfl)
  have hc2 := (blk_cell hg 2).trans (show _ = some (Value.int .i64 p.want) from rfl)
  have hc3 := (blk_cell hg 3).trans (show _ = some (Value.slice A3 p.opn.length c3) from rfl)
  have hc4 := (blk_cell hg 4).trans (show _ = some (Value.int .i64 (p.lits : Nat)) from rfl)
  obtain ⟨n, is, fits, hn⟩ : ∃ n is fits, dNum x true p.vars = (n, is, fits) := ⟨_, _, _, rfl⟩
  have hw := dWord_of p x n is fits hn
  have hr := dNum_range x true p.vars h0
  rw [hn] at hr
  have HN := Aside0.mk (show dNum (baOf x).data.toList true p.vars = (n, is, fits) from hn)
  have hr1 : -p.vars ≤ n := hr.2.1
  have hr2 : n ≤ p.vars := hr.2.2.1
  clear hlt hp hg hc ho hn hr hi
  cases is with
  | false =>
    have HW := Aside0.mk (show dWord p x = (21, p) by rw [hw, if_pos rfl])
    clear hw
    go_enter Tryd.func22, Tryd.ntmps22
    go_wp2_with fail
    refine (number_calls (baOf x) true p.vars h0 (by omega) hx W (HLT.out.up HBW.out)).mono ?_
    rw [HN.out]
    rintro e w2 ⟨rfl, hb⟩
    have HB := Aside0.mk hb
    have HG2 := Aside0.mk (blk_below HG.out hb)
    have HP2 := Aside0.mk (HP.out.below hb)
    have HC2 := Aside0.mk (Kd.R_below HC.out hb)
    have HO2 := Aside0.mk (Kd.R_below HO.out hb)
    clear hb hc0 hc1 hc2 hc3 hc4
    have hc1 := (blk_cell HG2.out 1).trans (show _ = some (Value.slice A1 p.cls.length c1) from rfl)
    have hc2 := (blk_cell HG2.out 2).trans (show _ = some (Value.int .i64 p.want) from rfl)
    have hc3 := (blk_cell HG2.out 3).trans (show _ = some (Value.slice A3 p.opn.length c3) from rfl)
    have hc4 := (blk_cell HG2.out 4).trans (show _ = some (Value.int .i64 (p.lits : Nat)) from rfl)
    have hf1 := blk_frozen HG2.out 1
    have hf3 := blk_frozen HG2.out 3
    have hf4 := blk_frozen HG2.out 4
    go_wp2
    go_ret
    rw [HW.out]
    exact ⟨rfl, HP2.out, HB.out.mono HBW.out, (KO.refl TP W).below HB.out, (But.refl b1 g W).below HB.out HP.out.top⟩
  | true =>
    by_cases hcw : (p.cls.length : Int) = p.want
    · have HW := Aside0.mk (show dWord p x = (24, p) by rw [hw, if_neg (by decide), if_pos hcw])
      have t1 : ((p.cls.length : Int) == p.want) = true := beq_iff_eq.2 hcw
      clear hw hcw
      go_enter Tryd.func22, Tryd.ntmps22
      go_wp2_with fail
      refine (number_calls (baOf x) true p.vars h0 (by omega) hx W (HLT.out.up HBW.out)).mono ?_
      rw [HN.out]
      rintro e w2 ⟨rfl, hb⟩
      have HB := Aside0.mk hb
      have HG2 := Aside0.mk (blk_below HG.out hb)
      have HP2 := Aside0.mk (HP.out.below hb)
      have HC2 := Aside0.mk (Kd.R_below HC.out hb)
      have HO2 := Aside0.mk (Kd.R_below HO.out hb)
      clear hb hc0 hc1 hc2 hc3 hc4
      have hc1 := (blk_cell HG2.out 1).trans (show _ = some (Value.slice A1 p.cls.length c1) from rfl)
      have hc2 := (blk_cell HG2.out 2).trans (show _ = some (Value.int .i64 p.want) from rfl)
      have hc3 := (blk_cell HG2.out 3).trans (show _ = some (Value.slice A3 p.opn.length c3) from rfl)
      have hc4 := (blk_cell HG2.out 4).trans (show _ = some (Value.int .i64 (p.lits : Nat)) from rfl)
      have hf1 := blk_frozen HG2.out 1
      have hf3 := blk_frozen HG2.out 3
      have hf4 := blk_frozen HG2.out 4
      go_wp2
      go_quiet (fail)
      go_wp2
      go_ret
      rw [HW.out]
      exact ⟨rfl, HP2.out.drewN _, (HB.out.mono HBW.out).trans (pw_below_drewN (Below.refl _ _) _), ((KO.refl TP W).below HB.out).drewN _, ((But.refl b1 g W).below HB.out HP.out.top).drewN _⟩
    · have t1 : ((p.cls.length : Int) == p.want) = false := beq_eq_false_iff_ne.2 hcw
      rw [if_neg (by decide), if_neg hcw] at hw
      clear hcw
      cases fits with
      | false =>
        have HW := Aside0.mk (show dWord p x = (22, p) by rw [hw, if_pos (.inl rfl)])
        clear hw
        go_enter Tryd.func22, Tryd.ntmps22
        go_wp2_with fail
        refine (number_calls (baOf x) true p.vars h0 (by omega) hx W (HLT.out.up HBW.out)).mono ?_
        rw [HN.out]
        rintro e w2 ⟨rfl, hb⟩
        have HB := Aside0.mk hb
        have HG2 := Aside0.mk (blk_below HG.out hb)
        have HP2 := Aside0.mk (HP.out.below hb)
        have HC2 := Aside0.mk (Kd.R_below HC.out hb)
        have HO2 := Aside0.mk (Kd.R_below HO.out hb)
        clear hb hc0 hc1 hc2 hc3 hc4
        have hc1 := (blk_cell HG2.out 1).trans (show _ = some (Value.slice A1 p.cls.length c1) from rfl)
        have hc2 := (blk_cell HG2.out 2).trans (show _ = some (Value.int .i64 p.want) from rfl)
        have hc3 := (blk_cell HG2.out 3).trans (show _ = some (Value.slice A3 p.opn.length c3) from rfl)
        have hc4 := (blk_cell HG2.out 4).trans (show _ = some (Value.int .i64 (p.lits : Nat)) from rfl)
        have hf1 := blk_frozen HG2.out 1
        have hf3 := blk_frozen HG2.out 3
        have hf4 := blk_frozen HG2.out 4
        go_wp2
        go_quiet (fail)
        go_wp2
        go_ret
        rw [HW.out]
        exact ⟨rfl, HP2.out.drewN _, (HB.out.mono HBW.out).trans (pw_below_drewN (Below.refl _ _) _), ((KO.refl TP W).below HB.out).drewN _, ((But.refl b1 g W).below HB.out HP.out.top).drewN _⟩
      | true =>
        by_cases hz : n = 0
        · subst hz
          have HW := Aside0.mk (show dWord p x = (0, { p with cls := p.cls ++ [p.opn], opn := [] }) by rw [hw, if_neg (by simp), if_pos rfl])
          clear hw
          obtain ⟨LN, hln⟩ : ∃ L, L = (p.cls ++ [p.opn]).length := ⟨_, rfl⟩
          have HLN := Aside0.mk hln
          clear hln
          go_enter Tryd.func22, Tryd.ntmps22
          go_wp2_with fail
          refine (number_calls (baOf x) true p.vars h0 (by omega) hx W (HLT.out.up HBW.out)).mono ?_
          rw [HN.out]
          rintro e w2 ⟨rfl, hb⟩
          have HB := Aside0.mk hb
          have HG2 := Aside0.mk (blk_below HG.out hb)
          have HP2 := Aside0.mk (HP.out.below hb)
          have HC2 := Aside0.mk (Kd.R_below HC.out hb)
          have HO2 := Aside0.mk (Kd.R_below HO.out hb)
          clear hb hc0 hc1 hc2 hc3 hc4
          have hc1 := (blk_cell HG2.out 1).trans (show _ = some (Value.slice A1 p.cls.length c1) from rfl)
          have hc2 := (blk_cell HG2.out 2).trans (show _ = some (Value.int .i64 p.want) from rfl)
          have hc3 := (blk_cell HG2.out 3).trans (show _ = some (Value.slice A3 p.opn.length c3) from rfl)
          have hc4 := (blk_cell HG2.out 4).trans (show _ = some (Value.int .i64 (p.lits : Nat)) from rfl)
          have hf1 := blk_frozen HG2.out 1
          have hf3 := blk_frozen HG2.out 3
          have hf4 := blk_frozen HG2.out 4
          go_upto_region 6 with fail
          go_quiet (fail)
          go_upto_region 12 with fail
          have HB3 := Aside0.mk (show Below base W (w2.drewN nq) from (HB.out.mono HBW.out).trans (pw_below_drewN (Below.refl _ _) _))
          have HG3 := Aside0.mk (blk_drewN HG2.out nq)
          have HC3 := Aside0.mk (Kd.R_drewN HC2.out nq)
          have HO3 := Aside0.mk (Kd.R_drewN HO2.out nq)
          have HK3 := Aside0.mk (((KO.refl TP W).below HB.out).drewN nq)
          have HT3 := Aside0.mk (((But.refl b1 g W).below HB.out HP.out.top).drewN nq)
          have HS3 := Aside0.mk (show b1 ≤ (w2.drewN nq).heap.size from Nat.le_trans HP.out.top HB.out.size)
          clear hc1 hc2 hc3 hc4 hf1 hf3 hf4
          generalize w2.drewN nq = w3 at HB3 HG3 HC3 HO3 HK3 HT3 HS3 ⊢
          refine start_ (n := 16) (S := fun w' => w'.heap[g]? = some (.cells (p.cells (.slice A1 p.cls.length c1) (.slice A3 p.opn.length c3)) 52 (0, 0))) (ds := [15]) #[false, false, false, false, false, false, false, false, false, false, false, false, false, false, false, false] (by kernel_rfl) rfl rfl (blk_drew HG3.out) (fun hHeld => ?_); refine with_tabW word.tab12 word.bits12 (fun HT_ HW_ => ?_)
          have HB4 := Aside0.mk (below_drew1 HB3.out)
          have HG4 := Aside0.mk (blk_drew HG3.out)
          have HC4 := Aside0.mk (Kd.R_drew HC3.out)
          have HO4 := Aside0.mk (Kd.R_drew HO3.out)
          have HK4 := Aside0.mk (HK3.out.drewN 1)
          have HT4 := Aside0.mk (HT3.out.drewN 1)
          have HS4 := Aside0.mk (show b1 ≤ w3.drew.heap.size from HS3.out)
          have e1 : w3.drewN 1 = w3.drew := rfl
          rw [e1] at HK4 HT4
          clear e1
          generalize w3.drew = w4 at HB4 HG4 HC4 HO4 HK4 HT4 HS4 hHeld ⊢
          refine pure_ (i := 0) (N := some 67) (v := ?_) (a' := ?_) #[true, false, false, false, false, false, false, false, false, false, false, false, false, false, false, false] rfl rfl (any_of HT_.out (by kernel_rfl)) (fun _ _ _ h => h) (Or.inl ⟨by rfl, ?_⟩) ?_ ?_
          rotate_left
          · intro w'
            go_simp
            with_reducible rfl
          rotate_left
          · simp only [Act.put, List.setIfInBounds_toArray, List.set_cons_zero, List.set_cons_succ, i64_w, i32_w]
            rfl
          refine pure_ (i := 1) (N := some 68) (v := ?_) (a' := ?_) #[true, true, false, false, false, false, false, false, false, false, false, false, false, false, false, false] rfl rfl (any_of HT_.out (by kernel_rfl)) (fun _ _ _ h => h) (Or.inl ⟨by rfl, ?_⟩) ?_ ?_
          rotate_left
          · intro w'
            go_simp
            with_reducible rfl
          rotate_left
          · simp only [Act.put, List.setIfInBounds_toArray, List.set_cons_zero, List.set_cons_succ, i64_w, i32_w]
            rfl
          refine pure_ (i := 2) (N := some 69) (v := ?_) (a' := ?_) #[true, true, true, false, false, false, false, false, false, false, false, false, false, false, false, false] rfl rfl (any_of HT_.out (by kernel_rfl)) (fun _ _ _ h => h) (Or.inl ⟨by rfl, ?_⟩) ?_ ?_
          rotate_left
          · intro w'
            go_simp
            with_reducible rfl
          rotate_left
          · simp only [Act.put, List.setIfInBounds_toArray, List.set_cons_zero, List.set_cons_succ, i64_w, i32_w]
            rfl
          refine pure_ (i := 3) (N := some 70) (v := ?_) (a' := ?_) #[true, true, true, true, false, false, false, false, false, false, false, false, false, false, false, false] rfl rfl (any_of HT_.out (by kernel_rfl)) (fun _ _ _ h => h) (Or.inl ⟨by rfl, ?_⟩) ?_ ?_
          rotate_left
          · intro w'
            go_simp
            with_reducible rfl
          rotate_left
          · simp only [Act.put, List.setIfInBounds_toArray, List.set_cons_zero, List.set_cons_succ, i64_w, i32_w]
            rfl
          refine pure_ (i := 4) (N := some 71) (v := ?_) (a' := ?_) #[true, true, true, true, true, false, false, false, false, false, false, false, false, false, false, false] rfl rfl (any_of HT_.out (by kernel_rfl)) (fun _ _ _ h => h) (Or.inl ⟨by rfl, ?_⟩) ?_ ?_
          rotate_left
          · intro w'
            go_simp
            with_reducible rfl
          rotate_left
          · simp only [Act.put, List.setIfInBounds_toArray, List.set_cons_zero, List.set_cons_succ, i64_w, i32_w]
            rfl
          refine take_ (i := 5) (N := some 72) (v := ?_) (a' := ?_) #[true, true, true, true, true, true, false, false, false, false, false, false, false, false, false, false] rfl rfl (take_ofW HT_.out HW_.out (by kernel_rfl)) (fun _ _ _ h => h) (Or.inl ⟨by rfl, ?_⟩) hHeld ?_ ?_
          rotate_left
          · rintro w' hS
            have hcz1 := (blk_cell hS 1).trans (show _ = some (Value.slice A1 p.cls.length c1) from rfl)
            go_simp
            with_reducible rfl
          rotate_left
          · simp only [Act.put, List.setIfInBounds_toArray, List.set_cons_zero, List.set_cons_succ, i64_w, i32_w]
            rfl
          refine pure_ (i := 6) (N := some 73) (v := ?_) (a' := ?_) #[true, true, true, true, true, true, true, false, false, false, false, false, false, false, false, false] rfl rfl (any_of HT_.out (by kernel_rfl)) (fun _ _ _ h => h) (Or.inl ⟨by rfl, ?_⟩) ?_ ?_
          rotate_left
          · intro w'
            go_simp
            with_reducible rfl
          rotate_left
          · simp only [Act.put, List.setIfInBounds_toArray, List.set_cons_zero, List.set_cons_succ, i64_w, i32_w]
            rfl
          refine pure_ (i := 7) (N := some 74) (v := ?_) (a' := ?_) #[true, true, true, true, true, true, true, true, false, false, false, false, false, false, false, false] rfl rfl (any_of HT_.out (by kernel_rfl)) (fun _ _ _ h => h) (Or.inl ⟨by rfl, ?_⟩) ?_ ?_
          rotate_left
          · intro w'
            go_simp
            with_reducible rfl
          rotate_left
          · simp only [Act.put, List.setIfInBounds_toArray, List.set_cons_zero, List.set_cons_succ, i64_w, i32_w]
            rfl
          refine pure_ (i := 8) (N := some 75) (v := ?_) (a' := ?_) #[true, true, true, true, true, true, true, true, true, false, false, false, false, false, false, false] rfl rfl (any_of HT_.out (by kernel_rfl)) (fun _ _ _ h => h) (Or.inl ⟨by rfl, ?_⟩) ?_ ?_
          rotate_left
          · intro w'
            go_simp
            with_reducible rfl
          rotate_left
          · simp only [Act.put, List.setIfInBounds_toArray, List.set_cons_zero, List.set_cons_succ, i64_w, i32_w]
            rfl
          refine take_ (i := 9) (N := some 76) (v := ?_) (a' := ?_) #[true, true, true, true, true, true, true, true, true, true, false, false, false, false, false, false] rfl rfl (take_ofW HT_.out HW_.out (by kernel_rfl)) (fun _ _ _ h => h) (Or.inl ⟨by rfl, ?_⟩) hHeld ?_ ?_
          rotate_left
          · rintro w' hS
            have hcz1 := (blk_cell hS 3).trans (show _ = some (Value.slice A3 p.opn.length c3) from rfl)
            go_simp
            with_reducible rfl
          rotate_left
          · simp only [Act.put, List.setIfInBounds_toArray, List.set_cons_zero, List.set_cons_succ, i64_w, i32_w]
            rfl
          refine one_ (i := 10) (N := some 77) #[true, true, true, true, true, true, true, true, true, true, true, false, false, false, false, false] rfl rfl (one_of HT_.out (by kernel_rfl)) (by decide) (fun K hK => ?_)
          refine value_ (w1 := ?_) (v := ?_) (by rfl) rfl ?_ ?_
          rotate_left 2
          · go_simp
            constructor
            · rfl
            · rfl
          refine hK.out _ _ (blk_alloc HG4.out _) (fun hHeld => ?_)
          clear hK K
          refine norm_ (a' := ?_) ?_ ?_
          rotate_left
          · show Act.put _ (some 77) _ = _
            simp only [Act.put, List.setIfInBounds_toArray, List.set_cons_zero, List.set_cons_succ, i64_w, i32_w]
            rfl
          refine one_ (i := 11) (N := some 78) #[true, true, true, true, true, true, true, true, true, true, true, true, false, false, false, false] rfl rfl (one_of HT_.out (by kernel_rfl)) (by decide) (fun K hK => ?_)
          refine Kd.R_append_step kcs (w0 := w4) b1 (by rfl) (.tmp 72) (.tmp 77) 23 50 (.slice none 0 0) 24 rfl Tryd.underlying23 info50 rfl (by decide) (by omega) (.slice A1 p.cls.length c1) p.cls p.opn [.slice A3 p.opn.length c3] (fun _ => True) (fun k => some k ≠ (Value.slice A1 p.cls.length c1).ownBlock) rfl rfl ?aP (fun k hk => ⟨trivial, hk⟩) ?aF ?aO (Below.refl _ _) HS4.out ?aL ?_
          (case aP => exact ⟨_, rfl, Kd.R_mono (Kd.R_apart' HO4.out (Kd.R_typed HC4.out) (by decide)) (fun k hk => hk.2)⟩)
          (case aF => exact (fun _ _ => trivial))
          (case aO => exact Kd.R_mono HC4.out (fun _ _ => trivial))
          (case aL => have := HCL.out; omega)
          intro v9 w9 ho hb hg hat
          obtain ⟨A9, c9, e9⟩ := Kd.R_slice ho
          rw [← HLN.out] at e9
          subst e9
          have HR9 := Aside0.mk ho
          have HB9 := Aside0.mk (HB4.out.trans (hb.mono HP.out.bl))
          have HS9 := Aside0.mk (show b1 ≤ w9.heap.size from Nat.le_trans HS4.out hb.size)
          have HG9 := Aside0.mk (blk_grown HG4.out hg (Kd.R_ne HC4.out HG4.out (by decide)))
          have HT9 := Aside0.mk (HT4.out.grown hg HS4.out (fun k hk => Kd.R_base HC4.out k hk))
          have HK9 := Aside0.mk (HK4.out.grown hg (fun k hk => by obtain ⟨cells, hc⟩ := Kd.R_typed HC4.out k hk; exact ⟨cells, 50, hc, by decide⟩))
          clear ho hb hg hat
          refine hK.out _ _ HG9.out (fun hHeld => ?_)
          clear hK K
          refine norm_ (a' := ?_) ?_ ?_
          rotate_left
          · show Act.put _ (some 78) _ = _
            simp only [Act.put, List.setIfInBounds_toArray, List.set_cons_zero, List.set_cons_succ, i64_w, i32_w]
            rfl
          refine pure_ (i := 12) (N := some 79) (v := ?_) (a' := ?_) #[true, true, true, true, true, true, true, true, true, true, true, true, true, false, false, false] rfl rfl (any_of HT_.out (by kernel_rfl)) (fun _ _ _ h => h) (Or.inl ⟨by rfl, ?_⟩) ?_ ?_
          rotate_left
          · intro w'
            go_simp
            with_reducible rfl
          rotate_left
          · simp only [Act.put, List.setIfInBounds_toArray, List.set_cons_zero, List.set_cons_succ, i64_w, i32_w]
            rfl
          refine pure_ (i := 13) (N := some 80) (v := ?_) (a' := ?_) #[true, true, true, true, true, true, true, true, true, true, true, true, true, true, false, false] rfl rfl (any_of HT_.out (by kernel_rfl)) (fun _ _ _ h => h) (Or.inl ⟨by rfl, ?_⟩) ?_ ?_
          rotate_left
          · intro w'
            go_simp
            with_reducible rfl
          rotate_left
          · simp only [Act.put, List.setIfInBounds_toArray, List.set_cons_zero, List.set_cons_succ, i64_w, i32_w]
            rfl
          refine pure_ (i := 14) (N := some 81) (v := ?_) (a' := ?_) #[true, true, true, true, true, true, true, true, true, true, true, true, true, true, true, false] rfl rfl (any_of HT_.out (by kernel_rfl)) (fun _ _ _ h => h) (Or.inl ⟨by rfl, ?_⟩) ?_ ?_
          rotate_left
          · intro w'
            go_simp
            with_reducible rfl
          rotate_left
          · simp only [Act.put, List.setIfInBounds_toArray, List.set_cons_zero, List.set_cons_succ, i64_w, i32_w]
            rfl
          refine last_ (i := 15) (N := none) #[true, true, true, true, true, true, true, true, true, true, true, true, true, true, true, true] rfl rfl (one_of HT_.out (by kernel_rfl)) (by decide) (fun K hK => ?_)
          have hs1 := (blk_cell HG9.out 1).trans (show _ = some (Value.slice A1 p.cls.length c1) from rfl)
          have hfs1 := blk_frozen HG9.out 1
          refine skip_ (w1 := ?_) (by rfl) rfl ?_ ?_
          rotate_left
          · go_simp
            rfl
          have HG10 := Aside0.mk (show (w9.setCell ⟨g, 1, none⟩ (.slice A9 LN c9)).heap[g]? = some (.cells #[.int .i64 p.vars, .slice A9 LN c9, .int .i64 p.want, .slice A3 p.opn.length c3, .int .i64 (p.lits : Nat)] 52 (0, 0)) from blk_put HG9.out 1 _ rfl)
          have HSB10 := Aside0.mk (show SameBut g w9 (w9.setCell ⟨g, 1, none⟩ (.slice A9 LN c9)) from ⟨rfl, rfl, rfl, by simp [World.setCell], fun k hk => Below.heap_setCell w9 ⟨g, 1, none⟩ _ k hk⟩)
          clear hs1 hfs1
          refine hK.out _ _ ?_
          clear hK K
          generalize w9.setCell ⟨g, 1, none⟩ (.slice A9 LN c9) = w10 at HG10 HSB10 ⊢
          refine done_ (done_of HT_.out (by kernel_rfl)) ?_
          go_wp2_with ((with_reducible refine gate_store (t := 50) (p := 84) rfl ?_); refine store_one 50 84 (.const (.slice none 0 0)) rfl rfl rfl (.slice none 0 0) #[.int .i64 p.vars, .slice A9 LN c9, .int .i64 p.want, .slice none 0 0, .int .i64 (p.lits : Nat)] rfl rfl HG10.out rfl nsz50 (show 3 + 1 ≤ 5 by omega) rfl rfl ?_; intro w11 hw hsb; have HG11 := Aside0.mk hw; have HSB11 := Aside0.mk hsb; clear hw hsb)
          go_ret
          rw [HW.out]
          refine ⟨rfl, ⟨⟨_, _, HG11.out, ?_, Kd.R_nil _ _ _ _ _⟩, HP2.out.bs, HP2.out.bl, by rw [HSB11.out.size, HSB10.out.size]; exact HS9.out⟩, HSB11.out.below (HSB10.out.below HB9.out HP2.out.bs) HP2.out.bs, (HK9.out.same HSB10.out HG9.out (by decide)).same HSB11.out HG10.out (by decide), (HT9.out.same HSB10.out).same HSB11.out⟩
          exact Kd.R_mono (HSB11.out.Rt (HSB10.out.Rt HR9.out HG9.out (by decide)) HG10.out (by decide)) (fun k _ => by simp [Value.ownBlock])
        · by_cases hm : p.lits = 16777216
          · have HW := Aside0.mk (show dWord p x = (22, p) by rw [hw, if_pos (.inr ⟨hz, hm⟩)])
            have t2 : (n == 0) = false := beq_eq_false_iff_ne.2 hz
            have t2b : (n != 0) = true := by rw [bne, t2]; rfl
            have t3 : ((p.lits : Int) == 16777216) = true := beq_iff_eq.2 (by omega)
            clear hw hz hm
            go_enter Tryd.func22, Tryd.ntmps22
            go_wp2_with fail
            refine (number_calls (baOf x) true p.vars h0 (by omega) hx W (HLT.out.up HBW.out)).mono ?_
            rw [HN.out]
            rintro e w2 ⟨rfl, hb⟩
            have HB := Aside0.mk hb
            have HG2 := Aside0.mk (blk_below HG.out hb)
            have HP2 := Aside0.mk (HP.out.below hb)
            have HC2 := Aside0.mk (Kd.R_below HC.out hb)
            have HO2 := Aside0.mk (Kd.R_below HO.out hb)
            clear hb hc0 hc1 hc2 hc3 hc4
            have hc1 := (blk_cell HG2.out 1).trans (show _ = some (Value.slice A1 p.cls.length c1) from rfl)
            have hc2 := (blk_cell HG2.out 2).trans (show _ = some (Value.int .i64 p.want) from rfl)
            have hc3 := (blk_cell HG2.out 3).trans (show _ = some (Value.slice A3 p.opn.length c3) from rfl)
            have hc4 := (blk_cell HG2.out 4).trans (show _ = some (Value.int .i64 (p.lits : Nat)) from rfl)
            have hf1 := blk_frozen HG2.out 1
            have hf3 := blk_frozen HG2.out 3
            have hf4 := blk_frozen HG2.out 4
            go_wp2
            go_quiet (fail)
            go_wp2
            go_ret
            rw [HW.out]
            exact ⟨rfl, HP2.out.drewN _, (HB.out.mono HBW.out).trans (pw_below_drewN (Below.refl _ _) _), ((KO.refl TP W).below HB.out).drewN _, ((But.refl b1 g W).below HB.out HP.out.top).drewN _⟩
          · have HW := Aside0.mk (show dWord p x = (0, { p with opn := p.opn ++ [n], lits := p.lits + 1 }) by rw [hw, if_neg (by rintro (h | ⟨_, h⟩); cases h; exact hm h), if_neg hz])
            have t2 : (n == 0) = false := beq_eq_false_iff_ne.2 hz
            have t2b : (n != 0) = true := by rw [bne, t2]; rfl
            have t3 : ((p.lits : Int) == 16777216) = false := beq_eq_false_iff_ne.2 (by omega)
            have hwr := wrap32_lit h0 h1 hr1 hr2
            have hll : (p.lits : Int) + 1 = ((p.lits + 1 : Nat) : Int) := by omega
            have HLL := Aside0.mk hll
            have hl1 : p.lits + 1 ≤ 16777216 := by omega
            clear hw hz hm hll
            go_enter Tryd.func22, Tryd.ntmps22
            go_wp2_with fail
            refine (number_calls (baOf x) true p.vars h0 (by omega) hx W (HLT.out.up HBW.out)).mono ?_
            rw [HN.out]
            rintro e w2 ⟨rfl, hb⟩
            have HB := Aside0.mk hb
            have HG2 := Aside0.mk (blk_below HG.out hb)
            have HP2 := Aside0.mk (HP.out.below hb)
            have HC2 := Aside0.mk (Kd.R_below HC.out hb)
            have HO2 := Aside0.mk (Kd.R_below HO.out hb)
            clear hb hc0 hc1 hc2 hc3 hc4
            have hc1 := (blk_cell HG2.out 1).trans (show _ = some (Value.slice A1 p.cls.length c1) from rfl)
            have hc2 := (blk_cell HG2.out 2).trans (show _ = some (Value.int .i64 p.want) from rfl)
            have hc3 := (blk_cell HG2.out 3).trans (show _ = some (Value.slice A3 p.opn.length c3) from rfl)
            have hc4 := (blk_cell HG2.out 4).trans (show _ = some (Value.int .i64 (p.lits : Nat)) from rfl)
            have hf1 := blk_frozen HG2.out 1
            have hf3 := blk_frozen HG2.out 3
            have hf4 := blk_frozen HG2.out 4
            go_upto_region 6 with fail
            go_quiet (fail)
            go_upto_region 2 with fail
            have HB3 := Aside0.mk (show Below base W (w2.drewN nq) from (HB.out.mono HBW.out).trans (pw_below_drewN (Below.refl _ _) _))
            have HG3 := Aside0.mk (blk_drewN HG2.out nq)
            have HC3 := Aside0.mk (Kd.R_drewN HC2.out nq)
            have HO3 := Aside0.mk (Kd.R_drewN HO2.out nq)
            have HK3 := Aside0.mk (((KO.refl TP W).below HB.out).drewN nq)
            have HT3 := Aside0.mk (((But.refl b1 g W).below HB.out HP.out.top).drewN nq)
            have HS3 := Aside0.mk (show b1 ≤ (w2.drewN nq).heap.size from Nat.le_trans HP.out.top HB.out.size)
            clear hc1 hc2 hc3 hc4 hf1 hf3 hf4
            generalize w2.drewN nq = w3 at HB3 HG3 HC3 HO3 HK3 HT3 HS3 ⊢
            have hc3 := (blk_cell HG3.out 3).trans (show _ = some (Value.slice A3 p.opn.length c3) from rfl)
            go_wp2_with (first | ((with_reducible refine gate_builtin (b := .append) (xs := #[.tmp 23, .tmp 26]) rfl ?_); at_builtin; refine Kd.R_append (Kd.int .i32) (w0 := w3) b1 rfl (.tmp 23) (.tmp 26) 50 67 (.int .i32 0) 4 rfl Tryd.underlying50 info67 rfl (by decide) (by omega) _ p.opn n [.int .i32 n] (fun _ => True) (fun _ => False) rfl rfl ?aP (fun _ hk => hk.elim) (fun _ _ => trivial) HO3.out (Below.refl _ _) HS3.out ?aL ?_; (case aP => exact rfl); (case aL => have := HOL.out; omega); intro v9 w9 ho hb hg1 hat; obtain ⟨A9, c9, rfl⟩ := Kd.R_slice ho; have HG9 := Aside0.mk (blk_grown HG3.out hg1 (Kd.R_ne HO3.out HG3.out (by decide))); have HR9 := Aside0.mk ho; have HB9 := Aside0.mk (HB3.out.trans (hb.mono HP.out.bl)); have HS9 := Aside0.mk (show b1 ≤ w9.heap.size from Nat.le_trans HS3.out hb.size); have HT9 := Aside0.mk (HT3.out.grown hg1 HS3.out (fun k hk => Kd.R_base HO3.out k hk)); have HK9 := Aside0.mk (HK3.out.grown hg1 (fun k hk => by obtain ⟨cells, hc⟩ := Kd.R_typed HO3.out k hk; exact ⟨cells, 67, hc, by decide⟩)); have HC9 := Aside0.mk (Kd.R_mono (Kd.R_after (Kd.R_mono HC3.out (fun k hk => ⟨trivial, hk⟩) : kcs.R 50 w3 b1 (fun k => True ∧ some k ≠ (Value.slice A3 p.opn.length c3).ownBlock) _ p.cls) hg1 hat) (fun k hk => hk.2)); clear ho hb hg1 hat hc3) | ((with_reducible refine gate_store (t := 50) (p := 29) rfl ?_); refine store_one 50 29 (.tmp 27) rfl rfl rfl (.slice A9 (p.opn ++ [n]).length c9) #[.int .i64 p.vars, .slice A1 p.cls.length c1, .int .i64 p.want, .slice A9 (p.opn ++ [n]).length c9, .int .i64 (p.lits : Nat)] rfl (by first | rfl | (simp; rfl)) HG9.out rfl nsz50 (show 3 + 1 ≤ 5 by omega) rfl rfl ?_; intro w10 hw10 hsb; have HG10 := Aside0.mk hw10; have HSB10 := Aside0.mk hsb; clear hw10 hsb; have hc4 := (blk_cell HG10.out 4).trans (show _ = some (Value.int .i64 (p.lits : Nat)) from rfl)) | ((with_reducible refine gate_store (t := 3) (p := 36) rfl ?_); refine store_one 3 36 (.tmp 34) rfl rfl rfl (.int .i64 ((p.lits : Nat) + 1)) #[.int .i64 p.vars, .slice A1 p.cls.length c1, .int .i64 p.want, .slice A9 (p.opn ++ [n]).length c9, .int .i64 ((p.lits : Nat) + 1)] rfl rfl HG10.out rfl nsz3 (show 4 + 1 ≤ 5 by omega) rfl rfl ?_; intro w11 hw11 hsb; have HG11 := Aside0.mk hw11; have HSB11 := Aside0.mk hsb; clear hw11 hsb hc4))
            go_ret
            rw [HW.out]
            refine ⟨rfl, ⟨⟨_, _, (by rw [HG11.out, HLL.out]; rfl), ?_, HSB11.out.Rt (HSB10.out.Rt HR9.out HG9.out (by decide)) HG10.out (by decide)⟩, HP2.out.bs, HP2.out.bl, by rw [HSB11.out.size, HSB10.out.size]; exact HS9.out⟩, HSB11.out.below (HSB10.out.below HB9.out HP2.out.bs) HP2.out.bs, (HK9.out.same HSB10.out HG9.out (by decide)).same HSB11.out HG10.out (by decide), (HT9.out.same HSB10.out).same HSB11.out⟩
            exact HSB11.out.Rt (HSB10.out.Rt HC9.out HG9.out (by decide)) HG10.out (by decide)
end Go.Proofs.YtigloobbpcnnhaaDoor.PB
end

section
namespace Go.Proofs.YtigloobbpcnnhaaDoor.PB
open Go.RowKit Go.Proofs.YtigloobbpcnnhaaDoorW.PrintWords Go.Proofs.YtigloobbpcnnhaaDoorW.PrintLast Go.Proofs.YtigloobbpcnnhaaDoorW.PrintMore
set_option linter.unusedVariables false
set_option linter.unusedSimpArgs false
/-! ### The head -/
theorem dHead_no (p : DP) (ws : List (List UInt8)) (h : ws.length ≠ 4) : dHead p ws = (20, p) := by
  unfold dHead
  split
  · exact absurd rfl h
  · rfl
theorem dHead_four (p : DP) (a b c d : List UInt8) (n1 n2 : Int) (i1 i2 f1 f2 : Bool) (h1 : dNum c false 1048576 = (n1, i1, f1)) (h2 : dNum d false 1048576 = (n2, i2, f2)) : dHead p [a, b, c, d] =
    if a ≠ [112] ∨ b ≠ [99, 110, 102] then (20, p) else if i1 = false ∨ i2 = false then (20, p) else if f1 = false ∨ f2 = false then (22, p) else (0, { p with vars := n1, want := n2 }) := by
  unfold dHead
  simp only [h1, h2]
theorem four_of {α : Type} (ws : List α) (h : ws.length = 4) : ∃ a b c d, ws = [a, b, c, d] := by
  match ws, h with
  | [a, b, c, d], _ => exact ⟨a, b, c, d, rfl⟩
theorem word_eq (a k : List UInt8) : ((baOf a).toList == k) = decide (a = k) := by
  rw [Lib.toList_data, baOf_data]
  by_cases h : a = k
  · rw [decide_eq_true h]; exact beq_iff_eq.2 h
  · rw [decide_eq_false h]; exact beq_eq_false_iff_ne.2 h
set_option maxHeartbeats 2000000 in
set_option maxRecDepth 100000 in
theorem head_calls (b1 base g : Nat) (p : DP) (A : Option Addr) (c : Nat) (ws : List (List UInt8)) (W : World) (hp : PRS b1 base g p W) (hC : Kd.string.C W A ws.length (ws.map baOf)) (hc : ws.length ≤ c) (hx : ∀ x ∈ ws, x.length ≤ 100000) (hlt : LT base W) :
    Calls Tryd.prog 21 #[.pointer (some ⟨g, 0, none⟩), .slice A ws.length c] W (PPost b1 base g (dHead p ws) W) := by
  have HLT := Aside0.mk hlt
  have HP := Aside0.mk hp
  have HBW := Aside0.mk (show base ≤ W.heap.size from Nat.le_trans hp.bs (Nat.le_of_lt hp.lt))
  have HCW := Aside0.mk hC
  by_cases h4 : ws.length = 4
  · obtain ⟨a, b, x3, x4, rfl⟩ := four_of ws h4
    have hxa := Aside0.mk (hx x3 (by simp))
    have hxb := Aside0.mk (hx x4 (by simp))
    have at_ : ∀ (i : Nat) (x : List UInt8), i < 4 → ([a, b, x3, x4] : List (List UInt8))[i]? = some x → ∃ ad, A = some ad ∧ W.cell? (ad.add i) = some (.string (baOf x)) := by
      intro i x hi hx
      obtain ⟨ad, e, h⟩ := Kd.at_string hC (i : Int) (by omega) (by show (i : Int) < 4; omega)
      refine ⟨ad, e, ?_⟩
      rw [Int.toNat_natCast] at h
      rw [h]
      congr 2
      unfold rdOf
      rw [Int.toNat_natCast, List.getD_eq_getElem?_getD, List.getElem?_map, hx]
      rfl
    obtain ⟨ad, rfl, q0⟩ := at_ 0 a (by omega) rfl
    obtain ⟨ad', e1, q1⟩ := at_ 1 b (by omega) rfl
    cases e1
    obtain ⟨ad', e1, q2⟩ := at_ 2 x3 (by omega) rfl
    cases e1
    obtain ⟨ad', e1, q3⟩ := at_ 3 x4 (by omega) rfl
    cases e1
    have af : ∀ i, 0 < i → ad.add i = ⟨ad.block, ad.off + i, none⟩ := fun i hi => by
      have := add_field ad 0 i hi
      rw [Nat.zero_add, show ad.add 0 = ad from by cases ad; rfl] at this
      exact this
    rw [af 1 (by omega)] at q1
    rw [af 2 (by omega)] at q2
    rw [af 3 (by omega)] at q3
    clear af
    have Q2 := Aside0.mk q2
    have Q3 := Aside0.mk q3
    rw [show ad.add 0 = ad from by cases ad; rfl] at q0
    have hlen : (([a, b, x3, x4] : List (List UInt8)).length : Int) = 4 := rfl
    obtain ⟨L, hL⟩ : ∃ L, L = ([a, b, x3, x4] : List (List UInt8)).length := ⟨_, rfl⟩
    rw [← hL] at hlen hc ⊢
    have hL4 : L = 4 := hL
    clear hL
    subst hL4
    obtain ⟨n1, i1, f1, hn1⟩ : ∃ n is fits, dNum x3 false 1048576 = (n, is, fits) := ⟨_, _, _, rfl⟩
    obtain ⟨n2, i2, f2, hn2⟩ : ∃ n is fits, dNum x4 false 1048576 = (n, is, fits) := ⟨_, _, _, rfl⟩
    have hw := dHead_four p a b x3 x4 n1 n2 i1 i2 f1 f2 hn1 hn2
    have HN1 := Aside0.mk (show dNum (baOf x3).data.toList false 1048576 = (n1, i1, f1) from hn1)
    have HN2 := Aside0.mk (show dNum (baOf x4).data.toList false 1048576 = (n2, i2, f2) from hn2)
    have wa := word_eq a [112]
    have wb := word_eq b [99, 110, 102]
    clear hn1 hn2 at_ hx hC hlt hp h4 hlen q2 q3
    by_cases ha : a = [112]
    · have t1 : ((baOf a).toList == ([112] : List UInt8)) = true := by rw [wa]; exact decide_eq_true ha
      have t1n : ((baOf a).toList != ([112] : List UInt8)) = false := by rw [bne, t1]; rfl
      by_cases hb : b = [99, 110, 102]
      · have t2 : ((baOf b).toList == ([99, 110, 102] : List UInt8)) = true := by rw [wb]; exact decide_eq_true hb
        have t2n : ((baOf b).toList != ([99, 110, 102] : List UInt8)) = false := by rw [bne, t2]; rfl
        rw [if_neg (by simp [ha, hb])] at hw
        clear wa wb ha hb
        by_cases hi : i1 = false ∨ i2 = false
        · have HW := Aside0.mk (show dHead p [a, b, x3, x4] = (20, p) by rw [hw, if_pos hi])
          clear hw
          have hh : i1 = false ∨ (i1 = true ∧ i2 = false) := by
            cases i1 with
            | false => exact .inl rfl
            | true => exact .inr ⟨rfl, by rcases hi with h | h; cases h; exact h⟩
          clear hi
          rcases hh with rfl | ⟨rfl, rfl⟩
          · go_enter Tryd.func21, Tryd.ntmps21
            have q2 := Q2.out
            go_wp2_with fail
            refine (number_calls (baOf x3) false 1048576 (by omega) (by omega) hxa.out W (HLT.out.up HBW.out)).mono ?_
            rw [HN1.out]
            rintro e w2 ⟨rfl, hb⟩
            have HB := Aside0.mk hb
            have q3 := pw_cell_below hb Q3.out
            clear hb q2
            go_wp2_with fail
            refine (number_calls (baOf x4) false 1048576 (by omega) (by omega) hxb.out w2 (HLT.out.on (HB.out.mono HBW.out) |>.up (Nat.le_trans HBW.out HB.out.size))).mono ?_
            rw [HN2.out]
            rintro e w3 ⟨rfl, hb⟩
            have HB3 := Aside0.mk (below_step HB.out hb)
            clear hb q3
            go_wp2
            go_ret
            rw [HW.out]
            exact ⟨rfl, HP.out.below HB3.out, HB3.out.mono HBW.out, (KO.refl TP W).below HB3.out, (But.refl b1 g W).below HB3.out HP.out.top⟩
          · go_enter Tryd.func21, Tryd.ntmps21
            have q2 := Q2.out
            go_wp2_with fail
            refine (number_calls (baOf x3) false 1048576 (by omega) (by omega) hxa.out W (HLT.out.up HBW.out)).mono ?_
            rw [HN1.out]
            rintro e w2 ⟨rfl, hb⟩
            have HB := Aside0.mk hb
            have q3 := pw_cell_below hb Q3.out
            clear hb q2
            go_wp2_with fail
            refine (number_calls (baOf x4) false 1048576 (by omega) (by omega) hxb.out w2 (HLT.out.on (HB.out.mono HBW.out) |>.up (Nat.le_trans HBW.out HB.out.size))).mono ?_
            rw [HN2.out]
            rintro e w3 ⟨rfl, hb⟩
            have HB3 := Aside0.mk (below_step HB.out hb)
            clear hb q3
            go_wp2
            go_ret
            rw [HW.out]
            exact ⟨rfl, HP.out.below HB3.out, HB3.out.mono HBW.out, (KO.refl TP W).below HB3.out, (But.refl b1 g W).below HB3.out HP.out.top⟩
        · obtain ⟨rfl, rfl⟩ : i1 = true ∧ i2 = true := by
            constructor
            · cases i1 with
              | true => rfl
              | false => exact absurd (.inl rfl) hi
            · cases i2 with
              | true => rfl
              | false => exact absurd (.inr rfl) hi
          rw [if_neg hi] at hw
          clear hi
          by_cases hf : f1 = false ∨ f2 = false
          · have HW := Aside0.mk (show dHead p [a, b, x3, x4] = (22, p) by rw [hw, if_pos hf])
            clear hw
            have hh : f1 = false ∨ (f1 = true ∧ f2 = false) := by
              cases f1 with
              | false => exact .inl rfl
              | true => exact .inr ⟨rfl, by rcases hf with h | h; cases h; exact h⟩
            clear hf
            rcases hh with rfl | ⟨rfl, rfl⟩
            · go_enter Tryd.func21, Tryd.ntmps21
              have q2 := Q2.out
              go_wp2_with fail
              refine (number_calls (baOf x3) false 1048576 (by omega) (by omega) hxa.out W (HLT.out.up HBW.out)).mono ?_
              rw [HN1.out]
              rintro e w2 ⟨rfl, hb⟩
              have HB := Aside0.mk hb
              have q3 := pw_cell_below hb Q3.out
              clear hb q2
              go_wp2_with fail
              refine (number_calls (baOf x4) false 1048576 (by omega) (by omega) hxb.out w2 (HLT.out.on (HB.out.mono HBW.out) |>.up (Nat.le_trans HBW.out HB.out.size))).mono ?_
              rw [HN2.out]
              rintro e w3 ⟨rfl, hb⟩
              have HB3 := Aside0.mk (below_step HB.out hb)
              clear hb q3
              go_wp2
              go_ret
              rw [HW.out]
              exact ⟨rfl, HP.out.below HB3.out, HB3.out.mono HBW.out, (KO.refl TP W).below HB3.out, (But.refl b1 g W).below HB3.out HP.out.top⟩
            · go_enter Tryd.func21, Tryd.ntmps21
              have q2 := Q2.out
              go_wp2_with fail
              refine (number_calls (baOf x3) false 1048576 (by omega) (by omega) hxa.out W (HLT.out.up HBW.out)).mono ?_
              rw [HN1.out]
              rintro e w2 ⟨rfl, hb⟩
              have HB := Aside0.mk hb
              have q3 := pw_cell_below hb Q3.out
              clear hb q2
              go_wp2_with fail
              refine (number_calls (baOf x4) false 1048576 (by omega) (by omega) hxb.out w2 (HLT.out.on (HB.out.mono HBW.out) |>.up (Nat.le_trans HBW.out HB.out.size))).mono ?_
              rw [HN2.out]
              rintro e w3 ⟨rfl, hb⟩
              have HB3 := Aside0.mk (below_step HB.out hb)
              clear hb q3
              go_wp2
              go_ret
              rw [HW.out]
              exact ⟨rfl, HP.out.below HB3.out, HB3.out.mono HBW.out, (KO.refl TP W).below HB3.out, (But.refl b1 g W).below HB3.out HP.out.top⟩
          · obtain ⟨rfl, rfl⟩ : f1 = true ∧ f2 = true := by
              constructor
              · cases f1 with
                | true => rfl
                | false => exact absurd (.inl rfl) hf
              · cases f2 with
                | true => rfl
                | false => exact absurd (.inr rfl) hf
            rw [if_neg hf] at hw
            have HW := Aside0.mk hw
            clear hw hf
            go_enter Tryd.func21, Tryd.ntmps21
            have q2 := Q2.out
            go_wp2_with fail
            refine (number_calls (baOf x3) false 1048576 (by omega) (by omega) hxa.out W (HLT.out.up HBW.out)).mono ?_
            rw [HN1.out]
            rintro e w2 ⟨rfl, hb⟩
            have HB := Aside0.mk hb
            have q3 := pw_cell_below hb Q3.out
            clear hb q2
            go_wp2_with fail
            refine (number_calls (baOf x4) false 1048576 (by omega) (by omega) hxb.out w2 (HLT.out.on (HB.out.mono HBW.out) |>.up (Nat.le_trans HBW.out HB.out.size))).mono ?_
            rw [HN2.out]
            rintro e w3 ⟨rfl, hb⟩
            have HB3 := Aside0.mk (below_step HB.out hb)
            clear hb q3
            obtain ⟨v1, v3, hg, hcc, hoo⟩ := HP.out.ex
            have HG3 := Aside0.mk (blk_below hg HB3.out)
            have HC3 := Aside0.mk (Kd.R_below hcc HB3.out)
            have HO3 := Aside0.mk (Kd.R_below hoo HB3.out)
            clear hg hcc hoo
            go_wp2_with (first | ((with_reducible refine gate_store (t := 3) (p := 58) rfl ?_); refine store_one 3 58 (.tmp 54) rfl rfl rfl (.int .i64 n1) #[.int .i64 n1, v1, .int .i64 p.want, v3, .int .i64 (p.lits : Nat)] rfl rfl HG3.out rfl nsz3 (show 0 + 1 ≤ 5 by omega) rfl rfl ?_; intro w10 hw10 hsb; have HG10 := Aside0.mk hw10; have HSB10 := Aside0.mk hsb; clear hw10 hsb) | ((with_reducible refine gate_store (t := 3) (p := 60) rfl ?_); refine store_one 3 60 (.tmp 55) rfl rfl rfl (.int .i64 n2) #[.int .i64 n1, v1, .int .i64 n2, v3, .int .i64 (p.lits : Nat)] rfl rfl HG10.out rfl nsz3 (show 2 + 1 ≤ 5 by omega) rfl rfl ?_; intro w11 hw11 hsb; have HG11 := Aside0.mk hw11; have HSB11 := Aside0.mk hsb; clear hw11 hsb))
            go_ret
            rw [HW.out]
            exact ⟨rfl, ⟨⟨_, _, HG11.out, HSB11.out.Rt (HSB10.out.Rt HC3.out HG3.out (by decide)) HG10.out (by decide), HSB11.out.Rt (HSB10.out.Rt HO3.out HG3.out (by decide)) HG10.out (by decide)⟩, HP.out.bs, HP.out.bl, by rw [HSB11.out.size, HSB10.out.size]; exact Nat.le_trans HP.out.top HB3.out.size⟩, HSB11.out.below (HSB10.out.below (HB3.out.mono HBW.out) HP.out.bs) HP.out.bs, (((KO.refl TP W).below HB3.out).same HSB10.out HG3.out (by decide)).same HSB11.out HG10.out (by decide), (((But.refl b1 g W).below HB3.out HP.out.top).same HSB10.out).same HSB11.out⟩
      · have t2 : ((baOf b).toList == ([99, 110, 102] : List UInt8)) = false := by rw [wb]; exact decide_eq_false hb
        have t2n : ((baOf b).toList != ([99, 110, 102] : List UInt8)) = true := by rw [bne, t2]; rfl
        have HW := Aside0.mk (show dHead p [a, b, x3, x4] = (20, p) by rw [hw, if_pos (.inr hb)])
        clear wa wb ha hb hw
        go_enter Tryd.func21, Tryd.ntmps21
        go_wp2
        go_ret
        rw [HW.out]
        exact ⟨rfl, HP.out, Below.refl _ _, KO.refl _ _, But.refl _ _ _⟩
    · have t1 : ((baOf a).toList == ([112] : List UInt8)) = false := by rw [wa]; exact decide_eq_false ha
      have t1n : ((baOf a).toList != ([112] : List UInt8)) = true := by rw [bne, t1]; rfl
      have HW := Aside0.mk (show dHead p [a, b, x3, x4] = (20, p) by rw [hw, if_pos (.inl ha)])
      clear wa wb ha hw
      go_enter Tryd.func21, Tryd.ntmps21
      go_wp2
      go_ret
      rw [HW.out]
      exact ⟨rfl, HP.out, Below.refl _ _, KO.refl _ _, But.refl _ _ _⟩
  · have HW := Aside0.mk (dHead_no p ws h4)
    have t1 : ((ws.length : Int) == 4) = false := beq_eq_false_iff_ne.2 (by omega)
    have t1n : ((ws.length : Int) != 4) = true := by rw [bne, t1]; rfl
    have t2 : (ws.length == 4) = false := beq_eq_false_iff_ne.2 h4
    have t2n : (ws.length != 4) = true := by rw [bne, t2]; rfl
    clear hC hlt hp hx h4
    go_enter Tryd.func21, Tryd.ntmps21
    go_wp2
    go_ret
    rw [HW.out]
    exact ⟨rfl, HP.out, Below.refl _ _, KO.refl _ _, But.refl _ _ _⟩
end Go.Proofs.YtigloobbpcnnhaaDoor.PB
end
