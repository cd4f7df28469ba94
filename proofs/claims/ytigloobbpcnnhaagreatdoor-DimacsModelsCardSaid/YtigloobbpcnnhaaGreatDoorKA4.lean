import Derived.Test.YtigloobbpcnnhaaGreatDoorKA3
import Derived.Lib.SlBytesConst
-- texts of this claim, packed, what nothing reaches struck (wip/tools/prune.py): M8 M9 MM
section
section
namespace Go.Proofs.YtigloobbpcnnhaaGreatDoor.PB
open Go.RowKit Go.Proofs.YtigloobbpcnnhaaGreatDoorW.PrintWords Go.Proofs.YtigloobbpcnnhaaGreatDoorW.PrintLast Go.Proofs.YtigloobbpcnnhaaGreatDoorW.PrintMore
set_option linter.unusedVariables false
set_option linter.unusedSimpArgs false
theorem wrap_id {x : Int} (h0 : -9223372036854775808 ≤ x) (h1 : x ≤ 9223372036854775807) : wrap64 x = x := by unfold wrap64; omega
theorem rd_nat (l : List Int) (i : Nat) (h : i < l.length) : rd l (i : Int) = l[i] := by simp [rd, List.getElem?_eq_getElem h]
theorem rdL6_nat (l : List (List Int)) (i : Nat) (h : i < l.length) : rd_L6 l (i : Int) = l[i] := by simp [rd_L6, List.getElem?_eq_getElem h]
/-- Literals are of 32 bits. -/
def I32 (x : Int) : Prop := -2147483648 ≤ x ∧ x ≤ 2147483647
theorem cvar_f (x : Int) (h : I32 x) : cnf_Var.f x = some (if x < 0 then -x else x) := by
  unfold cnf_Var.f cnf_lit_variable.f
  unfold I32 at h
  by_cases hx : x < 0
  · rw [if_pos hx, wrap_id (x := x) (by omega) (by omega), wrap_id (x := -x) (by omega) (by omega), if_pos hx]; rfl
  · rw [if_neg hx, wrap_id (by omega) (by omega), if_neg hx]; rfl
/-- The literals that are left: those of clause i from place j on, then those of the clauses behind it. -/
theorem left_cons (cs : List (List Int)) (i : Nat) (h : i < cs.length) : (cs.drop i).flatten = cs[i] ++ (cs.drop (i + 1)).flatten := by
  rw [List.drop_eq_getElem_cons h, List.flatten_cons]
theorem cright_loops (v : Int) (hv : 0 ≤ v) (cs : List (List Int)) (hl : cs.length ≤ 9223372036854775807) (hg : ∀ c ∈ cs, c.length ≤ 9223372036854775807 ∧ ∀ x ∈ c, I32 x) :
    ∀ (d i n : Nat), i + d = cs.length → n ≤ 16777216 → Ev (fun k => cnf_Right.l0 k (n : Int) cs (cs.length : Int) (i : Int) v cs) (dRightL v n (cs.drop i).flatten) := by
  intro d
  induction d with
  | zero =>
    intro i n hi hn
    refine Ev.step (f := fun _ => some 0) (fun k => ?_) ?_
    · rw [cnf_Right.l0, if_neg (by omega)]
    · rw [List.drop_eq_nil_of_le (by omega)]
      have : dRightL v n [] = 0 := by cases n <;> rfl
      rw [List.flatten_nil, this]
      exact Ev.now 0
  | succ d ih =>
    intro i n hi hn
    have hlt : i < cs.length := by omega
    have hmem := hg cs[i] (List.getElem_mem hlt)
    obtain ⟨c, hc⟩ : ∃ c, c = cs[i] := ⟨_, rfl⟩
    rw [← hc] at hmem
    have inner : ∀ (e j n : Nat), j + e = c.length → n ≤ 16777216 → Ev (fun k => cnf_Right.l1 k (n : Int) cs (cs.length : Int) (i : Int) c (c.length : Int) (j : Int) v cs) (dRightL v n (c.drop j ++ (cs.drop (i + 1)).flatten)) := by
      intro e
      induction e with
      | zero =>
        intro j n hj hn
        refine Ev.step (f := fun k => cnf_Right.l0 k (n : Int) cs (cs.length : Int) ((i + 1 : Nat) : Int) v cs) (fun k => ?_) ?_
        · rw [cnf_Right.l1, if_neg (by omega), wrap_id (by omega) (by omega)]
          rfl
        · rw [List.drop_eq_nil_of_le (by omega), List.nil_append]
          exact ih (i + 1) n (by omega) hn
      | succ e ihe =>
        intro j n hj hn
        have hjl : j < c.length := by omega
        have hx := hmem.2 c[j] (List.getElem_mem hjl)
        rw [List.drop_eq_getElem_cons hjl, List.cons_append]
        obtain ⟨x, hxe⟩ : ∃ x, x = c[j] := ⟨_, rfl⟩
        rw [← hxe] at hx ⊢
        cases n with
        | zero =>
          refine Ev.step (f := fun _ => some 3) (fun k => ?_) (Ev.now 3)
          rw [cnf_Right.l1, if_pos (by omega), if_pos (by omega), if_pos (by omega), if_pos (show ((0 : Nat) : Int) = 0 from rfl)]
        | succ n =>
          have head : ∀ k, cnf_Right.l1 (k + 1) ((n + 1 : Nat) : Int) cs (cs.length : Int) (i : Int) c (c.length : Int) (j : Int) v cs = if x = 0 ∨ x < -v ∨ v < x then some 4 else cnf_Right.l1 k (n : Int) cs (cs.length : Int) (i : Int) c (c.length : Int) ((j + 1 : Nat) : Int) v cs := by
            intro k
            rw [cnf_Right.l1, if_pos (by omega), if_pos (by omega), if_pos (by omega), if_neg (by omega), rd_nat c j hjl, ← hxe, cvar_f x hx, Option.bind_some]
            have hw1 : wrap64 (((n + 1 : Nat) : Int) - 1) = (n : Int) := by rw [wrap_id (by omega) (by omega)]; omega
            have hw2 : wrap64 ((j : Int) + 1) = ((j + 1 : Nat) : Int) := by rw [wrap_id (by omega) (by omega)]; rfl
            rw [hw1, hw2]
            clear hw1 hw2
            by_cases h0 : x = 0
            · rw [if_pos h0, if_pos (.inl h0)]
            · rw [if_neg h0]
              by_cases hb : (if x < 0 then -x else x) > v
              · rw [if_pos hb, if_pos]
                by_cases hx0 : x < 0
                · rw [if_pos hx0] at hb; omega
                · rw [if_neg hx0] at hb; omega
              · rw [if_neg hb, if_neg]
                by_cases hx0 : x < 0
                · rw [if_pos hx0] at hb; omega
                · rw [if_neg hx0] at hb; omega
          rw [dRightL]
          by_cases hbad : x = 0 ∨ x < -v ∨ v < x
          · rw [if_pos hbad]
            refine Ev.step (f := fun _ => some 4) (fun k => ?_) (Ev.now 4)
            rw [head, if_pos hbad]
          · rw [if_neg hbad]
            refine Ev.step (f := fun k => cnf_Right.l1 k (n : Int) cs (cs.length : Int) (i : Int) c (c.length : Int) ((j + 1 : Nat) : Int) v cs) (fun k => ?_) (ihe (j + 1) n (by omega) (by omega))
            rw [head, if_neg hbad]
    refine Ev.step (f := fun k => cnf_Right.l1 k (n : Int) cs (cs.length : Int) (i : Int) c (c.length : Int) ((0 : Nat) : Int) v cs) (fun k => ?_) ?_
    · rw [cnf_Right.l0, if_pos (by omega), if_pos (by omega), if_pos (by omega), rdL6_nat cs i hlt, ← hc]
      rfl
    · have := inner c.length 0 n (by omega) hn
      rw [List.drop_zero] at this
      rw [left_cons cs i hlt, ← hc]
      exact this
theorem cright_ev (v : Int) (cs : List (List Int)) (hl : cs.length ≤ 9223372036854775807) (hg : ∀ c ∈ cs, c.length ≤ 9223372036854775807 ∧ ∀ x ∈ c, I32 x) : Ev (fun k => cnf_Right.f k v cs) (dRight v cs) := by
  unfold dRight
  by_cases h1 : v < 0
  · rw [if_pos (.inl h1)]
    refine Ev.congr (f := fun k => cnf_Right.j0 k true v cs) (fun k => ?_) (Ev.step (f := fun _ => some 2) (fun k => ?_) (Ev.now 2))
    · unfold cnf_Right.f
      rw [if_pos h1, decide_eq_true h1]
    · rw [cnf_Right.j0, if_pos rfl]
  · by_cases h2 : 1048576 < v
    · rw [if_pos (.inr h2)]
      refine Ev.congr (f := fun k => cnf_Right.j0 k true v cs) (fun k => ?_) (Ev.step (f := fun _ => some 2) (fun k => ?_) (Ev.now 2))
      · unfold cnf_Right.f
        rw [if_neg h1, decide_eq_true (by omega)]
      · rw [cnf_Right.j0, if_pos rfl]
    · rw [if_neg (by omega)]
      refine Ev.congr (f := fun k => cnf_Right.j0 k false v cs) (fun k => ?_) ?_
      · unfold cnf_Right.f
        rw [if_neg h1, decide_eq_false (by omega)]
      · by_cases h3 : 1048576 < cs.length
        · rw [if_pos h3]
          refine Ev.step (f := fun _ => some 3) (fun k => ?_) (Ev.now 3)
          rw [cnf_Right.j0, if_neg (by decide), if_pos (by omega)]
        · rw [if_neg h3]
          refine Ev.step (f := fun k => cnf_Right.l0 k ((16777216 : Nat) : Int) cs (cs.length : Int) ((0 : Nat) : Int) v cs) (fun k => ?_) ?_
          · rw [cnf_Right.j0, if_neg (by decide), if_neg (by omega)]
            rfl
          · have := cright_loops v (by omega) cs hl hg cs.length 0 16777216 (by omega) (Nat.le_refl _)
            rw [List.drop_zero] at this
            exact this
theorem sameM_ev (m : List Bool) (hl : m.length ≤ 9223372036854775806) : Ev (fun k => threshingkit_SameModel.f k m m) true := by
  have loop : ∀ (d i : Nat), i + d = m.length → Ev (fun k => threshingkit_SameModel.l0 k m m (i : Int)) true := by
    intro d
    induction d with
    | zero =>
      intro i hi
      refine Ev.step (f := fun _ => some true) (fun k => ?_) (Ev.now true)
      rw [threshingkit_SameModel.l0, if_neg (by omega)]
    | succ d ih =>
      intro i hi
      refine Ev.step (f := fun k => threshingkit_SameModel.l0 k m m ((i + 1 : Nat) : Int)) (fun k => ?_) (ih (i + 1) (by omega))
      rw [threshingkit_SameModel.l0, if_pos (by omega), if_pos (by omega), if_pos (by omega), if_neg (by simp), wrap_id (by omega) (by omega)]
      rfl
  refine Ev.congr (f := fun k => threshingkit_SameModel.l0 k m m ((0 : Nat) : Int)) (fun k => ?_) (loop m.length 0 (by omega))
  unfold threshingkit_SameModel.f
  rw [if_pos rfl]
  rfl
end Go.Proofs.YtigloobbpcnnhaaGreatDoor.PB
end
section
namespace Go.Proofs.YtigloobbpcnnhaaGreatDoor.PB
open Go.RowKit Go.Proofs.YtigloobbpcnnhaaGreatDoorW.PrintWords Go.Proofs.YtigloobbpcnnhaaGreatDoorW.PrintLast Go.Proofs.YtigloobbpcnnhaaGreatDoorW.PrintMore
set_option linter.unusedVariables false
set_option linter.unusedSimpArgs false
def print.T4 : Bool × List (List Nat × List Nat) := (true, [([], []), ([0], [0]), ([1], [1]), ([2], [2]), ([3], [3]), ([], []), ([5], [5]), ([6], [6]), ([7, 2], [7]), ([4, 8], [4, 8]), ([9], [9]), ([10], [10]), ([11, 8, 0, 1, 2, 3, 4, 5, 6, 7, 8, 9, 10, 11], [11])])
def print.B4 : List Nat := [0, 1, 3, 7, 15, 0, 32, 96, 231, 511, 1023, 2047, 4095]
theorem print.tab4 : rtab .any (opsOf Tryz.f21 4) = print.T4 := by kernel_rfl
theorem print.bits4 : waitsOk print.T4.2 print.B4 = true := by kernel_rfl
def dLits (c : List Int) : List UInt8 := c.flatMap fun x => Lib.itoa x ++ [32]
theorem dLits_snoc (c : List Int) (x : Int) : dLits (c ++ [x]) = dLits c ++ (Lib.itoa x ++ [32]) := by simp [dLits]
theorem dClause_lits (c : List Int) : dClause c = dLits c ++ [48, 10] := rfl
/-- What has been written: i clauses, j literals of the next. -/
def dPt (v : Int) (cs : List (List Int)) (i : Nat) (l : List Int) : List UInt8 := dHeadL v cs.length ++ [10] ++ (cs.take i).flatMap dClause ++ dLits l
theorem dPt_next (v : Int) (cs : List (List Int)) (i : Nat) (h : i < cs.length) : dPt v cs i cs[i] ++ [48, 10] = dPt v cs (i + 1) [] := by
  unfold dPt
  rw [List.take_succ_eq_append_getElem h, List.flatMap_append]
  simp [dClause_lits, dLits]
theorem dPt_end (v : Int) (cs : List (List Int)) : dPt v cs cs.length [] = dText v cs := by
  unfold dPt dText dHeadL
  rw [List.take_length]
  simp [dLits]
theorem dPt_len (v : Int) (cs : List (List Int)) (i : Nat) (h : i < cs.length) (j : Nat) (hj : j ≤ cs[i].length) : (dPt v cs i (cs[i].take j)).length + 2 ≤ (dText v cs).length := by
  have e : dText v cs = dPt v cs i (cs[i].take j) ++ (dLits (cs[i].drop j) ++ ([48, 10] ++ (cs.drop (i + 1)).flatMap dClause)) := by
    have hc : cs = cs.take i ++ cs[i] :: cs.drop (i + 1) := by rw [← List.drop_eq_getElem_cons h, List.take_append_drop]
    have h2 : cs.flatMap dClause = (cs.take i).flatMap dClause ++ (dClause cs[i] ++ (cs.drop (i + 1)).flatMap dClause) := by
      conv => lhs; rw [hc]
      rw [List.flatMap_append, List.flatMap_cons]
    have h3 : dLits cs[i] = dLits (cs[i].take j) ++ dLits (cs[i].drop j) := by
      unfold dLits
      rw [← List.flatMap_append, List.take_append_drop]
    have h4 : dText v cs = dHeadL v cs.length ++ [10] ++ cs.flatMap dClause := by simp [dText, dHeadL]
    rw [h4, h2, dClause_lits, h3]
    unfold dPt
    simp
  rw [e]
  simp only [List.length_append, List.length_cons, List.length_nil]
  omega
theorem head_bytes (v : Int) (n : Nat) : baOf [112, 32, 99, 110, 102, 32] ++ baOf (Lib.itoa v) ++ baOf [32] ++ baOf (Lib.itoa (n : Int)) ++ baOf [10] = baOf (dHeadL v n ++ [10]) := by
  simp only [baOf_append]
  rfl
set_option maxHeartbeats 4000000 in
set_option maxRecDepth 100000 in
theorem print_calls (v : Int) (A : Option Addr) (c : Nat) (cs : List (List Int)) (w : World) (hC : kcs.C w A cs.length cs) (hc : cs.length ≤ c) (hg : ∀ q ∈ cs, q.length ≤ 140737488355328 ∧ ∀ x ∈ q, I32 x) (hl : cs.length ≤ 140737488355328) (hz : (cs.map List.length).sum + cs.length ≤ 1000000) (hlt : LT w.heap.size w) :
    Calls Tryz.prog 21 #[.agg #[.int .i64 v, .slice A cs.length c]] w fun e w' => ∃ rv, e = .returned (.tuple #[rv, .int .i64 (dPrint v cs).2]) ∧ ((dRight v cs = 0 → EM w' w.heap.size rv (dText v cs)) ∧ (dRight v cs ≠ 0 → rv = .slice none 0 0)) ∧ Below w.heap.size w w' := by
  have HLT := Aside0.mk hlt
  have HC := Aside0.mk hC
  obtain ⟨kr, hkr⟩ := (cright_ev v cs (by omega) (fun q hq => ⟨by have := (hg q hq).1; omega, (hg q hq).2⟩)).rounds
  have HKR := Aside0.mk hkr
  clear hlt hC hkr hg hl
  obtain ⟨er, her⟩ : ∃ er, er = dRight v cs := ⟨_, rfl⟩
  rw [← her] at HKR
  by_cases h0 : er = 0
  · have hd := (dRight_zero v cs).1 (her ▸ h0)
    have HD := Aside0.mk hd
    have hv0 : -9223372036854775808 ≤ v := by have := hd.v0; omega
    have hv1 : v ≤ 9223372036854775807 := by have := hd.v1; omega
    have hn0 : -9223372036854775808 ≤ (cs.length : Int) := by omega
    have hn1 : (cs.length : Int) ≤ 9223372036854775807 := by have := hd.c; omega
    have hnl : (cs.length : Int) ≤ 1048576 := by have := hd.c; omega
    have HTL := Aside0.mk (show (dText v cs).length ≤ 30000000 by have := dText_len v cs hd; omega)
    obtain ⟨sv, hsv⟩ : ∃ sv, sv = baOf (Lib.itoa v) := ⟨_, rfl⟩
    obtain ⟨sn, hsn⟩ : ∃ sn, sn = baOf (Lib.itoa (cs.length : Int)) := ⟨_, rfl⟩
    have hsvz : sv.size ≤ 21 := by rw [hsv]; exact itoa_len v hv0 hv1
    have hsnz : sn.size ≤ 21 := by rw [hsn]; exact itoa_len (cs.length : Int) hn0 hn1
    have hb0 := head_bytes v cs.length
    rw [← hsv, ← hsn] at hb0
    have HHB := Aside0.mk (show baOf (dHeadL v cs.length ++ [10]) = (((((⟨#[112, 32, 99, 110, 102, 32]⟩ : ByteArray) ++ sv) ++ (⟨#[32]⟩ : ByteArray)) ++ sn) ++ (⟨#[10]⟩ : ByteArray)) from hb0.symm)
    have hbs : (((((⟨#[112, 32, 99, 110, 102, 32]⟩ : ByteArray) ++ sv) ++ (⟨#[32]⟩ : ByteArray)) ++ sn) ++ (⟨#[10]⟩ : ByteArray)).size = 8 + sv.size + sn.size := by
      simp only [ByteArray.size_append]
      show 6 + sv.size + 1 + sn.size + 1 = _
      omega
    obtain ⟨HBZ, hHBZ⟩ : ∃ z, z = (((((⟨#[112, 32, 99, 110, 102, 32]⟩ : ByteArray) ++ sv) ++ (⟨#[32]⟩ : ByteArray)) ++ sn) ++ (⟨#[10]⟩ : ByteArray)).size := ⟨_, rfl⟩
    have HHBZ := Aside0.mk hHBZ.symm
    have HHBS := Aside0.mk (show HBZ ≤ 9223372036854775807 by omega)
    have HHBL := Aside0.mk (show HBZ = (dHeadL v cs.length ++ [10]).length by rw [hHBZ, ← HHB.out]; rfl)
    have HSV := Aside0.mk hsv
    have HSN := Aside0.mk hsn
    have HP := Aside0.mk (show (dPrint v cs).2 = 0 by unfold dPrint; rw [if_pos (her ▸ h0)])
    have HE := Aside0.mk (show dRight v cs = 0 from her ▸ h0)
    clear hbs hb0 hHBZ hsv hsn
    subst h0
    clear her hd hz
    have z0 : 6 + sv.size ≤ 9223372036854775807 := by omega
    have z1 : decide (6 + sv.size ≤ 9223372036854775807) = true := decide_eq_true z0
    have z2 : (9223372036854775807 < 6 + sv.size) = False := eq_false (Nat.not_lt.2 z0)
    replace z0 := eq_true z0
    have q0 : ((⟨#[112, 32, 99, 110, 102, 32]⟩ : ByteArray) ++ sv).size + 1 ≤ 9223372036854775807 := by rw [ByteArray.size_append]; show 6 + sv.size + 1 ≤ _; omega
    have q1 : decide (((⟨#[112, 32, 99, 110, 102, 32]⟩ : ByteArray) ++ sv).size + 1 ≤ 9223372036854775807) = true := decide_eq_true q0
    have q2 : (9223372036854775807 < ((⟨#[112, 32, 99, 110, 102, 32]⟩ : ByteArray) ++ sv).size + 1) = False := eq_false (Nat.not_lt.2 q0)
    replace q0 := eq_true q0
    have qq0 : 6 + sv.size + 1 ≤ 9223372036854775807 := by omega
    have qq1 : decide (6 + sv.size + 1 ≤ 9223372036854775807) = true := decide_eq_true qq0
    have qq2 : (9223372036854775807 < 6 + sv.size + 1) = False := eq_false (Nat.not_lt.2 qq0)
    replace qq0 := eq_true qq0
    have y0 : (((⟨#[112, 32, 99, 110, 102, 32]⟩ : ByteArray) ++ sv) ++ (⟨#[32]⟩ : ByteArray)).size + sn.size ≤ 9223372036854775807 := by rw [ByteArray.size_append, ByteArray.size_append]; show 6 + sv.size + 1 + sn.size ≤ _; omega
    have y1 : decide ((((⟨#[112, 32, 99, 110, 102, 32]⟩ : ByteArray) ++ sv) ++ (⟨#[32]⟩ : ByteArray)).size + sn.size ≤ 9223372036854775807) = true := decide_eq_true y0
    have y2 : (9223372036854775807 < (((⟨#[112, 32, 99, 110, 102, 32]⟩ : ByteArray) ++ sv) ++ (⟨#[32]⟩ : ByteArray)).size + sn.size) = False := eq_false (Nat.not_lt.2 y0)
    replace y0 := eq_true y0
    have yy0 : 6 + sv.size + 1 + sn.size ≤ 9223372036854775807 := by omega
    have yy1 : decide (6 + sv.size + 1 + sn.size ≤ 9223372036854775807) = true := decide_eq_true yy0
    have yy2 : (9223372036854775807 < 6 + sv.size + 1 + sn.size) = False := eq_false (Nat.not_lt.2 yy0)
    replace yy0 := eq_true yy0
    have x_0 : ((((⟨#[112, 32, 99, 110, 102, 32]⟩ : ByteArray) ++ sv) ++ (⟨#[32]⟩ : ByteArray)) ++ sn).size + 1 ≤ 9223372036854775807 := by rw [ByteArray.size_append, ByteArray.size_append, ByteArray.size_append]; show 6 + sv.size + 1 + sn.size + 1 ≤ _; omega
    have x_1 : decide (((((⟨#[112, 32, 99, 110, 102, 32]⟩ : ByteArray) ++ sv) ++ (⟨#[32]⟩ : ByteArray)) ++ sn).size + 1 ≤ 9223372036854775807) = true := decide_eq_true x_0
    have x_2 : (9223372036854775807 < ((((⟨#[112, 32, 99, 110, 102, 32]⟩ : ByteArray) ++ sv) ++ (⟨#[32]⟩ : ByteArray)) ++ sn).size + 1) = False := eq_false (Nat.not_lt.2 x_0)
    replace x_0 := eq_true x_0
    have xx0 : 6 + sv.size + 1 + sn.size + 1 ≤ 9223372036854775807 := by omega
    have xx1 : decide (6 + sv.size + 1 + sn.size + 1 ≤ 9223372036854775807) = true := decide_eq_true xx0
    have xx2 : (9223372036854775807 < 6 + sv.size + 1 + sn.size + 1) = False := eq_false (Nat.not_lt.2 xx0)
    replace xx0 := eq_true xx0
    go_enter Tryz.func21, Tryz.ntmps21
    go_upto_region 4 with (first | ((with_reducible refine gate_dst (N := 1) rfl ?_); refine box_event ?hg (N := 1) ?hd (cs := #[.int .i64 v, .slice A cs.length c]) (t := 35) ?hr ?_; (case hd => rfl); (case hg => rfl); (case hr => first | (go_simp; done) | (go_simp; rfl)); intro g1 hgb w1 hbox hb; have HG1 := Aside0.mk hbox; have HB1 := Aside0.mk hb; have hcz0 := (blk_cell hbox 0).trans (show _ = some (Value.int .i64 v) from rfl); have hcz1 := (blk_cell hbox 1).trans (show _ = some (Value.slice A cs.length c) from rfl); clear hbox hb hgb) | (go_at_call 25; refine (cnf_Right.calls kr v A c cs 0 w1 (Kd.C_below HC.out HB1.out) hc HKR.out).mono ?_; rintro e w2 ⟨rfl, hb⟩; have HB2 := Aside0.mk (below_step HB1.out hb); have HG2 := Aside0.mk (blk_below HG1.out hb); clear hb hcz0 hcz1))
    refine start_ (n := 13) (S := fun w' => w'.heap[g1]? = some (.cells #[.int .i64 v, .slice A cs.length c] 35 (0, 0))) (ds := []) #[false, false, false, false, false, false, false, false, false, false, false, false, false] (by kernel_rfl) rfl rfl (blk_drew HG2.out) (fun hHeld => ?_); refine with_tabW print.tab4 print.bits4 (fun HT_ HW_ => ?_)
    have HB3 := Aside0.mk (below_drew1 HB2.out)
    have HG3 := Aside0.mk (blk_drew HG2.out)
    generalize w2.drew = w3 at HB3 HG3 hHeld ⊢
    refine pure_ (i := 0) (N := some 15) (v := ?_) (a' := ?_) #[true, false, false, false, false, false, false, false, false, false, false, false, false] rfl rfl (any_of HT_.out (by kernel_rfl)) (fun _ _ _ h => h) (Or.inl ⟨by rfl, ?_⟩) ?_ ?_
    rotate_left
    · intro w'
      go_simp
      with_reducible rfl
    rotate_left
    · simp only [Act.put, List.setIfInBounds_toArray, List.set_cons_zero, List.set_cons_succ, i64_w, i32_w]
      rfl
    refine take_ (i := 1) (N := some 16) (v := ?_) (a' := ?_) #[true, true, false, false, false, false, false, false, false, false, false, false, false] rfl rfl (take_ofW HT_.out HW_.out (by kernel_rfl)) (fun _ _ _ h => h) (Or.inl ⟨by rfl, ?_⟩) hHeld ?_ ?_
    rotate_left
    · rintro w' hS
      have hcz1 := (blk_cell hS 0).trans (show _ = some (Value.int .i64 v) from rfl)
      go_simp
      with_reducible rfl
    rotate_left
    · simp only [Act.put, List.setIfInBounds_toArray, List.set_cons_zero, List.set_cons_succ, i64_w, i32_w]
      rfl
    refine pure_ (i := 5) (N := some 20) (v := ?_) (a' := ?_) #[true, true, false, false, false, true, false, false, false, false, false, false, false] rfl rfl (any_of HT_.out (by kernel_rfl)) (fun _ _ _ h => h) (Or.inl ⟨by rfl, ?_⟩) ?_ ?_
    rotate_left
    · intro w'
      go_simp
      with_reducible rfl
    rotate_left
    · simp only [Act.put, List.setIfInBounds_toArray, List.set_cons_zero, List.set_cons_succ, i64_w, i32_w]
      rfl
    refine take_ (i := 6) (N := some 21) (v := ?_) (a' := ?_) #[true, true, false, false, false, true, true, false, false, false, false, false, false] rfl rfl (take_ofW HT_.out HW_.out (by kernel_rfl)) (fun _ _ _ h => h) (Or.inl ⟨by rfl, ?_⟩) hHeld ?_ ?_
    rotate_left
    · rintro w' hS
      have hcz1 := (blk_cell hS 1).trans (show _ = some (Value.slice A cs.length c) from rfl)
      go_simp
      with_reducible rfl
    rotate_left
    · simp only [Act.put, List.setIfInBounds_toArray, List.set_cons_zero, List.set_cons_succ, i64_w, i32_w]
      rfl
    refine pure_ (i := 7) (N := some 22) (v := ?_) (a' := ?_) #[true, true, false, false, false, true, true, true, false, false, false, false, false] rfl rfl (any_of HT_.out (by kernel_rfl)) (fun _ _ _ h => h) (Or.inl ⟨by rfl, ?_⟩) ?_ ?_
    rotate_left
    · intro w'
      go_simp
      with_reducible rfl
    rotate_left
    · simp only [Act.put, List.setIfInBounds_toArray, List.set_cons_zero, List.set_cons_succ, i64_w, i32_w]
      rfl
    refine one_ (i := 2) (N := some 17) #[true, true, true, false, false, true, true, true, false, false, false, false, false] rfl rfl (one_of HT_.out (by kernel_rfl)) (by decide) (fun K hK => ?_)
    refine goes_ Tryz.func28 (by kernel_rfl) rfl #[.int .i64 v] (by rfl) rfl rfl (by (try simp only [List.map_toArray, List.map_cons, List.map_nil]); first | done | rfl) ?_
    refine (itoa_calls v w3 hv0 hv1 (HLT.out.on HB3.out).here).mono ?_
    rw [← HSV.out]
    rintro e4 w4 ⟨rfl, hb⟩
    refine ⟨_, rfl, ?_⟩
    have HB4 := Aside0.mk (below_step HB3.out hb)
    have HG4 := Aside0.mk (blk_below HG3.out hb)
    clear hb
    refine hK.out _ _ HG4.out (fun hHeld => ?_)
    clear hK K
    refine norm_ (a' := ?_) ?_ ?_
    rotate_left
    · show Act.put _ (some 17) _ = _
      simp only [Act.put, List.setIfInBounds_toArray, List.set_cons_zero, List.set_cons_succ, i64_w, i32_w]
      rfl
    refine pure_ (i := 3) (N := some 18) (v := ?_) (a' := ?_) #[true, true, true, true, false, true, true, true, false, false, false, false, false] rfl rfl (any_of HT_.out (by kernel_rfl)) (fun _ _ _ h => h) (Or.inl ⟨by rfl, ?_⟩) ?_ ?_
    rotate_left
    · intro w'
      go_simp
      with_reducible rfl
    rotate_left
    · simp only [Act.put, List.setIfInBounds_toArray, List.set_cons_zero, List.set_cons_succ, i64_w, i32_w]
      rfl
    refine pure_ (i := 4) (N := some 19) (v := ?_) (a' := ?_) #[true, true, true, true, true, true, true, true, false, false, false, false, false] rfl rfl (any_of HT_.out (by kernel_rfl)) (fun _ _ _ h => h) (Or.inl ⟨by rfl, ?_⟩) ?_ ?_
    rotate_left
    · intro w'
      go_simp
      with_reducible rfl
    rotate_left
    · simp only [Act.put, List.setIfInBounds_toArray, List.set_cons_zero, List.set_cons_succ, i64_w, i32_w]
      rfl
    refine one_ (i := 8) (N := some 23) #[true, true, true, true, true, true, true, true, true, false, false, false, false] rfl rfl (one_of HT_.out (by kernel_rfl)) (by decide) (fun K hK => ?_)
    refine goes_ Tryz.func28 (by kernel_rfl) rfl #[.int .i64 (cs.length : Int)] (by rfl) rfl rfl (by (try simp only [List.map_toArray, List.map_cons, List.map_nil]); first | done | rfl) ?_
    refine (itoa_calls (cs.length : Int) w4 hn0 hn1 (HLT.out.on HB4.out).here).mono ?_
    rw [← HSN.out]
    rintro e5 w5 ⟨rfl, hb⟩
    refine ⟨_, rfl, ?_⟩
    have HB5 := Aside0.mk (below_step HB4.out hb)
    have HG5 := Aside0.mk (blk_below HG4.out hb)
    clear hb
    refine hK.out _ _ HG5.out (fun hHeld => ?_)
    clear hK K
    refine norm_ (a' := ?_) ?_ ?_
    rotate_left
    · show Act.put _ (some 23) _ = _
      simp only [Act.put, List.setIfInBounds_toArray, List.set_cons_zero, List.set_cons_succ, i64_w, i32_w]
      rfl
    refine pure_ (i := 9) (N := some 24) (v := ?_) (a' := ?_) #[true, true, true, true, true, true, true, true, true, true, false, false, false] rfl rfl (any_of HT_.out (by kernel_rfl)) (fun _ _ _ h => h) (Or.inl ⟨by rfl, ?_⟩) ?_ ?_
    rotate_left
    · intro w'
      go_simp
      with_reducible rfl
    rotate_left
    · simp only [Act.put, List.setIfInBounds_toArray, List.set_cons_zero, List.set_cons_succ, i64_w, i32_w]
      rfl
    refine pure_ (i := 10) (N := some 25) (v := ?_) (a' := ?_) #[true, true, true, true, true, true, true, true, true, true, true, false, false] rfl rfl (any_of HT_.out (by kernel_rfl)) (fun _ _ _ h => h) (Or.inl ⟨by rfl, ?_⟩) ?_ ?_
    rotate_left
    · intro w'
      go_simp
      with_reducible rfl
    rotate_left
    · simp only [Act.put, List.setIfInBounds_toArray, List.set_cons_zero, List.set_cons_succ, i64_w, i32_w]
      rfl
    refine one_ (i := 11) (N := some 26) #[true, true, true, true, true, true, true, true, true, true, true, true, false] rfl rfl (one_of HT_.out (by kernel_rfl)) (by decide) (fun K hK => ?_)
    refine value_ (w1 := Lib.bytesWorld w5 5 (((((⟨#[112, 32, 99, 110, 102, 32]⟩ : ByteArray) ++ sv) ++ (⟨#[32]⟩ : ByteArray)) ++ sn) ++ (⟨#[10]⟩ : ByteArray))) (v := .slice (some ⟨w5.heap.size, 0, none⟩) HBZ (grownCap w5 HBZ 0 5)) (by rfl) rfl ?_ ?_
    · have kb := print_bytes (P := Tryz.prog) 9 46 5 Tryz.underlying9 Tryz.underlying46 Tryz.underlying5 (((((⟨#[112, 32, 99, 110, 102, 32]⟩ : ByteArray) ++ sv) ++ (⟨#[32]⟩ : ByteArray)) ++ sn) ++ (⟨#[10]⟩ : ByteArray)) w5
      rw [HHBZ.out] at kb
      unfold execOp
      simp only [Act.eval]
      simp [kb, Sem.run_bind, Sem.run_pure, Result.andThen]
    have HEM := Aside0.mk (show EM (Lib.bytesWorld w5 5 (((((⟨#[112, 32, 99, 110, 102, 32]⟩ : ByteArray) ++ sv) ++ (⟨#[32]⟩ : ByteArray)) ++ sn) ++ (⟨#[10]⟩ : ByteArray))) w.heap.size (.slice (some ⟨w5.heap.size, 0, none⟩) HBZ (grownCap w5 HBZ 0 5)) (dHeadL v cs.length ++ [10]) from by
      have := em_bytes w5 (dHeadL v cs.length ++ [10]) (by rw [← HHBL.out]; exact HHBS.out)
      rw [← HHBL.out, HHB.out] at this
      obtain ⟨g, cap, cur, fz, e1, e2, e3⟩ := this
      exact ⟨g, cap, cur, fz, e1, Nat.le_trans HB5.out.size e2, e3⟩)
    have HB6 := Aside0.mk (below_step HB5.out (bytes_below (Below.refl _ w5) (Nat.le_refl _) 5 (((((⟨#[112, 32, 99, 110, 102, 32]⟩ : ByteArray) ++ sv) ++ (⟨#[32]⟩ : ByteArray)) ++ sn) ++ (⟨#[10]⟩ : ByteArray))))
    have HG6 := Aside0.mk (blk_below HG5.out (bytes_below (Below.refl _ w5) (Nat.le_refl _) 5 (((((⟨#[112, 32, 99, 110, 102, 32]⟩ : ByteArray) ++ sv) ++ (⟨#[32]⟩ : ByteArray)) ++ sn) ++ (⟨#[10]⟩ : ByteArray))))
    obtain ⟨bv0, hbv0⟩ : ∃ bv0, bv0 = Value.slice (some ⟨w5.heap.size, 0, none⟩) HBZ (grownCap w5 HBZ 0 5) := ⟨_, rfl⟩
    rw [← hbv0] at HEM ⊢
    clear hbv0
    refine hK.out _ _ HG6.out (fun hHeld => ?_)
    clear hK K
    refine norm_ (a' := ?_) ?_ ?_
    rotate_left
    · show Act.put _ (some 26) _ = _
      simp only [Act.put, List.setIfInBounds_toArray, List.set_cons_zero, List.set_cons_succ, i64_w, i32_w]
      rfl
    refine pure_ (i := 12) (N := some 5) (v := ?_) (a' := ?_) #[true, true, true, true, true, true, true, true, true, true, true, true, true] rfl rfl (any_of HT_.out (by kernel_rfl)) (fun _ _ _ h => h) (Or.inl ⟨by rfl, ?_⟩) ?_ ?_
    rotate_left
    · intro w'
      go_simp
      with_reducible rfl
    rotate_left
    · simp only [Act.put, List.setIfInBounds_toArray, List.set_cons_zero, List.set_cons_succ, i64_w, i32_w]
      rfl
    refine done_ (done_of HT_.out (by kernel_rfl)) ?_
    have hcz1 := (blk_cell HG6.out 1).trans (show _ = some (Value.slice A cs.length c) from rfl)
    have HEM0 := Aside0.mk (show EM _ w.heap.size bv0 (dPt v cs 0 []) from by
      have := HEM.out
      unfold dPt dLits
      simpa using this)
    clear HEM
    generalize Lib.bytesWorld w5 5 (((((⟨#[112, 32, 99, 110, 102, 32]⟩ : ByteArray) ++ sv) ++ (⟨#[32]⟩ : ByteArray)) ++ sn) ++ (⟨#[10]⟩ : ByteArray)) = w6 at HB6 HG6 hcz1 HEM0 ⊢
    go_wp2
    clear hcz1
    go_loopg [5, 30] cs.length (fun gf v5 v30 wr => ∃ i : Nat, v30 = .int .i64 (i : Int) ∧ i + gf = cs.length ∧ Aside0 (EM wr w.heap.size v5 (dPt v cs i [])) ∧ Aside0 (Below w.heap.size w wr))
    case atStart => exact ⟨0, rfl, by omega, HEM0, HB6⟩
    case round =>
      clear HEM0 HB6 HG6 HB5 HG5 HB4 HG4 HB3 HG3 HB2 HG2 HB1 HG1 hHeld
      obtain ⟨i, rfl, hi, HEM, HBW⟩ := hrel
      by_cases hlt : i < cs.length
      · have t5 : decide ((i : Int) < (cs.length : Int)) = true := decide_eq_true (by omega)
        have t6 : decide (i < cs.length) = true := decide_eq_true hlt
        have hi0 : (0 : Int) ≤ (i : Int) := Int.natCast_nonneg _
        have hil : (i : Int) < (cs.length : Int) := by omega
        have hi1 : (i : Int) + 1 ≤ 1048577 := by omega
        obtain ⟨ad, A1, c1, e1, hx, hl1, hC1⟩ := at_L6 HC.out (i : Int) hi0 hil
        cases e1
        replace hx := pw_cell_below HBW.out hx
        obtain ⟨q, hq⟩ : ∃ q, q = cs[i] := ⟨_, rfl⟩
        rw [rdL6_nat cs i hlt, ← hq] at hx hl1 hC1
        rw [Int.toNat_natCast] at hx
        have HCQ := Aside0.mk hC1
        have HQ := Aside0.mk hq
        have HGQ := Aside0.mk (show ∀ x ∈ q, Glit v x by rw [hq]; exact HD.out.g _ (List.getElem_mem hlt))
        have hql : q.length ≤ 30000000 := by
          have h1 := HD.out.l
          have h2 : q.length ≤ (cs.map List.length).sum := by
            rw [hq]
            have : ∀ (L : List (List Int)) (y : List Int), y ∈ L → y.length ≤ (L.map List.length).sum := by
              intro L
              induction L with
              | nil => intro y h; cases h
              | cons a L ih =>
                intro y h
                rw [List.map_cons, List.sum_cons]
                rcases List.mem_cons.1 h with rfl | h
                · omega
                · have := ih y h; omega
            exact this cs _ (List.getElem_mem hlt)
          omega
        have HLEN := Aside0.mk (show ∀ j, j ≤ q.length → (dPt v cs i (q.take j)).length + 2 ≤ 30000000 by intro j hj; have := dPt_len v cs i hlt j (by rw [← hq]; exact hj); rw [← hq] at this; have := HTL.out; omega)
        have HNX := Aside0.mk (show dPt v cs i q ++ [48, 10] = dPt v cs (i + 1) [] by rw [hq]; exact dPt_next v cs i hlt)
        clear hC1 hq
        go_wp2
        obtain ⟨wo, rfl⟩ : ∃ wo : World, wo = wr := ⟨_, rfl⟩
        obtain ⟨gko, hgko⟩ : ∃ gko, gko = gk := ⟨_, rfl⟩
        rw [← hgko] at hi
        have HGKO := Aside0.mk hgko
        clear hgko
        go_loopg [5, 36] q.length (fun gf v5 v36 wi => ∃ j : Nat, v36 = .int .i64 (j : Int) ∧ j + gf = q.length ∧ Aside0 (EM wi w.heap.size v5 (dPt v cs i (q.take j))) ∧ Aside0 (Below w.heap.size w wi))
        case atStart => exact ⟨0, rfl, by omega, HEM, HBW⟩
        case round =>
          clear HEM
          obtain ⟨j, rfl, hj, HEM, HBI⟩ := hrel
          have HCQ2 := HCQ
          have HEB := Aside0.mk HBI.out.size
          by_cases hjt : j < q.length
          · have t7 : decide ((j : Int) < (q.length : Int)) = true := decide_eq_true (by omega)
            have t8 : decide (j < q.length) = true := decide_eq_true hjt
            have hj0 : (0 : Int) ≤ (j : Int) := Int.natCast_nonneg _
            have hjl : (j : Int) < (q.length : Int) := by omega
            have hj1 : (j : Int) + 1 ≤ 30000001 := by omega
            obtain ⟨ad2, e2, hy⟩ := Kd.at_int (Kd.C_below HCQ.out HBI.out) (j : Int) hj0 hjl
            cases e2
            obtain ⟨x, hxe⟩ : ∃ x, x = q[j] := ⟨_, rfl⟩
            rw [Int.toNat_natCast, rd_nat q j hjt, ← hxe] at hy
            have hgl := HGQ.out x (by rw [hxe]; exact List.getElem_mem hjt)
            have hx0 : -1048576 ≤ x := by have := HD.out.v1; unfold Glit at hgl; omega
            have hx1 : x ≤ 1048576 := by have := HD.out.v1; unfold Glit at hgl; omega
            have HIT := Aside0.mk (itoa_len x (by omega) (by omega))
            have HTJ := Aside0.mk (show dPt v cs i (q.take j) ++ Lib.itoa x ++ [32] = dPt v cs i (q.take (j + 1)) by
              rw [List.take_succ_eq_append_getElem hjt, ← hxe]
              unfold dPt
              rw [dLits_snoc]
              simp)
            have HLJ := Aside0.mk (HLEN.out j (by omega))
            clear hgl hxe
            go_wp2_with (first | (go_at_call 43; refine (appendI_calls w.heap.size _ (dPt v cs i (q.take j)) x (by omega) (by omega) wr HEM.out HEB.out (by have := HLJ.out; omega) (HLT.out.on HBI.out)).mono ?_; rintro e w7 ⟨v7, rfl, he, hb⟩; have HE7 := Aside0.mk he; have HB7 := Aside0.mk (HBI.out.trans hb); clear he hb hy) | ((with_reducible refine gate_builtin (b := .append) (xs := #[.tmp 44, .tmp 45]) rfl ?_); refine em_cells rfl (.tmp 44) (.tmp 45) 46 rfl Tryz.underlying46 info5 rfl (EM.below HE7.out (below_alloc (Below.refl _ w7) (.cells #[.int .u8 32] 5))) ⟨w7.heap.size, 0, none⟩ 1 [32] rfl ?hr ?hl2 ?hb2 ?_; (case hr => intro k y hk; match k, hk with | 0, hk => exact (blk_cell (blk_new w7 (.cells #[.int .u8 32] 5 (0, 0))) 0).trans hk); (case hl2 => (have h1 := HLJ.out; have h2 := HIT.out; rw [List.length_append]; show _ + _ + 1 ≤ _; omega)); (case hb2 => exact Nat.le_trans HB7.out.size (below_alloc (Below.refl _ w7) (.cells #[.int .u8 32] 5)).size); intro v8 w8 he hbw hg; have HE8 := Aside0.mk he; have HB8 := Aside0.mk ((HB7.out.trans ((below_alloc (Below.refl _ w7) (.cells #[.int .u8 32] 5)).mono HB7.out.size)).trans hbw); clear he hbw hg))
            go_roundg (gk - 1)
            case measure => omega
            case rel => exact ⟨j + 1, by go_num, by omega, ⟨by rw [← HTJ.out]; exact HE8.out⟩, HB8⟩
          · have t7 : decide ((j : Int) < (q.length : Int)) = false := decide_eq_false (by omega)
            have t8 : decide (j < q.length) = false := decide_eq_false hjt
            obtain rfl : j = q.length := by omega
            have HLJ := Aside0.mk (HLEN.out q.length (Nat.le_refl _))
            have HQT := Aside0.mk (show dPt v cs i (q.take q.length) ++ [48, 10] = dPt v cs (i + 1) [] by rw [List.take_length]; exact HNX.out)
            go_wp2_with ((with_reducible refine gate_builtin (b := .append) (xs := #[.tmp 48, .const (.string ⟨#[48, 10]⟩)]) rfl ?_); refine em_string rfl (.tmp 48) (.const (.string ⟨#[48, 10]⟩)) 46 9 rfl Tryz.underlying46 Tryz.underlying9 info5 rfl HEM.out [48, 10] rfl (by have h1 := HLJ.out; show _ + 2 ≤ _; omega) HEB.out ?_; intro v8 w8 he hbw hg; have HE8 := Aside0.mk he; have HB8 := Aside0.mk (HBI.out.trans hbw); clear he hbw hg)
            go_roundg (gko - 1)
            case measure => have := HGKO.out; omega
            case rel => exact ⟨i + 1, by go_num, by omega, ⟨by rw [← HQT.out]; exact HE8.out⟩, HB8⟩
      · have t5 : decide ((i : Int) < (cs.length : Int)) = false := decide_eq_false (by omega)
        have t6 : decide (i < cs.length) = false := decide_eq_false hlt
        obtain rfl : i = cs.length := by omega
        go_wp2
        go_ret2
        refine ⟨_, by rw [HP.out]; rfl, ⟨fun _ => ?_, fun h => absurd HE.out h⟩, HBW.out⟩
        have := HEM.out
        rw [dPt_end] at this
        exact this
  · have t1 : (er == 0) = false := beq_eq_false_iff_ne.2 h0
    have t1n : (er != 0) = true := by rw [bne, t1]; rfl
    have HP := Aside0.mk (show (dPrint v cs).2 = er by unfold dPrint; rw [if_neg (her ▸ h0), her])
    have HE := Aside0.mk (show dRight v cs ≠ 0 from her ▸ h0)
    clear her h0 hz
    go_enter Tryz.func21, Tryz.ntmps21
    go_wp2_with (first | ((with_reducible refine gate_dst (N := 1) rfl ?_); refine box_event ?hg (N := 1) ?hd (cs := #[.int .i64 v, .slice A cs.length c]) (t := 35) ?hr ?_; (case hd => rfl); (case hg => rfl); (case hr => first | (go_simp; done) | (go_simp; rfl)); intro g1 hgb w1 hbox hb; have HG1 := Aside0.mk hbox; have HB1 := Aside0.mk hb; have hcz0 := (blk_cell hbox 0).trans (show _ = some (Value.int .i64 v) from rfl); have hcz1 := (blk_cell hbox 1).trans (show _ = some (Value.slice A cs.length c) from rfl); clear hbox hb hgb) | (go_at_call 25; refine (cnf_Right.calls kr v A c cs er w1 (Kd.C_below HC.out HB1.out) hc HKR.out).mono ?_; rintro e w2 ⟨rfl, hb⟩; have HB2 := Aside0.mk (below_step HB1.out hb); clear hb hcz0 hcz1))
    go_ret2
    exact ⟨_, by rw [HP.out]; rfl, ⟨fun h => absurd h HE.out, fun _ => rfl⟩, HB2.out⟩
end Go.Proofs.YtigloobbpcnnhaaGreatDoor.PB
end
end
section
section
namespace Go.Proofs.YtigloobbpcnnhaaGreatDoor.PB
open Go.RowKit Go.Proofs.YtigloobbpcnnhaaGreatDoorW.PrintWords Go.Proofs.YtigloobbpcnnhaaGreatDoorW.PrintLast Go.Proofs.YtigloobbpcnnhaaGreatDoorW.PrintMore
set_option linter.unusedVariables false
set_option linter.unusedSimpArgs false
section
variable {P : Program} {ops : Array Oper} {rest : List Oper} {o : Oper} {a : Act} {Q : Exit → Act → World → Prop}
end
/-- A literal row of bytes reads as the bytes. -/
theorem C_lit (l : List UInt8) (w : World) (g : Nat) (cs : Array Value) {fz : Nat × Nat} (hcs : cs.toList = Lib.byteCells l) (h : w.heap[g]? = some (.cells cs 5 fz)) (hl : l.length ≤ 9223372036854775807) : (Kd.int .u8).C w (some ⟨g, 0, none⟩) l.length (bI l) := by
  refine Kd.C_of_reads (d := (0 : Int)) (h1 := fun _ => rfl) ⟨bI_length l, hl, fun hp => ⟨_, rfl, fun j hj => ?_⟩⟩
  rw [add_plain, cell_of_row w g j cs 5 fz h, ← Array.getElem?_toList, hcs]
  unfold Lib.byteCells bI
  rw [List.getElem?_map, List.getElem?_eq_getElem hj, List.getD_eq_getElem?_getD, List.getElem?_map, List.getElem?_eq_getElem hj]
  rfl
theorem C_bools (l : List Bool) (w : World) (g : Nat) (cs : Array Value) (hcs : cs.toList = l.map Value.bool) (h : w.heap[g]? = some (.cells cs 4 (0, 0))) (hl : l.length ≤ 9223372036854775807) : Kd.bool.C w (some ⟨g, 0, none⟩) l.length l := by
  refine Kd.C_of_reads (d := false) (h1 := fun _ => rfl) ⟨rfl, hl, fun hp => ⟨_, rfl, fun j hj => ?_⟩⟩
  rw [add_plain, blk_cell h j, ← Array.getElem?_toList, hcs]
  rw [List.getElem?_map, List.getElem?_eq_getElem hj, List.getD_eq_getElem?_getD, List.getElem?_eq_getElem hj]
  rfl
theorem dec_one (u : Nat) (h : u < 10) : Lib.decDigits u = [UInt8.ofNat (48 + u)] := by rw [Lib.decDigits, dif_pos h]
def wT1 : List UInt8 := [99, 32, 120, 10, 112, 32, 99, 110, 102, 32, 50, 32, 50, 10, 49, 32, 45, 50, 32, 48, 32, 50, 10, 48, 10]
def wT2 : List UInt8 := [112, 32, 99, 110, 102, 32, 50, 32, 49, 10, 51, 32, 48, 10]
def wP1 : List UInt8 := [112, 32, 99, 110, 102, 32, 50, 32, 50, 10, 49, 32, 45, 50, 32, 48, 10, 50, 32, 48, 10]
def wV1 : List UInt8 := [118, 32, 49, 32, 45, 50, 32, 48, 10]
theorem w_parse1 : dParse wT1 = ((2, [[1, -2], [2]]), 0, 0) := by kernel_rfl
theorem w_parse2 : dParse wT2 = ((0, []), 22, 2) := by kernel_rfl
theorem itoa_1 : Lib.itoa 1 = [49] := by unfold Lib.itoa; rw [if_neg (by omega), show (1 : Int).toNat = 1 from rfl, dec_one 1 (by omega)]; rfl
theorem itoa_2 : Lib.itoa 2 = [50] := by unfold Lib.itoa; rw [if_neg (by omega), show (2 : Int).toNat = 2 from rfl, dec_one 2 (by omega)]; rfl
theorem itoa_m2 : Lib.itoa (-2) = [45, 50] := by unfold Lib.itoa; rw [if_pos (by omega), show (-2 : Int).natAbs = 2 from rfl, dec_one 2 (by omega)]; rfl
theorem w_text : dText 2 [[1, -2], [2]] = wP1 := by
  simp only [dText, dClause, List.flatMap_cons, List.flatMap_nil, List.length_cons, List.length_nil]
  rw [itoa_1, itoa_2, itoa_m2, show (((0 + 1 + 1 : Nat)) : Int) = 2 from rfl, itoa_2]
  rfl
theorem w_values : dValues [true, false] = wV1 := by
  have e : dVW 1 [true, false] = [[49], [45, 50]] := by
    simp only [dVW, dVWord]
    rw [show ((1 : Nat) : Int) = 1 from rfl, show ((1 + 1 : Nat) : Int) = 2 from rfl, itoa_1, itoa_2]
    rfl
  unfold dValues dVState
  rw [e]
  rfl
theorem w_right : DRight 2 [[1, -2], [2]] := by
  refine ⟨by decide, by decide, by decide, by decide, ?_⟩
  intro c hc x hx
  simp only [List.mem_cons, List.not_mem_nil, or_false] at hc
  rcases hc with rfl | rfl
  · simp only [List.mem_cons, List.not_mem_nil, or_false] at hx
    rcases hx with rfl | rfl <;> (unfold Glit; omega)
  · simp only [List.mem_cons, List.not_mem_nil, or_false] at hx
    subst hx
    unfold Glit; omega
theorem cs_T1 : (#[.int .u8 99, .int .u8 32, .int .u8 120, .int .u8 10, .int .u8 112, .int .u8 32, .int .u8 99, .int .u8 110, .int .u8 102, .int .u8 32, .int .u8 50, .int .u8 32, .int .u8 50, .int .u8 10, .int .u8 49, .int .u8 32, .int .u8 45, .int .u8 50, .int .u8 32, .int .u8 48, .int .u8 32, .int .u8 50, .int .u8 10, .int .u8 48, .int .u8 10] : Array Value).toList = Lib.byteCells wT1 := by kernel_rfl
theorem cs_T2 : (#[.int .u8 112, .int .u8 32, .int .u8 99, .int .u8 110, .int .u8 102, .int .u8 32, .int .u8 50, .int .u8 32, .int .u8 49, .int .u8 10, .int .u8 51, .int .u8 32, .int .u8 48, .int .u8 10] : Array Value).toList = Lib.byteCells wT2 := by kernel_rfl
theorem lt_alloc {w0 w : World} (hlt : LT w0.heap.size w0) (hB : Below w0.heap.size w0 w) (o : Obj) : LT (w.alloc o).heap.size (w.alloc o) := hlt.pay (below_alloc hB o)
theorem parse_lit (w0 w : World) (l : List UInt8) (n c : Nat) (cs : Array Value) {fz : Nat × Nat} (hn : l.length = n) (hcs : cs.toList = Lib.byteCells l) (hl : l.length ≤ 100000) (hlt : LT w0.heap.size w0) (hB : Below w0.heap.size w0 w) (hc : n ≤ c) : Calls Tryz.prog 20 #[.slice (some ⟨w.heap.size, 0, none⟩) n c] (w.alloc (.cells cs 5 fz)) fun e w' => ∃ A cc, e = .returned (.tuple #[.agg #[.int .i64 (dParse l).1.1, .slice A (dParse l).1.2.length cc], .int .i64 (dParse l).2.1, .int .i64 (dParse l).2.2]) ∧ kcs.C w' A (dParse l).1.2.length (dParse l).1.2 ∧ (dParse l).1.2.length ≤ cc ∧ Below w0.heap.size w0 w' ∧ Below w.heap.size w w' := by
  subst hn
  refine (parse_calls ⟨w.heap.size, 0, none⟩ c l _ (C_lit l _ w.heap.size cs hcs (blk_new w _) (by omega)) hc hl (lt_alloc hlt hB _)).mono ?_
  rintro e w2 ⟨va, he, hR, hb⟩
  have h2 := below_step (below_alloc (Below.refl _ w) _) hb
  obtain ⟨A, cc, rfl⟩ := Kd.R_slice hR
  exact ⟨A, cc, he, (Kd.R_reads' hR).2.2, (Kd.R_reads' hR).2.1, below_step hB h2, h2⟩
theorem values_lit (w0 w : World) (g : Nat) (l : List Bool) (n c : Nat) (cs : Array Value) (hg : g = w.heap.size) (hn : l.length = n) (hcs : cs.toList = l.map Value.bool) (hl : l.length ≤ 1100000) (hlt : LT w0.heap.size w0) (hB : Below w0.heap.size w0 w) (hc : n ≤ c) : Calls Tryz.prog 12 #[.slice (some ⟨g, 0, none⟩) n c] (w.alloc (.cells cs 4 (0, 0))) fun e w' => e = .returned (.string (baOf (dValues l))) ∧ Below w0.heap.size w0 w' := by
  subst hn hg
  refine (values_calls (some ⟨w.heap.size, 0, none⟩) c l _ (C_bools l _ w.heap.size cs hcs (blk_new w _) (by omega)) hc hl (lt_alloc hlt hB _)).mono ?_
  rintro e w2 ⟨he, hb⟩
  exact ⟨he, below_step hB (below_step (below_alloc (Below.refl _ w) _) hb)⟩
theorem EM.less {w : World} {b base : Nat} {v : Value} {l : List UInt8} (h : EM w b v l) (hle : base ≤ b) : EM w base v l := by
  obtain ⟨g, cap, cur, fz, h0, h1, h2⟩ := h
  exact ⟨g, cap, cur, fz, h0, Nat.le_trans hle h1, h2⟩
theorem print_lit (w0 w : World) (A1 : Option Addr) (c1 : Nat) (o : Obj) (hC : kcs.C w A1 2 [[1, -2], [2]]) (hc : 2 ≤ c1) (hlt : LT w0.heap.size w0) (hB : Below w0.heap.size w0 w) : Calls Tryz.prog 21 #[.agg #[.int .i64 2, .slice A1 2 c1]] (w.alloc o) fun e w' => ∃ ge ce, e = .returned (.tuple #[.slice (some ⟨ge, 0, none⟩) 21 ce, .int .i64 0]) ∧ EM w' w.heap.size (.slice (some ⟨ge, 0, none⟩) 21 ce) wP1 ∧ Below w0.heap.size w0 w' := by
  have hdr : dRight 2 [[1, -2], [2]] = 0 := (dRight_zero _ _).2 w_right
  have hpr : (dPrint 2 [[1, -2], [2]]).2 = 0 := by unfold dPrint; rw [if_pos hdr]
  have hg : ∀ q ∈ ([[1, -2], [2]] : List (List Int)), q.length ≤ 140737488355328 ∧ ∀ x ∈ q, I32 x := by
    intro q hq
    simp only [List.mem_cons, List.not_mem_nil, or_false] at hq
    rcases hq with rfl | rfl
    · refine ⟨by simp, ?_⟩
      intro x hx
      simp only [List.mem_cons, List.not_mem_nil, or_false] at hx
      unfold I32; omega
    · refine ⟨by simp, ?_⟩
      intro x hx
      simp only [List.mem_cons, List.not_mem_nil, or_false] at hx
      unfold I32; omega
  have h := print_calls 2 A1 c1 [[1, -2], [2]] (w.alloc o) (Kd.C_below hC (below_alloc (Below.refl _ _) _)) hc hg (by simp) (by simp) (lt_alloc hlt hB _)
  rw [hpr] at h
  refine h.mono ?_
  rintro e w5 ⟨rv, he, ⟨hem, _⟩, hb⟩
  have hem1 := hem hdr
  rw [w_text] at hem1
  obtain ⟨ge, ce, rfl, _, _, _⟩ := hem1.slice
  rw [show wP1.length = 21 from rfl] at he hem1
  exact ⟨ge, ce, he, EM.less hem1 (by rw [World.size_alloc]; omega), below_step (below_alloc hB _) hb⟩
theorem str_lit {w : World} {base g n c : Nat} {l : List UInt8} (h : EM w base (.slice (some ⟨g, 0, none⟩) n c) l) (hn : l.length = n) (o : Obj) : Sem.run Tryz.prog (convert 46 9 (.slice (some ⟨g, 0, none⟩) n c)) (w.alloc o) = .ok (.string (baOf l)) (w.alloc o) := by
  subst hn
  rw [Kd.C_string (P := Tryz.prog) (c := c) Tryz.underlying46 Tryz.underlying5 Tryz.underlying9 (h.below (below_alloc (Below.refl _ _) o)).C, bI_str]
set_option maxHeartbeats 400000 in
set_option maxRecDepth 100000 in
theorem works_calls (w : World) (hlt : LT w.heap.size w) : Calls Tryz.prog 8 #[] w fun e w' => e = .returned (.bool true) ∧ Below w.heap.size w w' := by
  have HLT := Aside0.mk hlt
  obtain ⟨sP, hsP⟩ : ∃ sP, sP = baOf wP1 := ⟨_, rfl⟩
  obtain ⟨sV, hsV⟩ : ∃ sV, sV = baOf wV1 := ⟨_, rfl⟩
  have p1 : (sP.toList == ([112, 32, 99, 110, 102, 32, 50, 32, 50, 10, 49, 32, 45, 50, 32, 48, 10, 50, 32, 48, 10] : List UInt8)) = true := by rw [hsP, word_eq]; exact decide_eq_true rfl
  have p2 : (sV.toList == ([118, 32, 49, 32, 45, 50, 32, 48, 10] : List UInt8)) = true := by rw [hsV, word_eq]; exact decide_eq_true rfl
  have HSP := Aside0.mk hsP
  have HSV := Aside0.mk hsV
  have HDR := Aside0.mk ((dRight_zero _ _).2 w_right)
  have HPR := Aside0.mk (show (dPrint 2 [[1, -2], [2]]).2 = 0 by unfold dPrint; rw [if_pos HDR.out])
  clear hlt hsP hsV
  have TOK := Aside0.mk trivial
  have kc := fun (w : World) (C : Array Value) (n c : Nat) => Lib.run_convert_bytes_const (P := Tryz.prog) w 46 5 C n c Tryz.underlying46 Tryz.underlying5
  go_enter Tryz.func8, Tryz.ntmps8
  go_wp2_with (first | (go_at_call 20; have := TOK; clear TOK this; refine (parse_lit w w wT1 25 25 #[.int .u8 99, .int .u8 32, .int .u8 120, .int .u8 10, .int .u8 112, .int .u8 32, .int .u8 99, .int .u8 110, .int .u8 102, .int .u8 32, .int .u8 50, .int .u8 32, .int .u8 50, .int .u8 10, .int .u8 49, .int .u8 32, .int .u8 45, .int .u8 50, .int .u8 32, .int .u8 48, .int .u8 32, .int .u8 50, .int .u8 10, .int .u8 48, .int .u8 10] rfl cs_T1 (by decide) HLT.out (Below.refl _ _) (Nat.le_refl _)).mono ?_; rw [w_parse1]; rintro e w2 ⟨A1, c1, rfl, hC, hcc, hb, _⟩; have HB2 := Aside0.mk hb; have HC2 := Aside0.mk hC; have HE2 := Aside0.mk hcc; clear hC hb hcc) | (go_at_call 21; refine (print_lit w w2 A1 c1 _ HC2.out HE2.out HLT.out HB2.out).mono ?_; rintro e w5 ⟨ge, ce, rfl, hem, hb⟩; have HEM5 := Aside0.mk hem; have HB5 := Aside0.mk hb; clear hem hb) | (go_at_call 20; refine (parse_lit w w5 wT2 14 14 #[.int .u8 112, .int .u8 32, .int .u8 99, .int .u8 110, .int .u8 102, .int .u8 32, .int .u8 50, .int .u8 32, .int .u8 49, .int .u8 10, .int .u8 51, .int .u8 32, .int .u8 48, .int .u8 10] rfl cs_T2 (by decide) HLT.out HB5.out (Nat.le_refl _)).mono ?_; rw [w_parse2]; rintro e w7 ⟨A7, c7, rfl, _, _, hb, hb5⟩; have HB7 := Aside0.mk hb; have hcv := str_lit (HEM5.out.below hb5) rfl (.cells #[.int .i64 0, .slice A7 0 c7] 35); rw [← HSP.out] at hcv; clear hb hb5) | (go_at_call 12; refine (values_lit w (w7.alloc (.cells #[.int .i64 0, .slice A7 0 c7] 35)) (w7.heap.size + 1) [true, false] 2 2 #[.bool true, .bool false] (World.size_alloc _ _).symm rfl rfl (by decide) HLT.out (below_alloc HB7.out _) (Nat.le_refl _)).mono ?_; rw [w_values, ← HSV.out]; rintro e w10 ⟨rfl, hb⟩; have HB10 := Aside0.mk hb; clear hb))
  go_ret
  exact ⟨rfl, HB10.out⟩
end Go.Proofs.YtigloobbpcnnhaaGreatDoor.PB
end
section
namespace Go.Proofs.YtigloobbpcnnhaaGreatDoor.PB
open Go.RowKit Go.Proofs.YtigloobbpcnnhaaGreatDoorW.PrintWords Go.Proofs.YtigloobbpcnnhaaGreatDoorW.PrintLast Go.Proofs.YtigloobbpcnnhaaGreatDoorW.PrintMore
set_option linter.unusedVariables false
set_option linter.unusedSimpArgs false
section
variable {P : Program} {ops : Array Oper} {rest : List Oper} {o : Oper} {a : Act} {Q : Exit → Act → World → Prop}
/-- A text's bytes, as an event. -/
theorem text_event {W : World} (src dst : TypeId) {u : TypeDesc} (x : Operand) (ho : o.op = .convert src dst x) (hgd : o.guard = none) (l : List UInt8) (hx : a.eval x = .string (baOf l)) (hs : P.underlying src = some u) (hd : P.underlying dst = some (.slice 5)) (he : P.underlying 5 = some (.int .u8)) (hl : l.length ≤ 9223372036854775807)
    (h : ∀ g c w1, (Kd.int .u8).C w1 (some ⟨g, 0, none⟩) l.length (bI l) → l.length ≤ c → Below W.heap.size W w1 → wpList P ops Q rest (a.put o.dst (.slice (some ⟨g, 0, none⟩) l.length c)) w1) : wpList P ops Q (o :: rest) a W := by
  have hrun : (execOp a.eval o).run P W = .ok (.value (.slice (some ⟨W.heap.size, 0, none⟩) l.length (grownCap W (baOf l).size 0 5))) (Lib.bytesWorld W 5 (baOf l)) := by
    unfold execOp
    simp only [ho, hx]
    have := print_bytes (P := P) src dst 5 hs hd he (baOf l) W
    simp [this, Sem.run_bind, Sem.run_pure, Result.andThen, baOf_size]
  have hem := em_bytes W l hl
  obtain ⟨g, c, e, hg, hg2, hc⟩ := hem.slice
  cases e
  refine Kd.event_run hgd hrun ?_
  exact h _ _ _ hem.C hc (bytes_below (Below.refl _ _) (Nat.le_refl _) 5 (baOf l))
end
theorem works_c (w0 w : World) (hlt : LT w0.heap.size w0) (hB : Below w0.heap.size w0 w) : Calls Tryz.prog 8 #[] w fun e w' => e = .returned (.bool true) ∧ Below w0.heap.size w0 w' := by
  refine (works_calls w (hlt.pay hB)).mono ?_
  rintro e w2 ⟨rfl, hb⟩
  exact ⟨rfl, below_step hB hb⟩
end Go.Proofs.YtigloobbpcnnhaaGreatDoor.PB
end
end
section
section
namespace Go.Proofs.YtigloobbpcnnhaaGreatDoor.PB
open Go.RowKit Go.Shelf Go.Proofs.YtigloobbpcnnhaaGreatDoorW.PrintWords Go.Proofs.YtigloobbpcnnhaaGreatDoorW.PrintLast Go.Proofs.YtigloobbpcnnhaaGreatDoorW.PrintMore
set_option linter.unusedVariables false
set_option linter.unusedSimpArgs false
attribute [local go_sem] Oper.semAt_some
theorem cut_calls2 (A : Option Addr) (c b2 d2 : Nat) (t : List UInt8) (w0 w : World) (hCw : (Kd.int .u8).C w A t.length (bI t)) (hC : (Kd.int .u8).C w0 A t.length (bI t)) (hc : t.length ≤ c) (hne : t ≠ []) (hs : t.length ≤ 100000) (hlt : LF w) (hb2 : w.heap[b2]? = some (.cells #[.int .u8 10] 5 (0, 0))) :
    Calls Tryz.prog 32 #[.slice A t.length c, .slice (some ⟨b2, 0, none⟩) 1 d2] w fun e w' => ∃ (l r : List UInt8) (A2 : Option Addr) (c2 : Nat) (fl : Bool), e = .returned (.tuple #[.slice A l.length c, .slice A2 r.length c2, .bool fl]) ∧ dLines t = l :: dLines r ∧ (Kd.int .u8).C w0 A l.length (bI l) ∧ l.length ≤ c ∧ (Kd.int .u8).C w0 A2 r.length (bI r) ∧ r.length ≤ c2 ∧ r.length < t.length ∧ ∃ q, w' = w.drewN q := by
  obtain ⟨m, hm⟩ := hlt.m
  have hpos : 0 < t.length := List.length_pos_iff.2 hne
  have hin2 : Lib.BytesIn w (some ⟨b2, 0, none⟩) 1 [10] := fun _ => ⟨b2, 0, rfl, fun i hi => by
    obtain rfl : i = 0 := by omega
    exact (blk_cell hb2 0).trans rfl⟩
  obtain ⟨ad, rfl, _⟩ := Kd.at_int hC 0 (by omega) (by omega)
  refine (Tryz.bytes_Cut_all (some ad) (some ⟨b2, 0, none⟩) t.length c 1 d2 (bI t) [10] m w (bI_length t) rfl (bI_mem t) (by intro y hy; rw [List.mem_singleton.1 hy]; omega) (bytesIn_C hCw) hin2 (fun e => by cases e) hc (by omega) (by omega) hm).mono ?_
  rw [bI_back, show Lib.bytesOf [10] = [10] from rfl]
  rintro e w' ⟨rfl, q, rfl⟩
  rcases split_first t with h | ⟨l, r, ht, h⟩
  · refine ⟨t, [], none, 0, false, ?_, by rw [dLines_no t hne h]; rfl, hC, hc, Kd.C_nil _ _, Nat.le_refl _, by simpa using hpos, q, rfl⟩
    unfold Lib.cutV
    rw [index_no t 10 h, if_neg (by omega)]
    rfl
  · have hlen : t.length = l.length + 1 + r.length := by rw [ht, List.length_append, List.length_cons]; omega
    have hix : Lib.index t [10] = (l.length : Int) := by rw [ht]; exact index_at l r 10 h
    have hl : t.take l.length = l := by rw [ht, List.take_left]
    have hr : t.drop (l.length + 1) = r := by
      rw [ht, ← List.drop_drop, List.drop_left]
      rfl
    have hC' := hC
    rw [← bI_length t] at hC'
    have hCl := Kd.C_take (m := l.length) hC' (by rw [bI_length]; omega)
    have hCr := Kd.C_drop (m := l.length + 1) (c := c) hC' (by rw [bI_length]; omega) (by rw [bI_length]; exact hc)
    rw [bI_take, hl, bI_length] at hCl
    rw [bI_drop, hr, bI_length, show (Kd.int .u8).sz = 1 from rfl, Nat.mul_one] at hCr
    refine ⟨l, r, _, c - (l.length + 1), true, ?_, by rw [ht]; exact dLines_cut l r h, hCl, by omega, hCr, by omega, by omega, q, rfl⟩
    unfold Lib.cutV Lib.fromV
    rw [hix, if_pos (Int.natCast_nonneg _), Int.toNat_natCast, show t.length - (l.length + 1) = r.length by omega]
/-- What a round keeps. -/
def KpS (Sy : World → Prop) (Bn : Nat) (W W' : World) : Prop := (Sy W → Sy W') ∧ W'.heap[Bn]? = W.heap[Bn]?
set_option maxRecDepth 100000 in
set_option maxHeartbeats 1000000 in
theorem lines_in2 (n : Nat) (hn : 1 ≤ n) (l Bn : Nat) (w0 : World) (A0 : Option Addr) (c0 : Nat) (s : List UInt8) (hs : s.length ≤ 100000) (hC0 : (Kd.int .u8).C w0 A0 s.length (bI s)) (hc0 : s.length ≤ c0) (J Jx : List LR → World → Prop) (hJ : AbidesBox Bn J) (Sy : World → Prop) (hSl : ∀ W, Sy W → LF W) (hSc : ∀ (W : World) (A : Option Addr) (t : List UInt8), Sy W → (Kd.int .u8).C w0 A t.length (bI t) → (Kd.int .u8).C W A t.length (bI t)) (hSb : ∀ W W', Sy W → Below W.heap.size W W' → Sy W') (hSs : ∀ (W : World) (v : Value), Sy W → Sy (W.setCell ⟨Bn, 0, none⟩ v))
    (hY : ∀ pre x W, J pre W → LOK w0 s (pre ++ [x]) → YieldAt Fence.wide (n - 1) Tryz.prog l x.enc W fun e W' =>
      (e = .returned (.bool true) ∧ J (pre ++ [x]) W' ∧ KpS Sy Bn W W') ∨ (e = .returned (.bool false) ∧ Jx (pre ++ [x]) W'))
    (W : World) (hBn : W.heap[Bn]? = some (.cells #[.slice A0 s.length c0] 46 (0, 0))) (hW : Sy W) (h0 : J [] W) :
    CallsIn Fence.wide n Tryz.prog 31 #[.func (.yield l) #[] #[], .pointer (some ⟨Bn, 0, none⟩)] W fun e W' => (∃ v, e = .returned v) ∧
      ((∃ ys, (ys.map (·.l) = dLines s ∧ LOK w0 s ys) ∧ J ys W') ∨ (∃ pre, LOK w0 s pre ∧ Jx pre W')) := by
  refine callsIn_of_wp Tryz.func31 rfl trivial ?_ rfl
  simp only [Tryz.ntmps31, List.size_toArray, List.length_cons, List.length_nil, Nat.reduceAdd, Nat.reduceSub, Array.replicate_succ, Array.replicate_zero, List.push_toArray, List.append_toArray, List.nil_append, List.cons_append]
  have HBN := Aside0.mk hBn
  have HSL := Aside0.mk hSl
  have HSC := Aside0.mk hSc
  have HSB := Aside0.mk hSb
  have HSS := Aside0.mk hSs
  have HS := Aside0.mk hs
  have H0 := Aside0.mk h0
  have HY := Aside0.mk hY
  have HJ := Aside0.mk hJ
  have HC0 := Aside0.mk hC0
  have HL0 := Aside0.mk hc0
  have HW := Aside0.mk hW
  clear hBn hSl hSc hSb hSs hs h0 hY hJ hC0 hc0 hW
  gi_wp2
  gi_loopw [3] (fun v wr => ∃ (pre : List LR) (t : List UInt8) (A : Option Addr) (c : Nat), v = .int .i64 ((pre.length : Int) + 1) ∧ Aside0 (t.length ≤ s.length ∧ pre.length + t.length ≤ s.length) ∧ Aside0 (dLines s = pre.map (·.l) ++ dLines t) ∧ Aside0 (LOK w0 s pre) ∧ Aside0 ((Kd.int .u8).C w0 A t.length (bI t)) ∧ t.length ≤ c ∧ Aside0 (wr.heap[Bn]? = some (.cells #[.slice A t.length c] 46 (0, 0))) ∧ Aside0 (Sy wr) ∧ Aside0 (J pre wr))
    (fun _ wr => boxLen Bn wr)
  case atStart => exact ⟨[], s, A0, c0, rfl, ⟨Nat.le_refl _, by simp⟩, ⟨rfl⟩, ⟨LOK.nil _ _⟩, HC0, HL0.out, HBN, HW, H0⟩
  case round =>
    clear HBN H0 HC0 HL0 HW
    obtain ⟨pre, t, A, c, rfl, HT, HQ, HOK, HC, hc, HBN, HW, HJJ⟩ := hrel
    have hcz := (blk_cell HBN.out 0).trans (show _ = some (Value.slice A t.length c) from rfl)
    have hf := blk_frozen HBN.out 0
    have hps : pre.length ≤ 100000 := by have := HT.out; have := HS.out; omega
    have hts : t.length ≤ 100000 := by have := HT.out; have := HS.out; omega
    by_cases hz : t = []
    · have hz1 : decide (0 < (t.length : Int)) = false := by rw [hz]; rfl
      have hz2 : decide (0 < t.length) = false := by rw [hz]; rfl
      have hz3 := Aside0.mk hz
      clear hz
      gi_wp2
      go_end0
      exact ⟨⟨_, rfl⟩, .inl ⟨pre, ⟨by rw [HQ.out, hz3.out, dLines_nil, List.append_nil], HOK.out⟩, HJJ.out⟩⟩
    · have hpos : 0 < t.length := List.length_pos_iff.2 hz
      have hz1 : decide (0 < (t.length : Int)) = true := decide_eq_true (by omega)
      have hz2 : decide (0 < t.length) = true := decide_eq_true hpos
      have HNE := Aside0.mk hz
      clear hz
      gi_wp2_with ((refine ⟨trivial, ?_⟩; gi_at_call 32; refine (callsIn_wide.2 (cut_calls2 A c wr.heap.size 1 t w0 _ (HSC.out _ A t (HSB.out _ _ HW.out (below_alloc (Below.refl _ _) _)) HC.out) HC.out hc HNE.out hts (HSL.out _ (HSB.out _ _ HW.out (below_alloc (Below.refl _ _) _))) (blk_new wr _))).mono ?_; rintro e w2 ⟨q, r, A2, c2, fl, rfl, hd, hCl, hlc, hCr, hrc, hrt, nd, rfl⟩; have HD := Aside0.mk hd; have HRT := Aside0.mk hrt; have HOKX := Aside0.mk (show LOK w0 s (pre ++ [⟨pre.length + 1, A, c, q⟩]) from HOK.out.snoc ⟨dLines r, by rw [HQ.out, HD.out]; simp⟩ ⟨hCl, hlc⟩ rfl); obtain ⟨fn, tmps, assign, body, hy, hR⟩ := HY.out pre ⟨pre.length + 1, A, c, q⟩ _ (HJ.out _ _ _ none (HJ.out _ _ _ none HJJ.out (World.grownBy_alloc wr (.cells #[.int .u8 10] 5) none) (fun r e => by cases e)) (grown_drewN (wr.alloc (.cells #[.int .u8 10] 5)) nd) (fun r e => by cases e)) HOKX.out; have HRR := Aside0.mk hR; replace hy : (Instr.yield l #[.int .i64 ((pre.length : Int) + 1), .slice A q.length c]).run Tryz.prog _ = _ := hy; have HRC := Aside0.mk hCr; clear hR hd hCr hCl hrt))
      refine HRR.out.mono ?_
      have HB2 := Aside0.mk (show Sy ((wr.alloc (.cells #[.int .u8 10] 5)).drewN nd) from HSB.out _ _ HW.out (pw_below_drewN (below_alloc (Below.refl _ _) _) nd))
      have HBN2 := Aside0.mk (show ((wr.alloc (.cells #[.int .u8 10] 5)).drewN nd).heap[Bn]? = some (.cells #[.slice A t.length c] 46 (0, 0)) from blk_drewN (blk_alloc HBN.out _) nd)
      rintro e W3 (⟨rfl, hJ3, hk3, hb3⟩ | ⟨rfl, hJx3⟩)
      · have HB3 := Aside0.mk (show W3.heap[Bn]? = some (.cells #[.slice A t.length c] 46 (0, 0)) from hb3.trans HBN2.out)
        have HW3 := Aside0.mk (hk3 HB2.out)
        have hc3 := (blk_cell HB3.out 0).trans (show _ = some (Value.slice A t.length c) from rfl)
        have hf3 := blk_frozen HB3.out 0
        have HJ3 := Aside0.mk hJ3
        clear hJ3 hk3 hb3
        gi_wp2
        go_roundw
        case rel => exact ⟨pre ++ [⟨pre.length + 1, A, c, q⟩], r, A2, c2, (by rw [List.length_append, List.length_singleton]; rfl), ⟨by have h1 := HRT.out; have h2 := HT.out; rw [List.length_append, List.length_singleton]; omega⟩, ⟨by rw [HQ.out, HD.out]; simp⟩, HOKX, HRC, hrc, ⟨blk_put HB3.out 0 _ rfl⟩, ⟨HSS.out _ _ HW3.out⟩, ⟨HJ.out _ _ _ (some Bn) HJ3.out (grown_set W3 Bn 0 _) (fun r e => by cases e; rfl)⟩⟩
        case measure => rw [boxLen_eq (blk_put HB3.out 0 _ rfl), boxLen_eq HBN.out]; exact HRT.out
      · gi_wp2
        refine bodyPost_ret (results_none rfl _ _ _) rfl ?_
        exact ⟨⟨_, rfl⟩, .inr ⟨pre ++ [⟨pre.length + 1, A, c, q⟩], HOKX.out, hJx3⟩⟩
/-- As in w0, but block gm; as in w below. -/
structure SY (w w0 : World) (gm : Nat) (W : World) : Prop where
  bw : Below w.heap.size w W
  sz : w0.heap.size ≤ W.heap.size
  blk : ∀ k, k < w0.heap.size → k ≠ gm → W.heap[k]? = w0.heap[k]?
theorem SY.below {w w0 W W' : World} {gm : Nat} (h : SY w w0 gm W) (hb : Below W.heap.size W W') : SY w w0 gm W' :=
  ⟨below_step h.bw hb, Nat.le_trans h.sz hb.size, fun k hk hne => (hb.block k (Nat.lt_of_lt_of_le hk h.sz)).trans (h.blk k hk hne)⟩
theorem SY.other {w w0 W W' : World} {gm g : Nat} (h : SY w w0 gm W) (hs : SameBut g W W') (hg : g = gm ∨ w0.heap.size ≤ g) (hl : w.heap.size ≤ g) : SY w w0 gm W' :=
  ⟨hs.below h.bw hl, Nat.le_trans h.sz (Nat.le_of_eq hs.size.symm), fun k hk hne => (hs.blk k (by rcases hg with rfl | hg; exact hne; omega)).trans (h.blk k hk hne)⟩
theorem SY.set {w w0 W : World} {gm Bn : Nat} (h : SY w w0 gm W) (hB : w0.heap.size ≤ Bn) (hw : w.heap.size ≤ Bn) (v : Value) : SY w w0 gm (W.setCell ⟨Bn, 0, none⟩ v) :=
  ⟨h.bw.trans (below_set_box hw v), by rw [show (W.setCell ⟨Bn, 0, none⟩ v).heap.size = W.heap.size by simp [World.setCell]]; exact h.sz, fun k hk hne => (Below.heap_setCell W ⟨Bn, 0, none⟩ v k (by show k ≠ Bn; omega)).trans (h.blk k hk hne)⟩
theorem SY.put {w w0 W : World} {gm l : Nat} (h : SY w w0 gm W) (hl : w0.heap.size ≤ l) (hw : w.heap.size ≤ l) (o : Obj) : SY w w0 gm (W.putObj l o) := by
  refine ⟨h.bw.grown (grownBy_putObj' W l o) h.bw.size (fun k e => by cases e; exact hw), Nat.le_trans h.sz (grownBy_putObj' W l o).size, fun k hk hne => (World.putObj_heap_other (by omega)).trans (h.blk k hk hne)⟩
theorem SY.C {w w0 W : World} {gm : Nat} {cs : Array Value} (h : SY w w0 gm W) (hm : w0.heap[gm]? = some (.cells cs 4 (0, 0))) (hcs : ∀ u ∈ cs, ∃ b, u = Value.bool b) {A : Option Addr} {t : List UInt8} (hC : (Kd.int .u8).C w0 A t.length (bI t)) : (Kd.int .u8).C W A t.length (bI t) := by
  obtain ⟨e, hl, hr⟩ := Kd.reads_of_C (enc := Value.int .u8) (d := (0 : Int)) (h1 := fun _ => rfl) hC
  refine Kd.C_of_reads (d := (0 : Int)) (h1 := fun _ => rfl) ⟨e, hl, fun hp => ?_⟩
  obtain ⟨ad, rfl, hc⟩ := hr hp
  refine ⟨ad, rfl, fun j hj => ?_⟩
  have h1 := hc j hj
  have hne : (ad.add j).block ≠ gm := by
    intro e
    have h2 := h1
    unfold World.cell? at h2
    rw [e, hm] at h2
    simp only at h2
    split at h2
    · cases h2
    · obtain ⟨b, hb⟩ := hcs _ (Array.mem_of_getElem? h2)
      cases hb
  have hlt : (ad.add j).block < w0.heap.size := World.block_lt_of_cell? w0 _ h1
  unfold World.cell? at h1 ⊢
  rw [h.blk _ hlt hne]
  exact h1
end Go.Proofs.YtigloobbpcnnhaaGreatDoor.PB
end
section
namespace Go.Proofs.YtigloobbpcnnhaaGreatDoor.PB
open Go.RowKit Go.Shelf Go.Proofs.YtigloobbpcnnhaaGreatDoorW.PrintWords Go.Proofs.YtigloobbpcnnhaaGreatDoorW.PrintLast Go.Proofs.YtigloobbpcnnhaaGreatDoorW.PrintMore
set_option linter.unusedVariables false
set_option linter.unusedSimpArgs false
attribute [local go_sem] Oper.semAt_some
theorem nsz33 : (Tryz.prog.info? 23).map (·.size) = some 1 := by kernel_rfl
theorem info4 : (Tryz.prog.info? 4).map (fun i => (i.zero, i.size, i.bytes)) = some (some (.bool false), 1, 1) := by kernel_rfl
section
variable {n l : Nat} {ops ops0 : Array Oper} {rest : List Oper} {o : Oper} {a : Act} {W : World} {Q : Exit → Act → World → Prop} {F : Fence}
def boolsA (m : List Bool) : Array Value := (m.map Value.bool).toArray
theorem made_bools (k : Nat) : madeCells #[.bool false] k = boolsA (List.replicate k false) := by
  unfold madeCells boolsA
  apply Array.ext'
  simp only [Array.toList_map, Array.toList_range, List.map_replicate]
  apply List.ext_getElem
  · simp
  · intro i h1 h2
    have : i % 1 = 0 := Nat.mod_one i
    simp [this]
theorem make_in (hF : WF F) (hgd : o.guard = none) (t : TypeId) (x : Operand) (ho : o.op = .makeSlice t x x) (ht : Tryz.prog.underlying t = some (.slice 4)) (k : Nat) (hk : k ≤ 2000000) (hx : a.eval x = .int .i64 (k : Int))
    (h : ∀ g w1, g = W.heap.size → w1.heap[g]? = some (.cells (boolsA (List.replicate k false)) 4 (0, 0)) → Below W.heap.size W w1 → wpListIn F n Tryz.prog ops Q rest (a.put o.dst (.slice (some ⟨g, 0, none⟩) k k)) w1) : wpListIn F n Tryz.prog ops Q (o :: rest) a W := by
  have hrun : (execOp a.eval o).run Tryz.prog W = .ok (.value (.slice (some ⟨W.heap.size, 0, none⟩) k k)) (W.alloc (.cells (boolsA (List.replicate k false)) 4)) := by
    unfold execOp
    have hm := print_make_of (P := Tryz.prog) t 4 (.bool false) 1 ht info4 rfl (by omega) k (by omega) W
    rw [made_bools] at hm
    simp only [ho, hx]
    simp [hm, Sem.run_bind, Sem.run_pure, Result.andThen]
  exact list_in hF (ops0 := #[]) hgd (by intro c hc; rw [ho] at hc; cases hc) (φ := fun a' w' => a' = a.put o.dst (.slice (some ⟨W.heap.size, 0, none⟩) k k) ∧ w' = W.alloc (.cells (boolsA (List.replicate k false)) 4)) (Kd.event_run hgd hrun ⟨rfl, rfl, rfl⟩) (by rintro a' w' ⟨rfl, rfl⟩; exact h _ _ rfl (blk_new W _) (below_alloc (Below.refl _ _) _))
theorem text_in (hF : WF F) (src dst : TypeId) {u : TypeDesc} (x : Operand) (ho : o.op = .convert src dst x) (hgd : o.guard = none) (l : List UInt8) (hx : a.eval x = .string (baOf l)) (hs : Tryz.prog.underlying src = some u) (hd : Tryz.prog.underlying dst = some (.slice 5)) (he : Tryz.prog.underlying 5 = some (.int .u8)) (hl : l.length ≤ 9223372036854775807)
    (h : ∀ g c w1, (Kd.int .u8).C w1 (some ⟨g, 0, none⟩) l.length (bI l) → l.length ≤ c → Below W.heap.size W w1 → wpListIn F n Tryz.prog ops Q rest (a.put o.dst (.slice (some ⟨g, 0, none⟩) l.length c)) w1) : wpListIn F n Tryz.prog ops Q (o :: rest) a W :=
  list_in hF (ops0 := #[]) hgd (by intro c hc; rw [ho] at hc; cases hc) (φ := fun a' w' => ∃ g c, a' = a.put o.dst (.slice (some ⟨g, 0, none⟩) l.length c) ∧ (Kd.int .u8).C w' (some ⟨g, 0, none⟩) l.length (bI l) ∧ l.length ≤ c ∧ Below W.heap.size W w') (text_event src dst x ho hgd l hx hs hd he hl (fun g c w1 h1 h2 h3 => ⟨rfl, g, c, rfl, h1, h2, h3⟩)) (by rintro a' w' ⟨g, c, rfl, h1, h2, h3⟩; exact h g c w' h1 h2 h3)
end
/-- Everything but block gm stays. -/
structure GB (gm : Nat) (A C : World) : Prop where
  sz : A.heap.size ≤ C.heap.size
  blk : ∀ k, k < A.heap.size → k ≠ gm → C.heap[k]? = A.heap[k]?
theorem GB.refl (gm : Nat) (A : World) : GB gm A A := ⟨Nat.le_refl _, fun _ _ _ => rfl⟩
theorem GB.below {gm : Nat} {A B C : World} (h : GB gm A B) (hb : Below B.heap.size B C) : GB gm A C := ⟨Nat.le_trans h.sz hb.size, fun k hk hne => (hb.block k (Nat.lt_of_lt_of_le hk h.sz)).trans (h.blk k hk hne)⟩
theorem GB.same {gm : Nat} {A B C : World} (h : GB gm A B) (hs : SameBut gm B C) : GB gm A C := ⟨Nat.le_trans h.sz (Nat.le_of_eq hs.size.symm), fun k hk hne => (hs.blk k hne).trans (h.blk k hk hne)⟩
theorem GB.keeps {gm B : Nat} {A C : World} {cs : Array Value} {t : TypeId} (h : GB gm A C) (hg : A.heap[gm]? = some (.cells cs t (0, 0))) : KeepsFrom B A C :=
  ⟨h.sz, fun k o _ hk ho => by
    by_cases e : k = gm
    · subst e; rw [hg] at hk; cases hk; cases ho
    · exact (h.blk k (Array.getElem?_eq_some_iff.1 hk).1 e).trans hk⟩
theorem gb_R {gm : Nat} {w w' : World} {base : Nat} {v : Value} {xs : List ByteArray} {cs : Array Value} (h : Kd.string.R 9 w base (fun _ => True) v xs) (hg : w.heap[gm]? = some (.cells cs 4 (0, 0))) (hk : GB gm w w') : Kd.string.R 9 w' base (fun _ => True) v xs :=
  Kd.R_mono (Kd.R_step (Kd.R_bound h) (fun k hk2 _ => by
    obtain ⟨_, _, hlt, q, hq, cells, hc⟩ := hk2
    simp only [Kd.string, Kd.scalar, List.mem_cons, List.not_mem_nil, or_false] at hq
    subst hq
    refine hk.blk k hlt (fun e => ?_)
    subst e
    rw [hg] at hc
    cases hc)) (fun _ _ => trivial)
/-- The marks of the lines that have come. -/
abbrev mOf (vars : Int) (k : Nat) (pre : List LR) : List Bool := ((pre.map (·.l)).flatMap dWords).foldl (dMark vars) (List.replicate k false)
theorem dMark_len (vars : Int) : ∀ (ws : List (List UInt8)) (m : List Bool), (ws.foldl (dMark vars) m).length = m.length := by
  intro ws
  induction ws with
  | nil => intro m; rfl
  | cons x ws ih =>
    intro m
    rw [List.foldl_cons, ih]
    unfold dMark
    split <;> simp
theorem mOf_len (vars : Int) (k : Nat) (pre : List LR) : (mOf vars k pre).length = k := by rw [dMark_len]; simp
theorem mOf_snoc (vars : Int) (k : Nat) (pre : List LR) (x : LR) : mOf vars k (pre ++ [x]) = (dWords x.l).foldl (dMark vars) (mOf vars k pre) := by
  unfold mOf
  rw [List.map_append, List.flatMap_append, List.foldl_append]
  simp
/-- Between two rounds. -/
structure MI (w w0 : World) (vars : Int) (kv gm Bn : Nat) (pre : List LR) (W : World) : Prop where
  sy : SY w w0 gm W
  bn : Bn < W.heap.size
  rm : W.heap[gm]? = some (.cells (boolsA (mOf vars kv pre)) 4 (0, 0))
theorem MI.own {w w0 : World} {vars : Int} {kv gm Bn B : Nat} (hg : gm < w0.heap.size) (hB : w0.heap.size ≤ Bn) (hB2 : w0.heap.size ≤ B) (hw : w.heap.size ≤ w0.heap.size) : OwnBox B Bn (MI w w0 vars kv gm Bn) := by
  intro pre W W' row h hgr hr
  refine ⟨⟨h.sy.bw.grown hgr h.sy.bw.size (fun k e => ?_), Nat.le_trans h.sy.sz hgr.size, fun k hk hne => (hgr.block k (Nat.lt_of_lt_of_le hk h.sy.sz) (fun e => ?_)).trans (h.sy.blk k hk hne)⟩, Nat.lt_of_lt_of_le h.bn hgr.size, blk_row hgr hr h.rm (by omega)⟩
  · rcases hr k e with e2 | ⟨e2, _⟩ <;> omega
  · rcases hr k e.symm with e2 | ⟨e2, _⟩ <;> omega
theorem dNum_le (x : List UInt8) (top : Int) (h0 : 0 ≤ top) (h : (dNum x true top).2.2 = true) : (dNum x true top).1 ≤ top := by
  rw [dNum_eq] at h ⊢
  split at h
  · cases h
  · rename_i h1
    rw [if_neg h1]
    split at h
    · cases h
    · rename_i h2
      rw [if_neg h2]
      simp only
      split <;> omega
theorem bools_set (m : List Bool) (q : Nat) : (boolsA m).setIfInBounds q (.bool true) = boolsA (m.set q true) := by
  unfold boolsA
  apply Array.ext'
  simp [List.map_set]
theorem boolsA_size (m : List Bool) : (boolsA m).size = m.length := by simp [boolsA]
set_option maxRecDepth 100000 in
set_option maxHeartbeats 2000000 in
theorem model_calls (s : List UInt8) (vars : Int) (w : World) (hs : s.length ≤ 100000) (hv : -9223372036854775808 ≤ vars ∧ vars ≤ 9223372036854775807) (hlt : LT w.heap.size w) :
    Calls Tryz.prog 5 #[.string (baOf s), .int .i64 vars] w fun e w' => ∃ A c, e = .returned (.tuple #[.slice A (dModel s vars).1.length c, .int .i64 (dModel s vars).2]) ∧ Kd.bool.C w' A (dModel s vars).1.length (dModel s vars).1 ∧ (dModel s vars).1.length ≤ c ∧ Below w.heap.size w w' := by
  have HLT := Aside0.mk hlt
  have HS := Aside0.mk hs
  obtain ⟨sB, hsB⟩ : ∃ sB, sB = baOf s := ⟨_, rfl⟩
  have HSB := Aside0.mk hsB
  rw [← hsB]
  clear hlt hs hsB
  by_cases hz : vars < 0 ∨ 1048576 < vars
  · have hd : dModel s vars = ([], 2) := by unfold dModel; rw [if_pos hz]
    have HD := Aside0.mk hd
    clear hd
    by_cases h1 : vars < 0
    · have t1 : decide (vars < 0) = true := decide_eq_true h1
      go_enter Tryz.func5, Tryz.ntmps5
      go_wp2_with fail
      go_ret2
      rw [HD.out]
      exact ⟨none, 0, rfl, Kd.C_nil _ _, Nat.le_refl _, below_alloc (Below.refl _ _) _⟩
    · have t1 : decide (vars < 0) = false := decide_eq_false h1
      have t2 : decide (1048576 < vars) = true := decide_eq_true (by omega)
      go_enter Tryz.func5, Tryz.ntmps5
      go_wp2_with fail
      go_ret2
      rw [HD.out]
      exact ⟨none, 0, rfl, Kd.C_nil _ _, Nat.le_refl _, below_alloc (Below.refl _ _) _⟩
  have t1 : decide (vars < 0) = false := decide_eq_false (by omega)
  have t2 : decide (1048576 < vars) = false := decide_eq_false (by omega)
  obtain ⟨kv, rfl⟩ : ∃ kv : Nat, vars = (kv : Int) := ⟨vars.toNat, by omega⟩
  have HKV := Aside0.mk (show kv ≤ 1048576 by omega)
  have HZ := Aside0.mk hz
  clear hz
  obtain ⟨W1, hW1⟩ : ∃ W1, W1 = w.alloc (.cells #[.int .i64 (kv : Int)] 3) := ⟨_, rfl⟩
  obtain ⟨g3, hg3⟩ : ∃ g3, g3 = w.heap.size := ⟨_, rfl⟩
  have HG3 := Aside0.mk (show W1.heap[g3]? = some (.cells #[.int .i64 (kv : Int)] 3 (0, 0)) by rw [hW1, hg3]; exact blk_new w _)
  have HB3 := Aside0.mk (show Below w.heap.size w W1 by rw [hW1]; exact below_alloc (Below.refl _ _) _)
  have HL3 := Aside0.mk (show w.heap.size ≤ g3 by rw [hg3]; exact Nat.le_refl _)
  refine (callsIn_wide (n := 5)).1 ?_
  refine callsIn_of_wp_marks Tryz.func5 rfl trivial ?_ rfl
  simp only [Tryz.ntmps5, List.size_toArray, List.length_cons, List.length_nil, Nat.reduceAdd, Nat.reduceSub, Array.replicate_succ, Array.replicate_zero, List.push_toArray, List.append_toArray, List.nil_append, List.cons_append]
  gi_wp2_with (first | ((with_reducible refine gin_dst (N := 21) rfl ?_); rw [← hW1, ← hg3]; refine make_in (.inl rfl) rfl 23 (.tmp 20) rfl Tryz.underlying23 kv (by have := HKV.out; omega) rfl ?_; intro gm Wm hgb hbox hb; have HGM := Aside0.mk hbox; have HBM := Aside0.mk (below_step HB3.out hb); have HG3m := Aside0.mk (blk_below HG3.out hb); have HLM := Aside0.mk (show w.heap.size ≤ gm by rw [hgb]; exact HB3.out.size); have hcz3 := (blk_cell HG3m.out 0).trans (show _ = some (Value.int .i64 (kv : Int)) from rfl); clear hbox hb hgb HG3 hW1 hg3) | ((with_reducible refine gin_dst (N := 6) rfl ?_); refine box_in (.inl rfl) ?hg (by intro c hc; cases hc) (N := 6) ?hd (cs := #[.slice none 0 0]) (t := 23) ?hr ?_; (case hd => rfl); (case hg => rfl); (case hr => first | (go_simp; done) | (go_simp; rfl)); intro g6 hgb Wg6 hbox hb; have HG6 := Aside0.mk hbox; have HB6 := Aside0.mk (below_step HBM.out hb); have HGM6 := Aside0.mk (blk_below HGM.out hb); have HG36 := Aside0.mk (blk_below HG3m.out hb); have HL6 := Aside0.mk (show w.heap.size ≤ g6 by rw [hgb]; exact HBM.out.size); have HNE := Aside0.mk (blk_ne HGM6.out hbox (by decide)); clear hcz3 hbox hb hgb HGM HG3m) | ((with_reducible refine gin_store (t := 23) (p := 6) rfl ?_); refine store_one_in (.inl rfl) 23 6 (.tmp 21) rfl rfl rfl (.slice (some ⟨gm, 0, none⟩) kv kv) #[.slice (some ⟨gm, 0, none⟩) kv kv] rfl rfl HG6.out rfl nsz33 (show 0 + 1 ≤ 1 by omega) rfl rfl ?_; intro W6 hw hsb; have HG6s := Aside0.mk hw; have HGMs := Aside0.mk (hsb.other HGM6.out HNE.out); have HG3s := Aside0.mk (hsb.other HG36.out (blk_ne HG36.out HG6.out (by decide))); have HB6s := Aside0.mk (hsb.below HB6.out HL6.out); clear hw hsb HG6 HGM6 HG36) | ((with_reducible refine gin_dst (N := 23) rfl ?_); refine text_in (.inl rfl) 9 46 (.tmp 22) rfl rfl s ?hx Tryz.underlying9 Tryz.underlying46 Tryz.underlying5 (by have := HS.out; omega) ?_; (case hx => rw [← HSB.out]; rfl); intro gb cb w0 hC1 hc1 hb; have HC := Aside0.mk hC1; have HCC := Aside0.mk hc1; have HB0 := Aside0.mk (below_step HB6s.out hb); have HG6t := Aside0.mk (blk_below HG6s.out hb); have HGMt := Aside0.mk (blk_below HGMs.out hb); have HG3t := Aside0.mk (blk_below HG3s.out hb); clear hC1 hc1 hb HG6s HGMs HG3s) | (refine ⟨trivial, ?_⟩; gi_at_call 14; refine (callsIn_wide.2 (lines_calls (some ⟨gb, 0, none⟩) s.length cb w0)).mono ?_; rintro e W0 ⟨Bn, hBnS, rfl, hBn, hb⟩; have HBN := Aside0.mk hBn; have HBNL := Aside0.mk (show w0.heap.size ≤ Bn by rw [hBnS]; exact Nat.le_refl _); have HBW := Aside0.mk hb; clear hBn hb hBnS))
  have HRV := Aside0.mk (show ∀ W, SY w w0 gm W → LF W from fun W h => (HLT.out.on h.bw).here)
  refine wpIn_range_box rfl (by omega) (gf := 31) (lb := #[.pointer (some ⟨Bn, 0, none⟩)]) rfl trivial (enters_of Tryz.func31 (by kernel_rfl) rfl)
    (encs := LR.enc) (Kp := KpS (SY w w0 gm) Bn) (S := fun ys => ys.map (·.l) = dLines s ∧ LOK w0 s ys) (Sp := fun pre => LOK w0 s pre) (Bn := Bn) (blk_lt HBN.out) ?seq (fun h k => ⟨fun e => k.1 (h.1 e), k.2.trans h.2⟩) ?kb (fun _ => rfl)
    (MI w w0 (kv : Int) kv gm Bn) (fun c pre W => False) (MI.own (blk_lt HGMt.out) HBNL.out HBW.out.size HB0.out.size) (fun c s A B row h hg hr => h.elim) ?start
    (fun x => { tmps := #[.string sB, .int .i64 (kv : Int), undef, .pointer (some ⟨g3, 0, none⟩), .slice none 0 0, .int .i64 0, .pointer (some ⟨g6, 0, none⟩), undef, .slice x.A x.l.length x.c, undef, undef, undef, undef, undef, .int .i64 (kv : Int), .bool false, .bool false, .int .i64 (kv : Int), .bool false, .bool false, .int .i64 (kv : Int), .slice (some ⟨gm, 0, none⟩) kv kv, .string sB, .slice (some ⟨gb, 0, none⟩) s.length cb, .func (.func 31) #[] #[.pointer (some ⟨Bn, 0, none⟩)], .int .i64 (x.n : Int), .slice x.A x.l.length x.c, undef, undef, undef, undef, undef, undef, undef, undef, undef, undef, undef, undef, undef, undef, undef, undef, undef, undef, undef, undef, undef, undef, undef, undef, undef, undef, undef, undef, undef, undef, undef, undef], defers := [] }) ?assign ?body ?done ?stop
  case start =>
    exact ⟨⟨below_step HB0.out HBW.out, HBW.out.size, fun k hk _ => HBW.out.block k hk⟩, blk_lt HBN.out, blk_below HGMt.out HBW.out⟩
  case stop =>
    rintro D c0 pre W hD hok h hK
    exact h.elim
  case assign =>
    rintro l ⟨xn, xA, xc, xl⟩ W K hK
    simp only [LR.enc]
    gi_wp2
    exact hK
  case kb =>
    intro W l o o' hl hW _ _
    refine ⟨fun h => h.put (by have := HBW.out.size; omega) (by have := HBW.out.size; have := HB0.out.size; omega) o', World.putObj_heap_other ?_⟩
    have := blk_lt HBN.out
    omega
  case seq =>
    intro l J Jx W hb hJ hJx hY h0
    have hsy : SY w w0 gm W := (show SY w w0 gm W0 from ⟨below_step HB0.out HBW.out, HBW.out.size, fun k hk _ => HBW.out.block k hk⟩).below hb
    exact lines_in2 4 (by omega) l Bn w0 (some ⟨gb, 0, none⟩) cb s HS.out HC.out HCC.out J Jx hJ (SY w w0 gm) HRV.out (fun W A t h hC => h.C HGMt.out (by
      intro u hu
      have : u ∈ (List.replicate kv false).map Value.bool := by simpa [boolsA] using hu
      obtain ⟨b, _, rfl⟩ := List.mem_map.1 this
      exact ⟨b, rfl⟩) hC) (fun W W' h hb => h.below hb) (fun W v h => h.set HBNL.out (by have := HBNL.out; have := HB0.out.size; omega) v) hY W ((hb.block Bn (blk_lt HBN.out)).trans HBN.out) hsy h0
  case body =>
    rintro l pre ⟨xn, xA, xc, xl⟩ W hI hok
    have HI := Aside0.mk hI
    have hxl : xl ∈ dLines s := hok.px.subset (List.mem_map.2 ⟨⟨xn, xA, xc, xl⟩, List.mem_append_right _ (List.mem_singleton.2 rfl), rfl⟩)
    have hxs : xl.length ≤ 100000 := Nat.le_trans (dLines_mem s xl hxl) HS.out
    have hat := hok.at_ ⟨xn, xA, xc, xl⟩ (List.mem_append_right _ (List.mem_singleton.2 rfl))
    have HCX := Aside0.mk (show (Kd.int .u8).C W xA xl.length (bI xl) from hI.sy.C HGMt.out (by
      intro u hu
      have : u ∈ (List.replicate kv false).map Value.bool := by simpa [boolsA] using hu
      obtain ⟨b, _, rfl⟩ := List.mem_map.1 this
      exact ⟨b, rfl⟩) hat.1)
    have hxc : xl.length ≤ xc := hat.2
    obtain ⟨m0, hm0⟩ : ∃ m0, m0 = mOf (kv : Int) kv pre := ⟨_, rfl⟩
    have HM0L := Aside0.mk (show m0.length = kv by rw [hm0]; exact mOf_len _ _ _)
    have HMS := Aside0.mk (show mOf (kv : Int) kv (pre ++ [⟨xn, xA, xc, xl⟩]) = (dWords xl).foldl (dMark (kv : Int)) m0 by rw [hm0, mOf_snoc])
    have HM0 := Aside0.mk (show W.heap[gm]? = some (.cells (boolsA m0) 4 (0, 0)) by rw [hm0]; exact hI.rm)
    obtain ⟨ws, hws⟩ : ∃ ws, ws = dWords xl := ⟨_, rfl⟩
    have HWS := Aside0.mk hws
    have hwl : ws.length ≤ 100000 := by rw [hws]; exact Nat.le_trans (dWords_len xl) hxs
    have HWM := Aside0.mk (show ∀ x ∈ ws, x.length ≤ 100000 by rw [hws]; exact fun x hx => Nat.le_trans (dWords_mem xl x hx).2 hxs)
    have HX6 := Aside0.mk (blk_lt HG6t.out)
    have HX3 := Aside0.mk (blk_lt HG3t.out)
    have HN6 := Aside0.mk (blk_ne HG6t.out HGMt.out (by decide))
    have HN3 := Aside0.mk (blk_ne HG3t.out HGMt.out (by decide))
    clear hI hok hxl hat hm0 hws
    gi_wp2_with ((refine ⟨trivial, ?_⟩; gi_at_call 15; refine (CallsIn.inRound l (callsIn_wide.2 (words_calls xA xc xl W HCX.out hxc hxs))).mono ?_; rw [← HWS.out]; rintro e W1 ⟨v, rfl, hR, hb⟩; obtain ⟨Aw, cw, ev⟩ := Kd.R_slice hR; rw [List.length_map] at ev; subst ev; have HR := Aside0.mk hR; have HB1 := Aside0.mk hb; have HS1 := Aside0.mk (HI.out.sy.below hb); have HM1 := Aside0.mk (blk_below HM0.out hb); clear hR hb))
    gi_loopw [30] (fun v30 wr => ∃ (j : Nat), v30 = .int .i64 (j : Int) ∧ j ≤ ws.length ∧ Aside0 (SY w w0 gm wr) ∧ Aside0 (wr.heap[gm]? = some (.cells (boolsA ((ws.take j).foldl (dMark (kv : Int)) m0)) 4 (0, 0))) ∧ Aside0 (GB gm W1 wr)) (fun v _ => ws.length - (intOf v).toNat)
    case atStart => exact ⟨0, rfl, Nat.zero_le _, HS1, ⟨by rw [List.take_zero]; exact HM1.out⟩, ⟨GB.refl _ _⟩⟩
    case round =>
      obtain ⟨j, rfl, hj, HSJ, HMJ, HKJ⟩ := hrel
      by_cases hlt : j < ws.length
      · have t5 : decide ((j : Int) < (ws.length : Int)) = true := decide_eq_true (by omega)
        have t6 : decide (j < ws.length) = true := decide_eq_true hlt
        obtain ⟨x, hx⟩ : ∃ x, x = ws[j] := ⟨_, rfl⟩
        have HXZ := Aside0.mk (show x.length ≤ 100000 from HWM.out x (by rw [hx]; exact List.getElem_mem hlt))
        have HRJ := Aside0.mk (gb_R HR.out HM1.out HKJ.out)
        obtain ⟨aw, e1, hxw⟩ := Kd.at_string (Kd.R_reads' HRJ.out).2.2 (j : Int) (by omega) (by rw [List.length_map]; omega)
        cases e1
        rw [Int.toNat_natCast, show rdOf ByteArray.empty (ws.map baOf) (j : Int) = baOf x by
          unfold rdOf
          rw [Int.toNat_natCast, List.getD_eq_getElem?_getD, List.getElem?_map, List.getElem?_eq_getElem hlt, hx]
          rfl] at hxw
        have hc3 := (blk_cell ((HSJ.out.blk g3 HX3.out HN3.out).trans HG3t.out) 0).trans (show _ = some (Value.int .i64 (kv : Int)) from rfl)
        have hc6 := (blk_cell ((HSJ.out.blk g6 HX6.out HN6.out).trans HG6t.out) 0).trans (show _ = some (Value.slice (some ⟨gm, 0, none⟩) kv kv) from rfl)
        have hji : (0 : Int) ≤ (j : Int) := Int.natCast_nonneg _
        have hjl : (j : Int) < (ws.length : Int) := by omega
        have hj1 : (j : Int) + 1 ≤ 100000 := by omega
        obtain ⟨mj, hmj⟩ : ∃ mj, mj = (ws.take j).foldl (dMark (kv : Int)) m0 := ⟨_, rfl⟩
        have HMLEN := Aside0.mk (show mj.length = kv by rw [hmj, dMark_len]; exact HM0L.out)
        have hms : (ws.take (j + 1)).foldl (dMark (kv : Int)) m0 = dMark (kv : Int) mj x := by
          rw [List.take_succ_eq_append_getElem hlt, List.foldl_append, ← hmj, ← hx]
          rfl
        rw [← hmj] at HMJ
        obtain ⟨nv, b1, b2, hn⟩ : ∃ nv b1 b2, dNum x true (kv : Int) = (nv, b1, b2) := ⟨_, _, _, rfl⟩
        have HN := Aside0.mk hn
        have hle := dNum_le x (kv : Int) (Int.natCast_nonneg _)
        rw [hn] at hle
        have hdm : dMark (kv : Int) mj x = if b1 = true ∧ b2 = true ∧ 0 < nv then mj.set (nv - 1).toNat true else mj := by unfold dMark; rw [hn]
        rw [hdm] at hms
        simp only at hle
        clear hdm
        clear hmj hn hx
        by_cases hgo : b1 = true ∧ b2 = true ∧ 0 < nv
        · obtain ⟨rfl, rfl, hnp⟩ := hgo
          rw [if_pos ⟨rfl, rfl, hnp⟩] at hms
          obtain ⟨q, rfl⟩ : ∃ q : Nat, nv = (q : Int) + 1 := ⟨(nv - 1).toNat, by omega⟩
          have hqk := hle rfl
          have HQK := Aside0.mk (show q + 1 ≤ kv by omega)
          rw [show ((q : Int) + 1 - 1).toNat = q by omega] at hms
          have HMK := Aside0.mk hms
          have t7 : decide (0 < (q : Int) + 1) = true := decide_eq_true (by omega)
          have hq0 : (0 : Int) ≤ (q : Int) := Int.natCast_nonneg _
          have hq1 : (q : Int) < (kv : Int) := by omega
          have hq2 : (q : Int) + 1 ≤ 1048576 := by have := HKV.out; omega
          clear hms hle hnp
          gi_wp2_with (first | (refine ⟨trivial, ?_⟩; gi_at_call 16; have hp := number_calls (baOf x) true (kv : Int) (Int.natCast_nonneg _) (by have := HKV.out; omega) (show x.length ≤ 100000 by exact HXZ.out) wr ((HLT.out.on HSJ.out.bw).up HSJ.out.bw.size); rw [baOf_data, HN.out] at hp; refine (CallsIn.inRound l (callsIn_wide.2 hp)).mono ?_; clear hp; rintro e2 W2 ⟨rfl, hb⟩; have HS2 := Aside0.mk (HSJ.out.below hb); have HM2 := Aside0.mk (blk_below HMJ.out hb); have HK2 := Aside0.mk (HKJ.out.below hb); clear hc3 hc6; have hc6 := (blk_cell ((HS2.out.blk g6 HX6.out HN6.out).trans HG6t.out) 0).trans (show _ = some (Value.slice (some ⟨gm, 0, none⟩) kv kv) from rfl); clear hb hxw) | ((with_reducible refine gin_store (t := 4) (p := 52) rfl ?_); refine store_one_in (.inr ⟨l, rfl⟩) 4 52 (.const (.bool true)) rfl rfl rfl (off := q) (.bool true) (boolsA (mj.set q true)) rfl rfl HM2.out rfl nsz4 (show q + 1 ≤ (boolsA mj).size by rw [boolsA_size, HMLEN.out]; exact HQK.out) rfl (bools_set mj q) ?_; intro V2 hw hsb; have HV2 := Aside0.mk hw; have HSV2 := Aside0.mk hsb; clear hw hsb))
          go_roundw
          case rel => exact ⟨j + 1, by go_num, by omega, ⟨HS2.out.other HSV2.out (.inl rfl) HLM.out⟩, ⟨by rw [HMK.out]; exact HV2.out⟩, ⟨HK2.out.same HSV2.out⟩⟩
          case measure => simp [intOf]; omega
        · rw [if_neg hgo] at hms
          have HMK := Aside0.mk hms
          clear hms hle
          rcases b1 with _ | _
          · gi_wp2_with (refine ⟨trivial, ?_⟩; gi_at_call 16; have hp := number_calls (baOf x) true (kv : Int) (Int.natCast_nonneg _) (by have := HKV.out; omega) (show x.length ≤ 100000 by exact HXZ.out) wr ((HLT.out.on HSJ.out.bw).up HSJ.out.bw.size); rw [baOf_data, HN.out] at hp; refine (CallsIn.inRound l (callsIn_wide.2 hp)).mono ?_; clear hp; rintro e2 W2 ⟨rfl, hb⟩; have HS2 := Aside0.mk (HSJ.out.below hb); have HM2 := Aside0.mk (blk_below HMJ.out hb); have HK2 := Aside0.mk (HKJ.out.below hb); clear hc3 hc6; have hc6 := (blk_cell ((HS2.out.blk g6 HX6.out HN6.out).trans HG6t.out) 0).trans (show _ = some (Value.slice (some ⟨gm, 0, none⟩) kv kv) from rfl); clear hb hxw)
            go_roundw
            case rel => exact ⟨j + 1, by go_num, by omega, HS2, ⟨by rw [HMK.out]; exact HM2.out⟩, HK2⟩
            case measure => simp [intOf]; omega
          · rcases b2 with _ | _
            · gi_wp2_with (refine ⟨trivial, ?_⟩; gi_at_call 16; have hp := number_calls (baOf x) true (kv : Int) (Int.natCast_nonneg _) (by have := HKV.out; omega) (show x.length ≤ 100000 by exact HXZ.out) wr ((HLT.out.on HSJ.out.bw).up HSJ.out.bw.size); rw [baOf_data, HN.out] at hp; refine (CallsIn.inRound l (callsIn_wide.2 hp)).mono ?_; clear hp; rintro e2 W2 ⟨rfl, hb⟩; have HS2 := Aside0.mk (HSJ.out.below hb); have HM2 := Aside0.mk (blk_below HMJ.out hb); have HK2 := Aside0.mk (HKJ.out.below hb); clear hc3 hc6; have hc6 := (blk_cell ((HS2.out.blk g6 HX6.out HN6.out).trans HG6t.out) 0).trans (show _ = some (Value.slice (some ⟨gm, 0, none⟩) kv kv) from rfl); clear hb hxw)
              go_roundw
              case rel => exact ⟨j + 1, by go_num, by omega, HS2, ⟨by rw [HMK.out]; exact HM2.out⟩, HK2⟩
              case measure => simp [intOf]; omega
            · have t7 : decide (0 < nv) = false := decide_eq_false (fun h => hgo ⟨rfl, rfl, h⟩)
              clear hgo
              gi_wp2_with (refine ⟨trivial, ?_⟩; gi_at_call 16; have hp := number_calls (baOf x) true (kv : Int) (Int.natCast_nonneg _) (by have := HKV.out; omega) (show x.length ≤ 100000 by exact HXZ.out) wr ((HLT.out.on HSJ.out.bw).up HSJ.out.bw.size); rw [baOf_data, HN.out] at hp; refine (CallsIn.inRound l (callsIn_wide.2 hp)).mono ?_; clear hp; rintro e2 W2 ⟨rfl, hb⟩; have HS2 := Aside0.mk (HSJ.out.below hb); have HM2 := Aside0.mk (blk_below HMJ.out hb); have HK2 := Aside0.mk (HKJ.out.below hb); clear hc3 hc6; have hc6 := (blk_cell ((HS2.out.blk g6 HX6.out HN6.out).trans HG6t.out) 0).trans (show _ = some (Value.slice (some ⟨gm, 0, none⟩) kv kv) from rfl); clear hb hxw)
              go_roundw
              case rel => exact ⟨j + 1, by go_num, by omega, HS2, ⟨by rw [HMK.out]; exact HM2.out⟩, HK2⟩
              case measure => simp [intOf]; omega
      · have t5 : decide ((j : Int) < (ws.length : Int)) = false := decide_eq_false (by omega)
        have t6 : decide (j < ws.length) = false := decide_eq_false hlt
        obtain rfl : j = ws.length := by omega
        gi_wp2
        have hgw : GB gm W wr := ⟨Nat.le_trans HB1.out.size HKJ.out.sz, fun k hk hne => (HKJ.out.blk k (Nat.lt_of_lt_of_le hk HB1.out.size) hne).trans (HB1.out.block k hk)⟩
        refine ⟨hgw.keeps HM0.out, ⟨fun _ => HSJ.out, hgw.blk Bn HI.out.bn (by have := HBNL.out; have := blk_lt HGMt.out; omega)⟩, HSJ.out, Nat.lt_of_lt_of_le HI.out.bn hgw.sz, ?_⟩
        have h := HMJ.out
        rw [List.take_length] at h
        rw [HMS.out, ← HWS.out]
        exact h
  case done =>
    rintro D xs W hD ⟨hxs1, hok⟩ hI hK
    obtain ⟨m, hm⟩ : ∃ m, m = mOf (kv : Int) kv xs := ⟨_, rfl⟩
    have HML := Aside0.mk (show m.length = kv by rw [hm]; exact mOf_len _ _ _)
    have hm2 : m = ((dLines s).flatMap dWords).foldl (dMark (kv : Int)) (List.replicate kv false) := by rw [hm, ← hxs1]
    have HMD := Aside0.mk (show dModel s (kv : Int) = if dValues m = s then (m, 0) else ([], 21) by
      unfold dModel
      rw [if_neg HZ.out, Int.toNat_natCast, ← hm2])
    have HRM := Aside0.mk (show W.heap[gm]? = some (.cells (boolsA m) 4 (0, 0)) by rw [hm]; exact hI.rm)
    have HI := Aside0.mk hI
    have HK := Aside0.mk hK
    have HCB := Aside0.mk (show Kd.bool.C W (some ⟨gm, 0, none⟩) m.length m from C_bools m W gm (boolsA m) (by simp [boolsA]) HRM.out (by have := HML.out; have := HKV.out; omega))
    have hc6 := (blk_cell ((HI.out.sy.blk g6 (blk_lt HG6t.out) (blk_ne HG6t.out HGMt.out (by decide))).trans HG6t.out) 0).trans (show _ = some (Value.slice (some ⟨gm, 0, none⟩) kv kv) from rfl)
    obtain ⟨vB, hvB⟩ : ∃ vB, vB = baOf (dValues m) := ⟨_, rfl⟩
    have HVB := Aside0.mk hvB
    clear hxs1 hok hI hK hm hm2 hvB
    by_cases hq : dValues m = s
    · have hvs : vB = sB := by rw [HVB.out, HSB.out, hq]
      have HQ := Aside0.mk hq
      clear hq
      gi_wp2_with (refine ⟨trivial, ?_⟩; gi_at_call 12; have hp := values_calls (some ⟨gm, 0, none⟩) kv m W HCB.out (by rw [HML.out]; exact Nat.le_refl _) (by have := HML.out; have := HKV.out; omega) ((HLT.out.on HI.out.sy.bw).up HI.out.sy.bw.size); rw [HML.out, ← HVB.out] at hp; refine (callsIn_wide.2 hp).mono ?_; clear hp; rintro e W2 ⟨rfl, hb⟩; have HB2 := Aside0.mk hb; have HK2 := Aside0.mk (blk_below HK.out hb); have HRM2 := Aside0.mk (blk_below HRM.out hb); have hc6' := (blk_cell (blk_below ((HI.out.sy.blk g6 (blk_lt HG6t.out) (blk_ne HG6t.out HGMt.out (by decide))).trans HG6t.out) hb) 0).trans (show _ = some (Value.slice (some ⟨gm, 0, none⟩) kv kv) from rfl); clear hb hc6)
      refine ⟨by simp, .inl ⟨_, _, rfl, run_takeDeferred HK2.out, ?_⟩⟩
      refine ⟨.tuple #[.slice (some ⟨gm, 0, none⟩) kv kv, .int .i64 0], by simp [results, Tryz.f5, go_sem], ?_⟩
      have hD : w.heap.size ≤ D ∧ gm < D := by have h1 := blk_lt HGMt.out; have h2 := HB0.out.size; have h3 := HBW.out.size; omega
      have hbf : Below w.heap.size w (W2.putObj D (.deferred none)) := (below_step HI.out.sy.bw HB2.out).grown (grownBy_putObj' _ D (.deferred none)) (below_step HI.out.sy.bw HB2.out).size (fun k e => by cases e; exact hD.1)
      rw [HMD.out, if_pos HQ.out]
      have hk := HML.out
      subst hk
      exact ⟨_, _, rfl, C_bools m _ gm (boolsA m) (by simp [boolsA]) ((World.putObj_heap_other (by omega)).trans HRM2.out) (by have := HKV.out; omega), Nat.le_refl _, hbf⟩
    · have hne : vB ≠ sB := by
        intro e
        rw [HVB.out, HSB.out] at e
        exact hq (by have := congrArg (fun z : ByteArray => z.data.toList) e; simpa [baOf_data] using this)
      have hvs1 : (vB.toList == sB.toList) = false := by
        rw [HVB.out, HSB.out, beq_eq_false_iff_ne]
        intro e
        have h1 := word_eq (dValues m) (baOf s).toList
        have h2 := word_eq s (baOf s).toList
        rw [e, beq_self_eq_true] at h1
        rw [beq_self_eq_true] at h2
        exact hq ((of_decide_eq_true h1.symm).trans (of_decide_eq_true h2.symm).symm)
      have HQ := Aside0.mk hq
      clear hq
      gi_wp2_with (refine ⟨trivial, ?_⟩; gi_at_call 12; have hp := values_calls (some ⟨gm, 0, none⟩) kv m W HCB.out (by rw [HML.out]; exact Nat.le_refl _) (by have := HML.out; have := HKV.out; omega) ((HLT.out.on HI.out.sy.bw).up HI.out.sy.bw.size); rw [HML.out, ← HVB.out] at hp; refine (callsIn_wide.2 hp).mono ?_; clear hp; rintro e W2 ⟨rfl, hb⟩; have HB2 := Aside0.mk hb; have HK2 := Aside0.mk (blk_below HK.out hb); have HRM2 := Aside0.mk (blk_below HRM.out hb); have hc6' := (blk_cell (blk_below ((HI.out.sy.blk g6 (blk_lt HG6t.out) (blk_ne HG6t.out HGMt.out (by decide))).trans HG6t.out) hb) 0).trans (show _ = some (Value.slice (some ⟨gm, 0, none⟩) kv kv) from rfl); clear hb hc6)
      refine ⟨by simp, .inl ⟨_, _, rfl, run_takeDeferred HK2.out, ?_⟩⟩
      refine ⟨.tuple #[.slice none 0 0, .int .i64 21], by simp [results, Tryz.f5, go_sem], ?_⟩
      have hD : w.heap.size ≤ D ∧ gm < D := by have h1 := blk_lt HGMt.out; have h2 := HB0.out.size; have h3 := HBW.out.size; omega
      have hbf : Below w.heap.size w (W2.putObj D (.deferred none)) := (below_step HI.out.sy.bw HB2.out).grown (grownBy_putObj' _ D (.deferred none)) (below_step HI.out.sy.bw HB2.out).size (fun k e => by cases e; exact hD.1)
      rw [HMD.out, if_neg HQ.out]
      exact ⟨none, 0, rfl, Kd.C_nil _ _, Nat.le_refl _, hbf⟩
end Go.Proofs.YtigloobbpcnnhaaGreatDoor.PB
end
end
