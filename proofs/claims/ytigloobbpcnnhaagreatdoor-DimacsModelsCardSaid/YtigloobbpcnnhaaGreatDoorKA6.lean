import Derived.Test.YtigloobbpcnnhaaGreatDoorKA5
import Derived.OpenShut
-- texts of this claim, packed, what nothing reaches struck (wip/tools/prune.py): MA MRM MLM
section
section
namespace Go.Proofs.YtigloobbpcnnhaaGreatDoor.PB
open Go.RowKit Go.Proofs.YtigloobbpcnnhaaGreatDoorW.PrintWords Go.Proofs.YtigloobbpcnnhaaGreatDoorW.PrintLast Go.Proofs.YtigloobbpcnnhaaGreatDoorW.PrintMore
attribute [local go_sem] max2_int min2_int max_two min_two max_three min_three max_four min_four   -- for this text's walks alone
set_option linter.unusedVariables false
set_option linter.unusedSimpArgs false
def threshingref02_digits.f : Nat → Int → Option (ByteArray)
  | 0, _ => none
  | k + 1, a0 => if a0 < 0 then ((threshingref02_digits.f k (wrap64 (-a0))).bind fun t203 => (if 1 + t203.size ≤ 9223372036854775807 then (some ((⟨#[45]⟩ : ByteArray) ++ t203)) else (none))) else ((some (([(wrap64 (48 + (Int.tmod a0 10))) % 256] : List Int) : List Int)).bind fun y204 => (if a0 > 9 then ((threshingref02_digits.f k (wrap64 (Int.tdiv a0 10))).bind fun t207 => (if t207.size + (strOfNums y204).size ≤ 9223372036854775807 then (some (t207 ++ (strOfNums y204))) else (none))) else (some (strOfNums y204))))
theorem threshingref02_digits.mono_l : ∀ k, (∀ y0, LeO (threshingref02_digits.f k y0) (threshingref02_digits.f (k + 1) y0))
  | 0 => fun _ r h => by simp [threshingref02_digits.f] at h
  | k + 1 => by
    have ih0 := threshingref02_digits.mono_l k
    · intro y0
      unfold threshingref02_digits.f
      repeat' first
      | (with_reducible exact ih0 _)
      | (with_reducible exact LeO.refl _)
      | (with_reducible exact LeO.none _)
      | (with_reducible refine LeO.ite ?_ ?_)
      | (with_reducible refine LeO.bind ?_ (fun _ => ?_))
      | exact ih0 _
      | exact LeO.none _
      | refine LeO.ite ?_ ?_
      | refine LeO.bind ?_ (fun _ => ?_)
theorem threshingref02_digits.mono : ∀ a0 k, LeO (threshingref02_digits.f k a0) (threshingref02_digits.f (k + 1) a0) := by
  intro a0 k
  have ih0 := threshingref02_digits.mono_l k
  exact ih0 a0
theorem _root_.Go.IntKind.u8_tenths (x : Int) : IntKind.u8.wrap (48 + IntKind.u8.wrap x) = (48 + x) % 256 := by
  have h : ∀ y, IntKind.u8.wrap y = y % 256 := fun y => by simp [IntKind.wrap, IntKind.bits, IntKind.signed]
  rw [h, h]
  omega
set_option maxHeartbeats 8000000 in
set_option maxRecDepth 100000 in
theorem threshingref02_digits.calls (k : Nat) : ∀ (a0 : Int) (r : ByteArray) (w : World) (h : threshingref02_digits.f k a0 = some r),
    Calls Tryz.prog 39 #[.int .i64 a0] w fun e w' => e = .returned (.string r) ∧ Below w.heap.size w w' := by
  induction k using Nat.strongRecOn with
  | _ k ih =>
  intro a0 r w h
  cases k with
  | zero => exact absurd h (by simp [threshingref02_digits.f])
  | succ k =>
  simp only [threshingref02_digits.f] at h
  have HB := Aside0.mk (Below.refl w.heap.size w)
  have H : (if a0 < 0 then ((threshingref02_digits.f k (wrap64 (-a0))).bind fun t203 => (if 1 + t203.size ≤ 9223372036854775807 then (some ((⟨#[45]⟩ : ByteArray) ++ t203)) else (none))) else ((some (([(wrap64 (48 + (Int.tmod a0 10))) % 256] : List Int) : List Int)).bind fun y204 => (if a0 > 9 then ((threshingref02_digits.f k (wrap64 (Int.tdiv a0 10))).bind fun t207 => (if t207.size + (strOfNums y204).size ≤ 9223372036854775807 then (some (t207 ++ (strOfNums y204))) else (none))) else (some (strOfNums y204))))) = some r := h
  clear h
  by_cases c2 : a0 < 0
  · rw [if_pos c2] at H
    have c2b0 : decide (a0 < 0) = true := decide_eq_true c2
    clear c2
    replace H := Option.bind_eq_some_iff.mp H
    obtain ⟨t203, A30, H⟩ := H
    replace H : (if 1 + t203.size ≤ 9223372036854775807 then (some ((⟨#[45]⟩ : ByteArray) ++ t203)) else (none)) = some r := H
    have A3 := Aside0.mk A30
    clear A30
    by_cases c4 : 1 + t203.size ≤ 9223372036854775807
    · rw [if_pos c4] at H
      have c4b0 := eq_true c4
      have c4b1 : decide (1 + t203.size ≤ 9223372036854775807) = true := decide_eq_true c4
      try have c4b2 : (9223372036854775807 < 1 + t203.size) = False := eq_false (Nat.not_lt.2 c4)
      obtain rfl := Option.some.inj H
      go_enter Tryz.func39, Tryz.ntmps39
      go_wp2_with (first | ((with_reducible refine gate_callee (f := 39) rfl ?_); refine goesL_ (some 8) rfl rfl Tryz.func39 (by kernel_rfl) rfl #[.int .i64 (wrap64 (-a0))] rfl (by (try simp only [List.map_toArray, List.map_cons, List.map_nil]); first | done | rfl | (simp only [List.length_drop, List.length_take]; rfl)) ?_; (with_reducible refine (ih k (by omega) (wrap64 (-a0)) t203 _ A3.out).mono ?_); rintro e w5 ⟨rfl, hb⟩; refine ⟨_, rfl, ?_⟩; have n0_ := Aside0.mk (below_step (by repeat (first | (with_reducible first | exact HB.out | apply below_alloc | apply pw_below_drewN | apply below_drew1) | exact HB.out)) hb); clear HB; have HB := n0_; clear n0_; (try clear hb); (try clear hb2); (try clear hk); (try clear hi)))
      go_ret
      exact ⟨by first | rfl | (simp [errW_none, errW_some] <;> rfl) | (simp [*, errW_none, errW_some] <;> rfl), by repeat (first | (with_reducible first | exact HB.out | apply below_alloc | apply pw_below_drewN | apply below_drew1) | exact HB.out)⟩
    · rw [if_neg c4] at H
      exact absurd H (by simp)
  · rw [if_neg c2] at H
    have c2b0 : decide (a0 < 0) = false := decide_eq_false c2
    clear c2
    obtain ⟨y204, hy204⟩ : ∃ y_ : List Int, y_ = (([(wrap64 (48 + (Int.tmod a0 10))) % 256] : List Int)) := ⟨_, rfl⟩
    replace H : (if a0 > 9 then ((threshingref02_digits.f k (wrap64 (Int.tdiv a0 10))).bind fun t207 => (if t207.size + (strOfNums y204).size ≤ 9223372036854775807 then (some (t207 ++ (strOfNums y204))) else (none))) else (some (strOfNums y204))) = some r := by first | (rw [hy204]; with_reducible exact H) | (have H2_ := (Option.bind_some _ _).symm.trans H; rw [hy204]; with_reducible exact H2_) | (have H2_ := (Option.bind_some _ _).symm.trans H; with_reducible exact H2_) | with_reducible exact H | (rw [hy204]; exact H) | exact H
    have Ny204 := Aside0.mk hy204
    clear hy204
    by_cases c6 : a0 > 9
    · rw [if_pos c6] at H
      have c6b0 : decide (9 < a0) = true := decide_eq_true c6
      clear c6
      replace H := Option.bind_eq_some_iff.mp H
      obtain ⟨t207, A70, H⟩ := H
      replace H : (if t207.size + (strOfNums y204).size ≤ 9223372036854775807 then (some (t207 ++ (strOfNums y204))) else (none)) = some r := H
      have A7 := Aside0.mk A70
      clear A70
      by_cases c8 : t207.size + (strOfNums y204).size ≤ 9223372036854775807
      · rw [if_pos c8] at H
        have c8b0 := eq_true c8
        have c8b1 : decide (t207.size + (strOfNums y204).size ≤ 9223372036854775807) = true := decide_eq_true c8
        try have c8b2 : (9223372036854775807 < t207.size + (strOfNums y204).size) = False := eq_false (Nat.not_lt.2 c8)
        obtain rfl := Option.some.inj H
        go_enter Tryz.func39, Tryz.ntmps39
        go_wp2_with (first | ((with_reducible refine gate_dst (N := 14) rfl ?_); refine Kd.R_lit (Kd.int .u8) _ 5 ?hg (N := 14) ?hd (xs := ([(wrap64 (48 + (Int.tmod a0 10))) % 256] : List Int)) (inner := [.int .u8 ((wrap64 (48 + (Int.tmod a0 10))) % 256)]) (ok := fun _ => True) (okp := fun _ => True) ?hr ?hp (fun _ hk => hk) trivial (Below.refl _ _) (Nat.le_refl _) (by simp) ?_; (case hd => rfl); (case hg => rfl); (case hr => first | (go_simp; done) | (go_simp; rfl) | (go_simp; simp only [IntKind.u8_tenths]; done) | (go_simp; simp only [IntKind.u8_tenths]; rfl)); (case hp => exact (Reps.one (show Kd.M (Kd.int .u8) _ _ _ ((wrap64 (48 + (Int.tmod a0 10))) % 256) [.int .u8 ((wrap64 (48 + (Int.tmod a0 10))) % 256)] from rfl) (Reps.none _ _))); intro v205 w9 ho10 hb hg_ hnew_; clear hg_ hnew_; (first | rw [← Ny204.out] at ho10 | (simp only [Int.reduceToNat] at ho10; rw [← Ny204.out] at ho10)); have n0_ := Aside0.mk (Kd.R_lower ho10 (below_size (by repeat (first | (with_reducible first | exact HB.out | apply below_alloc | apply pw_below_drewN | apply below_drew1) | exact HB.out)))); have n1_ := Aside0.mk (below_step (by repeat (first | (with_reducible first | exact HB.out | apply below_alloc | apply pw_below_drewN | apply below_drew1) | exact HB.out)) hb); clear HB; have HO206 := n0_; have HB := n1_; clear n0_ n1_; clear hb ho10; have hcv11 := own_string (P := Tryz.prog) Tryz.underlying46 Tryz.underlying5 Tryz.underlying9 (Kd.own_of_R HO206.out)) | ((with_reducible refine gate_callee (f := 39) rfl ?_); refine goesL_ (some 20) rfl rfl Tryz.func39 (by kernel_rfl) rfl #[.int .i64 (wrap64 (Int.tdiv a0 10))] rfl (by (try simp only [List.map_toArray, List.map_cons, List.map_nil]); first | done | rfl | (simp only [List.length_drop, List.length_take]; rfl)) ?_; (with_reducible refine (ih k (by omega) (wrap64 (Int.tdiv a0 10)) t207 _ A7.out).mono ?_); rintro e w12 ⟨rfl, hb⟩; refine ⟨_, rfl, ?_⟩; have n0_ := Aside0.mk (Kd.R_below (by (with_reducible repeat (first | apply Kd.R_alloc | apply Kd.R_drewN | apply Kd.R_drew)); exact HO206.out) hb); have n1_ := Aside0.mk (below_step (by repeat (first | (with_reducible first | exact HB.out | apply below_alloc | apply pw_below_drewN | apply below_drew1) | exact HB.out)) hb); clear HO206; clear HB; have HO206 := n0_; have HB := n1_; clear n0_ n1_; (try clear hb); (try clear hb2); (try clear hk); (try clear hi)))
        go_ret
        exact ⟨by first | rfl | (simp [errW_none, errW_some] <;> rfl) | (simp [*, errW_none, errW_some] <;> rfl), by repeat (first | (with_reducible first | exact HB.out | apply below_alloc | apply pw_below_drewN | apply below_drew1) | exact HB.out)⟩
      · rw [if_neg c8] at H
        exact absurd H (by simp)
    · rw [if_neg c6] at H
      have c6b0 : decide (9 < a0) = false := decide_eq_false c6
      clear c6
      obtain rfl := Option.some.inj H
      go_enter Tryz.func39, Tryz.ntmps39
      go_wp2_with (first | ((with_reducible refine gate_dst (N := 14) rfl ?_); refine Kd.R_lit (Kd.int .u8) _ 5 ?hg (N := 14) ?hd (xs := ([(wrap64 (48 + (Int.tmod a0 10))) % 256] : List Int)) (inner := [.int .u8 ((wrap64 (48 + (Int.tmod a0 10))) % 256)]) (ok := fun _ => True) (okp := fun _ => True) ?hr ?hp (fun _ hk => hk) trivial (Below.refl _ _) (Nat.le_refl _) (by simp) ?_; (case hd => rfl); (case hg => rfl); (case hr => first | (go_simp; done) | (go_simp; rfl) | (go_simp; simp only [IntKind.u8_tenths]; done) | (go_simp; simp only [IntKind.u8_tenths]; rfl)); (case hp => exact (Reps.one (show Kd.M (Kd.int .u8) _ _ _ ((wrap64 (48 + (Int.tmod a0 10))) % 256) [.int .u8 ((wrap64 (48 + (Int.tmod a0 10))) % 256)] from rfl) (Reps.none _ _))); intro v205 w13 ho14 hb hg_ hnew_; clear hg_ hnew_; (first | rw [← Ny204.out] at ho14 | (simp only [Int.reduceToNat] at ho14; rw [← Ny204.out] at ho14)); have n0_ := Aside0.mk (Kd.R_lower ho14 (below_size (by repeat (first | (with_reducible first | exact HB.out | apply below_alloc | apply pw_below_drewN | apply below_drew1) | exact HB.out)))); have n1_ := Aside0.mk (below_step (by repeat (first | (with_reducible first | exact HB.out | apply below_alloc | apply pw_below_drewN | apply below_drew1) | exact HB.out)) hb); clear HB; have HO206 := n0_; have HB := n1_; clear n0_ n1_; clear hb ho14; have hcv15 := own_string (P := Tryz.prog) Tryz.underlying46 Tryz.underlying5 Tryz.underlying9 (Kd.own_of_R HO206.out)))
      go_ret
      exact ⟨by first | rfl | (simp [errW_none, errW_some] <;> rfl) | (simp [*, errW_none, errW_some] <;> rfl), by repeat (first | (with_reducible first | exact HB.out | apply below_alloc | apply pw_below_drewN | apply below_drew1) | exact HB.out)⟩
end Go.Proofs.YtigloobbpcnnhaaGreatDoor.PB
end
section
namespace Go.Proofs.YtigloobbpcnnhaaGreatDoor.PB
open Go.RowKit Go.Proofs.YtigloobbpcnnhaaGreatDoorW.PrintWords Go.Proofs.YtigloobbpcnnhaaGreatDoorW.PrintLast Go.Proofs.YtigloobbpcnnhaaGreatDoorW.PrintMore
attribute [local go_sem] max2_int min2_int max_two min_two max_three min_three max_four min_four   -- for this text's walks alone
set_option linter.unusedVariables false
set_option linter.unusedSimpArgs false
mutual
def threshingref02_Print.l0 : Nat → ByteArray → Int → Int → List (List Int) → Option (ByteArray × Int)
  | 0, _, _, _, _ => none
  | k + 1, x5, x6, x221000, x221001 => if x6 < (x221001.length : Int) then (threshingref02_Print.l1 k x5 x6 0 x221000 x221001) else (some (x5, 0))
def threshingref02_Print.l1 : Nat → ByteArray → Int → Int → Int → List (List Int) → Option (ByteArray × Int)
  | 0, _, _, _, _, _ => none
  | k + 1, x5, x6, x7, x221000, x221001 => if 0 ≤ x6 then (if x6 < (x221001.length : Int) then (if x7 < ((rd_L6 x221001 x6).length : Int) then (if 0 ≤ x7 then ((threshingref02_digits.f k (wrap64 (rd (rd_L6 x221001 x6) x7))).bind fun t227 => (if x5.size + t227.size ≤ 9223372036854775807 then (if (x5 ++ t227).size + 1 ≤ 9223372036854775807 then (threshingref02_Print.l1 k ((x5 ++ t227) ++ (⟨#[32]⟩ : ByteArray)) x6 (wrap64 (x7 + 1)) x221000 x221001) else (none)) else (none))) else (none)) else (if x5.size + 2 ≤ 9223372036854775807 then (threshingref02_Print.l0 k (x5 ++ (⟨#[48, 10]⟩ : ByteArray)) (wrap64 (x6 + 1)) x221000 x221001) else (none))) else (none)) else (none)
end
def threshingref02_Print.f (k : Nat) (a0_0 : Int) (l0_1 : List (List Int)) : Option (ByteArray × Int) := (threshingref01_Right.f k a0_0 l0_1).bind fun t221 => (if t221 = 0 then ((threshingref02_digits.f k a0_0).bind fun t222 => (if 6 + t222.size ≤ 9223372036854775807 then (if ((⟨#[112, 32, 99, 110, 102, 32]⟩ : ByteArray) ++ t222).size + 1 ≤ 9223372036854775807 then ((threshingref02_digits.f k (l0_1.length : Int)).bind fun t223 => (if (((⟨#[112, 32, 99, 110, 102, 32]⟩ : ByteArray) ++ t222) ++ (⟨#[32]⟩ : ByteArray)).size + t223.size ≤ 9223372036854775807 then (if ((((⟨#[112, 32, 99, 110, 102, 32]⟩ : ByteArray) ++ t222) ++ (⟨#[32]⟩ : ByteArray)) ++ t223).size + 1 ≤ 9223372036854775807 then (threshingref02_Print.l0 k (((((⟨#[112, 32, 99, 110, 102, 32]⟩ : ByteArray) ++ t222) ++ (⟨#[32]⟩ : ByteArray)) ++ t223) ++ (⟨#[10]⟩ : ByteArray)) 0 a0_0 l0_1) else (none)) else (none))) else (none)) else (none))) else (some ((⟨#[]⟩ : ByteArray), t221)))
theorem threshingref02_Print.mono_l : ∀ k, (∀ y0 y1 y2 y3, LeO (threshingref02_Print.l0 k y0 y1 y2 y3) (threshingref02_Print.l0 (k + 1) y0 y1 y2 y3)) ∧ (∀ y0 y1 y2 y3 y4, LeO (threshingref02_Print.l1 k y0 y1 y2 y3 y4) (threshingref02_Print.l1 (k + 1) y0 y1 y2 y3 y4))
  | 0 => ⟨fun _ _ _ _ r h => by simp [threshingref02_Print.l0] at h, fun _ _ _ _ _ r h => by simp [threshingref02_Print.l1] at h⟩
  | k + 1 => by
    obtain ⟨ih0, ih1⟩ := threshingref02_Print.mono_l k
    refine ⟨?_, ?_⟩
    · intro y0 y1 y2 y3
      unfold threshingref02_Print.l0
      repeat' first
      | (with_reducible exact ih0 _ _ _ _)
      | (with_reducible exact ih1 _ _ _ _ _)
      | (with_reducible exact threshingref01_Right.mono _ _ _)
      | (with_reducible exact threshingref02_digits.mono _ _)
      | (with_reducible exact LeO.refl _)
      | (with_reducible exact LeO.none _)
      | (with_reducible refine LeO.ite ?_ ?_)
      | (with_reducible refine LeO.bind ?_ (fun _ => ?_))
      | exact ih0 _ _ _ _
      | exact ih1 _ _ _ _ _
      | exact threshingref01_Right.mono _ _ _
      | exact threshingref02_digits.mono _ _
      | exact LeO.none _
      | refine LeO.ite ?_ ?_
      | refine LeO.bind ?_ (fun _ => ?_)
    · intro y0 y1 y2 y3 y4
      unfold threshingref02_Print.l1
      repeat' first
      | (with_reducible exact ih0 _ _ _ _)
      | (with_reducible exact ih1 _ _ _ _ _)
      | (with_reducible exact threshingref01_Right.mono _ _ _)
      | (with_reducible exact threshingref02_digits.mono _ _)
      | (with_reducible exact LeO.refl _)
      | (with_reducible exact LeO.none _)
      | (with_reducible refine LeO.ite ?_ ?_)
      | (with_reducible refine LeO.bind ?_ (fun _ => ?_))
      | exact ih0 _ _ _ _
      | exact ih1 _ _ _ _ _
      | exact threshingref01_Right.mono _ _ _
      | exact threshingref02_digits.mono _ _
      | exact LeO.none _
      | refine LeO.ite ?_ ?_
      | refine LeO.bind ?_ (fun _ => ?_)
theorem threshingref02_Print.mono : ∀ a0 a1 k, LeO (threshingref02_Print.f k a0 a1) (threshingref02_Print.f (k + 1) a0 a1) := by
  intro a0 a1 k
  obtain ⟨ih0, ih1⟩ := threshingref02_Print.mono_l k
  unfold threshingref02_Print.f
  repeat' first
      | (with_reducible exact ih0 _ _ _ _)
      | (with_reducible exact ih1 _ _ _ _ _)
      | (with_reducible exact threshingref01_Right.mono _ _ _)
      | (with_reducible exact threshingref02_digits.mono _ _)
      | (with_reducible exact LeO.refl _)
      | (with_reducible exact LeO.none _)
      | (with_reducible refine LeO.ite ?_ ?_)
      | (with_reducible refine LeO.bind ?_ (fun _ => ?_))
      | exact ih0 _ _ _ _
      | exact ih1 _ _ _ _ _
      | exact threshingref01_Right.mono _ _ _
      | exact threshingref02_digits.mono _ _
      | exact LeO.none _
      | refine LeO.ite ?_ ?_
      | refine LeO.bind ?_ (fun _ => ?_)
def threshingref02_Print.T4 : Bool × List (List Nat × List Nat) := (true, [([], []), ([0], [0]), ([1], [1]), ([2], [2]), ([3], [3]), ([], []), ([5], [5]), ([6], [6]), ([7, 2], [7]), ([4, 8], [4, 8]), ([9], [9]), ([10, 8, 0, 1, 2, 3, 4, 5, 6, 7, 8, 9, 10], [10])])
def threshingref02_Print.B4 : List Nat := [0, 1, 3, 7, 15, 0, 32, 96, 231, 511, 1023, 2047]
theorem threshingref02_Print.tab4 : rtab .any (opsOf Tryz.f30 4) = threshingref02_Print.T4 := by kernel_rfl
theorem threshingref02_Print.bits4 : waitsOk threshingref02_Print.T4.2 threshingref02_Print.B4 = true := by kernel_rfl
set_option maxHeartbeats 8000000 in
set_option maxRecDepth 100000 in
theorem threshingref02_Print.calls (k : Nat) (a0_0 : Int) (A0_1 : Option Addr) (c0_1 : Nat) (l0_1 : List (List Int)) (r1 : ByteArray) (r2 : Int) (w : World) (hr0_1 : Kd.C (Kd.slice 40 (Kd.int .i32)) w A0_1 l0_1.length l0_1) (hc0_1 : l0_1.length ≤ c0_1) (h : threshingref02_Print.f k a0_0 l0_1 = some (r1, r2)) :
    Calls Tryz.prog 30 #[.agg #[.int .i64 a0_0, .slice A0_1 l0_1.length c0_1]] w fun e w' => e = .returned (.tuple #[.string r1, .int .i64 r2]) ∧ Below w.heap.size w w' := by
  have hu25 := Tryz.underlying35
  have HR0_1 := Aside0.mk hr0_1
  have HC0_1 := Aside0.mk hc0_1
  clear hr0_1 hc0_1
  have HB := Aside0.mk (Below.refl w.heap.size w)
  have H : ((threshingref01_Right.f k a0_0 l0_1).bind fun t221 => (if t221 = 0 then ((threshingref02_digits.f k a0_0).bind fun t222 => (if 6 + t222.size ≤ 9223372036854775807 then (if ((⟨#[112, 32, 99, 110, 102, 32]⟩ : ByteArray) ++ t222).size + 1 ≤ 9223372036854775807 then ((threshingref02_digits.f k (l0_1.length : Int)).bind fun t223 => (if (((⟨#[112, 32, 99, 110, 102, 32]⟩ : ByteArray) ++ t222) ++ (⟨#[32]⟩ : ByteArray)).size + t223.size ≤ 9223372036854775807 then (if ((((⟨#[112, 32, 99, 110, 102, 32]⟩ : ByteArray) ++ t222) ++ (⟨#[32]⟩ : ByteArray)) ++ t223).size + 1 ≤ 9223372036854775807 then (threshingref02_Print.l0 k (((((⟨#[112, 32, 99, 110, 102, 32]⟩ : ByteArray) ++ t222) ++ (⟨#[32]⟩ : ByteArray)) ++ t223) ++ (⟨#[10]⟩ : ByteArray)) 0 a0_0 l0_1) else (none)) else (none))) else (none)) else (none))) else (some ((⟨#[]⟩ : ByteArray), t221)))) = some (r1, r2) := h
  clear h
  replace H := Option.bind_eq_some_iff.mp H
  obtain ⟨t221, A20, H⟩ := H
  replace H : (if t221 = 0 then ((threshingref02_digits.f k a0_0).bind fun t222 => (if 6 + t222.size ≤ 9223372036854775807 then (if ((⟨#[112, 32, 99, 110, 102, 32]⟩ : ByteArray) ++ t222).size + 1 ≤ 9223372036854775807 then ((threshingref02_digits.f k (l0_1.length : Int)).bind fun t223 => (if (((⟨#[112, 32, 99, 110, 102, 32]⟩ : ByteArray) ++ t222) ++ (⟨#[32]⟩ : ByteArray)).size + t223.size ≤ 9223372036854775807 then (if ((((⟨#[112, 32, 99, 110, 102, 32]⟩ : ByteArray) ++ t222) ++ (⟨#[32]⟩ : ByteArray)) ++ t223).size + 1 ≤ 9223372036854775807 then (threshingref02_Print.l0 k (((((⟨#[112, 32, 99, 110, 102, 32]⟩ : ByteArray) ++ t222) ++ (⟨#[32]⟩ : ByteArray)) ++ t223) ++ (⟨#[10]⟩ : ByteArray)) 0 a0_0 l0_1) else (none)) else (none))) else (none)) else (none))) else (some ((⟨#[]⟩ : ByteArray), t221))) = some (r1, r2) := H
  have A2 := Aside0.mk A20
  clear A20
  by_cases c3 : t221 = 0
  · rw [if_pos c3] at H
    have c3b0 : (t221 == 0) = true := beq_iff_eq.mpr c3
    have c3b1 : (t221 != 0) = false := bne_eq_false_iff_eq.mpr c3
    clear c3
    replace H := Option.bind_eq_some_iff.mp H
    obtain ⟨t222, A40, H⟩ := H
    replace H : (if 6 + t222.size ≤ 9223372036854775807 then (if ((⟨#[112, 32, 99, 110, 102, 32]⟩ : ByteArray) ++ t222).size + 1 ≤ 9223372036854775807 then ((threshingref02_digits.f k (l0_1.length : Int)).bind fun t223 => (if (((⟨#[112, 32, 99, 110, 102, 32]⟩ : ByteArray) ++ t222) ++ (⟨#[32]⟩ : ByteArray)).size + t223.size ≤ 9223372036854775807 then (if ((((⟨#[112, 32, 99, 110, 102, 32]⟩ : ByteArray) ++ t222) ++ (⟨#[32]⟩ : ByteArray)) ++ t223).size + 1 ≤ 9223372036854775807 then (threshingref02_Print.l0 k (((((⟨#[112, 32, 99, 110, 102, 32]⟩ : ByteArray) ++ t222) ++ (⟨#[32]⟩ : ByteArray)) ++ t223) ++ (⟨#[10]⟩ : ByteArray)) 0 a0_0 l0_1) else (none)) else (none))) else (none)) else (none)) = some (r1, r2) := H
    have A4 := Aside0.mk A40
    clear A40
    by_cases c5 : 6 + t222.size ≤ 9223372036854775807
    · rw [if_pos c5] at H
      have c5b0 := eq_true c5
      have c5b1 : decide (6 + t222.size ≤ 9223372036854775807) = true := decide_eq_true c5
      try have c5b2 : (9223372036854775807 < 6 + t222.size) = False := eq_false (Nat.not_lt.2 c5)
      by_cases c6 : ((⟨#[112, 32, 99, 110, 102, 32]⟩ : ByteArray) ++ t222).size + 1 ≤ 9223372036854775807
      · rw [if_pos c6] at H
        have c6b0 := eq_true c6
        have c6b1 : decide (((⟨#[112, 32, 99, 110, 102, 32]⟩ : ByteArray) ++ t222).size + 1 ≤ 9223372036854775807) = true := decide_eq_true c6
        try have c6b2 : (9223372036854775807 < ((⟨#[112, 32, 99, 110, 102, 32]⟩ : ByteArray) ++ t222).size + 1) = False := eq_false (Nat.not_lt.2 c6)
        have c6b3 : 6 + (t222).size + 1 ≤ 9223372036854775807 := by have h := c6; simp only [ByteArray.size_append] at h; exact h
        have c6b4 : (9223372036854775807 < 6 + (t222).size + 1) = False := eq_false (Nat.not_lt.2 c6b3)
        replace c6b3 := eq_true c6b3
        replace H := Option.bind_eq_some_iff.mp H
        obtain ⟨t223, A70, H⟩ := H
        replace H : (if (((⟨#[112, 32, 99, 110, 102, 32]⟩ : ByteArray) ++ t222) ++ (⟨#[32]⟩ : ByteArray)).size + t223.size ≤ 9223372036854775807 then (if ((((⟨#[112, 32, 99, 110, 102, 32]⟩ : ByteArray) ++ t222) ++ (⟨#[32]⟩ : ByteArray)) ++ t223).size + 1 ≤ 9223372036854775807 then (threshingref02_Print.l0 k (((((⟨#[112, 32, 99, 110, 102, 32]⟩ : ByteArray) ++ t222) ++ (⟨#[32]⟩ : ByteArray)) ++ t223) ++ (⟨#[10]⟩ : ByteArray)) 0 a0_0 l0_1) else (none)) else (none)) = some (r1, r2) := H
        have A7 := Aside0.mk A70
        clear A70
        by_cases c8 : (((⟨#[112, 32, 99, 110, 102, 32]⟩ : ByteArray) ++ t222) ++ (⟨#[32]⟩ : ByteArray)).size + t223.size ≤ 9223372036854775807
        · rw [if_pos c8] at H
          have c8b0 := eq_true c8
          have c8b1 : decide ((((⟨#[112, 32, 99, 110, 102, 32]⟩ : ByteArray) ++ t222) ++ (⟨#[32]⟩ : ByteArray)).size + t223.size ≤ 9223372036854775807) = true := decide_eq_true c8
          try have c8b2 : (9223372036854775807 < (((⟨#[112, 32, 99, 110, 102, 32]⟩ : ByteArray) ++ t222) ++ (⟨#[32]⟩ : ByteArray)).size + t223.size) = False := eq_false (Nat.not_lt.2 c8)
          have c8b3 : 6 + (t222).size + 1 + t223.size ≤ 9223372036854775807 := by have h := c8; simp only [ByteArray.size_append] at h; exact h
          have c8b4 : (9223372036854775807 < 6 + (t222).size + 1 + t223.size) = False := eq_false (Nat.not_lt.2 c8b3)
          replace c8b3 := eq_true c8b3
          by_cases c9 : ((((⟨#[112, 32, 99, 110, 102, 32]⟩ : ByteArray) ++ t222) ++ (⟨#[32]⟩ : ByteArray)) ++ t223).size + 1 ≤ 9223372036854775807
          · rw [if_pos c9] at H
            have c9b0 := eq_true c9
            have c9b1 : decide (((((⟨#[112, 32, 99, 110, 102, 32]⟩ : ByteArray) ++ t222) ++ (⟨#[32]⟩ : ByteArray)) ++ t223).size + 1 ≤ 9223372036854775807) = true := decide_eq_true c9
            try have c9b2 : (9223372036854775807 < ((((⟨#[112, 32, 99, 110, 102, 32]⟩ : ByteArray) ++ t222) ++ (⟨#[32]⟩ : ByteArray)) ++ t223).size + 1) = False := eq_false (Nat.not_lt.2 c9)
            have c9b3 : 6 + (t222).size + 1 + (t223).size + 1 ≤ 9223372036854775807 := by have h := c9; simp only [ByteArray.size_append] at h; exact h
            have c9b4 : (9223372036854775807 < 6 + (t222).size + 1 + (t223).size + 1) = False := eq_false (Nat.not_lt.2 c9b3)
            replace c9b3 := eq_true c9b3
            have H' := Aside0.mk H
            clear H
            go_enter Tryz.func30, Tryz.ntmps30
            try go_wp2_with (first | ((with_reducible refine gate_dst (N := 1) rfl ?_); refine box_event ?hg (N := 1) ?hd (cs := #[.int .i64 a0_0, .slice A0_1 l0_1.length c0_1]) (t := 35) ?hr ?_; (case hd => rfl); (case hg => rfl); (case hr => first | (go_simp; done) | (go_simp; rfl)); intro gb220 hg w10 hbox hb; have n0_ := Aside0.mk (below_step (by repeat (first | (with_reducible first | exact HB.out | apply below_alloc | apply pw_below_drewN | apply below_drew1) | exact HB.out)) hb); have n1_ := Aside0.mk (hbox); have n2_ := Aside0.mk ((by rw [hg]; exact (below_size (by repeat (first | (with_reducible first | exact HB.out | apply below_alloc | apply pw_below_drewN | apply below_drew1) | exact HB.out))) : w.heap.size ≤ gb220)); have n3_ := Aside0.mk ((by rw [hg]; exact (below_size (by repeat (first | (with_reducible first | exact HB.out | apply below_alloc | apply pw_below_drewN | apply below_drew1) | exact HB.out))) : w.heap.size ≤ gb220)); clear HB; have HB := n0_; have BK220 := n1_; have GW220 := n2_; have GE220 := n3_; clear n0_ n1_ n2_ n3_; clear hb hbox hg; have hcz11_0 : w10.cell? ⟨gb220, 0, none⟩ = some (.int .i64 a0_0) := (blk_cell BK220.out 0).trans rfl; have hcz11_1 : w10.cell? ⟨gb220, 1, none⟩ = some (.slice A0_1 l0_1.length c0_1) := (blk_cell BK220.out 1).trans rfl; have hfz11_0 := blk_frozen BK220.out 0; have hfz11_1 := blk_frozen BK220.out 1) | ((with_reducible refine gate_callee (f := 49) rfl ?_); refine goesL_ (some 9) rfl rfl Tryz.func49 (by kernel_rfl) rfl #[.agg #[.int .i64 a0_0, .slice A0_1 l0_1.length c0_1]] rfl (by (try simp only [List.map_toArray, List.map_cons, List.map_nil]); first | done | rfl | (simp only [List.length_drop, List.length_take]; rfl)) ?_; (with_reducible refine (threshingref01_Right.calls k a0_0 _ _ l0_1 t221 _ ?side1 ?side2 A2.out).mono ?_); (case side1 => repeat (first | exact (Kd.C_below HR0_1.out HB.out) | (with_reducible refine Kd.C_alloc ?_ _) | (with_reducible refine Kd.C_drewN ?_ _) | (with_reducible refine Kd.C_drew ?_))); (case side2 => exact HC0_1.out); rintro e w12 ⟨rfl, hb⟩; refine ⟨_, rfl, ?_⟩; have n0_ := Aside0.mk (blk_below (g := gb220) (o := .cells #[.int .i64 a0_0, .slice A0_1 l0_1.length c0_1] 35 (0, 0)) (by (with_reducible repeat (first | refine blk_drewN ?_ _ | refine blk_drew ?_ | refine blk_alloc ?_ _)); exact BK220.out) hb); have n1_ := Aside0.mk (below_step (by repeat (first | (with_reducible first | exact HB.out | apply below_alloc | apply pw_below_drewN | apply below_drew1 | refine below_set ?_ GE220.out) | exact HB.out)) hb); clear BK220; clear HB; have BK220 := n0_; have HB := n1_; clear n0_ n1_; (try clear hb); (try clear hb2); (try clear hk); (try clear hi)))
            have n0_ := Aside0.mk (blk_drew BK220.out)
            have n1_ := Aside0.mk (below_drew1 HB.out)
            clear BK220
            clear HB
            have BK220 := n0_
            have HB := n1_
            clear n0_ n1_
            refine start_ (n := 12) (S := fun w' => w'.cell? ⟨gb220, 0, none⟩ = some (.int .i64 a0_0) ∧ w'.cell? ⟨gb220, 1, none⟩ = some (.slice A0_1 l0_1.length c0_1)) (ds := []) #[false, false, false, false, false, false, false, false, false, false, false, false] (by kernel_rfl) rfl rfl ⟨(blk_cell BK220.out 0).trans rfl, (blk_cell BK220.out 1).trans rfl⟩ (fun hHeld => ?_); refine with_tabW threshingref02_Print.tab4 threshingref02_Print.bits4 (fun HT_ HW_ => ?_)
            generalize w12.drew = w13 at BK220 HB hHeld ⊢
            refine pure_ (i := 0) (N := some 13) (v := ?_) (a' := ?_) #[true, false, false, false, false, false, false, false, false, false, false, false] rfl rfl (any_of HT_.out (by kernel_rfl)) (fun _ _ _ h => h) (Or.inl ⟨by rfl, ?_⟩) ?_ ?_
            rotate_left
            · intro w'
              go_simp
              with_reducible rfl
            rotate_left
            · simp only [Act.put, List.setIfInBounds_toArray, List.set_cons_zero, List.set_cons_succ, i64_w, i32_w]
              rfl
            refine pure_ (i := 5) (N := some 18) (v := ?_) (a' := ?_) #[true, false, false, false, false, true, false, false, false, false, false, false] rfl rfl (any_of HT_.out (by kernel_rfl)) (fun _ _ _ h => h) (Or.inl ⟨by rfl, ?_⟩) ?_ ?_
            rotate_left
            · intro w'
              go_simp
              with_reducible rfl
            rotate_left
            · simp only [Act.put, List.setIfInBounds_toArray, List.set_cons_zero, List.set_cons_succ, i64_w, i32_w]
              rfl
            refine take_ (i := 1) (N := some 14) (v := ?_) (a' := ?_) #[true, true, false, false, false, true, false, false, false, false, false, false] rfl rfl (take_ofW HT_.out HW_.out (by kernel_rfl)) (fun _ _ _ h => h) (Or.inl ⟨by rfl, ?_⟩) hHeld ?_ ?_
            rotate_left
            · rintro w' ⟨s0, s1⟩
              go_simp
              with_reducible rfl
            rotate_left
            · simp only [Act.put, List.setIfInBounds_toArray, List.set_cons_zero, List.set_cons_succ, i64_w, i32_w]
              rfl
            refine take_ (i := 6) (N := some 19) (v := ?_) (a' := ?_) #[true, true, false, false, false, true, true, false, false, false, false, false] rfl rfl (take_ofW HT_.out HW_.out (by kernel_rfl)) (fun _ _ _ h => h) (Or.inl ⟨by rfl, ?_⟩) hHeld ?_ ?_
            rotate_left
            · rintro w' ⟨s0, s1⟩
              go_simp
              with_reducible rfl
            rotate_left
            · simp only [Act.put, List.setIfInBounds_toArray, List.set_cons_zero, List.set_cons_succ, i64_w, i32_w]
              rfl
            refine pure_ (i := 7) (N := some 20) (v := ?_) (a' := ?_) #[true, true, false, false, false, true, true, true, false, false, false, false] rfl rfl (any_of HT_.out (by kernel_rfl)) (fun _ _ _ h => h) (Or.inl ⟨by rfl, ?_⟩) ?_ ?_
            rotate_left
            · intro w'
              go_simp
              with_reducible rfl
            rotate_left
            · simp only [Act.put, List.setIfInBounds_toArray, List.set_cons_zero, List.set_cons_succ, i64_w, i32_w]
              rfl
            refine one_ (i := 2) (N := some 15) #[true, true, true, false, false, true, true, true, false, false, false, false] rfl rfl (one_of HT_.out (by kernel_rfl)) (by decide) (fun K hK => ?_)
            refine goes_ Tryz.func39 (by kernel_rfl) rfl #[.int .i64 a0_0] (by rfl) rfl rfl (by (try simp only [List.map_toArray, List.map_cons, List.map_nil]); first | done | rfl | (simp only [List.length_drop, List.length_take]; rfl)) ?_
            with_reducible refine (threshingref02_digits.calls k a0_0 t222 _ A4.out).mono ?_
            rintro e w14 ⟨rfl, hb⟩
            refine ⟨_, rfl, ?_⟩
            have n0_ := Aside0.mk (blk_below (g := gb220) (o := .cells #[.int .i64 a0_0, .slice A0_1 l0_1.length c0_1] 35 (0, 0)) (by (with_reducible repeat (first | refine blk_drewN ?_ _ | refine blk_drew ?_ | refine blk_alloc ?_ _)); exact BK220.out) hb)
            have n1_ := Aside0.mk (below_step (by repeat (first | (with_reducible first | exact HB.out | apply below_alloc | apply pw_below_drewN | apply below_drew1 | refine below_set ?_ GE220.out) | exact HB.out)) hb)
            clear BK220
            clear HB
            have BK220 := n0_
            have HB := n1_
            clear n0_ n1_
            (try clear hb)
            (try clear hb2)
            (try clear hk)
            (try clear hi)
            refine hK.out _ _ ⟨(blk_cell BK220.out 0).trans rfl, (blk_cell BK220.out 1).trans rfl⟩ (fun hHeld => ?_)
            clear hK K
            refine norm_ (a' := ?_) ?_ ?_
            rotate_left
            · show Act.put _ (some 15) _ = _
              simp only [Act.put, List.setIfInBounds_toArray, List.set_cons_zero, List.set_cons_succ, i64_w, i32_w]
              rfl
            refine pure_ (i := 3) (N := some 16) (v := ?_) (a' := ?_) #[true, true, true, true, false, true, true, true, false, false, false, false] rfl rfl (any_of HT_.out (by kernel_rfl)) (fun _ _ _ h => h) (Or.inl ⟨by rfl, ?_⟩) ?_ ?_
            rotate_left
            · intro w'
              go_simp
              with_reducible rfl
            rotate_left
            · simp only [Act.put, List.setIfInBounds_toArray, List.set_cons_zero, List.set_cons_succ, i64_w, i32_w]
              rfl
            refine pure_ (i := 4) (N := some 17) (v := ?_) (a' := ?_) #[true, true, true, true, true, true, true, true, false, false, false, false] rfl rfl (any_of HT_.out (by kernel_rfl)) (fun _ _ _ h => h) (Or.inl ⟨by rfl, ?_⟩) ?_ ?_
            rotate_left
            · intro w'
              go_simp
              with_reducible rfl
            rotate_left
            · simp only [Act.put, List.setIfInBounds_toArray, List.set_cons_zero, List.set_cons_succ, i64_w, i32_w]
              rfl
            refine one_ (i := 8) (N := some 21) #[true, true, true, true, true, true, true, true, true, false, false, false] rfl rfl (one_of HT_.out (by kernel_rfl)) (by decide) (fun K hK => ?_)
            refine goes_ Tryz.func39 (by kernel_rfl) rfl #[.int .i64 (l0_1.length : Int)] (by rfl) rfl rfl (by (try simp only [List.map_toArray, List.map_cons, List.map_nil]); first | done | rfl | (simp only [List.length_drop, List.length_take]; rfl)) ?_
            with_reducible refine (threshingref02_digits.calls k (l0_1.length : Int) t223 _ A7.out).mono ?_
            rintro e w15 ⟨rfl, hb⟩
            refine ⟨_, rfl, ?_⟩
            have n0_ := Aside0.mk (blk_below (g := gb220) (o := .cells #[.int .i64 a0_0, .slice A0_1 l0_1.length c0_1] 35 (0, 0)) (by (with_reducible repeat (first | refine blk_drewN ?_ _ | refine blk_drew ?_ | refine blk_alloc ?_ _)); exact BK220.out) hb)
            have n1_ := Aside0.mk (below_step (by repeat (first | (with_reducible first | exact HB.out | apply below_alloc | apply pw_below_drewN | apply below_drew1 | refine below_set ?_ GE220.out) | exact HB.out)) hb)
            clear BK220
            clear HB
            have BK220 := n0_
            have HB := n1_
            clear n0_ n1_
            (try clear hb)
            (try clear hb2)
            (try clear hk)
            (try clear hi)
            refine hK.out _ _ ⟨(blk_cell BK220.out 0).trans rfl, (blk_cell BK220.out 1).trans rfl⟩ (fun hHeld => ?_)
            clear hK K
            refine norm_ (a' := ?_) ?_ ?_
            rotate_left
            · show Act.put _ (some 21) _ = _
              simp only [Act.put, List.setIfInBounds_toArray, List.set_cons_zero, List.set_cons_succ, i64_w, i32_w]
              rfl
            refine pure_ (i := 9) (N := some 22) (v := ?_) (a' := ?_) #[true, true, true, true, true, true, true, true, true, true, false, false] rfl rfl (any_of HT_.out (by kernel_rfl)) (fun _ _ _ h => h) (Or.inl ⟨by rfl, ?_⟩) ?_ ?_
            rotate_left
            · intro w'
              go_simp
              with_reducible rfl
            rotate_left
            · simp only [Act.put, List.setIfInBounds_toArray, List.set_cons_zero, List.set_cons_succ, i64_w, i32_w]
              rfl
            refine pure_ (i := 10) (N := some 23) (v := ?_) (a' := ?_) #[true, true, true, true, true, true, true, true, true, true, true, false] rfl rfl (any_of HT_.out (by kernel_rfl)) (fun _ _ _ h => h) (Or.inl ⟨by rfl, ?_⟩) ?_ ?_
            rotate_left
            · intro w'
              go_simp
              with_reducible rfl
            rotate_left
            · simp only [Act.put, List.setIfInBounds_toArray, List.set_cons_zero, List.set_cons_succ, i64_w, i32_w]
              rfl
            refine pure_ (i := 11) (N := some 5) (v := ?_) (a' := ?_) #[true, true, true, true, true, true, true, true, true, true, true, true] rfl rfl (any_of HT_.out (by kernel_rfl)) (fun _ _ _ h => h) (Or.inl ⟨by rfl, ?_⟩) ?_ ?_
            rotate_left
            · intro w'
              go_simp
              with_reducible rfl
            rotate_left
            · simp only [Act.put, List.setIfInBounds_toArray, List.set_cons_zero, List.set_cons_succ, i64_w, i32_w]
              rfl
            refine done_ (done_of HT_.out (by kernel_rfl)) ?_
            try go_wp2
            go_loopg [5, 6] k (fun kq v5 v6 w' => ∃ (x5_1 : ByteArray) (x6_1 : Int), v5 = .string x5_1 ∧ v6 = .int .i64 x6_1 ∧ Aside0 (threshingref02_Print.l0 kq x5_1 x6_1 a0_0 l0_1 = some (r1, r2)) ∧ Aside0 (kq ≤ k) ∧ Aside0 (w'.heap[gb220]? = some (.cells #[.int .i64 a0_0, (.slice A0_1 l0_1.length c0_1)] 35 (0, 0))) ∧ Aside0 (Below w.heap.size w w'))
            case atStart => exact ⟨(((((⟨#[112, 32, 99, 110, 102, 32]⟩ : ByteArray) ++ t222) ++ (⟨#[32]⟩ : ByteArray)) ++ t223) ++ (⟨#[10]⟩ : ByteArray)), (0), (by first | rfl | (simp; done) | (simp [*]; done)), (by first | rfl | (simp; done) | (simp [*]; done)), H', ⟨Nat.le_refl _⟩, ⟨by (with_reducible repeat (first | refine blk_drewN ?_ _ | refine blk_drew ?_ | refine blk_alloc ?_ _)); exact BK220.out⟩, ⟨by repeat (first | (with_reducible first | exact HB.out | apply below_alloc | apply pw_below_drewN | apply below_drew1 | refine below_set ?_ GE220.out) | exact HB.out)⟩⟩
            case round =>
              clear H'
              try clear c1
              try clear p2
              try clear c3
              try clear c3b0
              try clear c3b1
              try clear c5
              try clear c5b0
              try clear c5b1
              try clear c5b2
              try clear c6
              try clear c6b0
              try clear c6b1
              try clear c6b2
              try clear c8
              try clear c8b0
              try clear c8b1
              try clear c8b2
              try clear c9
              try clear c9b0
              try clear c9b1
              try clear c9b2
              try clear c13
              try clear hcz11_0
              try clear hcz11_1
              try clear hfz11_0
              try clear hfz11_1
              obtain ⟨x5_1, x6_1, rfl, rfl, HA, HK1, BK220, HB⟩ := hrel
              cases gk with
              | zero => exact absurd HA.out (by simp [threshingref02_Print.l0])
              | succ k1 =>
                have H := HA.out
                clear HA
                simp only [threshingref02_Print.l0] at H
                by_cases c16 : x6_1 < (l0_1.length : Int)
                · rw [if_pos c16] at H
                  have c16b0 : decide (x6_1 < (l0_1.length : Int)) = true := decide_eq_true c16
                  clear c16
                  have H' := Aside0.mk H
                  clear H
                  have hcz17_0 : wr.cell? ⟨gb220, 0, none⟩ = some (.int .i64 a0_0) := (blk_cell BK220.out 0).trans rfl
                  have hcz17_1 : wr.cell? ⟨gb220, 1, none⟩ = some (.slice A0_1 l0_1.length c0_1) := (blk_cell BK220.out 1).trans rfl
                  have hfz17_0 := blk_frozen BK220.out 0
                  have hfz17_1 := blk_frozen BK220.out 1
                  go_wp2
                  go_loopg [5, 7] k1 (fun kq v5 v7 w' => ∃ (x5_2 : ByteArray) (x7_2 : Int), v5 = .string x5_2 ∧ v7 = .int .i64 x7_2 ∧ Aside0 (threshingref02_Print.l1 kq x5_2 x6_1 x7_2 a0_0 l0_1 = some (r1, r2)) ∧ Aside0 (kq ≤ k1) ∧ Aside0 (w'.heap[gb220]? = some (.cells #[.int .i64 a0_0, (.slice A0_1 l0_1.length c0_1)] 35 (0, 0))) ∧ Aside0 (Below w.heap.size w w'))
                  case atStart => exact ⟨(x5_1), (0), (by first | rfl | (simp; done) | (simp [*]; done)), (by first | rfl | (simp; done) | (simp [*]; done)), H', ⟨Nat.le_refl _⟩, ⟨by (with_reducible repeat (first | refine blk_drewN ?_ _ | refine blk_drew ?_ | refine blk_alloc ?_ _)); exact BK220.out⟩, ⟨by repeat (first | (with_reducible first | exact HB.out | apply below_alloc | apply pw_below_drewN | apply below_drew1 | refine below_set ?_ GE220.out) | exact HB.out)⟩⟩
                  case round =>
                    clear H'
                    try clear c1
                    try clear p2
                    try clear c3
                    try clear c3b0
                    try clear c3b1
                    try clear c5
                    try clear c5b0
                    try clear c5b1
                    try clear c5b2
                    try clear c6
                    try clear c6b0
                    try clear c6b1
                    try clear c6b2
                    try clear c8
                    try clear c8b0
                    try clear c8b1
                    try clear c8b2
                    try clear c9
                    try clear c9b0
                    try clear c9b1
                    try clear c9b2
                    try clear c13
                    try clear c16
                    try clear c16b0
                    try clear hcz11_0
                    try clear hcz11_1
                    try clear hcz17_0
                    try clear hcz17_1
                    try clear hfz11_0
                    try clear hfz11_1
                    try clear hfz17_0
                    try clear hfz17_1
                    try clear p2
                    obtain ⟨x5_2, x7_2, rfl, rfl, HA, HK2, BK220, HB⟩ := hrel
                    cases gk with
                    | zero => exact absurd HA.out (by simp [threshingref02_Print.l1])
                    | succ k2 =>
                      have H := HA.out
                      clear HA
                      simp only [threshingref02_Print.l1] at H
                      by_cases c18 : 0 ≤ x6_1
                      · rw [if_pos c18] at H
                        have c18b0 : decide (0 ≤ x6_1) = true := decide_eq_true c18
                        clear c18
                        by_cases c19 : x6_1 < (l0_1.length : Int)
                        · rw [if_pos c19] at H
                          have c19b0 : decide (x6_1 < (l0_1.length : Int)) = true := decide_eq_true c19
                          clear c19
                          by_cases c20 : x7_2 < ((rd_L6 l0_1 x6_1).length : Int)
                          · rw [if_pos c20] at H
                            have c20b0 : decide (x7_2 < ((rd_L6 l0_1 x6_1).length : Int)) = true := decide_eq_true c20
                            clear c20
                            by_cases c21 : 0 ≤ x7_2
                            · rw [if_pos c21] at H
                              have c21b0 : decide (0 ≤ x7_2) = true := decide_eq_true c21
                              clear c21
                              replace H := Option.bind_eq_some_iff.mp H
                              obtain ⟨t227, A220, H⟩ := H
                              replace H : (if x5_2.size + t227.size ≤ 9223372036854775807 then (if (x5_2 ++ t227).size + 1 ≤ 9223372036854775807 then (threshingref02_Print.l1 k2 ((x5_2 ++ t227) ++ (⟨#[32]⟩ : ByteArray)) x6_1 (wrap64 (x7_2 + 1)) a0_0 l0_1) else (none)) else (none)) = some (r1, r2) := H
                              have A22 := Aside0.mk A220
                              clear A220
                              by_cases c23 : x5_2.size + t227.size ≤ 9223372036854775807
                              · rw [if_pos c23] at H
                                have c23b0 := eq_true c23
                                have c23b1 : decide (x5_2.size + t227.size ≤ 9223372036854775807) = true := decide_eq_true c23
                                try have c23b2 : (9223372036854775807 < x5_2.size + t227.size) = False := eq_false (Nat.not_lt.2 c23)
                                by_cases c24 : (x5_2 ++ t227).size + 1 ≤ 9223372036854775807
                                · rw [if_pos c24] at H
                                  have c24b0 := eq_true c24
                                  have c24b1 : decide ((x5_2 ++ t227).size + 1 ≤ 9223372036854775807) = true := decide_eq_true c24
                                  try have c24b2 : (9223372036854775807 < (x5_2 ++ t227).size + 1) = False := eq_false (Nat.not_lt.2 c24)
                                  have c24b3 : (x5_2).size + (t227).size + 1 ≤ 9223372036854775807 := by have h := c24; simp only [ByteArray.size_append] at h; exact h
                                  have c24b4 : (9223372036854775807 < (x5_2).size + (t227).size + 1) = False := eq_false (Nat.not_lt.2 c24b3)
                                  replace c24b3 := eq_true c24b3
                                  have H' := Aside0.mk H
                                  clear H
                                  have hcz25_0 : wr.cell? ⟨gb220, 0, none⟩ = some (.int .i64 a0_0) := (blk_cell BK220.out 0).trans rfl
                                  have hcz25_1 : wr.cell? ⟨gb220, 1, none⟩ = some (.slice A0_1 l0_1.length c0_1) := (blk_cell BK220.out 1).trans rfl
                                  have hfz25_0 := blk_frozen BK220.out 0
                                  have hfz25_1 := blk_frozen BK220.out 1
                                  have p224 : 0 ≤ (x6_1 : Int) := of_decide_eq_true (by first | (with_reducible assumption) | assumption)
                                  have q224 : x6_1 < (l0_1.length : Int) := of_decide_eq_true (by first | (with_reducible assumption) | assumption)
                                  obtain ⟨ad224, A224_0, c224_0, e224, hx224_0, hl224_0, hi224_0⟩ := at_L6 HR0_1.out x6_1 p224 q224
                                  cases e224
                                  replace hx224_0 := (HB.out.cell (World.block_lt_of_cell? w _ hx224_0)).trans hx224_0
                                  have HR224_0 := Aside0.mk hi224_0
                                  have HC224_0 := Aside0.mk hl224_0
                                  clear hi224_0 hl224_0
                                  replace p224 := eq_true p224
                                  replace q224 := eq_true q224
                                  have p225 : 0 ≤ (x6_1 : Int) := of_decide_eq_true (by first | (with_reducible assumption) | assumption)
                                  have q225 : x6_1 < (l0_1.length : Int) := of_decide_eq_true (by first | (with_reducible assumption) | assumption)
                                  obtain ⟨ad225, A225_0, c225_0, e225, hx225_0, hl225_0, hi225_0⟩ := at_L6 HR0_1.out x6_1 p225 q225
                                  obtain rfl : ad224 = ad225 := (by injection e225)
                                  replace hx225_0 := (HB.out.cell (World.block_lt_of_cell? w _ hx225_0)).trans hx225_0
                                  have HR225_0 := Aside0.mk hi225_0
                                  have HC225_0 := Aside0.mk hl225_0
                                  clear hi225_0 hl225_0
                                  replace p225 := eq_true p225
                                  replace q225 := eq_true q225
                                  have ea_ := Option.some.inj (hx224_0.symm.trans hx225_0)
                                  injection ea_ with ea_ en_ ec_
                                  subst ea_
                                  subst ec_
                                  clear en_
                                  have p226 : 0 ≤ (x7_2 : Int) := of_decide_eq_true (by first | (with_reducible assumption) | assumption)
                                  have q226 : x7_2 < ((rd_L6 l0_1 x6_1).length : Int) := of_decide_eq_true (by first | (with_reducible assumption) | assumption)
                                  obtain ⟨ad226, e226, hx226_0⟩ := Kd.at_int HR225_0.out x7_2 p226 q226
                                  cases e226
                                  replace hx226_0 := (HB.out.cell (World.block_lt_of_cell? w _ hx226_0)).trans hx226_0
                                  replace p226 := eq_true p226
                                  replace q226 := eq_true q226
                                  go_wp2_with (first | ((with_reducible refine gate_callee (f := 39) rfl ?_); refine goesL_ (some 51) rfl rfl Tryz.func39 (by kernel_rfl) rfl #[.int .i64 (wrap64 (rd (rd_L6 l0_1 x6_1) x7_2))] rfl (by (try simp only [List.map_toArray, List.map_cons, List.map_nil]); first | done | rfl | (simp only [List.length_drop, List.length_take]; rfl)) ?_; (with_reducible refine (threshingref02_digits.calls k2 (wrap64 (rd (rd_L6 l0_1 x6_1) x7_2)) t227 _ A22.out).mono ?_); rintro e w26 ⟨rfl, hb⟩; refine ⟨_, rfl, ?_⟩; have n0_ := Aside0.mk (blk_below (g := gb220) (o := .cells #[.int .i64 a0_0, .slice (some ad224) l0_1.length c0_1] 35 (0, 0)) (by (with_reducible repeat (first | refine blk_drewN ?_ _ | refine blk_drew ?_ | refine blk_alloc ?_ _)); exact BK220.out) hb); have n1_ := Aside0.mk (below_step (by repeat (first | (with_reducible first | exact HB.out | apply below_alloc | apply pw_below_drewN | apply below_drew1 | refine below_set ?_ GE220.out) | exact HB.out)) hb); clear BK220; clear HB; have BK220 := n0_; have HB := n1_; clear n0_ n1_; (try clear hb); (try clear hb2); (try clear hk); (try clear hi)))
                                  go_roundg k2
                                  case measure => have := HK1.out; have := HK2.out; omega
                                  case rel => exact ⟨((x5_2 ++ t227) ++ (⟨#[32]⟩ : ByteArray)), (wrap64 (x7_2 + 1)), (by first | rfl | (simp; done) | (simp [*]; done)), (by first | rfl | (simp; done) | (simp [*]; done)), H', ⟨by have := HK1.out; have := HK2.out; omega⟩, ⟨by (with_reducible repeat (first | refine blk_drewN ?_ _ | refine blk_drew ?_ | refine blk_alloc ?_ _)); exact BK220.out⟩, ⟨by repeat (first | (with_reducible first | exact HB.out | apply below_alloc | apply pw_below_drewN | apply below_drew1 | refine below_set ?_ GE220.out) | exact HB.out)⟩⟩
                                · rw [if_neg c24] at H
                                  exact absurd H (by simp)
                              · rw [if_neg c23] at H
                                exact absurd H (by simp)
                            · rw [if_neg c21] at H
                              exact absurd H (by simp)
                          · rw [if_neg c20] at H
                            have c20b0 : decide (x7_2 < ((rd_L6 l0_1 x6_1).length : Int)) = false := decide_eq_false c20
                            clear c20
                            by_cases c27 : x5_2.size + 2 ≤ 9223372036854775807
                            · rw [if_pos c27] at H
                              have c27b0 := eq_true c27
                              have c27b1 : decide (x5_2.size + 2 ≤ 9223372036854775807) = true := decide_eq_true c27
                              try have c27b2 : (9223372036854775807 < x5_2.size + 2) = False := eq_false (Nat.not_lt.2 c27)
                              have H' := Aside0.mk H
                              clear H
                              have hcz28_0 : wr.cell? ⟨gb220, 0, none⟩ = some (.int .i64 a0_0) := (blk_cell BK220.out 0).trans rfl
                              have hcz28_1 : wr.cell? ⟨gb220, 1, none⟩ = some (.slice A0_1 l0_1.length c0_1) := (blk_cell BK220.out 1).trans rfl
                              have hfz28_0 := blk_frozen BK220.out 0
                              have hfz28_1 := blk_frozen BK220.out 1
                              have p224 : 0 ≤ (x6_1 : Int) := of_decide_eq_true (by first | (with_reducible assumption) | assumption)
                              have q224 : x6_1 < (l0_1.length : Int) := of_decide_eq_true (by first | (with_reducible assumption) | assumption)
                              obtain ⟨ad224, A224_0, c224_0, e224, hx224_0, hl224_0, hi224_0⟩ := at_L6 HR0_1.out x6_1 p224 q224
                              cases e224
                              replace hx224_0 := (HB.out.cell (World.block_lt_of_cell? w _ hx224_0)).trans hx224_0
                              have HR224_0 := Aside0.mk hi224_0
                              have HC224_0 := Aside0.mk hl224_0
                              clear hi224_0 hl224_0
                              replace p224 := eq_true p224
                              replace q224 := eq_true q224
                              go_wp2
                              go_roundg k2
                              case measure => have := HK1.out; have := HK2.out; omega
                              case rel => exact ⟨(x5_2 ++ (⟨#[48, 10]⟩ : ByteArray)), (wrap64 (x6_1 + 1)), (by first | rfl | (simp; done) | (simp [*]; done)), (by first | rfl | (simp; done) | (simp [*]; done)), H', ⟨by have := HK1.out; have := HK2.out; omega⟩, ⟨by (with_reducible repeat (first | refine blk_drewN ?_ _ | refine blk_drew ?_ | refine blk_alloc ?_ _)); exact BK220.out⟩, ⟨by repeat (first | (with_reducible first | exact HB.out | apply below_alloc | apply pw_below_drewN | apply below_drew1 | refine below_set ?_ GE220.out) | exact HB.out)⟩⟩
                            · rw [if_neg c27] at H
                              exact absurd H (by simp)
                        · rw [if_neg c19] at H
                          exact absurd H (by simp)
                      · rw [if_neg c18] at H
                        exact absurd H (by simp)
                · rw [if_neg c16] at H
                  have c16b0 : decide (x6_1 < (l0_1.length : Int)) = false := decide_eq_false c16
                  clear c16
                  simp only [Option.some.injEq, Prod.mk.injEq] at H
                  obtain ⟨rfl, rfl⟩ := H
                  have hcz29_0 : wr.cell? ⟨gb220, 0, none⟩ = some (.int .i64 a0_0) := (blk_cell BK220.out 0).trans rfl
                  have hcz29_1 : wr.cell? ⟨gb220, 1, none⟩ = some (.slice A0_1 l0_1.length c0_1) := (blk_cell BK220.out 1).trans rfl
                  have hfz29_0 := blk_frozen BK220.out 0
                  have hfz29_1 := blk_frozen BK220.out 1
                  go_wp2
                  go_ret2
                  exact ⟨by first | rfl | (simp [errW_none, errW_some] <;> rfl) | (simp [*, errW_none, errW_some] <;> rfl), by repeat (first | (with_reducible first | exact HB.out | apply below_alloc | apply pw_below_drewN | apply below_drew1 | refine below_set ?_ GE220.out) | exact HB.out)⟩
          · rw [if_neg c9] at H
            exact absurd H (by simp)
        · rw [if_neg c8] at H
          exact absurd H (by simp)
      · rw [if_neg c6] at H
        exact absurd H (by simp)
    · rw [if_neg c5] at H
      exact absurd H (by simp)
  · rw [if_neg c3] at H
    have c3b0 : (t221 == 0) = false := beq_eq_false_iff_ne.mpr c3
    have c3b1 : (t221 != 0) = true := bne_iff_ne.mpr c3
    simp only [Option.some.injEq, Prod.mk.injEq] at H
    obtain ⟨rfl, rfl⟩ := H
    go_enter Tryz.func30, Tryz.ntmps30
    go_wp2_with (first | ((with_reducible refine gate_dst (N := 1) rfl ?_); refine box_event ?hg (N := 1) ?hd (cs := #[.int .i64 a0_0, .slice A0_1 l0_1.length c0_1]) (t := 35) ?hr ?_; (case hd => rfl); (case hg => rfl); (case hr => first | (go_simp; done) | (go_simp; rfl)); intro gb220 hg w30 hbox hb; have n0_ := Aside0.mk (below_step (by repeat (first | (with_reducible first | exact HB.out | apply below_alloc | apply pw_below_drewN | apply below_drew1) | exact HB.out)) hb); have n1_ := Aside0.mk (hbox); have n2_ := Aside0.mk ((by rw [hg]; exact (below_size (by repeat (first | (with_reducible first | exact HB.out | apply below_alloc | apply pw_below_drewN | apply below_drew1) | exact HB.out))) : w.heap.size ≤ gb220)); have n3_ := Aside0.mk ((by rw [hg]; exact (below_size (by repeat (first | (with_reducible first | exact HB.out | apply below_alloc | apply pw_below_drewN | apply below_drew1) | exact HB.out))) : w.heap.size ≤ gb220)); clear HB; have HB := n0_; have BK220 := n1_; have GW220 := n2_; have GE220 := n3_; clear n0_ n1_ n2_ n3_; clear hb hbox hg; have hcz31_0 : w30.cell? ⟨gb220, 0, none⟩ = some (.int .i64 a0_0) := (blk_cell BK220.out 0).trans rfl; have hcz31_1 : w30.cell? ⟨gb220, 1, none⟩ = some (.slice A0_1 l0_1.length c0_1) := (blk_cell BK220.out 1).trans rfl; have hfz31_0 := blk_frozen BK220.out 0; have hfz31_1 := blk_frozen BK220.out 1) | ((with_reducible refine gate_callee (f := 49) rfl ?_); refine goesL_ (some 9) rfl rfl Tryz.func49 (by kernel_rfl) rfl #[.agg #[.int .i64 a0_0, .slice A0_1 l0_1.length c0_1]] rfl (by (try simp only [List.map_toArray, List.map_cons, List.map_nil]); first | done | rfl | (simp only [List.length_drop, List.length_take]; rfl)) ?_; (with_reducible refine (threshingref01_Right.calls k a0_0 _ _ l0_1 t221 _ ?side1 ?side2 A2.out).mono ?_); (case side1 => repeat (first | exact (Kd.C_below HR0_1.out HB.out) | (with_reducible refine Kd.C_alloc ?_ _) | (with_reducible refine Kd.C_drewN ?_ _) | (with_reducible refine Kd.C_drew ?_))); (case side2 => exact HC0_1.out); rintro e w32 ⟨rfl, hb⟩; refine ⟨_, rfl, ?_⟩; have n0_ := Aside0.mk (blk_below (g := gb220) (o := .cells #[.int .i64 a0_0, .slice A0_1 l0_1.length c0_1] 35 (0, 0)) (by (with_reducible repeat (first | refine blk_drewN ?_ _ | refine blk_drew ?_ | refine blk_alloc ?_ _)); exact BK220.out) hb); have n1_ := Aside0.mk (below_step (by repeat (first | (with_reducible first | exact HB.out | apply below_alloc | apply pw_below_drewN | apply below_drew1 | refine below_set ?_ GE220.out) | exact HB.out)) hb); clear BK220; clear HB; have BK220 := n0_; have HB := n1_; clear n0_ n1_; (try clear hb); (try clear hb2); (try clear hk); (try clear hi)))
    go_ret2
    exact ⟨by first | rfl | (simp [errW_none, errW_some] <;> rfl) | (simp [*, errW_none, errW_some] <;> rfl), by repeat (first | (with_reducible first | exact HB.out | apply below_alloc | apply pw_below_drewN | apply below_drew1 | refine below_set ?_ GE220.out) | exact HB.out)⟩
end Go.Proofs.YtigloobbpcnnhaaGreatDoor.PB
end
section
namespace Go.Proofs.YtigloobbpcnnhaaGreatDoor.PB
open Go.RowKit Go.Proofs.YtigloobbpcnnhaaGreatDoorW.PrintWords Go.Proofs.YtigloobbpcnnhaaGreatDoorW.PrintLast Go.Proofs.YtigloobbpcnnhaaGreatDoorW.PrintMore
attribute [local go_sem] max2_int min2_int max_two min_two max_three min_three max_four min_four   -- for this text's walks alone
set_option linter.unusedVariables false
set_option linter.unusedSimpArgs false
def threshingref02_Values.l0 : Nat → List Bool → ByteArray → ByteArray → Int → Option (ByteArray)
  | 0, _, _, _, _ => none
  | k + 1, x0, x3, x4, x5 => if x5 ≤ (wrap64 ((x0.length : Int) + 1)) then (if x5 ≤ (x0.length : Int) then ((threshingref02_digits.f k x5).bind fun t228 => (if 0 ≤ (wrap64 (x5 - 1)) then (if (wrap64 (x5 - 1)) < (x0.length : Int) then (if (rdOf false x0 (wrap64 (x5 - 1)) = true) then (if (wrap64 ((wrap64 ((x4.size : Int) + 1)) + (t228.size : Int))) > 78 then (if x4.toList = ([118] : List UInt8) then (if x4.size + 1 ≤ 9223372036854775807 then (if (x4 ++ (⟨#[32]⟩ : ByteArray)).size + t228.size ≤ 9223372036854775807 then (threshingref02_Values.l0 k x0 x3 ((x4 ++ (⟨#[32]⟩ : ByteArray)) ++ t228) (wrap64 (x5 + 1))) else (none)) else (none)) else (if x3.size + x4.size ≤ 9223372036854775807 then (if (x3 ++ x4).size + 1 ≤ 9223372036854775807 then (if 1 + 1 ≤ 9223372036854775807 then (if 2 + t228.size ≤ 9223372036854775807 then (threshingref02_Values.l0 k x0 ((x3 ++ x4) ++ (⟨#[10]⟩ : ByteArray)) (((⟨#[118]⟩ : ByteArray) ++ (⟨#[32]⟩ : ByteArray)) ++ t228) (wrap64 (x5 + 1))) else (none)) else (none)) else (none)) else (none))) else (if x4.size + 1 ≤ 9223372036854775807 then (if (x4 ++ (⟨#[32]⟩ : ByteArray)).size + t228.size ≤ 9223372036854775807 then (threshingref02_Values.l0 k x0 x3 ((x4 ++ (⟨#[32]⟩ : ByteArray)) ++ t228) (wrap64 (x5 + 1))) else (none)) else (none))) else (if 1 + t228.size ≤ 9223372036854775807 then (if (wrap64 ((wrap64 ((x4.size : Int) + 1)) + (((⟨#[45]⟩ : ByteArray) ++ t228).size : Int))) > 78 then (if x4.toList = ([118] : List UInt8) then (if x4.size + 1 ≤ 9223372036854775807 then (if (x4 ++ (⟨#[32]⟩ : ByteArray)).size + ((⟨#[45]⟩ : ByteArray) ++ t228).size ≤ 9223372036854775807 then (threshingref02_Values.l0 k x0 x3 ((x4 ++ (⟨#[32]⟩ : ByteArray)) ++ ((⟨#[45]⟩ : ByteArray) ++ t228)) (wrap64 (x5 + 1))) else (none)) else (none)) else (if x3.size + x4.size ≤ 9223372036854775807 then (if (x3 ++ x4).size + 1 ≤ 9223372036854775807 then (if 1 + 1 ≤ 9223372036854775807 then (if 2 + ((⟨#[45]⟩ : ByteArray) ++ t228).size ≤ 9223372036854775807 then (threshingref02_Values.l0 k x0 ((x3 ++ x4) ++ (⟨#[10]⟩ : ByteArray)) (((⟨#[118]⟩ : ByteArray) ++ (⟨#[32]⟩ : ByteArray)) ++ ((⟨#[45]⟩ : ByteArray) ++ t228)) (wrap64 (x5 + 1))) else (none)) else (none)) else (none)) else (none))) else (if x4.size + 1 ≤ 9223372036854775807 then (if (x4 ++ (⟨#[32]⟩ : ByteArray)).size + ((⟨#[45]⟩ : ByteArray) ++ t228).size ≤ 9223372036854775807 then (threshingref02_Values.l0 k x0 x3 ((x4 ++ (⟨#[32]⟩ : ByteArray)) ++ ((⟨#[45]⟩ : ByteArray) ++ t228)) (wrap64 (x5 + 1))) else (none)) else (none))) else (none))) else (none)) else (none))) else (if (wrap64 ((wrap64 ((x4.size : Int) + 1)) + 1)) > 78 then (if x4.toList = ([118] : List UInt8) then (if x4.size + 1 ≤ 9223372036854775807 then (if (x4 ++ (⟨#[32]⟩ : ByteArray)).size + 1 ≤ 9223372036854775807 then (threshingref02_Values.l0 k x0 x3 ((x4 ++ (⟨#[32]⟩ : ByteArray)) ++ (⟨#[48]⟩ : ByteArray)) (wrap64 (x5 + 1))) else (none)) else (none)) else (if x3.size + x4.size ≤ 9223372036854775807 then (if (x3 ++ x4).size + 1 ≤ 9223372036854775807 then (if 1 + 1 ≤ 9223372036854775807 then (threshingref02_Values.l0 k x0 ((x3 ++ x4) ++ (⟨#[10]⟩ : ByteArray)) (((⟨#[118]⟩ : ByteArray) ++ (⟨#[32]⟩ : ByteArray)) ++ (⟨#[48]⟩ : ByteArray)) (wrap64 (x5 + 1))) else (none)) else (none)) else (none))) else (if x4.size + 1 ≤ 9223372036854775807 then (if (x4 ++ (⟨#[32]⟩ : ByteArray)).size + 1 ≤ 9223372036854775807 then (threshingref02_Values.l0 k x0 x3 ((x4 ++ (⟨#[32]⟩ : ByteArray)) ++ (⟨#[48]⟩ : ByteArray)) (wrap64 (x5 + 1))) else (none)) else (none)))) else (if x3.size + x4.size ≤ 9223372036854775807 then (if (x3 ++ x4).size + 1 ≤ 9223372036854775807 then (some ((x3 ++ x4) ++ (⟨#[10]⟩ : ByteArray))) else (none)) else (none))
def threshingref02_Values.f (k : Nat) (l0 : List Bool) : Option (ByteArray) := threshingref02_Values.l0 k l0 (⟨#[]⟩ : ByteArray) (⟨#[118]⟩ : ByteArray) 1
theorem threshingref02_Values.mono_l : ∀ k, (∀ y0 y1 y2 y3, LeO (threshingref02_Values.l0 k y0 y1 y2 y3) (threshingref02_Values.l0 (k + 1) y0 y1 y2 y3))
  | 0 => fun _ _ _ _ r h => by simp [threshingref02_Values.l0] at h
  | k + 1 => by
    have ih0 := threshingref02_Values.mono_l k
    · intro y0 y1 y2 y3
      unfold threshingref02_Values.l0
      repeat' first
      | (with_reducible exact ih0 _ _ _ _)
      | (with_reducible exact threshingref02_digits.mono _ _)
      | (with_reducible exact LeO.refl _)
      | (with_reducible exact LeO.none _)
      | (with_reducible refine LeO.ite ?_ ?_)
      | (with_reducible refine LeO.bind ?_ (fun _ => ?_))
      | exact ih0 _ _ _ _
      | exact threshingref02_digits.mono _ _
      | exact LeO.none _
      | refine LeO.ite ?_ ?_
      | refine LeO.bind ?_ (fun _ => ?_)
theorem threshingref02_Values.mono : ∀ a0 k, LeO (threshingref02_Values.f k a0) (threshingref02_Values.f (k + 1) a0) := by
  intro a0 k
  have ih0 := threshingref02_Values.mono_l k
  unfold threshingref02_Values.f
  repeat' first
      | (with_reducible exact ih0 _ _ _ _)
      | (with_reducible exact threshingref02_digits.mono _ _)
      | (with_reducible exact LeO.refl _)
      | (with_reducible exact LeO.none _)
      | (with_reducible refine LeO.ite ?_ ?_)
      | (with_reducible refine LeO.bind ?_ (fun _ => ?_))
      | exact ih0 _ _ _ _
      | exact threshingref02_digits.mono _ _
      | exact LeO.none _
      | refine LeO.ite ?_ ?_
      | refine LeO.bind ?_ (fun _ => ?_)
theorem wrap_in2 (a b : Int) : wrap64 (wrap64 a + b) = wrap64 (a + b) := by
  unfold wrap64
  omega
set_option maxHeartbeats 8000000 in
set_option maxRecDepth 100000 in
theorem threshingref02_Values.calls (k : Nat) (A0 : Option Addr) (c0 : Nat) (l0 : List Bool) (r : ByteArray) (w : World) (hr0 : Kd.C Kd.bool w A0 l0.length l0) (hc0 : l0.length ≤ c0) (h : threshingref02_Values.f k l0 = some r) :
    Calls Tryz.prog 19 #[.slice A0 l0.length c0] w fun e w' => e = .returned (.string r) ∧ Below w.heap.size w w' := by
  have HR0 := Aside0.mk hr0
  have HC0 := Aside0.mk hc0
  clear hr0 hc0
  have HB := Aside0.mk (Below.refl w.heap.size w)
  have H : (threshingref02_Values.l0 k l0 (⟨#[]⟩ : ByteArray) (⟨#[118]⟩ : ByteArray) 1) = some r := h
  clear h
  have H' := Aside0.mk H
  clear H
  go_enter Tryz.func19, Tryz.ntmps19
  go_wp2
  go_loopg [3, 4, 5] k (fun kq v3 v4 v5 w' => ∃ (x3_1 : ByteArray) (x4_1 : ByteArray) (x5_1 : Int), v3 = .string x3_1 ∧ v4 = .string x4_1 ∧ v5 = .int .i64 x5_1 ∧ Aside0 (threshingref02_Values.l0 kq l0 x3_1 x4_1 x5_1 = some r) ∧ Aside0 (kq ≤ k) ∧ Aside0 (Below w.heap.size w w'))
  case atStart => exact ⟨((⟨#[]⟩ : ByteArray)), ((⟨#[118]⟩ : ByteArray)), (1), (by first | rfl | (simp; done) | (simp [*]; done)), (by first | rfl | (simp; done) | (simp [*]; done)), (by first | rfl | (simp; done) | (simp [*]; done)), H', ⟨Nat.le_refl _⟩, ⟨by repeat (first | (with_reducible first | exact HB.out | apply below_alloc | apply pw_below_drewN | apply below_drew1) | exact HB.out)⟩⟩
  case round =>
    clear H'
    try clear c1
    obtain ⟨x3_1, x4_1, x5_1, rfl, rfl, rfl, HA, HK1, HB⟩ := hrel
    cases gk with
    | zero => exact absurd HA.out (by simp [threshingref02_Values.l0])
    | succ k1 =>
      have H := HA.out
      clear HA
      simp only [threshingref02_Values.l0] at H
      by_cases c2 : x5_1 ≤ (wrap64 ((l0.length : Int) + 1))
      · rw [if_pos c2] at H
        have c2b0 : decide (x5_1 ≤ (wrap64 ((l0.length : Int) + 1))) = true := decide_eq_true c2
        clear c2
        by_cases c3 : x5_1 ≤ (l0.length : Int)
        · rw [if_pos c3] at H
          have c3b0 : decide (x5_1 ≤ (l0.length : Int)) = true := decide_eq_true c3
          clear c3
          replace H := Option.bind_eq_some_iff.mp H
          obtain ⟨t228, A40, H⟩ := H
          replace H : (if 0 ≤ (wrap64 (x5_1 - 1)) then (if (wrap64 (x5_1 - 1)) < (l0.length : Int) then (if (rdOf false l0 (wrap64 (x5_1 - 1)) = true) then (if (wrap64 ((wrap64 ((x4_1.size : Int) + 1)) + (t228.size : Int))) > 78 then (if x4_1.toList = ([118] : List UInt8) then (if x4_1.size + 1 ≤ 9223372036854775807 then (if (x4_1 ++ (⟨#[32]⟩ : ByteArray)).size + t228.size ≤ 9223372036854775807 then (threshingref02_Values.l0 k1 l0 x3_1 ((x4_1 ++ (⟨#[32]⟩ : ByteArray)) ++ t228) (wrap64 (x5_1 + 1))) else (none)) else (none)) else (if x3_1.size + x4_1.size ≤ 9223372036854775807 then (if (x3_1 ++ x4_1).size + 1 ≤ 9223372036854775807 then (if 1 + 1 ≤ 9223372036854775807 then (if 2 + t228.size ≤ 9223372036854775807 then (threshingref02_Values.l0 k1 l0 ((x3_1 ++ x4_1) ++ (⟨#[10]⟩ : ByteArray)) (((⟨#[118]⟩ : ByteArray) ++ (⟨#[32]⟩ : ByteArray)) ++ t228) (wrap64 (x5_1 + 1))) else (none)) else (none)) else (none)) else (none))) else (if x4_1.size + 1 ≤ 9223372036854775807 then (if (x4_1 ++ (⟨#[32]⟩ : ByteArray)).size + t228.size ≤ 9223372036854775807 then (threshingref02_Values.l0 k1 l0 x3_1 ((x4_1 ++ (⟨#[32]⟩ : ByteArray)) ++ t228) (wrap64 (x5_1 + 1))) else (none)) else (none))) else (if 1 + t228.size ≤ 9223372036854775807 then (if (wrap64 ((wrap64 ((x4_1.size : Int) + 1)) + (((⟨#[45]⟩ : ByteArray) ++ t228).size : Int))) > 78 then (if x4_1.toList = ([118] : List UInt8) then (if x4_1.size + 1 ≤ 9223372036854775807 then (if (x4_1 ++ (⟨#[32]⟩ : ByteArray)).size + ((⟨#[45]⟩ : ByteArray) ++ t228).size ≤ 9223372036854775807 then (threshingref02_Values.l0 k1 l0 x3_1 ((x4_1 ++ (⟨#[32]⟩ : ByteArray)) ++ ((⟨#[45]⟩ : ByteArray) ++ t228)) (wrap64 (x5_1 + 1))) else (none)) else (none)) else (if x3_1.size + x4_1.size ≤ 9223372036854775807 then (if (x3_1 ++ x4_1).size + 1 ≤ 9223372036854775807 then (if 1 + 1 ≤ 9223372036854775807 then (if 2 + ((⟨#[45]⟩ : ByteArray) ++ t228).size ≤ 9223372036854775807 then (threshingref02_Values.l0 k1 l0 ((x3_1 ++ x4_1) ++ (⟨#[10]⟩ : ByteArray)) (((⟨#[118]⟩ : ByteArray) ++ (⟨#[32]⟩ : ByteArray)) ++ ((⟨#[45]⟩ : ByteArray) ++ t228)) (wrap64 (x5_1 + 1))) else (none)) else (none)) else (none)) else (none))) else (if x4_1.size + 1 ≤ 9223372036854775807 then (if (x4_1 ++ (⟨#[32]⟩ : ByteArray)).size + ((⟨#[45]⟩ : ByteArray) ++ t228).size ≤ 9223372036854775807 then (threshingref02_Values.l0 k1 l0 x3_1 ((x4_1 ++ (⟨#[32]⟩ : ByteArray)) ++ ((⟨#[45]⟩ : ByteArray) ++ t228)) (wrap64 (x5_1 + 1))) else (none)) else (none))) else (none))) else (none)) else (none)) = some r := H
          have A4 := Aside0.mk A40
          clear A40
          obtain ⟨ji5, hji5⟩ : ∃ j_ : Int, (wrap64 (x5_1 - 1)) = j_ := ⟨_, rfl⟩
          replace H : (if 0 ≤ (ji5) then (if (ji5) < (l0.length : Int) then (if (rdOf false l0 (ji5) = true) then (if (wrap64 ((wrap64 ((x4_1.size : Int) + 1)) + (t228.size : Int))) > 78 then (if x4_1.toList = ([118] : List UInt8) then (if x4_1.size + 1 ≤ 9223372036854775807 then (if (x4_1 ++ (⟨#[32]⟩ : ByteArray)).size + t228.size ≤ 9223372036854775807 then (threshingref02_Values.l0 k1 l0 x3_1 ((x4_1 ++ (⟨#[32]⟩ : ByteArray)) ++ t228) (wrap64 (x5_1 + 1))) else (none)) else (none)) else (if x3_1.size + x4_1.size ≤ 9223372036854775807 then (if (x3_1 ++ x4_1).size + 1 ≤ 9223372036854775807 then (if 1 + 1 ≤ 9223372036854775807 then (if 2 + t228.size ≤ 9223372036854775807 then (threshingref02_Values.l0 k1 l0 ((x3_1 ++ x4_1) ++ (⟨#[10]⟩ : ByteArray)) (((⟨#[118]⟩ : ByteArray) ++ (⟨#[32]⟩ : ByteArray)) ++ t228) (wrap64 (x5_1 + 1))) else (none)) else (none)) else (none)) else (none))) else (if x4_1.size + 1 ≤ 9223372036854775807 then (if (x4_1 ++ (⟨#[32]⟩ : ByteArray)).size + t228.size ≤ 9223372036854775807 then (threshingref02_Values.l0 k1 l0 x3_1 ((x4_1 ++ (⟨#[32]⟩ : ByteArray)) ++ t228) (wrap64 (x5_1 + 1))) else (none)) else (none))) else (if 1 + t228.size ≤ 9223372036854775807 then (if (wrap64 ((wrap64 ((x4_1.size : Int) + 1)) + (((⟨#[45]⟩ : ByteArray) ++ t228).size : Int))) > 78 then (if x4_1.toList = ([118] : List UInt8) then (if x4_1.size + 1 ≤ 9223372036854775807 then (if (x4_1 ++ (⟨#[32]⟩ : ByteArray)).size + ((⟨#[45]⟩ : ByteArray) ++ t228).size ≤ 9223372036854775807 then (threshingref02_Values.l0 k1 l0 x3_1 ((x4_1 ++ (⟨#[32]⟩ : ByteArray)) ++ ((⟨#[45]⟩ : ByteArray) ++ t228)) (wrap64 (x5_1 + 1))) else (none)) else (none)) else (if x3_1.size + x4_1.size ≤ 9223372036854775807 then (if (x3_1 ++ x4_1).size + 1 ≤ 9223372036854775807 then (if 1 + 1 ≤ 9223372036854775807 then (if 2 + ((⟨#[45]⟩ : ByteArray) ++ t228).size ≤ 9223372036854775807 then (threshingref02_Values.l0 k1 l0 ((x3_1 ++ x4_1) ++ (⟨#[10]⟩ : ByteArray)) (((⟨#[118]⟩ : ByteArray) ++ (⟨#[32]⟩ : ByteArray)) ++ ((⟨#[45]⟩ : ByteArray) ++ t228)) (wrap64 (x5_1 + 1))) else (none)) else (none)) else (none)) else (none))) else (if x4_1.size + 1 ≤ 9223372036854775807 then (if (x4_1 ++ (⟨#[32]⟩ : ByteArray)).size + ((⟨#[45]⟩ : ByteArray) ++ t228).size ≤ 9223372036854775807 then (threshingref02_Values.l0 k1 l0 x3_1 ((x4_1 ++ (⟨#[32]⟩ : ByteArray)) ++ ((⟨#[45]⟩ : ByteArray) ++ t228)) (wrap64 (x5_1 + 1))) else (none)) else (none))) else (none))) else (none)) else (none)) = some r := by first | (rw [hji5] at H; exact H) | (simp only [hji5] at H ⊢; exact H)
          (try rw [hji5] at A4)
          have hji5w : (IntKind.i64.wrap (x5_1 - 1)) = ji5 := (i64_w _).trans hji5
          by_cases c6 : 0 ≤ (ji5)
          · rw [if_pos c6] at H
            have c6b0 : decide (0 ≤ (ji5)) = true := decide_eq_true c6
            clear c6
            by_cases c7 : (ji5) < (l0.length : Int)
            · rw [if_pos c7] at H
              have c7b0 : decide ((ji5) < (l0.length : Int)) = true := decide_eq_true c7
              clear c7
              obtain ⟨bq8, hbq8⟩ : ∃ b_ : Bool, b_ = (rdOf false l0 (ji5)) := ⟨_, rfl⟩
              replace H : (if (bq8 = true) then (if (wrap64 ((wrap64 ((x4_1.size : Int) + 1)) + (t228.size : Int))) > 78 then (if x4_1.toList = ([118] : List UInt8) then (if x4_1.size + 1 ≤ 9223372036854775807 then (if (x4_1 ++ (⟨#[32]⟩ : ByteArray)).size + t228.size ≤ 9223372036854775807 then (threshingref02_Values.l0 k1 l0 x3_1 ((x4_1 ++ (⟨#[32]⟩ : ByteArray)) ++ t228) (wrap64 (x5_1 + 1))) else (none)) else (none)) else (if x3_1.size + x4_1.size ≤ 9223372036854775807 then (if (x3_1 ++ x4_1).size + 1 ≤ 9223372036854775807 then (if 1 + 1 ≤ 9223372036854775807 then (if 2 + t228.size ≤ 9223372036854775807 then (threshingref02_Values.l0 k1 l0 ((x3_1 ++ x4_1) ++ (⟨#[10]⟩ : ByteArray)) (((⟨#[118]⟩ : ByteArray) ++ (⟨#[32]⟩ : ByteArray)) ++ t228) (wrap64 (x5_1 + 1))) else (none)) else (none)) else (none)) else (none))) else (if x4_1.size + 1 ≤ 9223372036854775807 then (if (x4_1 ++ (⟨#[32]⟩ : ByteArray)).size + t228.size ≤ 9223372036854775807 then (threshingref02_Values.l0 k1 l0 x3_1 ((x4_1 ++ (⟨#[32]⟩ : ByteArray)) ++ t228) (wrap64 (x5_1 + 1))) else (none)) else (none))) else (if 1 + t228.size ≤ 9223372036854775807 then (if (wrap64 ((wrap64 ((x4_1.size : Int) + 1)) + (((⟨#[45]⟩ : ByteArray) ++ t228).size : Int))) > 78 then (if x4_1.toList = ([118] : List UInt8) then (if x4_1.size + 1 ≤ 9223372036854775807 then (if (x4_1 ++ (⟨#[32]⟩ : ByteArray)).size + ((⟨#[45]⟩ : ByteArray) ++ t228).size ≤ 9223372036854775807 then (threshingref02_Values.l0 k1 l0 x3_1 ((x4_1 ++ (⟨#[32]⟩ : ByteArray)) ++ ((⟨#[45]⟩ : ByteArray) ++ t228)) (wrap64 (x5_1 + 1))) else (none)) else (none)) else (if x3_1.size + x4_1.size ≤ 9223372036854775807 then (if (x3_1 ++ x4_1).size + 1 ≤ 9223372036854775807 then (if 1 + 1 ≤ 9223372036854775807 then (if 2 + ((⟨#[45]⟩ : ByteArray) ++ t228).size ≤ 9223372036854775807 then (threshingref02_Values.l0 k1 l0 ((x3_1 ++ x4_1) ++ (⟨#[10]⟩ : ByteArray)) (((⟨#[118]⟩ : ByteArray) ++ (⟨#[32]⟩ : ByteArray)) ++ ((⟨#[45]⟩ : ByteArray) ++ t228)) (wrap64 (x5_1 + 1))) else (none)) else (none)) else (none)) else (none))) else (if x4_1.size + 1 ≤ 9223372036854775807 then (if (x4_1 ++ (⟨#[32]⟩ : ByteArray)).size + ((⟨#[45]⟩ : ByteArray) ++ t228).size ≤ 9223372036854775807 then (threshingref02_Values.l0 k1 l0 x3_1 ((x4_1 ++ (⟨#[32]⟩ : ByteArray)) ++ ((⟨#[45]⟩ : ByteArray) ++ t228)) (wrap64 (x5_1 + 1))) else (none)) else (none))) else (none))) = some r := by rw [← hbq8] at H; exact H
              have Nbq8 := Aside0.mk hbq8
              clear hbq8
              by_cases c9 : (bq8 = true)
              · subst c9
                have H1 : (if (wrap64 ((wrap64 ((x4_1.size : Int) + 1)) + (t228.size : Int))) > 78 then (if x4_1.toList = ([118] : List UInt8) then (if x4_1.size + 1 ≤ 9223372036854775807 then (if (x4_1 ++ (⟨#[32]⟩ : ByteArray)).size + t228.size ≤ 9223372036854775807 then (threshingref02_Values.l0 k1 l0 x3_1 ((x4_1 ++ (⟨#[32]⟩ : ByteArray)) ++ t228) (wrap64 (x5_1 + 1))) else (none)) else (none)) else (if x3_1.size + x4_1.size ≤ 9223372036854775807 then (if (x3_1 ++ x4_1).size + 1 ≤ 9223372036854775807 then (if 1 + 1 ≤ 9223372036854775807 then (if 2 + t228.size ≤ 9223372036854775807 then (threshingref02_Values.l0 k1 l0 ((x3_1 ++ x4_1) ++ (⟨#[10]⟩ : ByteArray)) (((⟨#[118]⟩ : ByteArray) ++ (⟨#[32]⟩ : ByteArray)) ++ t228) (wrap64 (x5_1 + 1))) else (none)) else (none)) else (none)) else (none))) else (if x4_1.size + 1 ≤ 9223372036854775807 then (if (x4_1 ++ (⟨#[32]⟩ : ByteArray)).size + t228.size ≤ 9223372036854775807 then (threshingref02_Values.l0 k1 l0 x3_1 ((x4_1 ++ (⟨#[32]⟩ : ByteArray)) ++ t228) (wrap64 (x5_1 + 1))) else (none)) else (none))) = some r := by rw [if_pos rfl] at H; exact H
                clear H
                have H := H1
                clear H1
                by_cases c10 : (wrap64 ((wrap64 ((x4_1.size : Int) + 1)) + (t228.size : Int))) > 78
                · rw [if_pos c10] at H
                  have c10b0 : decide (78 < (wrap64 ((wrap64 ((x4_1.size : Int) + 1)) + (t228.size : Int)))) = true := decide_eq_true c10
                  have c10b9 := c10b0
                  rw [wrap_in2] at c10b9
                  try simp only [ByteArray.size_append, Int.natCast_add] at c10b9
                  try rw [show (((⟨#[45]⟩ : ByteArray).size : Nat) : Int) = 1 from rfl] at c10b9
                  have c10b8 := c10b0
                  try simp only [ByteArray.size_append, Int.natCast_add] at c10b8
                  try rw [show (((⟨#[45]⟩ : ByteArray).size : Nat) : Int) = 1 from rfl] at c10b8
                  clear c10
                  by_cases c11 : x4_1.toList = ([118] : List UInt8)
                  · rw [if_pos c11] at H
                    have c11b0 : (x4_1.toList == ([118] : List UInt8)) = true := beq_iff_eq.mpr c11
                    have c11b1 : (x4_1.toList != ([118] : List UInt8)) = false := bne_eq_false_iff_eq.mpr c11
                    clear c11
                    by_cases c12 : x4_1.size + 1 ≤ 9223372036854775807
                    · rw [if_pos c12] at H
                      have c12b0 := eq_true c12
                      have c12b1 : decide (x4_1.size + 1 ≤ 9223372036854775807) = true := decide_eq_true c12
                      try have c12b2 : (9223372036854775807 < x4_1.size + 1) = False := eq_false (Nat.not_lt.2 c12)
                      by_cases c13 : (x4_1 ++ (⟨#[32]⟩ : ByteArray)).size + t228.size ≤ 9223372036854775807
                      · rw [if_pos c13] at H
                        have c13b0 := eq_true c13
                        have c13b1 : decide ((x4_1 ++ (⟨#[32]⟩ : ByteArray)).size + t228.size ≤ 9223372036854775807) = true := decide_eq_true c13
                        try have c13b2 : (9223372036854775807 < (x4_1 ++ (⟨#[32]⟩ : ByteArray)).size + t228.size) = False := eq_false (Nat.not_lt.2 c13)
                        have c13b3 : (x4_1).size + 1 + t228.size ≤ 9223372036854775807 := by have h := c13; simp only [ByteArray.size_append] at h; exact h
                        have c13b4 : (9223372036854775807 < (x4_1).size + 1 + t228.size) = False := eq_false (Nat.not_lt.2 c13b3)
                        replace c13b3 := eq_true c13b3
                        have H' := Aside0.mk H
                        clear H
                        go_wp2_with (first | ((with_reducible refine gate_callee (f := 39) rfl ?_); refine goesL_ (some 19) rfl rfl Tryz.func39 (by kernel_rfl) rfl #[.int .i64 x5_1] rfl (by (try simp only [List.map_toArray, List.map_cons, List.map_nil]); first | done | rfl | (simp only [List.length_drop, List.length_take]; rfl)) ?_; (with_reducible refine (threshingref02_digits.calls k1 x5_1 t228 _ A4.out).mono ?_); rintro e w14 ⟨rfl, hb⟩; refine ⟨_, rfl, ?_⟩; have n0_ := Aside0.mk (below_step (by repeat (first | (with_reducible first | exact HB.out | apply below_alloc | apply pw_below_drewN | apply below_drew1) | exact HB.out)) hb); clear HB; have HB := n0_; clear n0_; (try clear hb); (try clear hb2); (try clear hk); (try clear hi); have p229 : 0 ≤ ((ji5) : Int) := of_decide_eq_true (by first | (with_reducible assumption) | assumption); have q229 : (ji5) < (l0.length : Int) := of_decide_eq_true (by first | (with_reducible assumption) | assumption); obtain ⟨ad229, e229, hx229_0⟩ := Kd.at_bool HR0.out (ji5) p229 q229; (try rw [← Nbq8.out] at hx229_0); cases e229; replace hx229_0 := (HB.out.cell (World.block_lt_of_cell? w _ hx229_0)).trans hx229_0; replace p229 := eq_true p229; replace q229 := eq_true q229))
                        go_roundg k1
                        case measure => have := HK1.out; omega
                        case rel => exact ⟨(x3_1), ((x4_1 ++ (⟨#[32]⟩ : ByteArray)) ++ t228), (wrap64 (x5_1 + 1)), (by first | rfl | (simp; done) | (simp [*]; done)), (by first | rfl | (simp; done) | (simp [*]; done)), (by first | rfl | (simp; done) | (simp [*]; done)), H', ⟨by have := HK1.out; omega⟩, ⟨by repeat (first | (with_reducible first | exact HB.out | apply below_alloc | apply pw_below_drewN | apply below_drew1) | exact HB.out)⟩⟩
                      · rw [if_neg c13] at H
                        exact absurd H (by simp)
                    · rw [if_neg c12] at H
                      exact absurd H (by simp)
                  · rw [if_neg c11] at H
                    have c11b0 : (x4_1.toList == ([118] : List UInt8)) = false := beq_eq_false_iff_ne.mpr c11
                    have c11b1 : (x4_1.toList != ([118] : List UInt8)) = true := bne_iff_ne.mpr c11
                    by_cases c15 : x3_1.size + x4_1.size ≤ 9223372036854775807
                    · rw [if_pos c15] at H
                      have c15b0 := eq_true c15
                      have c15b1 : decide (x3_1.size + x4_1.size ≤ 9223372036854775807) = true := decide_eq_true c15
                      try have c15b2 : (9223372036854775807 < x3_1.size + x4_1.size) = False := eq_false (Nat.not_lt.2 c15)
                      by_cases c16 : (x3_1 ++ x4_1).size + 1 ≤ 9223372036854775807
                      · rw [if_pos c16] at H
                        have c16b0 := eq_true c16
                        have c16b1 : decide ((x3_1 ++ x4_1).size + 1 ≤ 9223372036854775807) = true := decide_eq_true c16
                        try have c16b2 : (9223372036854775807 < (x3_1 ++ x4_1).size + 1) = False := eq_false (Nat.not_lt.2 c16)
                        have c16b3 : (x3_1).size + (x4_1).size + 1 ≤ 9223372036854775807 := by have h := c16; simp only [ByteArray.size_append] at h; exact h
                        have c16b4 : (9223372036854775807 < (x3_1).size + (x4_1).size + 1) = False := eq_false (Nat.not_lt.2 c16b3)
                        replace c16b3 := eq_true c16b3
                        by_cases c17 : 1 + 1 ≤ 9223372036854775807
                        · rw [if_pos c17] at H
                          have c17b0 := eq_true c17
                          have c17b1 : decide (1 + 1 ≤ 9223372036854775807) = true := decide_eq_true c17
                          try have c17b2 : (9223372036854775807 < 1 + 1) = False := eq_false (Nat.not_lt.2 c17)
                          by_cases c18 : 2 + t228.size ≤ 9223372036854775807
                          · rw [if_pos c18] at H
                            have c18b0 := eq_true c18
                            have c18b1 : decide (2 + t228.size ≤ 9223372036854775807) = true := decide_eq_true c18
                            try have c18b2 : (9223372036854775807 < 2 + t228.size) = False := eq_false (Nat.not_lt.2 c18)
                            have H' := Aside0.mk H
                            clear H
                            go_wp2_with (first | ((with_reducible refine gate_callee (f := 39) rfl ?_); refine goesL_ (some 19) rfl rfl Tryz.func39 (by kernel_rfl) rfl #[.int .i64 x5_1] rfl (by (try simp only [List.map_toArray, List.map_cons, List.map_nil]); first | done | rfl | (simp only [List.length_drop, List.length_take]; rfl)) ?_; (with_reducible refine (threshingref02_digits.calls k1 x5_1 t228 _ A4.out).mono ?_); rintro e w19 ⟨rfl, hb⟩; refine ⟨_, rfl, ?_⟩; have n0_ := Aside0.mk (below_step (by repeat (first | (with_reducible first | exact HB.out | apply below_alloc | apply pw_below_drewN | apply below_drew1) | exact HB.out)) hb); clear HB; have HB := n0_; clear n0_; (try clear hb); (try clear hb2); (try clear hk); (try clear hi); have p229 : 0 ≤ ((ji5) : Int) := of_decide_eq_true (by first | (with_reducible assumption) | assumption); have q229 : (ji5) < (l0.length : Int) := of_decide_eq_true (by first | (with_reducible assumption) | assumption); obtain ⟨ad229, e229, hx229_0⟩ := Kd.at_bool HR0.out (ji5) p229 q229; (try rw [← Nbq8.out] at hx229_0); cases e229; replace hx229_0 := (HB.out.cell (World.block_lt_of_cell? w _ hx229_0)).trans hx229_0; replace p229 := eq_true p229; replace q229 := eq_true q229))
                            go_roundg k1
                            case measure => have := HK1.out; omega
                            case rel => exact ⟨((x3_1 ++ x4_1) ++ (⟨#[10]⟩ : ByteArray)), (((⟨#[118]⟩ : ByteArray) ++ (⟨#[32]⟩ : ByteArray)) ++ t228), (wrap64 (x5_1 + 1)), (by first | rfl | (simp; done) | (simp [*]; done)), (by first | rfl | (simp; done) | (simp [*]; done)), (by first | rfl | (simp; done) | (simp [*]; done)), H', ⟨by have := HK1.out; omega⟩, ⟨by repeat (first | (with_reducible first | exact HB.out | apply below_alloc | apply pw_below_drewN | apply below_drew1) | exact HB.out)⟩⟩
                          · rw [if_neg c18] at H
                            exact absurd H (by simp)
                        · rw [if_neg c17] at H
                          exact absurd H (by simp)
                      · rw [if_neg c16] at H
                        exact absurd H (by simp)
                    · rw [if_neg c15] at H
                      exact absurd H (by simp)
                · rw [if_neg c10] at H
                  have c10b0 : decide (78 < (wrap64 ((wrap64 ((x4_1.size : Int) + 1)) + (t228.size : Int)))) = false := decide_eq_false c10
                  have c10b9 := c10b0
                  rw [wrap_in2] at c10b9
                  try simp only [ByteArray.size_append, Int.natCast_add] at c10b9
                  try rw [show (((⟨#[45]⟩ : ByteArray).size : Nat) : Int) = 1 from rfl] at c10b9
                  have c10b8 := c10b0
                  try simp only [ByteArray.size_append, Int.natCast_add] at c10b8
                  try rw [show (((⟨#[45]⟩ : ByteArray).size : Nat) : Int) = 1 from rfl] at c10b8
                  clear c10
                  by_cases c20 : x4_1.size + 1 ≤ 9223372036854775807
                  · rw [if_pos c20] at H
                    have c20b0 := eq_true c20
                    have c20b1 : decide (x4_1.size + 1 ≤ 9223372036854775807) = true := decide_eq_true c20
                    try have c20b2 : (9223372036854775807 < x4_1.size + 1) = False := eq_false (Nat.not_lt.2 c20)
                    by_cases c21 : (x4_1 ++ (⟨#[32]⟩ : ByteArray)).size + t228.size ≤ 9223372036854775807
                    · rw [if_pos c21] at H
                      have c21b0 := eq_true c21
                      have c21b1 : decide ((x4_1 ++ (⟨#[32]⟩ : ByteArray)).size + t228.size ≤ 9223372036854775807) = true := decide_eq_true c21
                      try have c21b2 : (9223372036854775807 < (x4_1 ++ (⟨#[32]⟩ : ByteArray)).size + t228.size) = False := eq_false (Nat.not_lt.2 c21)
                      have c21b3 : (x4_1).size + 1 + t228.size ≤ 9223372036854775807 := by have h := c21; simp only [ByteArray.size_append] at h; exact h
                      have c21b4 : (9223372036854775807 < (x4_1).size + 1 + t228.size) = False := eq_false (Nat.not_lt.2 c21b3)
                      replace c21b3 := eq_true c21b3
                      have H' := Aside0.mk H
                      clear H
                      go_wp2_with (first | ((with_reducible refine gate_callee (f := 39) rfl ?_); refine goesL_ (some 19) rfl rfl Tryz.func39 (by kernel_rfl) rfl #[.int .i64 x5_1] rfl (by (try simp only [List.map_toArray, List.map_cons, List.map_nil]); first | done | rfl | (simp only [List.length_drop, List.length_take]; rfl)) ?_; (with_reducible refine (threshingref02_digits.calls k1 x5_1 t228 _ A4.out).mono ?_); rintro e w22 ⟨rfl, hb⟩; refine ⟨_, rfl, ?_⟩; have n0_ := Aside0.mk (below_step (by repeat (first | (with_reducible first | exact HB.out | apply below_alloc | apply pw_below_drewN | apply below_drew1) | exact HB.out)) hb); clear HB; have HB := n0_; clear n0_; (try clear hb); (try clear hb2); (try clear hk); (try clear hi); have p229 : 0 ≤ ((ji5) : Int) := of_decide_eq_true (by first | (with_reducible assumption) | assumption); have q229 : (ji5) < (l0.length : Int) := of_decide_eq_true (by first | (with_reducible assumption) | assumption); obtain ⟨ad229, e229, hx229_0⟩ := Kd.at_bool HR0.out (ji5) p229 q229; (try rw [← Nbq8.out] at hx229_0); cases e229; replace hx229_0 := (HB.out.cell (World.block_lt_of_cell? w _ hx229_0)).trans hx229_0; replace p229 := eq_true p229; replace q229 := eq_true q229))
                      go_roundg k1
                      case measure => have := HK1.out; omega
                      case rel => exact ⟨(x3_1), ((x4_1 ++ (⟨#[32]⟩ : ByteArray)) ++ t228), (wrap64 (x5_1 + 1)), (by first | rfl | (simp; done) | (simp [*]; done)), (by first | rfl | (simp; done) | (simp [*]; done)), (by first | rfl | (simp; done) | (simp [*]; done)), H', ⟨by have := HK1.out; omega⟩, ⟨by repeat (first | (with_reducible first | exact HB.out | apply below_alloc | apply pw_below_drewN | apply below_drew1) | exact HB.out)⟩⟩
                    · rw [if_neg c21] at H
                      exact absurd H (by simp)
                  · rw [if_neg c20] at H
                    exact absurd H (by simp)
              · replace c9 := Bool.eq_false_iff.mpr c9
                subst c9
                have H1 : (if 1 + t228.size ≤ 9223372036854775807 then (if (wrap64 ((wrap64 ((x4_1.size : Int) + 1)) + (((⟨#[45]⟩ : ByteArray) ++ t228).size : Int))) > 78 then (if x4_1.toList = ([118] : List UInt8) then (if x4_1.size + 1 ≤ 9223372036854775807 then (if (x4_1 ++ (⟨#[32]⟩ : ByteArray)).size + ((⟨#[45]⟩ : ByteArray) ++ t228).size ≤ 9223372036854775807 then (threshingref02_Values.l0 k1 l0 x3_1 ((x4_1 ++ (⟨#[32]⟩ : ByteArray)) ++ ((⟨#[45]⟩ : ByteArray) ++ t228)) (wrap64 (x5_1 + 1))) else (none)) else (none)) else (if x3_1.size + x4_1.size ≤ 9223372036854775807 then (if (x3_1 ++ x4_1).size + 1 ≤ 9223372036854775807 then (if 1 + 1 ≤ 9223372036854775807 then (if 2 + ((⟨#[45]⟩ : ByteArray) ++ t228).size ≤ 9223372036854775807 then (threshingref02_Values.l0 k1 l0 ((x3_1 ++ x4_1) ++ (⟨#[10]⟩ : ByteArray)) (((⟨#[118]⟩ : ByteArray) ++ (⟨#[32]⟩ : ByteArray)) ++ ((⟨#[45]⟩ : ByteArray) ++ t228)) (wrap64 (x5_1 + 1))) else (none)) else (none)) else (none)) else (none))) else (if x4_1.size + 1 ≤ 9223372036854775807 then (if (x4_1 ++ (⟨#[32]⟩ : ByteArray)).size + ((⟨#[45]⟩ : ByteArray) ++ t228).size ≤ 9223372036854775807 then (threshingref02_Values.l0 k1 l0 x3_1 ((x4_1 ++ (⟨#[32]⟩ : ByteArray)) ++ ((⟨#[45]⟩ : ByteArray) ++ t228)) (wrap64 (x5_1 + 1))) else (none)) else (none))) else (none)) = some r := by rw [if_neg (show ¬ (false = true) by decide)] at H; exact H
                clear H
                have H := H1
                clear H1
                by_cases c23 : 1 + t228.size ≤ 9223372036854775807
                · rw [if_pos c23] at H
                  have c23b0 := eq_true c23
                  have c23b1 : decide (1 + t228.size ≤ 9223372036854775807) = true := decide_eq_true c23
                  try have c23b2 : (9223372036854775807 < 1 + t228.size) = False := eq_false (Nat.not_lt.2 c23)
                  by_cases c24 : (wrap64 ((wrap64 ((x4_1.size : Int) + 1)) + (((⟨#[45]⟩ : ByteArray) ++ t228).size : Int))) > 78
                  · rw [if_pos c24] at H
                    have c24b0 : decide (78 < (wrap64 ((wrap64 ((x4_1.size : Int) + 1)) + (((⟨#[45]⟩ : ByteArray) ++ t228).size : Int)))) = true := decide_eq_true c24
                    have c24b9 := c24b0
                    rw [wrap_in2] at c24b9
                    try simp only [ByteArray.size_append, Int.natCast_add] at c24b9
                    try rw [show (((⟨#[45]⟩ : ByteArray).size : Nat) : Int) = 1 from rfl] at c24b9
                    have c24b8 := c24b0
                    try simp only [ByteArray.size_append, Int.natCast_add] at c24b8
                    try rw [show (((⟨#[45]⟩ : ByteArray).size : Nat) : Int) = 1 from rfl] at c24b8
                    clear c24
                    by_cases c25 : x4_1.toList = ([118] : List UInt8)
                    · rw [if_pos c25] at H
                      have c25b0 : (x4_1.toList == ([118] : List UInt8)) = true := beq_iff_eq.mpr c25
                      have c25b1 : (x4_1.toList != ([118] : List UInt8)) = false := bne_eq_false_iff_eq.mpr c25
                      clear c25
                      by_cases c26 : x4_1.size + 1 ≤ 9223372036854775807
                      · rw [if_pos c26] at H
                        have c26b0 := eq_true c26
                        have c26b1 : decide (x4_1.size + 1 ≤ 9223372036854775807) = true := decide_eq_true c26
                        try have c26b2 : (9223372036854775807 < x4_1.size + 1) = False := eq_false (Nat.not_lt.2 c26)
                        by_cases c27 : (x4_1 ++ (⟨#[32]⟩ : ByteArray)).size + ((⟨#[45]⟩ : ByteArray) ++ t228).size ≤ 9223372036854775807
                        · rw [if_pos c27] at H
                          have c27b0 := eq_true c27
                          have c27b1 : decide ((x4_1 ++ (⟨#[32]⟩ : ByteArray)).size + ((⟨#[45]⟩ : ByteArray) ++ t228).size ≤ 9223372036854775807) = true := decide_eq_true c27
                          try have c27b2 : (9223372036854775807 < (x4_1 ++ (⟨#[32]⟩ : ByteArray)).size + ((⟨#[45]⟩ : ByteArray) ++ t228).size) = False := eq_false (Nat.not_lt.2 c27)
                          have c27b3 : (x4_1).size + 1 + (1 + (t228).size) ≤ 9223372036854775807 := by have h := c27; simp only [ByteArray.size_append] at h; exact h
                          have c27b4 : (9223372036854775807 < (x4_1).size + 1 + (1 + (t228).size)) = False := eq_false (Nat.not_lt.2 c27b3)
                          replace c27b3 := eq_true c27b3
                          have H' := Aside0.mk H
                          clear H
                          go_wp2_with (first | ((with_reducible refine gate_callee (f := 39) rfl ?_); refine goesL_ (some 19) rfl rfl Tryz.func39 (by kernel_rfl) rfl #[.int .i64 x5_1] rfl (by (try simp only [List.map_toArray, List.map_cons, List.map_nil]); first | done | rfl | (simp only [List.length_drop, List.length_take]; rfl)) ?_; (with_reducible refine (threshingref02_digits.calls k1 x5_1 t228 _ A4.out).mono ?_); rintro e w28 ⟨rfl, hb⟩; refine ⟨_, rfl, ?_⟩; have n0_ := Aside0.mk (below_step (by repeat (first | (with_reducible first | exact HB.out | apply below_alloc | apply pw_below_drewN | apply below_drew1) | exact HB.out)) hb); clear HB; have HB := n0_; clear n0_; (try clear hb); (try clear hb2); (try clear hk); (try clear hi); have p229 : 0 ≤ ((ji5) : Int) := of_decide_eq_true (by first | (with_reducible assumption) | assumption); have q229 : (ji5) < (l0.length : Int) := of_decide_eq_true (by first | (with_reducible assumption) | assumption); obtain ⟨ad229, e229, hx229_0⟩ := Kd.at_bool HR0.out (ji5) p229 q229; (try rw [← Nbq8.out] at hx229_0); cases e229; replace hx229_0 := (HB.out.cell (World.block_lt_of_cell? w _ hx229_0)).trans hx229_0; replace p229 := eq_true p229; replace q229 := eq_true q229))
                          go_roundg k1
                          case measure => have := HK1.out; omega
                          case rel => exact ⟨(x3_1), ((x4_1 ++ (⟨#[32]⟩ : ByteArray)) ++ ((⟨#[45]⟩ : ByteArray) ++ t228)), (wrap64 (x5_1 + 1)), (by first | rfl | (simp; done) | (simp [*]; done)), (by first | rfl | (simp; done) | (simp [*]; done)), (by first | rfl | (simp; done) | (simp [*]; done)), H', ⟨by have := HK1.out; omega⟩, ⟨by repeat (first | (with_reducible first | exact HB.out | apply below_alloc | apply pw_below_drewN | apply below_drew1) | exact HB.out)⟩⟩
                        · rw [if_neg c27] at H
                          exact absurd H (by simp)
                      · rw [if_neg c26] at H
                        exact absurd H (by simp)
                    · rw [if_neg c25] at H
                      have c25b0 : (x4_1.toList == ([118] : List UInt8)) = false := beq_eq_false_iff_ne.mpr c25
                      have c25b1 : (x4_1.toList != ([118] : List UInt8)) = true := bne_iff_ne.mpr c25
                      by_cases c29 : x3_1.size + x4_1.size ≤ 9223372036854775807
                      · rw [if_pos c29] at H
                        have c29b0 := eq_true c29
                        have c29b1 : decide (x3_1.size + x4_1.size ≤ 9223372036854775807) = true := decide_eq_true c29
                        try have c29b2 : (9223372036854775807 < x3_1.size + x4_1.size) = False := eq_false (Nat.not_lt.2 c29)
                        by_cases c30 : (x3_1 ++ x4_1).size + 1 ≤ 9223372036854775807
                        · rw [if_pos c30] at H
                          have c30b0 := eq_true c30
                          have c30b1 : decide ((x3_1 ++ x4_1).size + 1 ≤ 9223372036854775807) = true := decide_eq_true c30
                          try have c30b2 : (9223372036854775807 < (x3_1 ++ x4_1).size + 1) = False := eq_false (Nat.not_lt.2 c30)
                          have c30b3 : (x3_1).size + (x4_1).size + 1 ≤ 9223372036854775807 := by have h := c30; simp only [ByteArray.size_append] at h; exact h
                          have c30b4 : (9223372036854775807 < (x3_1).size + (x4_1).size + 1) = False := eq_false (Nat.not_lt.2 c30b3)
                          replace c30b3 := eq_true c30b3
                          by_cases c31 : 1 + 1 ≤ 9223372036854775807
                          · rw [if_pos c31] at H
                            have c31b0 := eq_true c31
                            have c31b1 : decide (1 + 1 ≤ 9223372036854775807) = true := decide_eq_true c31
                            try have c31b2 : (9223372036854775807 < 1 + 1) = False := eq_false (Nat.not_lt.2 c31)
                            by_cases c32 : 2 + ((⟨#[45]⟩ : ByteArray) ++ t228).size ≤ 9223372036854775807
                            · rw [if_pos c32] at H
                              have c32b0 := eq_true c32
                              have c32b1 : decide (2 + ((⟨#[45]⟩ : ByteArray) ++ t228).size ≤ 9223372036854775807) = true := decide_eq_true c32
                              try have c32b2 : (9223372036854775807 < 2 + ((⟨#[45]⟩ : ByteArray) ++ t228).size) = False := eq_false (Nat.not_lt.2 c32)
                              have c32b3 : 2 + (1 + (t228).size) ≤ 9223372036854775807 := by have h := c32; simp only [ByteArray.size_append] at h; exact h
                              have c32b4 : (9223372036854775807 < 2 + (1 + (t228).size)) = False := eq_false (Nat.not_lt.2 c32b3)
                              replace c32b3 := eq_true c32b3
                              have H' := Aside0.mk H
                              clear H
                              go_wp2_with (first | ((with_reducible refine gate_callee (f := 39) rfl ?_); refine goesL_ (some 19) rfl rfl Tryz.func39 (by kernel_rfl) rfl #[.int .i64 x5_1] rfl (by (try simp only [List.map_toArray, List.map_cons, List.map_nil]); first | done | rfl | (simp only [List.length_drop, List.length_take]; rfl)) ?_; (with_reducible refine (threshingref02_digits.calls k1 x5_1 t228 _ A4.out).mono ?_); rintro e w33 ⟨rfl, hb⟩; refine ⟨_, rfl, ?_⟩; have n0_ := Aside0.mk (below_step (by repeat (first | (with_reducible first | exact HB.out | apply below_alloc | apply pw_below_drewN | apply below_drew1) | exact HB.out)) hb); clear HB; have HB := n0_; clear n0_; (try clear hb); (try clear hb2); (try clear hk); (try clear hi); have p229 : 0 ≤ ((ji5) : Int) := of_decide_eq_true (by first | (with_reducible assumption) | assumption); have q229 : (ji5) < (l0.length : Int) := of_decide_eq_true (by first | (with_reducible assumption) | assumption); obtain ⟨ad229, e229, hx229_0⟩ := Kd.at_bool HR0.out (ji5) p229 q229; (try rw [← Nbq8.out] at hx229_0); cases e229; replace hx229_0 := (HB.out.cell (World.block_lt_of_cell? w _ hx229_0)).trans hx229_0; replace p229 := eq_true p229; replace q229 := eq_true q229))
                              go_roundg k1
                              case measure => have := HK1.out; omega
                              case rel => exact ⟨((x3_1 ++ x4_1) ++ (⟨#[10]⟩ : ByteArray)), (((⟨#[118]⟩ : ByteArray) ++ (⟨#[32]⟩ : ByteArray)) ++ ((⟨#[45]⟩ : ByteArray) ++ t228)), (wrap64 (x5_1 + 1)), (by first | rfl | (simp; done) | (simp [*]; done)), (by first | rfl | (simp; done) | (simp [*]; done)), (by first | rfl | (simp; done) | (simp [*]; done)), H', ⟨by have := HK1.out; omega⟩, ⟨by repeat (first | (with_reducible first | exact HB.out | apply below_alloc | apply pw_below_drewN | apply below_drew1) | exact HB.out)⟩⟩
                            · rw [if_neg c32] at H
                              exact absurd H (by simp)
                          · rw [if_neg c31] at H
                            exact absurd H (by simp)
                        · rw [if_neg c30] at H
                          exact absurd H (by simp)
                      · rw [if_neg c29] at H
                        exact absurd H (by simp)
                  · rw [if_neg c24] at H
                    have c24b0 : decide (78 < (wrap64 ((wrap64 ((x4_1.size : Int) + 1)) + (((⟨#[45]⟩ : ByteArray) ++ t228).size : Int)))) = false := decide_eq_false c24
                    have c24b9 := c24b0
                    rw [wrap_in2] at c24b9
                    try simp only [ByteArray.size_append, Int.natCast_add] at c24b9
                    try rw [show (((⟨#[45]⟩ : ByteArray).size : Nat) : Int) = 1 from rfl] at c24b9
                    have c24b8 := c24b0
                    try simp only [ByteArray.size_append, Int.natCast_add] at c24b8
                    try rw [show (((⟨#[45]⟩ : ByteArray).size : Nat) : Int) = 1 from rfl] at c24b8
                    clear c24
                    by_cases c34 : x4_1.size + 1 ≤ 9223372036854775807
                    · rw [if_pos c34] at H
                      have c34b0 := eq_true c34
                      have c34b1 : decide (x4_1.size + 1 ≤ 9223372036854775807) = true := decide_eq_true c34
                      try have c34b2 : (9223372036854775807 < x4_1.size + 1) = False := eq_false (Nat.not_lt.2 c34)
                      by_cases c35 : (x4_1 ++ (⟨#[32]⟩ : ByteArray)).size + ((⟨#[45]⟩ : ByteArray) ++ t228).size ≤ 9223372036854775807
                      · rw [if_pos c35] at H
                        have c35b0 := eq_true c35
                        have c35b1 : decide ((x4_1 ++ (⟨#[32]⟩ : ByteArray)).size + ((⟨#[45]⟩ : ByteArray) ++ t228).size ≤ 9223372036854775807) = true := decide_eq_true c35
                        try have c35b2 : (9223372036854775807 < (x4_1 ++ (⟨#[32]⟩ : ByteArray)).size + ((⟨#[45]⟩ : ByteArray) ++ t228).size) = False := eq_false (Nat.not_lt.2 c35)
                        have c35b3 : (x4_1).size + 1 + (1 + (t228).size) ≤ 9223372036854775807 := by have h := c35; simp only [ByteArray.size_append] at h; exact h
                        have c35b4 : (9223372036854775807 < (x4_1).size + 1 + (1 + (t228).size)) = False := eq_false (Nat.not_lt.2 c35b3)
                        replace c35b3 := eq_true c35b3
                        have H' := Aside0.mk H
                        clear H
                        go_wp2_with (first | ((with_reducible refine gate_callee (f := 39) rfl ?_); refine goesL_ (some 19) rfl rfl Tryz.func39 (by kernel_rfl) rfl #[.int .i64 x5_1] rfl (by (try simp only [List.map_toArray, List.map_cons, List.map_nil]); first | done | rfl | (simp only [List.length_drop, List.length_take]; rfl)) ?_; (with_reducible refine (threshingref02_digits.calls k1 x5_1 t228 _ A4.out).mono ?_); rintro e w36 ⟨rfl, hb⟩; refine ⟨_, rfl, ?_⟩; have n0_ := Aside0.mk (below_step (by repeat (first | (with_reducible first | exact HB.out | apply below_alloc | apply pw_below_drewN | apply below_drew1) | exact HB.out)) hb); clear HB; have HB := n0_; clear n0_; (try clear hb); (try clear hb2); (try clear hk); (try clear hi); have p229 : 0 ≤ ((ji5) : Int) := of_decide_eq_true (by first | (with_reducible assumption) | assumption); have q229 : (ji5) < (l0.length : Int) := of_decide_eq_true (by first | (with_reducible assumption) | assumption); obtain ⟨ad229, e229, hx229_0⟩ := Kd.at_bool HR0.out (ji5) p229 q229; (try rw [← Nbq8.out] at hx229_0); cases e229; replace hx229_0 := (HB.out.cell (World.block_lt_of_cell? w _ hx229_0)).trans hx229_0; replace p229 := eq_true p229; replace q229 := eq_true q229))
                        go_roundg k1
                        case measure => have := HK1.out; omega
                        case rel => exact ⟨(x3_1), ((x4_1 ++ (⟨#[32]⟩ : ByteArray)) ++ ((⟨#[45]⟩ : ByteArray) ++ t228)), (wrap64 (x5_1 + 1)), (by first | rfl | (simp; done) | (simp [*]; done)), (by first | rfl | (simp; done) | (simp [*]; done)), (by first | rfl | (simp; done) | (simp [*]; done)), H', ⟨by have := HK1.out; omega⟩, ⟨by repeat (first | (with_reducible first | exact HB.out | apply below_alloc | apply pw_below_drewN | apply below_drew1) | exact HB.out)⟩⟩
                      · rw [if_neg c35] at H
                        exact absurd H (by simp)
                    · rw [if_neg c34] at H
                      exact absurd H (by simp)
                · rw [if_neg c23] at H
                  exact absurd H (by simp)
            · rw [if_neg c7] at H
              exact absurd H (by simp)
          · rw [if_neg c6] at H
            exact absurd H (by simp)
        · rw [if_neg c3] at H
          have c3b0 : decide (x5_1 ≤ (l0.length : Int)) = false := decide_eq_false c3
          clear c3
          by_cases c37 : (wrap64 ((wrap64 ((x4_1.size : Int) + 1)) + 1)) > 78
          · rw [if_pos c37] at H
            have c37b0 : decide (78 < (wrap64 ((wrap64 ((x4_1.size : Int) + 1)) + 1))) = true := decide_eq_true c37
            have c37b9 := c37b0
            rw [wrap_in2] at c37b9
            try simp only [ByteArray.size_append, Int.natCast_add] at c37b9
            try rw [show (((⟨#[45]⟩ : ByteArray).size : Nat) : Int) = 1 from rfl] at c37b9
            have c37b8 := c37b0
            try simp only [ByteArray.size_append, Int.natCast_add] at c37b8
            try rw [show (((⟨#[45]⟩ : ByteArray).size : Nat) : Int) = 1 from rfl] at c37b8
            clear c37
            by_cases c38 : x4_1.toList = ([118] : List UInt8)
            · rw [if_pos c38] at H
              have c38b0 : (x4_1.toList == ([118] : List UInt8)) = true := beq_iff_eq.mpr c38
              have c38b1 : (x4_1.toList != ([118] : List UInt8)) = false := bne_eq_false_iff_eq.mpr c38
              clear c38
              by_cases c39 : x4_1.size + 1 ≤ 9223372036854775807
              · rw [if_pos c39] at H
                have c39b0 := eq_true c39
                have c39b1 : decide (x4_1.size + 1 ≤ 9223372036854775807) = true := decide_eq_true c39
                try have c39b2 : (9223372036854775807 < x4_1.size + 1) = False := eq_false (Nat.not_lt.2 c39)
                by_cases c40 : (x4_1 ++ (⟨#[32]⟩ : ByteArray)).size + 1 ≤ 9223372036854775807
                · rw [if_pos c40] at H
                  have c40b0 := eq_true c40
                  have c40b1 : decide ((x4_1 ++ (⟨#[32]⟩ : ByteArray)).size + 1 ≤ 9223372036854775807) = true := decide_eq_true c40
                  try have c40b2 : (9223372036854775807 < (x4_1 ++ (⟨#[32]⟩ : ByteArray)).size + 1) = False := eq_false (Nat.not_lt.2 c40)
                  have c40b3 : (x4_1).size + 1 + 1 ≤ 9223372036854775807 := by have h := c40; simp only [ByteArray.size_append] at h; exact h
                  have c40b4 : (9223372036854775807 < (x4_1).size + 1 + 1) = False := eq_false (Nat.not_lt.2 c40b3)
                  replace c40b3 := eq_true c40b3
                  have H' := Aside0.mk H
                  clear H
                  go_wp2
                  go_roundg k1
                  case measure => have := HK1.out; omega
                  case rel => exact ⟨(x3_1), ((x4_1 ++ (⟨#[32]⟩ : ByteArray)) ++ (⟨#[48]⟩ : ByteArray)), (wrap64 (x5_1 + 1)), (by first | rfl | (simp; done) | (simp [*]; done)), (by first | rfl | (simp; done) | (simp [*]; done)), (by first | rfl | (simp; done) | (simp [*]; done)), H', ⟨by have := HK1.out; omega⟩, ⟨by repeat (first | (with_reducible first | exact HB.out | apply below_alloc | apply pw_below_drewN | apply below_drew1) | exact HB.out)⟩⟩
                · rw [if_neg c40] at H
                  exact absurd H (by simp)
              · rw [if_neg c39] at H
                exact absurd H (by simp)
            · rw [if_neg c38] at H
              have c38b0 : (x4_1.toList == ([118] : List UInt8)) = false := beq_eq_false_iff_ne.mpr c38
              have c38b1 : (x4_1.toList != ([118] : List UInt8)) = true := bne_iff_ne.mpr c38
              by_cases c41 : x3_1.size + x4_1.size ≤ 9223372036854775807
              · rw [if_pos c41] at H
                have c41b0 := eq_true c41
                have c41b1 : decide (x3_1.size + x4_1.size ≤ 9223372036854775807) = true := decide_eq_true c41
                try have c41b2 : (9223372036854775807 < x3_1.size + x4_1.size) = False := eq_false (Nat.not_lt.2 c41)
                by_cases c42 : (x3_1 ++ x4_1).size + 1 ≤ 9223372036854775807
                · rw [if_pos c42] at H
                  have c42b0 := eq_true c42
                  have c42b1 : decide ((x3_1 ++ x4_1).size + 1 ≤ 9223372036854775807) = true := decide_eq_true c42
                  try have c42b2 : (9223372036854775807 < (x3_1 ++ x4_1).size + 1) = False := eq_false (Nat.not_lt.2 c42)
                  have c42b3 : (x3_1).size + (x4_1).size + 1 ≤ 9223372036854775807 := by have h := c42; simp only [ByteArray.size_append] at h; exact h
                  have c42b4 : (9223372036854775807 < (x3_1).size + (x4_1).size + 1) = False := eq_false (Nat.not_lt.2 c42b3)
                  replace c42b3 := eq_true c42b3
                  by_cases c43 : 1 + 1 ≤ 9223372036854775807
                  · rw [if_pos c43] at H
                    have c43b0 := eq_true c43
                    have c43b1 : decide (1 + 1 ≤ 9223372036854775807) = true := decide_eq_true c43
                    try have c43b2 : (9223372036854775807 < 1 + 1) = False := eq_false (Nat.not_lt.2 c43)
                    have H' := Aside0.mk H
                    clear H
                    go_wp2
                    go_roundg k1
                    case measure => have := HK1.out; omega
                    case rel => exact ⟨((x3_1 ++ x4_1) ++ (⟨#[10]⟩ : ByteArray)), (((⟨#[118]⟩ : ByteArray) ++ (⟨#[32]⟩ : ByteArray)) ++ (⟨#[48]⟩ : ByteArray)), (wrap64 (x5_1 + 1)), (by first | rfl | (simp; done) | (simp [*]; done)), (by first | rfl | (simp; done) | (simp [*]; done)), (by first | rfl | (simp; done) | (simp [*]; done)), H', ⟨by have := HK1.out; omega⟩, ⟨by repeat (first | (with_reducible first | exact HB.out | apply below_alloc | apply pw_below_drewN | apply below_drew1) | exact HB.out)⟩⟩
                  · rw [if_neg c43] at H
                    exact absurd H (by simp)
                · rw [if_neg c42] at H
                  exact absurd H (by simp)
              · rw [if_neg c41] at H
                exact absurd H (by simp)
          · rw [if_neg c37] at H
            have c37b0 : decide (78 < (wrap64 ((wrap64 ((x4_1.size : Int) + 1)) + 1))) = false := decide_eq_false c37
            have c37b9 := c37b0
            rw [wrap_in2] at c37b9
            try simp only [ByteArray.size_append, Int.natCast_add] at c37b9
            try rw [show (((⟨#[45]⟩ : ByteArray).size : Nat) : Int) = 1 from rfl] at c37b9
            have c37b8 := c37b0
            try simp only [ByteArray.size_append, Int.natCast_add] at c37b8
            try rw [show (((⟨#[45]⟩ : ByteArray).size : Nat) : Int) = 1 from rfl] at c37b8
            clear c37
            by_cases c44 : x4_1.size + 1 ≤ 9223372036854775807
            · rw [if_pos c44] at H
              have c44b0 := eq_true c44
              have c44b1 : decide (x4_1.size + 1 ≤ 9223372036854775807) = true := decide_eq_true c44
              try have c44b2 : (9223372036854775807 < x4_1.size + 1) = False := eq_false (Nat.not_lt.2 c44)
              by_cases c45 : (x4_1 ++ (⟨#[32]⟩ : ByteArray)).size + 1 ≤ 9223372036854775807
              · rw [if_pos c45] at H
                have c45b0 := eq_true c45
                have c45b1 : decide ((x4_1 ++ (⟨#[32]⟩ : ByteArray)).size + 1 ≤ 9223372036854775807) = true := decide_eq_true c45
                try have c45b2 : (9223372036854775807 < (x4_1 ++ (⟨#[32]⟩ : ByteArray)).size + 1) = False := eq_false (Nat.not_lt.2 c45)
                have c45b3 : (x4_1).size + 1 + 1 ≤ 9223372036854775807 := by have h := c45; simp only [ByteArray.size_append] at h; exact h
                have c45b4 : (9223372036854775807 < (x4_1).size + 1 + 1) = False := eq_false (Nat.not_lt.2 c45b3)
                replace c45b3 := eq_true c45b3
                have H' := Aside0.mk H
                clear H
                go_wp2
                go_roundg k1
                case measure => have := HK1.out; omega
                case rel => exact ⟨(x3_1), ((x4_1 ++ (⟨#[32]⟩ : ByteArray)) ++ (⟨#[48]⟩ : ByteArray)), (wrap64 (x5_1 + 1)), (by first | rfl | (simp; done) | (simp [*]; done)), (by first | rfl | (simp; done) | (simp [*]; done)), (by first | rfl | (simp; done) | (simp [*]; done)), H', ⟨by have := HK1.out; omega⟩, ⟨by repeat (first | (with_reducible first | exact HB.out | apply below_alloc | apply pw_below_drewN | apply below_drew1) | exact HB.out)⟩⟩
              · rw [if_neg c45] at H
                exact absurd H (by simp)
            · rw [if_neg c44] at H
              exact absurd H (by simp)
      · rw [if_neg c2] at H
        have c2b0 : decide (x5_1 ≤ (wrap64 ((l0.length : Int) + 1))) = false := decide_eq_false c2
        clear c2
        by_cases c46 : x3_1.size + x4_1.size ≤ 9223372036854775807
        · rw [if_pos c46] at H
          have c46b0 := eq_true c46
          have c46b1 : decide (x3_1.size + x4_1.size ≤ 9223372036854775807) = true := decide_eq_true c46
          try have c46b2 : (9223372036854775807 < x3_1.size + x4_1.size) = False := eq_false (Nat.not_lt.2 c46)
          by_cases c47 : (x3_1 ++ x4_1).size + 1 ≤ 9223372036854775807
          · rw [if_pos c47] at H
            have c47b0 := eq_true c47
            have c47b1 : decide ((x3_1 ++ x4_1).size + 1 ≤ 9223372036854775807) = true := decide_eq_true c47
            try have c47b2 : (9223372036854775807 < (x3_1 ++ x4_1).size + 1) = False := eq_false (Nat.not_lt.2 c47)
            have c47b3 : (x3_1).size + (x4_1).size + 1 ≤ 9223372036854775807 := by have h := c47; simp only [ByteArray.size_append] at h; exact h
            have c47b4 : (9223372036854775807 < (x3_1).size + (x4_1).size + 1) = False := eq_false (Nat.not_lt.2 c47b3)
            replace c47b3 := eq_true c47b3
            obtain rfl := Option.some.inj H
            go_wp2
            go_ret
            exact ⟨by first | rfl | (simp [errW_none, errW_some] <;> rfl) | (simp [*, errW_none, errW_some] <;> rfl), by repeat (first | (with_reducible first | exact HB.out | apply below_alloc | apply pw_below_drewN | apply below_drew1) | exact HB.out)⟩
          · rw [if_neg c47] at H
            exact absurd H (by simp)
        · rw [if_neg c46] at H
          exact absurd H (by simp)
end Go.Proofs.YtigloobbpcnnhaaGreatDoor.PB
end
section
namespace Go.Proofs.YtigloobbpcnnhaaGreatDoor.PB
open Go.RowKit Go.Proofs.YtigloobbpcnnhaaGreatDoorW.PrintWords Go.Proofs.YtigloobbpcnnhaaGreatDoorW.PrintLast Go.Proofs.YtigloobbpcnnhaaGreatDoorW.PrintMore
set_option linter.unusedVariables false
set_option linter.unusedSimpArgs false
theorem dig_one (d : Nat) (h : d < 10) (x : Int) (hx : x = 48 + (d : Int)) : strOfNums [x] = baOf [UInt8.ofNat (48 + d)] := by
  have : x.toNat = 48 + d := by omega
  unfold strOfNums baOf
  simp only [List.map_cons, List.map_nil, this]
theorem udigits_ev (u : Nat) (hu : u ≤ 9223372036854775807) : Ev (fun k => threshingref02_digits.f k (u : Int)) (baOf (Lib.decDigits u)) := by
  induction u using Nat.strongRecOn with
  | _ u ih =>
    have e2 : Int.tmod (u : Int) 10 = ((u % 10 : Nat) : Int) := by
      rw [Int.tmod_eq_emod_of_nonneg (by omega)]
      omega
    have e1 : Int.tdiv (u : Int) 10 = ((u / 10 : Nat) : Int) := by
      rw [Int.tdiv_eq_ediv_of_nonneg (by omega)]
      omega
    have e4 : (wrap64 (48 + Int.tmod (u : Int) 10)) % 256 = 48 + ((u % 10 : Nat) : Int) := by
      rw [e2, wrap_id (by omega) (by omega)]
      omega
    have e5 : strOfNums [(wrap64 (48 + Int.tmod (u : Int) 10)) % 256] = baOf [UInt8.ofNat (48 + u % 10)] := by
      rw [e4]
      exact dig_one (u % 10) (by omega) _ rfl
    by_cases h : u < 10
    · refine Ev.step (f := fun k => some (baOf (Lib.decDigits u))) (fun k => ?_) (Ev.now _)
      rw [threshingref02_digits.f, if_neg (by omega)]
      simp only [Option.bind_some]
      rw [if_neg (by omega), e5, Nat.mod_eq_of_lt h, Lib.decDigits, dif_pos h]
    · refine Ev.step (f := fun k => (threshingref02_digits.f k ((u / 10 : Nat) : Int)).bind fun t => (if t.size + (baOf [UInt8.ofNat (48 + u % 10)]).size ≤ 9223372036854775807 then (some (t ++ (baOf [UInt8.ofNat (48 + u % 10)]))) else none)) (fun k => ?_) (Ev.bind (ih (u / 10) (by omega) (by omega)) ?_)
      · rw [threshingref02_digits.f, if_neg (by omega)]
        simp only [Option.bind_some]
        rw [if_pos (by omega), e5, e1, wrap_id (by omega) (by omega)]
      · have hlen : (Lib.decDigits (u / 10)).length ≤ 21 := by
          have := Lib.itoa_length_le ((u / 10 : Nat) : Int) (by omega) (by omega)
          rw [Lib.itoa_nonneg] at this
          exact this
        have e3 : baOf (Lib.decDigits (u / 10)) ++ baOf [UInt8.ofNat (48 + u % 10)] = baOf (Lib.decDigits u) := by
          rw [baOf_append]
          conv => rhs; rw [Lib.decDigits, dif_neg h]
        rw [e3, if_pos (by rw [baOf_size, baOf_size]; simp only [List.length_cons, List.length_nil]; omega)]
        exact Ev.now _
theorem digits_ev (v : Int) (h0 : -9223372036854775807 ≤ v) (h1 : v ≤ 9223372036854775807) : Ev (fun k => threshingref02_digits.f k v) (baOf (Lib.itoa v)) := by
  by_cases h : v < 0
  · have ei : Lib.itoa v = 45 :: Lib.decDigits v.natAbs := by unfold Lib.itoa; rw [if_pos h]
    have hl := Lib.itoa_length_le v (by omega) h1
    rw [ei, List.length_cons] at hl
    refine Ev.step (f := fun k => (threshingref02_digits.f k ((v.natAbs : Nat) : Int)).bind fun t => (if 1 + t.size ≤ 9223372036854775807 then (some ((⟨#[45]⟩ : ByteArray) ++ t)) else none)) (fun k => ?_) (Ev.bind (udigits_ev v.natAbs (by omega)) ?_)
    · rw [threshingref02_digits.f, if_pos h, wrap_id (by omega) (by omega), show -v = ((v.natAbs : Nat) : Int) by omega]
    · rw [if_pos (by rw [baOf_size]; omega), show (⟨#[45]⟩ : ByteArray) = baOf [45] from rfl, baOf_append, ei]
      exact Ev.now _
  · have ei : Lib.itoa v = Lib.decDigits v.toNat := by unfold Lib.itoa; rw [if_neg h]
    rw [ei, show v = ((v.toNat : Nat) : Int) by omega]
    simp only [Int.toNat_natCast]
    exact udigits_ev v.toNat (by omega)
/-- One word onto the row of values: the reference's text of it. -/
theorem putB {β : Type} (s : List UInt8 × List UInt8) (w : List UInt8) (h1 : s.1.length ≤ 1000000000) (h2 : s.2.length ≤ 1000) (hw : w.length ≤ 1000) (G : ByteArray → ByteArray → Option β) :
    (if (wrap64 ((wrap64 (((baOf s.2).size : Int) + 1)) + ((baOf w).size : Int))) > 78 then (if (baOf s.2).toList = ([118] : List UInt8) then (if (baOf s.2).size + 1 ≤ 9223372036854775807 then (if (baOf s.2 ++ (⟨#[32]⟩ : ByteArray)).size + (baOf w).size ≤ 9223372036854775807 then (G (baOf s.1) ((baOf s.2 ++ (⟨#[32]⟩ : ByteArray)) ++ baOf w)) else (none)) else (none)) else (if (baOf s.1).size + (baOf s.2).size ≤ 9223372036854775807 then (if (baOf s.1 ++ baOf s.2).size + 1 ≤ 9223372036854775807 then (if 1 + 1 ≤ 9223372036854775807 then (if 2 + (baOf w).size ≤ 9223372036854775807 then (G ((baOf s.1 ++ baOf s.2) ++ (⟨#[10]⟩ : ByteArray)) (((⟨#[118]⟩ : ByteArray) ++ (⟨#[32]⟩ : ByteArray)) ++ baOf w)) else (none)) else (none)) else (none)) else (none))) else (if (baOf s.2).size + 1 ≤ 9223372036854775807 then (if (baOf s.2 ++ (⟨#[32]⟩ : ByteArray)).size + (baOf w).size ≤ 9223372036854775807 then (G (baOf s.1) ((baOf s.2 ++ (⟨#[32]⟩ : ByteArray)) ++ baOf w)) else (none)) else (none)))
    = G (baOf (dPut s w).1) (baOf (dPut s w).2) := by
  have hs1 : (baOf s.1).size = s.1.length := rfl
  have hs2 : (baOf s.2).size = s.2.length := rfl
  have hsw : (baOf w).size = w.length := rfl
  have hk : (baOf s.2).toList = ([118] : List UInt8) ↔ s.2 = [118] := by
    have h := word_eq s.2 [118]
    constructor
    · intro e
      rw [e] at h
      exact of_decide_eq_true h.symm
    · intro e
      rw [decide_eq_true e] at h
      exact eq_of_beq h
  have e32 : baOf s.2 ++ (⟨#[32]⟩ : ByteArray) ++ baOf w = baOf (s.2 ++ [32] ++ w) := by
    rw [show (⟨#[32]⟩ : ByteArray) = baOf [32] from rfl, baOf_append, baOf_append]
  have e10 : baOf s.1 ++ baOf s.2 ++ (⟨#[10]⟩ : ByteArray) = baOf (s.1 ++ s.2 ++ [10]) := by
    rw [show (⟨#[10]⟩ : ByteArray) = baOf [10] from rfl, baOf_append, baOf_append]
  have ev : (⟨#[118]⟩ : ByteArray) ++ (⟨#[32]⟩ : ByteArray) ++ baOf w = baOf ([118, 32] ++ w) := by
    rw [show (⟨#[118]⟩ : ByteArray) = baOf [118] from rfl, show (⟨#[32]⟩ : ByteArray) = baOf [32] from rfl, baOf_append, baOf_append]
    rfl
  have z1 : (baOf s.2).size + 1 ≤ 9223372036854775807 := by rw [hs2]; omega
  have z2 : (baOf s.2 ++ (⟨#[32]⟩ : ByteArray)).size + (baOf w).size ≤ 9223372036854775807 := by rw [ByteArray.size_append, hs2, hsw]; show s.2.length + 1 + w.length ≤ _; omega
  have z3 : (baOf s.1).size + (baOf s.2).size ≤ 9223372036854775807 := by rw [hs1, hs2]; omega
  have z4 : (baOf s.1 ++ baOf s.2).size + 1 ≤ 9223372036854775807 := by rw [ByteArray.size_append, hs1, hs2]; omega
  have z5 : 2 + (baOf w).size ≤ 9223372036854775807 := by rw [hsw]; omega
  have ew : wrap64 ((wrap64 (((baOf s.2).size : Int) + 1)) + ((baOf w).size : Int)) = ((s.2.length + 1 + w.length : Nat) : Int) := by
    rw [hs2, hsw, wrap_id (x := ((s.2.length : Nat) : Int) + 1) (by omega) (by omega), wrap_id (by omega) (by omega)]
    omega
  rw [ew, if_pos z1, if_pos z2, if_pos z3, if_pos z4, if_pos (show 1 + 1 ≤ 9223372036854775807 by omega), if_pos z5, e32, e10, ev]
  unfold dPut
  by_cases ha : 78 < s.2.length + 1 + w.length
  · rw [if_pos (by omega)]
    by_cases hb : s.2 = [118]
    · rw [if_pos (hk.2 hb), if_neg (fun h => h.2 hb)]
    · rw [if_neg (fun h => hb (hk.1 h)), if_pos ⟨ha, hb⟩]
  · rw [if_neg (by omega), if_neg (fun h => ha h.1)]
theorem refvalues_end (m : List Bool) (hm : m.length ≤ 100000) : Ev (fun k => threshingref02_Values.l0 k m (baOf (dVState m).1) (baOf (dVState m).2) ((m.length + 2 : Nat) : Int)) (baOf (dValues m)) := by
  obtain ⟨h1, h2⟩ := dVSt_size m (by omega) m.length (Nat.le_refl _)
  have h3 := dPut_size (dVSt m m.length) [48] h1 (by decide)
  rw [← dVState_eq] at h3
  have e10 : baOf (dVState m).1 ++ baOf (dVState m).2 ++ (⟨#[10]⟩ : ByteArray) = baOf (dValues m) := by
    rw [show (⟨#[10]⟩ : ByteArray) = baOf [10] from rfl, baOf_append, baOf_append]
    rfl
  refine ⟨1, fun k hk => ?_⟩
  obtain ⟨k', rfl⟩ : ∃ k', k = k' + 1 := ⟨k - 1, by omega⟩
  dsimp only
  rw [threshingref02_Values.l0, if_neg (by rw [wrap_id (x := (m.length : Int) + 1) (by omega) (by omega)]; omega), if_pos (by rw [baOf_size, baOf_size]; omega), if_pos (by rw [ByteArray.size_append, baOf_size, baOf_size]; omega), e10]
theorem refvalues_last (m : List Bool) (hm : m.length ≤ 100000) : Ev (fun k => threshingref02_Values.l0 k m (baOf (dVSt m m.length).1) (baOf (dVSt m m.length).2) ((m.length + 1 : Nat) : Int)) (baOf (dValues m)) := by
  obtain ⟨h1, h2⟩ := dVSt_size m (by omega) m.length (Nat.le_refl _)
  obtain ⟨k0, h0⟩ := refvalues_end m hm
  refine ⟨k0 + 1, fun k hk => ?_⟩
  obtain ⟨k', rfl⟩ : ∃ k', k = k' + 1 := ⟨k - 1, by omega⟩
  have hh := h0 k' (by omega)
  dsimp only at hh ⊢
  rw [dVState_eq] at hh
  have hp := putB (dVSt m m.length) [48] (by omega) (by omega) (by decide) (fun a b => threshingref02_Values.l0 k' m a b ((m.length + 2 : Nat) : Int))
  rw [show ((baOf [48]).size : Int) = 1 from rfl, show (baOf [48]).size = 1 from rfl, if_pos (show 2 + 1 ≤ 9223372036854775807 by omega)] at hp
  rw [threshingref02_Values.l0, if_pos (by rw [wrap_id (x := (m.length : Int) + 1) (by omega) (by omega)]; omega), if_neg (by omega), wrap_id (x := ((m.length + 1 : Nat) : Int) + 1) (by omega) (by omega), show ((m.length + 1 : Nat) : Int) + 1 = ((m.length + 2 : Nat) : Int) by omega]
  exact hp.trans hh
theorem refvalues_loop (m : List Bool) (hm : m.length ≤ 100000) : ∀ (d i : Nat), i + d = m.length → Ev (fun k => threshingref02_Values.l0 k m (baOf (dVSt m i).1) (baOf (dVSt m i).2) ((i + 1 : Nat) : Int)) (baOf (dValues m)) := by
  intro d
  induction d with
  | zero =>
    intro i hi
    obtain rfl : i = m.length := by omega
    exact refvalues_last m hm
  | succ d ih =>
    intro i hi
    have hlt : i < m.length := by omega
    obtain ⟨h1, h2⟩ := dVSt_size m (by omega) i (by omega)
    obtain ⟨k0, h0⟩ := digits_ev ((i + 1 : Nat) : Int) (by omega) (by omega)
    obtain ⟨k1, h3⟩ := ih (i + 1) (by omega)
    have hil := itoa_len ((i + 1 : Nat) : Int) (by omega) (by omega)
    refine ⟨k0 + k1 + 1, fun k hk => ?_⟩
    obtain ⟨k', rfl⟩ : ∃ k', k = k' + 1 := ⟨k - 1, by omega⟩
    have hh := h3 k' (by omega)
    have hd := h0 k' (by omega)
    dsimp only at hh hd ⊢
    rw [dVSt_succ m i hlt] at hh
    have hr : rdOf false m (wrap64 (((i + 1 : Nat) : Int) - 1)) = m[i] := by
      rw [wrap_id (by omega) (by omega), show ((i + 1 : Nat) : Int) - 1 = (i : Int) by omega]
      unfold rdOf
      rw [Int.toNat_natCast, List.getD_eq_getElem?_getD, List.getElem?_eq_getElem hlt]
      rfl
    rw [threshingref02_Values.l0, if_pos (by rw [wrap_id (x := (m.length : Int) + 1) (by omega) (by omega)]; omega), if_pos (by omega), hd, Option.bind_some, if_pos (by rw [wrap_id (by omega) (by omega)]; omega), if_pos (by rw [wrap_id (by omega) (by omega)]; omega), hr, wrap_id (x := ((i + 1 : Nat) : Int) + 1) (by omega) (by omega), show ((i + 1 : Nat) : Int) + 1 = ((i + 1 + 1 : Nat) : Int) by omega]
    cases hb : m[i] with
    | true =>
      rw [hb] at hh
      rw [if_pos rfl]
      exact (putB (dVSt m i) (Lib.itoa ((i + 1 : Nat) : Int)) (by omega) (by omega) (by omega) (fun a b => threshingref02_Values.l0 k' m a b ((i + 1 + 1 : Nat) : Int))).trans hh
    | false =>
      rw [hb] at hh
      rw [if_neg (by decide), if_pos (by rw [baOf_size]; omega), show (⟨#[45]⟩ : ByteArray) = baOf [45] from rfl, baOf_append]
      exact (putB (dVSt m i) ([45] ++ Lib.itoa ((i + 1 : Nat) : Int)) (by omega) (by omega) (by simp only [List.length_append, List.length_cons, List.length_nil]; omega) (fun a b => threshingref02_Values.l0 k' m a b ((i + 1 + 1 : Nat) : Int))).trans hh
theorem refvalues_ev (m : List Bool) (hm : m.length ≤ 100000) : Ev (fun k => threshingref02_Values.f k m) (baOf (dValues m)) := by
  have h := refvalues_loop m hm m.length 0 (by omega)
  rw [show dVSt m 0 = ([], [118]) by unfold dVSt; rw [List.take_zero]; rfl] at h
  exact h
end Go.Proofs.YtigloobbpcnnhaaGreatDoor.PB
end
end
section
section
namespace Go.Proofs.YtigloobbpcnnhaaGreatDoor.PB
open Go.RowKit Go.Proofs.YtigloobbpcnnhaaGreatDoorW.PrintWords Go.Proofs.YtigloobbpcnnhaaGreatDoorW.PrintLast Go.Proofs.YtigloobbpcnnhaaGreatDoorW.PrintMore
set_option linter.unusedVariables false
set_option linter.unusedSimpArgs false
section
variable {ops : Array Oper} {rest : List Oper} {o : Oper} {a : Act} {W : World} {Q : Exit → Act → World → Prop}
theorem make_event (hgd : o.guard = none) (t : TypeId) (x : Operand) (ho : o.op = .makeSlice t x x) (ht : Tryz.prog.underlying t = some (.slice 4)) (k : Nat) (hk : k ≤ 2000000) (hx : a.eval x = .int .i64 (k : Int))
    (h : ∀ g w1, g = W.heap.size → w1.heap[g]? = some (.cells (boolsA (List.replicate k false)) 4 (0, 0)) → Below W.heap.size W w1 → wpList Tryz.prog ops Q rest (a.put o.dst (.slice (some ⟨g, 0, none⟩) k k)) w1) : wpList Tryz.prog ops Q (o :: rest) a W := by
  have hrun : (execOp a.eval o).run Tryz.prog W = .ok (.value (.slice (some ⟨W.heap.size, 0, none⟩) k k)) (W.alloc (.cells (boolsA (List.replicate k false)) 4)) := by
    unfold execOp
    have hm := print_make_of (P := Tryz.prog) t 4 (.bool false) 1 ht info4 rfl (by omega) k (by omega) W
    rw [made_bools] at hm
    simp only [ho, hx]
    simp [hm, Sem.run_bind, Sem.run_pure, Result.andThen]
  exact Kd.event_run hgd hrun (h _ _ rfl (blk_new W _) (below_alloc (Below.refl _ _) _))
end
abbrev mMark (kv : Nat) (s : List UInt8) (i : Nat) : List Bool := (((dLines s).take i).flatMap dWords).foldl (dMark (kv : Int)) (List.replicate kv false)
theorem mMark_len (kv : Nat) (s : List UInt8) (i : Nat) : (mMark kv s i).length = kv := by rw [mMark, dMark_len]; simp
theorem mMark_succ (kv : Nat) (s : List UInt8) (i : Nat) (h : i < (dLines s).length) : mMark kv s (i + 1) = (dWords (dLines s)[i]).foldl (dMark (kv : Int)) (mMark kv s i) := by
  unfold mMark
  rw [List.take_succ_eq_append_getElem h, List.flatMap_append, List.foldl_append]
  simp
set_option maxHeartbeats 4000000 in
set_option maxRecDepth 100000 in
theorem rmodel_calls (s : List UInt8) (vars : Int) (w : World) (hs : s.length ≤ 100000) (hv : -9223372036854775808 ≤ vars ∧ vars ≤ 9223372036854775807) (hv2 : vars ≤ 100000 ∨ 1048576 < vars) :
    Calls Tryz.prog 6 #[.string (baOf s), .int .i64 vars] w fun e w' => ∃ A c, e = .returned (.tuple #[.slice A (dModel s vars).1.length c, .int .i64 (dModel s vars).2]) ∧ Kd.bool.C w' A (dModel s vars).1.length (dModel s vars).1 ∧ (dModel s vars).1.length ≤ c ∧ Below w.heap.size w w' := by
  have HS := Aside0.mk hs
  obtain ⟨sB, hsB⟩ : ∃ sB, sB = baOf s := ⟨_, rfl⟩
  have HSB := Aside0.mk hsB
  rw [← hsB]
  clear hs hsB
  by_cases hz : vars < 0 ∨ 1048576 < vars
  · have hd : dModel s vars = ([], 2) := by unfold dModel; rw [if_pos hz]
    have HD := Aside0.mk hd
    clear hd hv2
    by_cases h1 : vars < 0
    · have t1 : decide (vars < 0) = true := decide_eq_true h1
      go_enter Tryz.func6, Tryz.ntmps6
      go_wp2_with fail
      go_ret2
      rw [HD.out]
      exact ⟨none, 0, rfl, Kd.C_nil _ _, Nat.le_refl _, Below.refl _ _⟩
    · have t1 : decide (vars < 0) = false := decide_eq_false h1
      have t2 : decide (1048576 < vars) = true := decide_eq_true (by omega)
      go_enter Tryz.func6, Tryz.ntmps6
      go_wp2_with fail
      go_ret2
      rw [HD.out]
      exact ⟨none, 0, rfl, Kd.C_nil _ _, Nat.le_refl _, Below.refl _ _⟩
  have t1 : decide (vars < 0) = false := decide_eq_false (by omega)
  have t2 : decide (1048576 < vars) = false := decide_eq_false (by omega)
  obtain ⟨kv, rfl⟩ : ∃ kv : Nat, vars = (kv : Int) := ⟨vars.toNat, by omega⟩
  have HKV := Aside0.mk (show kv ≤ 100000 by omega)
  have HZ := Aside0.mk hz
  clear hz hv2 hv
  obtain ⟨LS, hLS⟩ : ∃ LS, LS = (dLines s).map dS := ⟨_, rfl⟩
  have hLL : LS.length = (dLines s).length := by rw [hLS, List.length_map]
  have HLS := Aside0.mk hLS
  have HLL := Aside0.mk hLL
  have hnb := (dLines_sum s).2
  have HNB := Aside0.mk (show LS.length ≤ 100000 by have := HS.out; omega)
  obtain ⟨kl, hkl⟩ := (rlines_ev s (by have := HS.out; omega)).rounds
  rw [← hLS] at hkl
  have HKL := Aside0.mk hkl
  clear hLS hLL hnb hkl
  go_enter Tryz.func6, Tryz.ntmps6
  go_wp2_with (first | ((with_reducible refine gate_dst (N := 20) rfl ?_); refine make_event rfl 23 (.tmp 19) rfl Tryz.underlying23 kv (by have := HKV.out; omega) rfl ?_; intro gm wm hgb hbox hb; have HM0 := Aside0.mk hbox; have HBM := Aside0.mk hb; have HGL := Aside0.mk (show w.heap.size ≤ gm by rw [hgb]; exact Nat.le_refl _); clear hbox hb hgb) | ((with_reducible refine gate_dst (N := 22) rfl ?_); refine text_event 9 46 (.tmp 21) rfl rfl s ?hx Tryz.underlying9 Tryz.underlying46 Tryz.underlying5 (by have := HS.out; omega) ?_; (case hx => rw [← HSB.out]; rfl); intro gb cb w1 hC hcc hb; have HT1 := Aside0.mk hC; have HTC := Aside0.mk hcc; have HM1 := Aside0.mk (blk_below HM0.out hb); have HB1 := Aside0.mk (below_step HBM.out hb); clear hC hcc hb) | (go_at_call 17; have hp := threshingref02_Lines.calls kl (some ⟨gb, 0, none⟩) cb (bI s) LS w1 (by rw [bI_length]; exact HT1.out) (by rw [bI_length]; exact HTC.out) HKL.out; rw [bI_length] at hp; refine hp.mono ?_; clear hp; rintro e wL ⟨vl, rfl, hS, hb⟩; obtain ⟨Al, cl, rfl⟩ := Kd.S_slice hS; have HSN := Aside0.mk (Kd.S_newB hS HM1.out); have HLC := Aside0.mk (Kd.S_reads' hS).2.1; have HML := Aside0.mk (blk_below HM1.out hb); have HBL := Aside0.mk (below_step HB1.out hb); clear hS hb))
  go_loopg [8] LS.length (fun gf v8 wr => ∃ (i : Nat), v8 = .int .i64 (i : Int) ∧ i + gf = LS.length ∧ Aside0 (wr.heap[gm]? = some (.cells (boolsA (mMark kv s i)) 4 (0, 0))) ∧ Aside0 (GB gm wL wr) ∧ Aside0 (Below w.heap.size w wr))
  case atStart => exact ⟨0, rfl, by omega, ⟨by rw [show mMark kv s 0 = List.replicate kv false from rfl]; exact HML.out⟩, ⟨GB.refl _ _⟩, HBL⟩
  case round =>
    obtain ⟨i, rfl, hi, HMr, HGr, HBr⟩ := hrel
    by_cases hlt : i < LS.length
    · have t5 : decide ((i : Int) < (LS.length : Int)) = true := decide_eq_true (by omega)
      have t6 : decide (i < LS.length) = true := decide_eq_true hlt
      have hil : i < (dLines s).length := by rw [← HLL.out]; exact hlt
      obtain ⟨LWi, hLWi⟩ : ∃ x, x = (dLines s)[i] := ⟨_, rfl⟩
      obtain ⟨wi, hwi⟩ : ∃ wi, wi = dWords LWi := ⟨_, rfl⟩
      have HRDi := Aside0.mk (show rd_T64 LS (i : Int) = dS LWi by
        unfold rd_T64
        rw [Int.toNat_natCast, HLS.out, List.getD_eq_getElem?_getD, List.getElem?_map, List.getElem?_eq_getElem hil, hLWi]
        rfl)
      have HFWi := Aside0.mk (show (dS LWi).f0 = wi.map baOf by rw [hwi]; rfl)
      have HF0i := Aside0.mk (show (dS LWi).f0.length = wi.length by rw [HFWi.out, List.length_map])
      have HWXi := Aside0.mk (show wi.length ≤ 100000 ∧ ∀ x ∈ wi, x.length ≤ 100000 by
        have h2 := dLines_mem s LWi (by rw [hLWi]; exact List.getElem_mem hil)
        have h3 := HS.out
        refine ⟨by rw [hwi]; have := dWords_len LWi; omega, ?_⟩
        intro x hx
        rw [hwi] at hx
        have h1 := (dWords_mem LWi x hx).2
        omega)
      have HSUC := Aside0.mk (show mMark kv s (i + 1) = wi.foldl (dMark (kv : Int)) (mMark kv s i) by rw [mMark_succ kv s i hil, hwi, hLWi])
      obtain ⟨m0, hm0⟩ : ∃ m0, m0 = mMark kv s i := ⟨_, rfl⟩
      have HM0L := Aside0.mk (show m0.length = kv by rw [hm0]; exact mMark_len kv s i)
      rw [← hm0] at HSUC HMr
      have hpi0 : (0 : Int) ≤ (i : Int) := Int.natCast_nonneg _
      have hpi1 : (i : Int) < (LS.length : Int) := by omega
      have hpi2 : (i : Int) + 1 ≤ 100001 := by have := HNB.out; omega
      have HIL := Aside0.mk hlt
      clear hLWi hwi hm0
      go_wp2_with fail
      obtain ⟨wo, rfl⟩ : ∃ wo : World, wo = wr := ⟨_, rfl⟩
      obtain ⟨gko, hgko⟩ : ∃ gko, gko = gk := ⟨_, rfl⟩
      rw [← hgko] at hi
      have HGKO := Aside0.mk hgko
      clear hgko
      go_loopg [9] wi.length (fun gf v9 wr => ∃ (j : Nat), v9 = .int .i64 (j : Int) ∧ j + gf = wi.length ∧ Aside0 (wr.heap[gm]? = some (.cells (boolsA ((wi.take j).foldl (dMark (kv : Int)) m0)) 4 (0, 0))) ∧ Aside0 (GB gm wL wr) ∧ Aside0 (Below w.heap.size w wr))
      case atStart => exact ⟨0, rfl, by omega, ⟨by rw [List.take_zero]; exact HMr.out⟩, HGr, HBr⟩
      case round =>
        clear HMr HGr HBr
        obtain ⟨j, rfl, hj, HMr, HGr, HBr⟩ := hrel
        have HSr := Kd.S_step HSN.out (fun k ho hk => HGr.out.blk k hk ho.2)
        obtain ⟨adl', Aw, cw', e1, hx0, hx1, hlw, hCw⟩ := at_T64 (Kd.S_reads' HSr).2.2 (i : Int) (Int.natCast_nonneg _) (by have := HIL.out; omega)
        cases e1
        rw [HRDi.out, Int.toNat_natCast, HF0i.out] at hx0
        rw [HRDi.out, HF0i.out] at hlw
        rw [HRDi.out, HF0i.out, HFWi.out] at hCw
        have HWCi := Aside0.mk hCw
        clear hx1 hlw hCw HSr
        by_cases hjt : j < wi.length
        · have t7 : decide ((j : Int) < (wi.length : Int)) = true := decide_eq_true (by omega)
          have t8 : decide (j < wi.length) = true := decide_eq_true hjt
          obtain ⟨x, hx⟩ : ∃ x, x = wi[j] := ⟨_, rfl⟩
          obtain ⟨mj, hmj⟩ : ∃ mj, mj = (wi.take j).foldl (dMark (kv : Int)) m0 := ⟨_, rfl⟩
          have HMJ := Aside0.mk (show mj.length = kv by rw [hmj, dMark_len]; exact HM0L.out)
          have hms : (wi.take (j + 1)).foldl (dMark (kv : Int)) m0 = dMark (kv : Int) mj x := by
            rw [List.take_succ_eq_append_getElem hjt, List.foldl_append, ← hmj, ← hx]
            rfl
          rw [← hmj] at HMr
          have hxz : x.length ≤ 100000 := HWXi.out.2 x (by rw [hx]; exact List.getElem_mem hjt)
          obtain ⟨aw, e1, hxw⟩ := Kd.at_string HWCi.out (j : Int) (by omega) (by omega)
          cases e1
          rw [Int.toNat_natCast, show rdOf ByteArray.empty (wi.map baOf) (j : Int) = baOf x by
            unfold rdOf
            rw [Int.toNat_natCast, List.getD_eq_getElem?_getD, List.getElem?_map, List.getElem?_eq_getElem hjt, hx]
            rfl] at hxw
          have hji : (0 : Int) ≤ (j : Int) := Int.natCast_nonneg _
          have hjl : (j : Int) < (wi.length : Int) := by omega
          have hj1 : (j : Int) + 1 ≤ 100001 := by have := HWXi.out.1; omega
          obtain ⟨nv, y1, y2, hn⟩ : ∃ nv y1 y2, dNum x true (kv : Int) = (nv, y1, y2) := ⟨_, _, _, rfl⟩
          obtain ⟨kx, hkx⟩ := (rnumber_ev x true (kv : Int) (Int.natCast_nonneg _) (by have := HKV.out; omega) (by omega)).rounds
          rw [hn] at hkx
          have HKX := Aside0.mk hkx
          have hle := dNum_le x (kv : Int) (Int.natCast_nonneg _)
          rw [hn] at hle
          have hdm : dMark (kv : Int) mj x = if y1 = true ∧ y2 = true ∧ 0 < nv then mj.set (nv - 1).toNat true else mj := by unfold dMark; rw [hn]
          rw [hdm] at hms
          simp only at hle
          clear hdm hn hkx hx hmj
          by_cases hgo : y1 = true ∧ y2 = true ∧ 0 < nv
          · obtain ⟨rfl, rfl, hnp⟩ := hgo
            rw [if_pos ⟨rfl, rfl, hnp⟩] at hms
            obtain ⟨q, rfl⟩ : ∃ q : Nat, nv = (q : Int) + 1 := ⟨(nv - 1).toNat, by omega⟩
            have hqk := hle rfl
            have HQK := Aside0.mk (show q + 1 ≤ kv by omega)
            rw [show ((q : Int) + 1 - 1).toNat = q by omega] at hms
            have HMK := Aside0.mk hms
            have t9 : decide (0 < (q : Int) + 1) = true := decide_eq_true (by omega)
            have hq0 : (0 : Int) ≤ (q : Int) := Int.natCast_nonneg _
            have hq1 : (q : Int) < (kv : Int) := by omega
            have hq2 : (q : Int) + 1 ≤ 1048576 := by have := HKV.out; omega
            clear hms hle hnp
            go_wp2_with (first | (go_at_call 18; refine (threshingref02_Number.calls kx (baOf x) true (kv : Int) _ _ _ wr HKX.out).mono ?_; rintro e wn ⟨rfl, hdr⟩; have hb := drawn_below hdr; have HMn := Aside0.mk (blk_below HMr.out hb); have HGn := Aside0.mk (HGr.out.below hb); have HBn := Aside0.mk (below_step HBr.out hb); clear hdr hb hxw hx0) | ((with_reducible refine gate_store (t := 4) (p := 65) rfl ?_); refine store_one 4 65 (.const (.bool true)) rfl rfl rfl (off := q) (.bool true) (boolsA (mj.set q true)) rfl rfl HMn.out rfl nsz4 (show q + 1 ≤ (boolsA mj).size by rw [boolsA_size, HMJ.out]; exact HQK.out) rfl (bools_set mj q) ?_; intro V2 hw hsb; have HV2 := Aside0.mk hw; have HSV2 := Aside0.mk hsb; clear hw hsb))
            go_roundg (gk - 1)
            case measure => omega
            case rel => exact ⟨j + 1, by go_num, by omega, ⟨by rw [HMK.out]; exact HV2.out⟩, ⟨HGn.out.same HSV2.out⟩, ⟨HSV2.out.below HBn.out HGL.out⟩⟩
          · rw [if_neg hgo] at hms
            have HMK := Aside0.mk hms
            clear hms hle
            cases y1 with
            | false =>
              go_wp2_with (go_at_call 18; refine (threshingref02_Number.calls kx (baOf x) true (kv : Int) _ _ _ wr HKX.out).mono ?_; rintro e wn ⟨rfl, hdr⟩; have hb := drawn_below hdr; have HMn := Aside0.mk (blk_below HMr.out hb); have HGn := Aside0.mk (HGr.out.below hb); have HBn := Aside0.mk (below_step HBr.out hb); clear hdr hb hxw hx0)
              go_roundg (gk - 1)
              case measure => omega
              case rel => exact ⟨j + 1, by go_num, by omega, ⟨by rw [HMK.out]; exact HMn.out⟩, HGn, HBn⟩
            | true =>
              cases y2 with
              | false =>
                go_wp2_with (go_at_call 18; refine (threshingref02_Number.calls kx (baOf x) true (kv : Int) _ _ _ wr HKX.out).mono ?_; rintro e wn ⟨rfl, hdr⟩; have hb := drawn_below hdr; have HMn := Aside0.mk (blk_below HMr.out hb); have HGn := Aside0.mk (HGr.out.below hb); have HBn := Aside0.mk (below_step HBr.out hb); clear hdr hb hxw hx0)
                go_roundg (gk - 1)
                case measure => omega
                case rel => exact ⟨j + 1, by go_num, by omega, ⟨by rw [HMK.out]; exact HMn.out⟩, HGn, HBn⟩
              | true =>
                have t9 : decide (0 < nv) = false := decide_eq_false (fun h => hgo ⟨rfl, rfl, h⟩)
                clear hgo
                go_wp2_with (go_at_call 18; refine (threshingref02_Number.calls kx (baOf x) true (kv : Int) _ _ _ wr HKX.out).mono ?_; rintro e wn ⟨rfl, hdr⟩; have hb := drawn_below hdr; have HMn := Aside0.mk (blk_below HMr.out hb); have HGn := Aside0.mk (HGr.out.below hb); have HBn := Aside0.mk (below_step HBr.out hb); clear hdr hb hxw hx0)
                go_roundg (gk - 1)
                case measure => omega
                case rel => exact ⟨j + 1, by go_num, by omega, ⟨by rw [HMK.out]; exact HMn.out⟩, HGn, HBn⟩
        · have t7 : decide ((j : Int) < (wi.length : Int)) = false := decide_eq_false (by omega)
          have t8 : decide (j < wi.length) = false := decide_eq_false hjt
          have HME := Aside0.mk (show (wi.take j).foldl (dMark (kv : Int)) m0 = mMark kv s (i + 1) by rw [HSUC.out, List.take_of_length_le (by omega)])
          go_wp2_with fail
          have hgko := HGKO.out
          go_roundg (gko - 1)
          case measure => omega
          case rel => exact ⟨i + 1, by go_num, by omega, ⟨by rw [← HME.out]; exact HMr.out⟩, HGr, HBr⟩
    · have t5 : decide ((i : Int) < (LS.length : Int)) = false := decide_eq_false (by omega)
      have t6 : decide (i < LS.length) = false := decide_eq_false hlt
      obtain ⟨m, hm⟩ : ∃ m, m = mMark kv s i := ⟨_, rfl⟩
      have HMLN := Aside0.mk (show m.length = kv by rw [hm]; exact mMark_len kv s i)
      have hm2 : m = ((dLines s).flatMap dWords).foldl (dMark (kv : Int)) (List.replicate kv false) := by
        rw [hm, mMark, List.take_of_length_le (by rw [← HLL.out]; omega)]
      have HMD := Aside0.mk (show dModel s (kv : Int) = if dValues m = s then (m, 0) else ([], 21) by
        unfold dModel
        rw [if_neg HZ.out, Int.toNat_natCast, ← hm2])
      rw [← hm] at HMr
      have HCB := Aside0.mk (show Kd.bool.C wr (some ⟨gm, 0, none⟩) m.length m from C_bools m wr gm (boolsA m) (by simp [boolsA]) HMr.out (by have := HMLN.out; have := HKV.out; omega))
      obtain ⟨kw, hkw⟩ := (refvalues_ev m (by have := HMLN.out; have := HKV.out; omega)).rounds
      have HKW := Aside0.mk hkw
      obtain ⟨vB, hvB⟩ : ∃ vB, vB = baOf (dValues m) := ⟨_, rfl⟩
      have HVB := Aside0.mk hvB
      clear hm hm2 hkw hvB hi hlt
      by_cases hq : dValues m = s
      · have hvs : vB = sB := by rw [HVB.out, HSB.out, hq]
        have hvs1 : (sB.toList == sB.toList) = true := beq_self_eq_true _
        have HQ := Aside0.mk hq
        clear hq
        subst hvs
        go_wp2_with (go_at_call 19; have hp := threshingref02_Values.calls kw (some ⟨gm, 0, none⟩) kv m (baOf (dValues m)) wr ?hC ?hc HKW.out; (case hC => exact HCB.out); (case hc => rw [HMLN.out]; exact Nat.le_refl _); rw [HMLN.out, ← HVB.out] at hp; refine hp.mono ?_; clear hp; rintro e w9 ⟨rfl, hb⟩; have HM9 := Aside0.mk (blk_below HMr.out hb); have HB9 := Aside0.mk (below_step HBr.out hb); clear hb)
        go_ret2
        rw [HMD.out, if_pos HQ.out]
        have hk := HMLN.out
        subst hk
        exact ⟨_, _, rfl, C_bools m _ gm (boolsA m) (by simp [boolsA]) HM9.out (by have := HKV.out; omega), Nat.le_refl _, HB9.out⟩
      · have hvs1 : (vB.toList == sB.toList) = false := by
          rw [HVB.out, HSB.out, beq_eq_false_iff_ne]
          intro e
          have h1 := word_eq (dValues m) (baOf s).toList
          have h2 := word_eq s (baOf s).toList
          rw [e, beq_self_eq_true] at h1
          rw [beq_self_eq_true] at h2
          exact hq ((of_decide_eq_true h1.symm).trans (of_decide_eq_true h2.symm).symm)
        have HQ := Aside0.mk hq
        clear hq
        go_wp2_with (go_at_call 19; have hp := threshingref02_Values.calls kw (some ⟨gm, 0, none⟩) kv m (baOf (dValues m)) wr ?hC ?hc HKW.out; (case hC => exact HCB.out); (case hc => rw [HMLN.out]; exact Nat.le_refl _); rw [HMLN.out, ← HVB.out] at hp; refine hp.mono ?_; clear hp; rintro e w9 ⟨rfl, hb⟩; have HM9 := Aside0.mk (blk_below HMr.out hb); have HB9 := Aside0.mk (below_step HBr.out hb); clear hb)
        go_ret2
        rw [HMD.out, if_neg HQ.out]
        exact ⟨none, 0, rfl, Kd.C_nil _ _, Nat.le_refl _, HB9.out⟩
end Go.Proofs.YtigloobbpcnnhaaGreatDoor.PB
end
end
section
section
namespace Go.Proofs.YtigloobbpcnnhaaGreatDoor.PB
open Go.RowKit Go.Proofs.YtigloobbpcnnhaaGreatDoorW.PrintWords Go.Proofs.YtigloobbpcnnhaaGreatDoorW.PrintLast Go.Proofs.YtigloobbpcnnhaaGreatDoorW.PrintMore
set_option linter.unusedVariables false
set_option linter.unusedSimpArgs false
theorem dModel_len (s : List UInt8) (vars : Int) (h : vars ≤ 3000 ∨ 1048576 < vars) : (dModel s vars).1.length ≤ 3000 := by
  unfold dModel
  split
  · exact Nat.zero_le _
  · rename_i h1
    split
    · simp only [dMark_len, List.length_replicate]
      omega
    · exact Nat.zero_le _
set_option maxHeartbeats 1000000 in
set_option maxRecDepth 100000 in
theorem models_calls (s : List UInt8) (vars : Int) (w : World) (hv : -9223372036854775808 ≤ vars ∧ vars ≤ 9223372036854775807) (hlt : LT w.heap.size w) : Calls Tryz.prog 3 #[.string (baOf s), .int .i64 vars] w fun e w' => e = .returned (.bool true) ∧ Below w.heap.size w w' := by
  have HLT := Aside0.mk hlt
  have HV := Aside0.mk hv
  obtain ⟨sB, hsB⟩ : ∃ sB, sB = baOf s := ⟨_, rfl⟩
  have hsz : sB.size = s.length := by rw [hsB]; rfl
  have HSB := Aside0.mk hsB
  rw [← hsB]
  clear hlt hsB hv
  by_cases h1 : 3000 < sB.size
  · have t1 : decide (3000 < sB.size) = true := decide_eq_true h1
    have t2 : decide (3000 < (sB.size : Int)) = true := decide_eq_true (by omega)
    go_enter Tryz.func3, Tryz.ntmps3
    go_wp2_with fail
    go_ret
    exact ⟨rfl, Below.refl _ _⟩
  have t1 : decide (3000 < sB.size) = false := decide_eq_false h1
  have t2 : decide (3000 < (sB.size : Int)) = false := decide_eq_false (by omega)
  have HSL := Aside0.mk (show s.length ≤ 3000 by omega)
  clear h1 hsz
  by_cases h2 : 3000 < vars ∧ vars ≤ 1048576
  · have t3 : decide (3000 < vars) = true := decide_eq_true h2.1
    have t4 : decide (vars ≤ 1048576) = true := decide_eq_true h2.2
    clear h2
    go_enter Tryz.func3, Tryz.ntmps3
    go_wp2_with fail
    go_ret
    exact ⟨rfl, Below.refl _ _⟩
  have HV2 := Aside0.mk (show vars ≤ 100000 ∨ 1048576 < vars by omega)
  have hml := dModel_len s vars (by omega)
  obtain ⟨m, e0, hd⟩ : ∃ m e0, dModel s vars = (m, e0) := ⟨_, _, rfl⟩
  have HD := Aside0.mk hd
  rw [hd] at hml
  obtain ⟨km, hkm⟩ := (sameM_ev m (by simp only at hml; omega)).rounds
  have HKM := Aside0.mk hkm
  have e1 : (e0 == e0) = true := beq_self_eq_true e0
  clear hd hml hkm
  by_cases h3 : 3000 < vars
  · have t3 : decide (3000 < vars) = true := decide_eq_true h3
    have t4 : decide (vars ≤ 1048576) = false := decide_eq_false (by omega)
    clear h2 h3
    go_enter Tryz.func3, Tryz.ntmps3
    go_wp2_with (first | (go_at_call 5; have hp := model_calls s vars w (by have := HSL.out; omega) HV.out HLT.out; rw [← HSB.out, HD.out] at hp; refine hp.mono ?_; clear hp; rintro e w1 ⟨A1, c1, rfl, hC, hcc, hb⟩; have HC1 := Aside0.mk hC; have HE1 := Aside0.mk hcc; have HB1 := Aside0.mk hb; clear hC hcc hb) | (go_at_call 6; have hp := rmodel_calls s vars w1 (by have := HSL.out; omega) HV.out HV2.out; rw [← HSB.out, HD.out] at hp; refine hp.mono ?_; clear hp; rintro e w2 ⟨A2, c2, rfl, hC, hcc, hb⟩; have HC2 := Aside0.mk hC; have HE2 := Aside0.mk hcc; have HB2 := Aside0.mk (below_step HB1.out hb); have HC12 := Aside0.mk (Kd.C_below HC1.out hb); clear hC hcc hb) | (go_at_call 7; refine (threshingkit_SameModel.calls km A1 c1 m A2 c2 m true w2 HC12.out HE1.out HC2.out HE2.out HKM.out).mono ?_; rintro e w3 ⟨rfl, hdr⟩; have HB3 := Aside0.mk (below_step HB2.out (drawn_below hdr)); clear hdr) | (go_at_call 8; refine (works_c w w3 HLT.out HB3.out).mono ?_; rintro e w4 ⟨rfl, hb⟩; have HB4 := Aside0.mk hb; clear hb))
    go_ret
    exact ⟨rfl, HB4.out⟩
  · have t3 : decide (3000 < vars) = false := decide_eq_false h3
    clear h2 h3
    go_enter Tryz.func3, Tryz.ntmps3
    go_wp2_with (first | (go_at_call 5; have hp := model_calls s vars w (by have := HSL.out; omega) HV.out HLT.out; rw [← HSB.out, HD.out] at hp; refine hp.mono ?_; clear hp; rintro e w1 ⟨A1, c1, rfl, hC, hcc, hb⟩; have HC1 := Aside0.mk hC; have HE1 := Aside0.mk hcc; have HB1 := Aside0.mk hb; clear hC hcc hb) | (go_at_call 6; have hp := rmodel_calls s vars w1 (by have := HSL.out; omega) HV.out HV2.out; rw [← HSB.out, HD.out] at hp; refine hp.mono ?_; clear hp; rintro e w2 ⟨A2, c2, rfl, hC, hcc, hb⟩; have HC2 := Aside0.mk hC; have HE2 := Aside0.mk hcc; have HB2 := Aside0.mk (below_step HB1.out hb); have HC12 := Aside0.mk (Kd.C_below HC1.out hb); clear hC hcc hb) | (go_at_call 7; refine (threshingkit_SameModel.calls km A1 c1 m A2 c2 m true w2 HC12.out HE1.out HC2.out HE2.out HKM.out).mono ?_; rintro e w3 ⟨rfl, hdr⟩; have HB3 := Aside0.mk (below_step HB2.out (drawn_below hdr)); clear hdr) | (go_at_call 8; refine (works_c w w3 HLT.out HB3.out).mono ?_; rintro e w4 ⟨rfl, hb⟩; have HB4 := Aside0.mk hb; clear hb))
    go_ret
    exact ⟨rfl, HB4.out⟩
theorem dimacsModels_walk (s : ByteArray) (_ : s.size ≤ maxLen) (n : Int) (hn : (Lit.int .i64 n).wf = true) (w : World) (hlt : LT w.heap.size w) :
    Calls Tryz.prog 3 #[.string s, .int .i64 n] w fun e w' => e = .returned (.bool true) ∧ Below w.heap.size w w' := by
  have h := models_calls s.data.toList n w (Go.bounds_i64 hn) hlt
  rwa [show baOf s.data.toList = s by cases s; simp [baOf]] at h
end Go.Proofs.YtigloobbpcnnhaaGreatDoor.PB
end
end
