-- MADE BY PROGRAM (print.py over stood-in functions; wip/tools/fakeprint.py)
import Derived.Test.YtmknpchmpgkdbaaDoorPB0
import Derived.Test.YtmknpchmpgkdbaaDoorFThreshingref30Find
namespace Go.Proofs.YtmknpchmpgkdbaaDoor.PB
open Go.RowKit Go.Proofs.YtmknpchmpgkdbaaDoorW.PrintWords Go.Proofs.YtmknpchmpgkdbaaDoorW.PrintLast Go.Proofs.YtmknpchmpgkdbaaDoorW.PrintMore
attribute [local go_sem] max2_int min2_int max_two min_two max_three min_three max_four min_four   -- for this text's walks alone
set_option linter.unusedVariables false
set_option linter.unusedSimpArgs false

-- NOT PRINTED: function 8 (options_New)

-- NOT PRINTED: function 21 (options_find)

/-! ### threshingref30_Set: function 27 -/
def threshingref30_Set.f (k : Nat) (l0 : List (S50)) (a1 : ByteArray) (a2 : Int) : Option (Int × Int × (List (S50))) := (threshingref30_Find.f k l0 a1).bind fun t159 => (if t159 < 0 then (some (0, 5, l0)) else (if 0 ≤ t159 then (if t159 < (l0.length : Int) then (some (mn (mx a2 ((rd_T50 l0 t159).f2)) ((rd_T50 l0 t159).f3), 0, (l0.set (t159 : Int).toNat (⟨(rd_T50 l0 t159).f0, (rd_T50 l0 t159).f1, (rd_T50 l0 t159).f2, (rd_T50 l0 t159).f3, mn (mx a2 ((rd_T50 l0 t159).f2)) ((rd_T50 l0 t159).f3)⟩ : S50)))) else (none)) else (none)))
theorem threshingref30_Set.mono : ∀ a0 a1 a2 k, LeO (threshingref30_Set.f k a0 a1 a2) (threshingref30_Set.f (k + 1) a0 a1 a2) := by
  intro a0 a1 a2 k
  unfold threshingref30_Set.f
  repeat' first
      | (with_reducible exact threshingref30_Find.mono _ _ _)
      | (with_reducible exact LeO.refl _)
      | (with_reducible exact LeO.none _)
      | (with_reducible refine LeO.ite ?_ ?_)
      | (with_reducible refine LeO.bind ?_ (fun _ => ?_))
      | exact threshingref30_Find.mono _ _ _
      | exact LeO.none _
      | refine LeO.ite ?_ ?_
      | refine LeO.bind ?_ (fun _ => ?_)
def threshingref30_Set.T4 : Bool × List (List Nat × List Nat) := (true, [([], []), ([], []), ([], []), ([], []), ([], []), ([3, 4], [3, 4]), ([5], [5]), ([6], [6]), ([2, 7], [2, 7]), ([], []), ([], []), ([9, 10], [9, 10]), ([11], [11]), ([12], [12]), ([8, 13], [8, 13]), ([0, 1, 0, 1, 2, 3, 4, 5, 6, 7, 8, 9, 10, 11, 12, 13, 14], [0, 1]), ([15, 0, 1, 2, 3, 4, 5, 6, 7, 8, 9, 10, 11, 12, 13, 14], [15]), ([16, 14, 0, 1, 2, 3, 4, 5, 6, 7, 8, 9, 10, 11, 12, 13, 14], [14, 16])])
def threshingref30_Set.B4 : List Nat := [0, 0, 0, 0, 0, 24, 56, 120, 252, 0, 0, 1536, 3584, 7680, 16380, 32767, 65535, 131071]
theorem threshingref30_Set.tab4 : rtab .any (opsOf Tryd.f27 4) = threshingref30_Set.T4 := by kernel_rfl
theorem threshingref30_Set.bits4 : waitsOk threshingref30_Set.T4.2 threshingref30_Set.B4 = true := by kernel_rfl
set_option maxHeartbeats 8000000 in
set_option maxRecDepth 100000 in
theorem threshingref30_Set.callsS (k : Nat) (P0_ : Nat → Prop) (u9000_ : Value) (l0 : List (S50)) (a1 : ByteArray) (a2 : Int) (r1 : Int) (r2 : Int) (r3 : List (S50)) (wS w0 w : World) (hB : Below w0.heap.size w0 w) (hkept : Kept wS w (fun k_ => P0_ k_)) (ho0 : Kd.R k50 50 w w0.heap.size (fun k_ => (P0_ k_ ∨ wS.heap.size ≤ k_)) u9000_ l0) (h : threshingref30_Set.f k l0 a1 a2 = some (r1, r2, r3)) :
    Calls Tryd.prog 27 #[u9000_, .string a1, .int .i64 a2] w fun e w' => e = .returned (.tuple #[.int .i64 r1, .int .i64 r2]) ∧ Kd.R k50 50 w' w0.heap.size (fun k_ => (P0_ k_ ∨ wS.heap.size ≤ k_)) u9000_ r3 ∧ Below w0.heap.size w0 w' ∧ Kept wS w' (fun k_ => P0_ k_) := by
  have HO0 := Aside0.mk ho0
  have HK := Aside0.mk hkept
  have HW0 := Aside0.mk hB.size
  have HB := Aside0.mk hB
  clear hB
  have H : ((threshingref30_Find.f k l0 a1).bind fun t159 => (if t159 < 0 then (some (0, 5, l0)) else (if 0 ≤ t159 then (if t159 < (l0.length : Int) then (some (mn (mx a2 ((rd_T50 l0 t159).f2)) ((rd_T50 l0 t159).f3), 0, (l0.set (t159 : Int).toNat (⟨(rd_T50 l0 t159).f0, (rd_T50 l0 t159).f1, (rd_T50 l0 t159).f2, (rd_T50 l0 t159).f3, mn (mx a2 ((rd_T50 l0 t159).f2)) ((rd_T50 l0 t159).f3)⟩ : S50)))) else (none)) else (none)))) = some (r1, r2, r3) := h
  clear h
  replace H := Option.bind_eq_some_iff.mp H
  obtain ⟨t159, A40, H⟩ := H
  replace H : (if t159 < 0 then (some (0, 5, l0)) else (if 0 ≤ t159 then (if t159 < (l0.length : Int) then (some (mn (mx a2 ((rd_T50 l0 t159).f2)) ((rd_T50 l0 t159).f3), 0, (l0.set (t159 : Int).toNat (⟨(rd_T50 l0 t159).f0, (rd_T50 l0 t159).f1, (rd_T50 l0 t159).f2, (rd_T50 l0 t159).f3, mn (mx a2 ((rd_T50 l0 t159).f2)) ((rd_T50 l0 t159).f3)⟩ : S50)))) else (none)) else (none))) = some (r1, r2, r3) := H
  have A4 := Aside0.mk A40
  clear A40
  by_cases c5 : t159 < 0
  · rw [if_pos c5] at H
    have c5b0 : decide (t159 < 0) = true := decide_eq_true c5
    clear c5
    simp only [Option.some.injEq, Prod.mk.injEq] at H
    obtain ⟨rfl, rfl, rfl⟩ := H
    obtain ⟨Ao6, co6, eo6⟩ := Kd.R_slice HO0.out
    subst eo6
    go_enter Tryd.func27, Tryd.ntmps27
    go_wp2_with (first | ((with_reducible refine gate_callee (f := 28) rfl ?_); refine goesL_ (some 11) rfl rfl Tryd.func28 (by kernel_rfl) rfl #[.slice Ao6 l0.length co6, .string a1] rfl (by (try simp only [List.map_toArray, List.map_cons, List.map_nil]); first | done | rfl | (simp only [List.length_drop, List.length_take]; rfl)) ?_; (with_reducible refine (threshingref30_Find.calls k _ _ l0 a1 t159 _ ?side1 ?side2 A4.out).mono ?_); (case side1 => repeat (first | exact (Kd.R_reads' HO0.out).2.2 | (with_reducible refine Kd.C_alloc ?_ _) | (with_reducible refine Kd.C_drewN ?_ _) | (with_reducible refine Kd.C_drew ?_))); (case side2 => exact (Kd.R_reads' HO0.out).2.1); rintro e w' ⟨rfl, ⟨nd, rfl⟩⟩; refine ⟨_, rfl, ?_⟩))
    go_ret2
    exact ⟨by first | rfl | (simp [errW_none, errW_some] <;> rfl) | (simp [*, errW_none, errW_some] <;> rfl), by (with_reducible repeat (first | apply Kd.R_alloc | apply Kd.R_drewN | apply Kd.R_drew)); exact HO0.out, by repeat (first | (with_reducible first | exact HB.out | apply below_alloc | apply pw_below_drewN | apply below_drew1) | exact HB.out), by repeat (first | (with_reducible first | exact HK.out | apply Kept.alloc | apply Kept.drewN | apply Kept.drew) | exact HK.out)⟩
  · rw [if_neg c5] at H
    have c5b0 : decide (t159 < 0) = false := decide_eq_false c5
    clear c5
    by_cases c7 : 0 ≤ t159
    · rw [if_pos c7] at H
      have c7b0 : decide (0 ≤ t159) = true := decide_eq_true c7
      clear c7
      by_cases c8 : t159 < (l0.length : Int)
      · rw [if_pos c8] at H
        have c8b0 : decide (t159 < (l0.length : Int)) = true := decide_eq_true c8
        clear c8
        obtain ⟨ji9, hji9⟩ : ∃ j_ : Int, (mx a2 ((rd_T50 l0 t159).f2)) = j_ := ⟨_, rfl⟩
        replace H : (some (mn (ji9) ((rd_T50 l0 t159).f3), 0, (l0.set (t159 : Int).toNat (⟨(rd_T50 l0 t159).f0, (rd_T50 l0 t159).f1, (rd_T50 l0 t159).f2, (rd_T50 l0 t159).f3, mn (ji9) ((rd_T50 l0 t159).f3)⟩ : S50)))) = some (r1, r2, r3) := by first | (rw [hji9] at H; exact H) | (simp only [hji9] at H ⊢; exact H)
        (try rw [hji9] at A4)
        have hji9_ : (if a2 < ((rd_T50 l0 t159).f2) then ((rd_T50 l0 t159).f2) else a2) = ji9 := hji9
        obtain ⟨ji10, hji10⟩ : ∃ j_ : Int, (mn (ji9) ((rd_T50 l0 t159).f3)) = j_ := ⟨_, rfl⟩
        replace H : (some (ji10, 0, (l0.set (t159 : Int).toNat (⟨(rd_T50 l0 t159).f0, (rd_T50 l0 t159).f1, (rd_T50 l0 t159).f2, (rd_T50 l0 t159).f3, ji10⟩ : S50)))) = some (r1, r2, r3) := by first | (rw [hji10] at H; exact H) | (simp only [hji10] at H ⊢; exact H)
        (try rw [hji10] at A4)
        have hji10_ : (if ((rd_T50 l0 t159).f3) < (ji9) then ((rd_T50 l0 t159).f3) else (ji9)) = ji10 := hji10
        obtain ⟨y162, hy162⟩ : ∃ y_ : List (S50), y_ = (l0.set (t159 : Int).toNat (⟨(rd_T50 l0 t159).f0, (rd_T50 l0 t159).f1, (rd_T50 l0 t159).f2, (rd_T50 l0 t159).f3, ji10⟩ : S50)) := ⟨_, rfl⟩
        replace H : (some (ji10, 0, y162)) = some (r1, r2, r3) := by first | (rw [hy162]; with_reducible exact H) | (have H2_ := (Option.bind_some _ _).symm.trans H; rw [hy162]; with_reducible exact H2_) | (have H2_ := (Option.bind_some _ _).symm.trans H; with_reducible exact H2_) | with_reducible exact H | (rw [hy162]; exact H) | exact H
        have Ny162 := Aside0.mk hy162
        clear hy162
        simp only [Option.some.injEq, Prod.mk.injEq] at H
        obtain ⟨rfl, rfl, rfl⟩ := H
        obtain ⟨Ao13, co13, eo13⟩ := Kd.R_slice HO0.out
        subst eo13
        go_enter Tryd.func27, Tryd.ntmps27
        try go_wp2_with (first | ((with_reducible refine gate_callee (f := 28) rfl ?_); refine goesL_ (some 11) rfl rfl Tryd.func28 (by kernel_rfl) rfl #[.slice Ao13 l0.length co13, .string a1] rfl (by (try simp only [List.map_toArray, List.map_cons, List.map_nil]); first | done | rfl | (simp only [List.length_drop, List.length_take]; rfl)) ?_; (with_reducible refine (threshingref30_Find.calls k _ _ l0 a1 t159 _ ?side1 ?side2 A4.out).mono ?_); (case side1 => repeat (first | exact (Kd.R_reads' HO0.out).2.2 | (with_reducible refine Kd.C_alloc ?_ _) | (with_reducible refine Kd.C_drewN ?_ _) | (with_reducible refine Kd.C_drew ?_))); (case side2 => exact (Kd.R_reads' HO0.out).2.1); rintro e w' ⟨rfl, ⟨nd, rfl⟩⟩; refine ⟨_, rfl, ?_⟩; (try (rw [drewN_self w]; generalize hq_ : World.drewN w _ = w; have n0_ : Aside0 (Kd.R k50 50 w w0.heap.size (fun k_ => (P0_ k_ ∨ wS.heap.size ≤ k_)) (.slice Ao13 l0.length co13) l0) := ⟨by rw [← hq_]; exact (by (with_reducible repeat (first | apply Kd.R_alloc | apply Kd.R_drewN | apply Kd.R_drew)); exact HO0.out)⟩; have n1_ : Aside0 (Kept wS w (fun k_ => P0_ k_)) := ⟨by rw [← hq_]; exact (by repeat (first | (with_reducible first | exact HK.out | apply Kept.alloc | apply Kept.drewN | apply Kept.drew) | exact HK.out))⟩; have n2_ : Aside0 (Below w0.heap.size w0 w) := ⟨by rw [← hq_]; exact (by repeat (first | (with_reducible first | exact HB.out | apply below_alloc | apply pw_below_drewN | apply below_drew1) | exact HB.out))⟩; clear HO0 HK HB hq_; have HO0 := n0_; have HK := n1_; have HB := n2_; clear n0_ n1_ n2_))))
        have n0_ := Aside0.mk (Kd.R_drew HO0.out)
        have n1_ := Aside0.mk (Kept.drew HK.out)
        have n2_ := Aside0.mk (below_drew1 HB.out)
        clear HO0
        clear HK
        clear HB
        have HO0 := n0_
        have HK := n1_
        have HB := n2_
        clear n0_ n1_ n2_
        have p160 : 0 ≤ (t159 : Int) := of_decide_eq_true (by first | (with_reducible assumption) | assumption)
        have q160 : t159 < (l0.length : Int) := of_decide_eq_true (by first | (with_reducible assumption) | assumption)
        obtain ⟨ad160, e160, hx160_0, hx160_1, hx160_2, hx160_3, hx160_4⟩ := at_T50 (Kd.R_reads' HO0.out).2.2 t159 p160 q160
        cases e160
        replace p160 := eq_true p160
        replace q160 := eq_true q160
        have p161 : 0 ≤ (t159 : Int) := of_decide_eq_true (by first | (with_reducible assumption) | assumption)
        have q161 : t159 < (l0.length : Int) := of_decide_eq_true (by first | (with_reducible assumption) | assumption)
        obtain ⟨ad161, e161, hx161_0, hx161_1, hx161_2, hx161_3, hx161_4⟩ := at_T50 (Kd.R_reads' HO0.out).2.2 t159 p161 q161
        obtain rfl : ad160 = ad161 := (by injection e161)
        replace p161 := eq_true p161
        replace q161 := eq_true q161
        have p11 : 0 ≤ (t159 : Int) := of_decide_eq_true (by first | (with_reducible assumption) | assumption)
        have q11 : (t159 : Int) < ((l0.length : Int) : Int) := of_decide_eq_true (by first | (with_reducible assumption) | assumption)
        obtain ⟨go11, co11, eo11, gb11, gl11, cl11, HG11⟩ := Kd.R_form HO0.out (by omega)
        (first | cases eo11 | (injection eo11 with ea_ en_ ec_; (first | subst ea_ | (injection ea_ with ea_; subst ea_)); subst ec_; clear en_))
        have GB11 := Aside0.mk gb11
        have GG11 := Aside0.mk HG11
        clear gb11 gl11 HG11
        have HMgo11 := Aside0.mk (show (P0_ go11 ∨ wS.heap.size ≤ go11) from (HO0.out.1 _ rfl))
        (first | simp only [add_plain] at hx160_0 | skip)
        (first | simp only [add_plain] at hx160_1 | skip)
        (first | simp only [add_plain] at hx160_2 | skip)
        (first | simp only [add_plain] at hx160_3 | skip)
        (first | simp only [add_plain] at hx160_4 | skip)
        (first | simp only [add_plain] at hx161_0 | skip)
        (first | simp only [add_plain] at hx161_1 | skip)
        (first | simp only [add_plain] at hx161_2 | skip)
        (first | simp only [add_plain] at hx161_3 | skip)
        (first | simp only [add_plain] at hx161_4 | skip)
        obtain ⟨ce11, hcl11, hM11, hcc11, hfr11⟩ := Kd.R_elem HO0.out z50 (t159 : Int) p11 q11
        obtain rfl := k50_openM hM11
        have hx11_0 : World.cell? _ ⟨go11, (t159 : Int).toNat * 5, none⟩ = some (.string ((rd_T50 l0 t159).f0)) := hcc11 0 _ rfl
        have hx11_1 : World.cell? _ ⟨go11, (t159 : Int).toNat * 5 + 1, none⟩ = some (.int .i64 ((rd_T50 l0 t159).f1)) := hcc11 1 _ rfl
        have hx11_2 : World.cell? _ ⟨go11, (t159 : Int).toNat * 5 + 2, none⟩ = some (.int .i64 ((rd_T50 l0 t159).f2)) := hcc11 2 _ rfl
        have hx11_3 : World.cell? _ ⟨go11, (t159 : Int).toNat * 5 + 3, none⟩ = some (.int .i64 ((rd_T50 l0 t159).f3)) := hcc11 3 _ rfl
        have hx11_4 : World.cell? _ ⟨go11, (t159 : Int).toNat * 5 + 4, none⟩ = some (.int .i64 ((rd_T50 l0 t159).f4)) := hcc11 4 _ rfl
        have hf11_0 : World.frozen? _ ⟨go11, (t159 : Int).toNat * 5, none⟩ = false := hfr11 0
        have hf11_1 : World.frozen? _ ⟨go11, (t159 : Int).toNat * 5 + 1, none⟩ = false := hfr11 1
        have hf11_2 : World.frozen? _ ⟨go11, (t159 : Int).toNat * 5 + 2, none⟩ = false := hfr11 2
        have hf11_3 : World.frozen? _ ⟨go11, (t159 : Int).toNat * 5 + 3, none⟩ = false := hfr11 3
        have hf11_4 : World.frozen? _ ⟨go11, (t159 : Int).toNat * 5 + 4, none⟩ = false := hfr11 4
        clear hcl11 hcc11 hfr11 hM11
        replace p11 := eq_true p11
        replace q11 := eq_true q11
        obtain ⟨ce15, hcl15, hM15, hcc15, hfr15⟩ := Kd.R_elem HO0.out z50 (t159 : Int) (of_decide_eq_true (by first | (with_reducible assumption) | assumption)) (by have h_ : (t159 : Int) < ((l0.length : Int) : Int) := of_decide_eq_true (by first | (with_reducible assumption) | assumption); first | exact h_ | (have e_ := (Kd.R_reads' HO0.out).1; omega) | simpa using h_)
        obtain rfl := k50_openM hM15
        have HP15 := (Kd.R_seg HO0.out (t159 : Int) (of_decide_eq_true (by first | (with_reducible assumption) | assumption)) (by have h_ : (t159 : Int) < ((l0.length : Int) : Int) := of_decide_eq_true (by first | (with_reducible assumption) | assumption); first | exact h_ | (have e_ := (Kd.R_reads' HO0.out).1; omega) | simpa using h_) (seg := [.int .i64 ji10]) (j := 4) hcl15 hcc15 (show 5 ≤ 5 from by decide) (x' := (⟨(rd_T50 l0 t159).f0, (rd_T50 l0 t159).f1, (rd_T50 l0 t159).f2, (rd_T50 l0 t159).f3, ji10⟩ : S50)) (k50_mkM _ _ _ (⟨(rd_T50 l0 t159).f0, (rd_T50 l0 t159).f1, (rd_T50 l0 t159).f2, (rd_T50 l0 t159).f3, ji10⟩ : S50) ) (fun _ hk => hk)).1
        rw [← Ny162.out] at HP15
        have HQ15 := Aside0.mk HP15
        clear hcl15 hcc15 hfr15 hM15 HP15
        refine start_ (n := 18) (S := fun w' => w'.cell? ⟨go11, ((t159).toNat * 5), none⟩ = some (.string ((rd_T50 l0 t159).f0)) ∧ w'.cell? ⟨go11, ((t159).toNat * 5) + 1, none⟩ = some (.int .i64 ((rd_T50 l0 t159).f1)) ∧ w'.cell? ⟨go11, ((t159).toNat * 5) + 2, none⟩ = some (.int .i64 ((rd_T50 l0 t159).f2)) ∧ w'.cell? ⟨go11, ((t159).toNat * 5) + 3, none⟩ = some (.int .i64 ((rd_T50 l0 t159).f3)) ∧ w'.cell? ⟨go11, ((t159).toNat * 5) + 4, none⟩ = some (.int .i64 ((rd_T50 l0 t159).f4)) ∧ w'.cell? ⟨go11, ((t159).toNat * 5), none⟩ = some (.string ((rd_T50 l0 t159).f0)) ∧ w'.cell? ⟨go11, ((t159).toNat * 5) + 1, none⟩ = some (.int .i64 ((rd_T50 l0 t159).f1)) ∧ w'.cell? ⟨go11, ((t159).toNat * 5) + 2, none⟩ = some (.int .i64 ((rd_T50 l0 t159).f2)) ∧ w'.cell? ⟨go11, ((t159).toNat * 5) + 3, none⟩ = some (.int .i64 ((rd_T50 l0 t159).f3)) ∧ w'.cell? ⟨go11, ((t159).toNat * 5) + 4, none⟩ = some (.int .i64 ((rd_T50 l0 t159).f4))) (ds := [17]) #[false, false, false, false, false, false, false, false, false, false, false, false, false, false, false, false, false, false] (by kernel_rfl) rfl rfl ⟨hx160_0, hx160_1, hx160_2, hx160_3, hx160_4, hx161_0, hx161_1, hx161_2, hx161_3, hx161_4⟩ (fun hHeld => ?_); refine with_tabW threshingref30_Set.tab4 threshingref30_Set.bits4 (fun HT_ HW_ => ?_)
        generalize w.drew = w14 at HO0 HK HB GG11 HQ15 hf11_0 hf11_1 hf11_2 hf11_3 hf11_4 hx11_0 hx11_1 hx11_2 hx11_3 hx11_4 hx160_0 hx160_1 hx160_2 hx160_3 hx160_4 hx161_0 hx161_1 hx161_2 hx161_3 hx161_4 hHeld ⊢
        refine pure_ (i := 0) (N := some 14) (v := ?_) (a' := ?_) #[true, false, false, false, false, false, false, false, false, false, false, false, false, false, false, false, false, false] rfl rfl (any_of HT_.out (by kernel_rfl)) (fun _ _ _ h => h) (Or.inl ⟨by rfl, ?_⟩) ?_ ?_
        rotate_left
        · intro w'
          go_simp
          with_reducible rfl
        rotate_left
        · simp only [Act.put, List.setIfInBounds_toArray, List.set_cons_zero, List.set_cons_succ, i64_w, i32_w]
          rfl
        refine pure_ (i := 1) (N := some 15) (v := ?_) (a' := ?_) #[true, true, false, false, false, false, false, false, false, false, false, false, false, false, false, false, false, false] rfl rfl (any_of HT_.out (by kernel_rfl)) (fun _ _ _ h => h) (Or.inl ⟨by rfl, ?_⟩) ?_ ?_
        rotate_left
        · intro w'
          go_simp
          with_reducible rfl
        rotate_left
        · simp only [Act.put, List.setIfInBounds_toArray, List.set_cons_zero, List.set_cons_succ, i64_w, i32_w]
          rfl
        refine pure_ (i := 2) (N := some 16) (v := ?_) (a' := ?_) #[true, true, true, false, false, false, false, false, false, false, false, false, false, false, false, false, false, false] rfl rfl (any_of HT_.out (by kernel_rfl)) (fun _ _ _ h => h) (Or.inl ⟨by rfl, ?_⟩) ?_ ?_
        rotate_left
        · intro w'
          go_simp
          with_reducible rfl
        rotate_left
        · simp only [Act.put, List.setIfInBounds_toArray, List.set_cons_zero, List.set_cons_succ, i64_w, i32_w]
          rfl
        refine pure_ (i := 3) (N := some 17) (v := ?_) (a' := ?_) #[true, true, true, true, false, false, false, false, false, false, false, false, false, false, false, false, false, false] rfl rfl (any_of HT_.out (by kernel_rfl)) (fun _ _ _ h => h) (Or.inl ⟨by rfl, ?_⟩) ?_ ?_
        rotate_left
        · intro w'
          go_simp
          with_reducible rfl
        rotate_left
        · simp only [Act.put, List.setIfInBounds_toArray, List.set_cons_zero, List.set_cons_succ, i64_w, i32_w]
          rfl
        refine pure_ (i := 4) (N := some 18) (v := ?_) (a' := ?_) #[true, true, true, true, true, false, false, false, false, false, false, false, false, false, false, false, false, false] rfl rfl (any_of HT_.out (by kernel_rfl)) (fun _ _ _ h => h) (Or.inl ⟨by rfl, ?_⟩) ?_ ?_
        rotate_left
        · intro w'
          go_simp
          with_reducible rfl
        rotate_left
        · simp only [Act.put, List.setIfInBounds_toArray, List.set_cons_zero, List.set_cons_succ, i64_w, i32_w]
          rfl
        refine pure_ (i := 5) (N := some 19) (v := ?_) (a' := ?_) #[true, true, true, true, true, true, false, false, false, false, false, false, false, false, false, false, false, false] rfl rfl (any_of HT_.out (by kernel_rfl)) (fun _ _ _ h => h) (Or.inl ⟨by rfl, ?_⟩) ?_ ?_
        rotate_left
        · intro w'
          go_simp
          with_reducible rfl
        rotate_left
        · simp only [Act.put, List.setIfInBounds_toArray, List.set_cons_zero, List.set_cons_succ, i64_w, i32_w]
          rfl
        refine pure_ (i := 6) (N := some 20) (v := ?_) (a' := ?_) #[true, true, true, true, true, true, true, false, false, false, false, false, false, false, false, false, false, false] rfl rfl (any_of HT_.out (by kernel_rfl)) (fun _ _ _ h => h) (Or.inl ⟨by rfl, ?_⟩) ?_ ?_
        rotate_left
        · intro w'
          go_simp
          with_reducible rfl
        rotate_left
        · simp only [Act.put, List.setIfInBounds_toArray, List.set_cons_zero, List.set_cons_succ, i64_w, i32_w]
          rfl
        refine pure_ (i := 9) (N := some 23) (v := ?_) (a' := ?_) #[true, true, true, true, true, true, true, false, false, true, false, false, false, false, false, false, false, false] rfl rfl (any_of HT_.out (by kernel_rfl)) (fun _ _ _ h => h) (Or.inl ⟨by rfl, ?_⟩) ?_ ?_
        rotate_left
        · intro w'
          go_simp
          with_reducible rfl
        rotate_left
        · simp only [Act.put, List.setIfInBounds_toArray, List.set_cons_zero, List.set_cons_succ, i64_w, i32_w]
          rfl
        refine pure_ (i := 10) (N := some 24) (v := ?_) (a' := ?_) #[true, true, true, true, true, true, true, false, false, true, true, false, false, false, false, false, false, false] rfl rfl (any_of HT_.out (by kernel_rfl)) (fun _ _ _ h => h) (Or.inl ⟨by rfl, ?_⟩) ?_ ?_
        rotate_left
        · intro w'
          go_simp
          with_reducible rfl
        rotate_left
        · simp only [Act.put, List.setIfInBounds_toArray, List.set_cons_zero, List.set_cons_succ, i64_w, i32_w]
          rfl
        refine pure_ (i := 11) (N := some 25) (v := ?_) (a' := ?_) #[true, true, true, true, true, true, true, false, false, true, true, true, false, false, false, false, false, false] rfl rfl (any_of HT_.out (by kernel_rfl)) (fun _ _ _ h => h) (Or.inl ⟨by rfl, ?_⟩) ?_ ?_
        rotate_left
        · intro w'
          go_simp
          with_reducible rfl
        rotate_left
        · simp only [Act.put, List.setIfInBounds_toArray, List.set_cons_zero, List.set_cons_succ, i64_w, i32_w]
          rfl
        refine pure_ (i := 12) (N := some 26) (v := ?_) (a' := ?_) #[true, true, true, true, true, true, true, false, false, true, true, true, true, false, false, false, false, false] rfl rfl (any_of HT_.out (by kernel_rfl)) (fun _ _ _ h => h) (Or.inl ⟨by rfl, ?_⟩) ?_ ?_
        rotate_left
        · intro w'
          go_simp
          with_reducible rfl
        rotate_left
        · simp only [Act.put, List.setIfInBounds_toArray, List.set_cons_zero, List.set_cons_succ, i64_w, i32_w]
          rfl
        refine take_ (i := 7) (N := some 21) (v := ?_) (a' := ?_) #[true, true, true, true, true, true, true, true, false, true, true, true, true, false, false, false, false, false] rfl rfl (take_ofW HT_.out HW_.out (by kernel_rfl)) (fun _ _ _ h => h) (Or.inl ⟨by rfl, ?_⟩) hHeld ?_ ?_
        rotate_left
        · rintro w' ⟨s0, s1, s2, s3, s4, s5, s6, s7, s8, s9⟩
          go_simp
          with_reducible rfl
        rotate_left
        · simp only [Act.put, List.setIfInBounds_toArray, List.set_cons_zero, List.set_cons_succ, i64_w, i32_w]
          rfl
        refine pure_ (i := 8) (N := some 22) (v := ?_) (a' := ?_) #[true, true, true, true, true, true, true, true, true, true, true, true, true, false, false, false, false, false] rfl rfl (any_of HT_.out (by kernel_rfl)) (fun _ _ _ h => h) (Or.inl ⟨by rfl, ?_⟩) ?_ ?_
        rotate_left
        · intro w'
          go_simp
          with_reducible rfl
        rotate_left
        · simp only [Act.put, List.setIfInBounds_toArray, List.set_cons_zero, List.set_cons_succ, i64_w, i32_w]
          rfl
        refine take_ (i := 13) (N := some 27) (v := ?_) (a' := ?_) #[true, true, true, true, true, true, true, true, true, true, true, true, true, true, false, false, false, false] rfl rfl (take_ofW HT_.out HW_.out (by kernel_rfl)) (fun _ _ _ h => h) (Or.inl ⟨by rfl, ?_⟩) hHeld ?_ ?_
        rotate_left
        · rintro w' ⟨s0, s1, s2, s3, s4, s5, s6, s7, s8, s9⟩
          go_simp
          with_reducible rfl
        rotate_left
        · simp only [Act.put, List.setIfInBounds_toArray, List.set_cons_zero, List.set_cons_succ, i64_w, i32_w]
          rfl
        refine pure_ (i := 14) (N := some 28) (v := ?_) (a' := ?_) #[true, true, true, true, true, true, true, true, true, true, true, true, true, true, true, false, false, false] rfl rfl (any_of HT_.out (by kernel_rfl)) (fun _ _ _ h => h) (Or.inl ⟨by rfl, ?_⟩) ?_ ?_
        rotate_left
        · intro w'
          go_simp
          with_reducible rfl
        rotate_left
        · simp only [Act.put, List.setIfInBounds_toArray, List.set_cons_zero, List.set_cons_succ, i64_w, i32_w]
          rfl
        refine pure_ (i := 15) (N := some 29) (v := ?_) (a' := ?_) #[true, true, true, true, true, true, true, true, true, true, true, true, true, true, true, true, false, false] rfl rfl (any_of HT_.out (by kernel_rfl)) (fun _ _ _ h => h) (Or.inl ⟨by rfl, ?_⟩) ?_ ?_
        rotate_left
        · intro w'
          go_simp
          with_reducible rfl
        rotate_left
        · simp only [Act.put, List.setIfInBounds_toArray, List.set_cons_zero, List.set_cons_succ, i64_w, i32_w]
          rfl
        refine pure_ (i := 16) (N := some 30) (v := ?_) (a' := ?_) #[true, true, true, true, true, true, true, true, true, true, true, true, true, true, true, true, true, false] rfl rfl (any_of HT_.out (by kernel_rfl)) (fun _ _ _ h => h) (Or.inl ⟨by rfl, ?_⟩) ?_ ?_
        rotate_left
        · intro w'
          go_simp
          with_reducible rfl
        rotate_left
        · simp only [Act.put, List.setIfInBounds_toArray, List.set_cons_zero, List.set_cons_succ, i64_w, i32_w]
          rfl
        refine last_ (i := 17) (N := none) #[true, true, true, true, true, true, true, true, true, true, true, true, true, true, true, true, true, true] rfl rfl (one_of HT_.out (by kernel_rfl)) (by decide) (fun K hK => ?_)
        refine skip_ (w1 := ?_) (by rfl) rfl ?_ ?_
        rotate_left
        · go_simp
          rfl
        refine hK.out _ _ ?_
        clear hK K
        refine done_ (done_of HT_.out (by kernel_rfl)) ?_
        have p12 : 0 ≤ (t159 : Int) := of_decide_eq_true (by first | (with_reducible assumption) | assumption)
        have q12 : (t159 : Int) < ((l0.length : Int) : Int) := of_decide_eq_true (by first | (with_reducible assumption) | assumption)
        replace p12 := eq_true p12
        replace q12 := eq_true q12
        try go_wp2
        go_ret2
        exact ⟨by first | rfl | (simp [errW_none, errW_some] <;> rfl) | (simp only [← hji9, ← hji10]; first | rfl | (simp [errW_none, errW_some] <;> rfl)) | (simp [*, errW_none, errW_some] <;> rfl), by (with_reducible repeat (first | apply Kd.R_alloc | apply Kd.R_drewN | apply Kd.R_drew)); exact HQ15.out, by repeat (first | (with_reducible first | exact HB.out | apply below_alloc | apply pw_below_drewN | apply below_drew1 | refine below_set ?_ GB11.out) | exact HB.out), by repeat (first | (with_reducible first | exact HK.out | apply Kept.alloc | apply Kept.drewN | apply Kept.drew | refine Kept.setCell ?_ HMgo11.out _) | exact HK.out)⟩
      · rw [if_neg c8] at H
        exact absurd H (by simp)
    · rw [if_neg c7] at H
      exact absurd H (by simp)

theorem threshingref30_Set.calls (k : Nat) (P0_ : Nat → Prop) (u9000_ : Value) (l0 : List (S50)) (a1 : ByteArray) (a2 : Int) (r1 : Int) (r2 : Int) (r3 : List (S50)) (w0 w : World) (hB : Below w0.heap.size w0 w) (ho0 : Kd.R k50 50 w w0.heap.size P0_ u9000_ l0) (h : threshingref30_Set.f k l0 a1 a2 = some (r1, r2, r3)) :
    Calls Tryd.prog 27 #[u9000_, .string a1, .int .i64 a2] w fun e w' => e = .returned (.tuple #[.int .i64 r1, .int .i64 r2]) ∧ Kd.R k50 50 w' w0.heap.size (fun k_ => (P0_ k_ ∨ w.heap.size ≤ k_)) u9000_ r3 ∧ Below w0.heap.size w0 w' ∧ Kept w w' (fun k_ => P0_ k_) :=
  threshingref30_Set.callsS k P0_ u9000_ l0 a1 a2 r1 r2 r3 w w0 w hB (Kept.refl w (fun k_ => P0_ k_)) (Kd.R_mono ho0 (fun k_ hk => (.inl hk))) h

end Go.Proofs.YtmknpchmpgkdbaaDoor.PB
