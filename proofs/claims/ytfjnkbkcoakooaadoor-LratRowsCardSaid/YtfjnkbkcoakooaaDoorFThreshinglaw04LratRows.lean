-- MADE BY PROGRAM (print.py over stood-in functions; wip/tools/fakeprint.py)
import Derived.Test.YtfjnkbkcoakooaaDoorPB0
import Derived.Test.YtfjnkbkcoakooaaDoorHLratParse
import Derived.Test.YtfjnkbkcoakooaaDoorFThreshinglaw04Works
import Derived.Test.YtfjnkbkcoakooaaDoorFThreshingref04Same
namespace Go.Proofs.YtfjnkbkcoakooaaDoor.PB
open Go.RowKit Go.Proofs.YtfjnkbkcoakooaaDoorW.PrintWords Go.Proofs.YtfjnkbkcoakooaaDoorW.PrintLast Go.Proofs.YtfjnkbkcoakooaaDoorW.PrintMore
attribute [local go_sem] max2_int min2_int max_two min_two max_three min_three max_four min_four   -- for this text's walks alone
set_option linter.unusedVariables false
set_option linter.unusedSimpArgs false

/-! ### threshinglaw04_LratRows: function 6 -/
mutual
def threshinglaw04_LratRows.j0 : Nat → ByteArray → ByteArray → Int → Bool → Option (Bool)
  | 0, _, _, _, _ => none
  | k + 1, x0, x1, x2, x32 => if x32 = true then ((threshinglaw04_works.f k).bind fun t283 => (some t283)) else ((lrat_Parse.f k x0).bind fun bt284 => ((lrat_Parse.f k x1).bind fun bt289 => (if bt284.2.1 = 0 then (if x0.size + x1.size ≤ 9223372036854775807 then ((lrat_Parse.f k (x0 ++ x1)).bind fun bt302 => (if bt302.2.1 = bt289.2.1 then (if bt289.2.1 = 0 then (if bt302.2.2 = 0 then (if 0 ≤ (bt284.1.length : Int) then (if (bt284.1.length : Int) ≤ (bt302.1.length : Int) then ((threshingref04_Same.f k (bt302.1.take ((bt284.1.length : Int) : Int).toNat) bt284.1).bind fun t311 => (if t311 = true then ((threshingref04_Same.f k (bt302.1.drop ((bt284.1.length : Int) : Int).toNat) bt289.1).bind fun t316 => (if t316 = true then (threshinglaw04_LratRows.j1 k x0 x2 false) else (threshinglaw04_LratRows.j1 k x0 x2 true))) else (threshinglaw04_LratRows.j1 k x0 x2 true))) else (none)) else (none)) else (threshinglaw04_LratRows.j1 k x0 x2 true)) else (threshinglaw04_LratRows.j1 k x0 x2 (bt302.2.2 != (wrap64 (bt289.2.2 + (bt284.1.length : Int)))))) else (threshinglaw04_LratRows.j1 k x0 x2 true))) else (none)) else (if x0.size + x1.size ≤ 9223372036854775807 then ((lrat_Parse.f k (x0 ++ x1)).bind fun bt294 => (if (x0.size : Int) > 0 then (if 0 ≤ (wrap64 ((x0.size : Int) - 1)) then (if (wrap64 ((x0.size : Int) - 1)) < (x0.size : Int) then (if (bt x0 (wrap64 ((x0.size : Int) - 1))) = 10 then (if bt294.2.1 = bt284.2.1 then (if bt294.2.2 = bt284.2.2 then ((threshinglaw04_works.f k).bind fun t299 => (some t299)) else (some false)) else (some false)) else ((threshinglaw04_works.f k).bind fun t300 => (some t300))) else (none)) else (none)) else (if bt294.2.1 = bt284.2.1 then (if bt294.2.2 = bt284.2.2 then ((threshinglaw04_works.f k).bind fun t301 => (some t301)) else (some false)) else (some false)))) else (none)))))
def threshinglaw04_LratRows.j1 : Nat → ByteArray → Int → Bool → Option (Bool)
  | 0, _, _, _ => none
  | k + 1, x0, x2, x128 => if x128 = true then (some false) else (if (IntKind.u64.wrap (wrap64 ((x0.size : Int) + 1))) = 0 then (none) else (threshinglaw04_LratRows.l0 k x0 (wrap64 (Int.tmod (IntKind.u64.wrap (x2)) (IntKind.u64.wrap (wrap64 ((x0.size : Int) + 1))))) 0 0))
def threshinglaw04_LratRows.l0 : Nat → ByteArray → Int → Int → Int → Option (Bool)
  | 0, _, _, _, _ => none
  | k + 1, x0, x19, x20, x21 => if x21 < x19 then (if 0 ≤ x21 then (if x21 < (x0.size : Int) then (if (bt x0 x21) = 10 then (threshinglaw04_LratRows.l0 k x0 x19 (wrap64 (x20 + 1)) (wrap64 (x21 + 1))) else (threshinglaw04_LratRows.l0 k x0 x19 x20 (wrap64 (x21 + 1)))) else (none)) else (none)) else (if 0 ≤ x19 then (if x19 ≤ (x0.size : Int) then ((lrat_Parse.f k (x0.extract 0 (x19 : Int).toNat)).bind fun bt317 => (if x19 = 0 then (threshinglaw04_LratRows.j3 k x20 bt317.2.1 bt317.2.2 true) else (if 0 ≤ (wrap64 (x19 - 1)) then (if (wrap64 (x19 - 1)) < (x0.size : Int) then (threshinglaw04_LratRows.j3 k x20 bt317.2.1 bt317.2.2 ((bt x0 (wrap64 (x19 - 1))) == 10)) else (none)) else (none)))) else (none)) else (none))
def threshinglaw04_LratRows.j3 : Nat → Int → Int → Int → Bool → Option (Bool)
  | 0, _, _, _, _ => none
  | k + 1, x20, x23, x24, x164 => if x164 = true then (if x23 = 0 then (if x24 = 0 then ((threshinglaw04_works.f k).bind fun t322 => (some t322)) else (some false)) else (some false)) else (if x23 = 40 then (if x24 = (wrap64 (x20 + 1)) then ((threshinglaw04_works.f k).bind fun t323 => (some t323)) else (some false)) else (some false))
end
def threshinglaw04_LratRows.f (k : Nat) (a0 : ByteArray) (a1 : ByteArray) (a2 : Int) : Option (Bool) := if (a0.size : Int) > 6000 then (threshinglaw04_LratRows.j0 k a0 a1 a2 true) else (threshinglaw04_LratRows.j0 k a0 a1 a2 (decide ((a1.size : Int) > 6000)))
theorem threshinglaw04_LratRows.mono_l : ∀ k, (∀ y0 y1 y2 y3, LeO (threshinglaw04_LratRows.j0 k y0 y1 y2 y3) (threshinglaw04_LratRows.j0 (k + 1) y0 y1 y2 y3)) ∧ (∀ y0 y1 y2, LeO (threshinglaw04_LratRows.j1 k y0 y1 y2) (threshinglaw04_LratRows.j1 (k + 1) y0 y1 y2)) ∧ (∀ y0 y1 y2 y3, LeO (threshinglaw04_LratRows.l0 k y0 y1 y2 y3) (threshinglaw04_LratRows.l0 (k + 1) y0 y1 y2 y3)) ∧ (∀ y0 y1 y2 y3, LeO (threshinglaw04_LratRows.j3 k y0 y1 y2 y3) (threshinglaw04_LratRows.j3 (k + 1) y0 y1 y2 y3))
  | 0 => ⟨fun _ _ _ _ r h => by simp [threshinglaw04_LratRows.j0] at h, fun _ _ _ r h => by simp [threshinglaw04_LratRows.j1] at h, fun _ _ _ _ r h => by simp [threshinglaw04_LratRows.l0] at h, fun _ _ _ _ r h => by simp [threshinglaw04_LratRows.j3] at h⟩
  | k + 1 => by
    obtain ⟨ih0, ih1, ih2, ih3⟩ := threshinglaw04_LratRows.mono_l k
    refine ⟨?_, ?_, ?_, ?_⟩
    · intro y0 y1 y2 y3
      unfold threshinglaw04_LratRows.j0
      repeat' first
      | (with_reducible exact ih0 _ _ _ _)
      | (with_reducible exact ih1 _ _ _)
      | (with_reducible exact ih2 _ _ _ _)
      | (with_reducible exact ih3 _ _ _ _)
      | (with_reducible exact lrat_Parse.mono _ _)
      | (with_reducible exact threshinglaw04_works.mono _)
      | (with_reducible exact threshingref04_Same.mono _ _ _)
      | (with_reducible exact LeO.refl _)
      | (with_reducible exact LeO.none _)
      | (with_reducible refine LeO.ite ?_ ?_)
      | (with_reducible refine LeO.bind ?_ (fun _ => ?_))
      | exact ih0 _ _ _ _
      | exact ih1 _ _ _
      | exact ih2 _ _ _ _
      | exact ih3 _ _ _ _
      | exact lrat_Parse.mono _ _
      | exact threshinglaw04_works.mono _
      | exact threshingref04_Same.mono _ _ _
      | exact LeO.none _
      | refine LeO.ite ?_ ?_
      | refine LeO.bind ?_ (fun _ => ?_)
    · intro y0 y1 y2
      unfold threshinglaw04_LratRows.j1
      repeat' first
      | (with_reducible exact ih0 _ _ _ _)
      | (with_reducible exact ih1 _ _ _)
      | (with_reducible exact ih2 _ _ _ _)
      | (with_reducible exact ih3 _ _ _ _)
      | (with_reducible exact lrat_Parse.mono _ _)
      | (with_reducible exact threshinglaw04_works.mono _)
      | (with_reducible exact threshingref04_Same.mono _ _ _)
      | (with_reducible exact LeO.refl _)
      | (with_reducible exact LeO.none _)
      | (with_reducible refine LeO.ite ?_ ?_)
      | (with_reducible refine LeO.bind ?_ (fun _ => ?_))
      | exact ih0 _ _ _ _
      | exact ih1 _ _ _
      | exact ih2 _ _ _ _
      | exact ih3 _ _ _ _
      | exact lrat_Parse.mono _ _
      | exact threshinglaw04_works.mono _
      | exact threshingref04_Same.mono _ _ _
      | exact LeO.none _
      | refine LeO.ite ?_ ?_
      | refine LeO.bind ?_ (fun _ => ?_)
    · intro y0 y1 y2 y3
      unfold threshinglaw04_LratRows.l0
      repeat' first
      | (with_reducible exact ih0 _ _ _ _)
      | (with_reducible exact ih1 _ _ _)
      | (with_reducible exact ih2 _ _ _ _)
      | (with_reducible exact ih3 _ _ _ _)
      | (with_reducible exact lrat_Parse.mono _ _)
      | (with_reducible exact threshinglaw04_works.mono _)
      | (with_reducible exact threshingref04_Same.mono _ _ _)
      | (with_reducible exact LeO.refl _)
      | (with_reducible exact LeO.none _)
      | (with_reducible refine LeO.ite ?_ ?_)
      | (with_reducible refine LeO.bind ?_ (fun _ => ?_))
      | exact ih0 _ _ _ _
      | exact ih1 _ _ _
      | exact ih2 _ _ _ _
      | exact ih3 _ _ _ _
      | exact lrat_Parse.mono _ _
      | exact threshinglaw04_works.mono _
      | exact threshingref04_Same.mono _ _ _
      | exact LeO.none _
      | refine LeO.ite ?_ ?_
      | refine LeO.bind ?_ (fun _ => ?_)
    · intro y0 y1 y2 y3
      unfold threshinglaw04_LratRows.j3
      repeat' first
      | (with_reducible exact ih0 _ _ _ _)
      | (with_reducible exact ih1 _ _ _)
      | (with_reducible exact ih2 _ _ _ _)
      | (with_reducible exact ih3 _ _ _ _)
      | (with_reducible exact lrat_Parse.mono _ _)
      | (with_reducible exact threshinglaw04_works.mono _)
      | (with_reducible exact threshingref04_Same.mono _ _ _)
      | (with_reducible exact LeO.refl _)
      | (with_reducible exact LeO.none _)
      | (with_reducible refine LeO.ite ?_ ?_)
      | (with_reducible refine LeO.bind ?_ (fun _ => ?_))
      | exact ih0 _ _ _ _
      | exact ih1 _ _ _
      | exact ih2 _ _ _ _
      | exact ih3 _ _ _ _
      | exact lrat_Parse.mono _ _
      | exact threshinglaw04_works.mono _
      | exact threshingref04_Same.mono _ _ _
      | exact LeO.none _
      | refine LeO.ite ?_ ?_
      | refine LeO.bind ?_ (fun _ => ?_)
theorem threshinglaw04_LratRows.mono : ∀ a0 a1 a2 k, LeO (threshinglaw04_LratRows.f k a0 a1 a2) (threshinglaw04_LratRows.f (k + 1) a0 a1 a2) := by
  intro a0 a1 a2 k
  obtain ⟨ih0, ih1, ih2, ih3⟩ := threshinglaw04_LratRows.mono_l k
  unfold threshinglaw04_LratRows.f
  repeat' first
      | (with_reducible exact ih0 _ _ _ _)
      | (with_reducible exact ih1 _ _ _)
      | (with_reducible exact ih2 _ _ _ _)
      | (with_reducible exact ih3 _ _ _ _)
      | (with_reducible exact lrat_Parse.mono _ _)
      | (with_reducible exact threshinglaw04_works.mono _)
      | (with_reducible exact threshingref04_Same.mono _ _ _)
      | (with_reducible exact LeO.refl _)
      | (with_reducible exact LeO.none _)
      | (with_reducible refine LeO.ite ?_ ?_)
      | (with_reducible refine LeO.bind ?_ (fun _ => ?_))
      | exact ih0 _ _ _ _
      | exact ih1 _ _ _
      | exact ih2 _ _ _ _
      | exact ih3 _ _ _ _
      | exact lrat_Parse.mono _ _
      | exact threshinglaw04_works.mono _
      | exact threshingref04_Same.mono _ _ _
      | exact LeO.none _
      | refine LeO.ite ?_ ?_
      | refine LeO.bind ?_ (fun _ => ?_)
set_option maxHeartbeats 8000000 in
set_option maxRecDepth 100000 in
theorem threshinglaw04_LratRows.calls (k : Nat) (a0 : ByteArray) (a1 : ByteArray) (a2 : Int) (r : Bool) (w : World) (h : threshinglaw04_LratRows.f k a0 a1 a2 = some r) (hlt : LT w.heap.size w) :
    Calls Tryd.prog 6 #[.string a0, .string a1, .int .i64 a2] w fun e w' => e = .returned (.bool r) ∧ Below w.heap.size w w' := by
  have HLT := Aside0.mk hlt
  clear hlt
  have HB := Aside0.mk (Below.refl w.heap.size w)
  have H : (if (a0.size : Int) > 6000 then (threshinglaw04_LratRows.j0 k a0 a1 a2 true) else (threshinglaw04_LratRows.j0 k a0 a1 a2 (decide ((a1.size : Int) > 6000)))) = some r := h
  clear h
  have HC4 := Aside0.mk H
  clear H
  go_enter Tryd.func6, Tryd.ntmps6
  go_upto_region 1 with (fail)
  go_cut [32] (fun v32 wc => ∃ (kq : Nat) (x32_3 : Bool), v32 = .bool x32_3 ∧ Aside0 (threshinglaw04_LratRows.j0 kq a0 a1 a2 x32_3 = some r) ∧ Aside0 (kq ≤ k) ∧ Aside0 (Below w.heap.size w wc))
  case first =>
    have H := HC4.out
    clear HC4
    by_cases c5 : (a0.size : Int) > 6000
    · rw [if_pos c5] at H
      have c5b0 : decide (6000 < (a0.size : Int)) = true := decide_eq_true c5
      have c5b1 : decide (6000 < a0.size) = true := decide_eq_true (by omega)
      clear c5
      (first | rw [c5b0] | (simp only [i64_w, i32_w]; rw [c5b0]) | skip)
      have H' := Aside0.mk H
      clear H
      go_wp2
      go_meet
      case rel => exact ⟨_, (true), (by first | rfl | (simp; done) | (simp [*]; done)), H', ⟨by first | omega | exact Nat.le_refl _⟩, ⟨by repeat (first | (with_reducible first | exact HB.out | apply below_alloc | apply pw_below_drewN | apply below_drew1) | exact HB.out)⟩⟩
    · rw [if_neg c5] at H
      have c5b0 : decide (6000 < (a0.size : Int)) = false := decide_eq_false c5
      have c5b1 : decide (6000 < a0.size) = false := decide_eq_false (by omega)
      clear c5
      (first | rw [c5b0] | (simp only [i64_w, i32_w]; rw [c5b0]) | skip)
      have H' := Aside0.mk H
      clear H
      go_wp2
      go_meet
      case rel => exact ⟨_, (decide ((a1.size : Int) > 6000)), (by first | rfl | (simp; done) | (simp [*]; done)), H', ⟨by first | omega | exact Nat.le_refl _⟩, ⟨by repeat (first | (with_reducible first | exact HB.out | apply below_alloc | apply pw_below_drewN | apply below_drew1) | exact HB.out)⟩⟩
  case rest =>
    clear HC4
    try clear p2
    try clear c5
    try clear c5b0
    try clear c5b1
    obtain ⟨kq, x32_3, rfl, HA, HJ3, HB⟩ := hcut
    cases kq with
    | zero => exact absurd HA.out (by simp [threshinglaw04_LratRows.j0])
    | succ kj3 =>
      have H := HA.out
      clear HA
      simp only [threshinglaw04_LratRows.j0] at H
      by_cases c6 : x32_3 = true
      · subst c6
        have H1 : ((threshinglaw04_works.f kj3).bind fun t283 => (some t283)) = some r := by rw [if_pos rfl] at H; exact H
        clear H
        have H := H1
        clear H1
        replace H := Option.bind_eq_some_iff.mp H
        obtain ⟨t283, A70, H⟩ := H
        replace H : (some t283) = some r := H
        have A7 := Aside0.mk A70
        clear A70
        obtain rfl := Option.some.inj H
        go_wp2_with (first | ((with_reducible refine gate_callee (f := 10) rfl ?_); refine goesL_ (some 33) rfl rfl Tryd.func10 (by kernel_rfl) rfl #[] rfl (by (try simp only [List.map_toArray, List.map_cons, List.map_nil]); first | done | rfl | (simp only [List.length_drop, List.length_take]; rfl)) ?_; (with_reducible refine (threshinglaw04_works.calls kj3  t283 _ A7.out ?sideT).mono ?_); (case sideT => exact LT.pay HLT.out (by repeat (first | (with_reducible first | exact HB.out | apply below_alloc | apply pw_below_drewN | apply below_drew1) | exact HB.out))); rintro e w8 ⟨rfl, hb⟩; refine ⟨_, rfl, ?_⟩; have n0_ := Aside0.mk (below_step (by repeat (first | (with_reducible first | exact HB.out | apply below_alloc | apply pw_below_drewN | apply below_drew1) | exact HB.out)) hb); clear HB; have HB := n0_; clear n0_; (try clear hb); (try clear hb2); (try clear hk); (try clear hi)))
        go_ret
        exact ⟨by first | rfl | (simp [errW_none, errW_some] <;> rfl) | (simp [*, errW_none, errW_some] <;> rfl), by repeat (first | (with_reducible first | exact HB.out | apply below_alloc | apply pw_below_drewN | apply below_drew1) | exact HB.out)⟩
      · replace c6 := Bool.eq_false_iff.mpr c6
        subst c6
        have H1 : ((lrat_Parse.f kj3 a0).bind fun bt284 => ((lrat_Parse.f kj3 a1).bind fun bt289 => (if bt284.2.1 = 0 then (if a0.size + a1.size ≤ 9223372036854775807 then ((lrat_Parse.f kj3 (a0 ++ a1)).bind fun bt302 => (if bt302.2.1 = bt289.2.1 then (if bt289.2.1 = 0 then (if bt302.2.2 = 0 then (if 0 ≤ (bt284.1.length : Int) then (if (bt284.1.length : Int) ≤ (bt302.1.length : Int) then ((threshingref04_Same.f kj3 (bt302.1.take ((bt284.1.length : Int) : Int).toNat) bt284.1).bind fun t311 => (if t311 = true then ((threshingref04_Same.f kj3 (bt302.1.drop ((bt284.1.length : Int) : Int).toNat) bt289.1).bind fun t316 => (if t316 = true then (threshinglaw04_LratRows.j1 kj3 a0 a2 false) else (threshinglaw04_LratRows.j1 kj3 a0 a2 true))) else (threshinglaw04_LratRows.j1 kj3 a0 a2 true))) else (none)) else (none)) else (threshinglaw04_LratRows.j1 kj3 a0 a2 true)) else (threshinglaw04_LratRows.j1 kj3 a0 a2 (bt302.2.2 != (wrap64 (bt289.2.2 + (bt284.1.length : Int)))))) else (threshinglaw04_LratRows.j1 kj3 a0 a2 true))) else (none)) else (if a0.size + a1.size ≤ 9223372036854775807 then ((lrat_Parse.f kj3 (a0 ++ a1)).bind fun bt294 => (if (a0.size : Int) > 0 then (if 0 ≤ (wrap64 ((a0.size : Int) - 1)) then (if (wrap64 ((a0.size : Int) - 1)) < (a0.size : Int) then (if (bt a0 (wrap64 ((a0.size : Int) - 1))) = 10 then (if bt294.2.1 = bt284.2.1 then (if bt294.2.2 = bt284.2.2 then ((threshinglaw04_works.f kj3).bind fun t299 => (some t299)) else (some false)) else (some false)) else ((threshinglaw04_works.f kj3).bind fun t300 => (some t300))) else (none)) else (none)) else (if bt294.2.1 = bt284.2.1 then (if bt294.2.2 = bt284.2.2 then ((threshinglaw04_works.f kj3).bind fun t301 => (some t301)) else (some false)) else (some false)))) else (none))))) = some r := by rw [if_neg (show ¬ (false = true) by decide)] at H; exact H
        clear H
        have H := H1
        clear H1
        replace H := Option.bind_eq_some_iff.mp H
        obtain ⟨⟨t284, t285, t286⟩, A90, H⟩ := H
        replace H : ((lrat_Parse.f kj3 a1).bind fun bt289 => (if t285 = 0 then (if a0.size + a1.size ≤ 9223372036854775807 then ((lrat_Parse.f kj3 (a0 ++ a1)).bind fun bt302 => (if bt302.2.1 = bt289.2.1 then (if bt289.2.1 = 0 then (if bt302.2.2 = 0 then (if 0 ≤ (t284.length : Int) then (if (t284.length : Int) ≤ (bt302.1.length : Int) then ((threshingref04_Same.f kj3 (bt302.1.take ((t284.length : Int) : Int).toNat) t284).bind fun t311 => (if t311 = true then ((threshingref04_Same.f kj3 (bt302.1.drop ((t284.length : Int) : Int).toNat) bt289.1).bind fun t316 => (if t316 = true then (threshinglaw04_LratRows.j1 kj3 a0 a2 false) else (threshinglaw04_LratRows.j1 kj3 a0 a2 true))) else (threshinglaw04_LratRows.j1 kj3 a0 a2 true))) else (none)) else (none)) else (threshinglaw04_LratRows.j1 kj3 a0 a2 true)) else (threshinglaw04_LratRows.j1 kj3 a0 a2 (bt302.2.2 != (wrap64 (bt289.2.2 + (t284.length : Int)))))) else (threshinglaw04_LratRows.j1 kj3 a0 a2 true))) else (none)) else (if a0.size + a1.size ≤ 9223372036854775807 then ((lrat_Parse.f kj3 (a0 ++ a1)).bind fun bt294 => (if (a0.size : Int) > 0 then (if 0 ≤ (wrap64 ((a0.size : Int) - 1)) then (if (wrap64 ((a0.size : Int) - 1)) < (a0.size : Int) then (if (bt a0 (wrap64 ((a0.size : Int) - 1))) = 10 then (if bt294.2.1 = t285 then (if bt294.2.2 = t286 then ((threshinglaw04_works.f kj3).bind fun t299 => (some t299)) else (some false)) else (some false)) else ((threshinglaw04_works.f kj3).bind fun t300 => (some t300))) else (none)) else (none)) else (if bt294.2.1 = t285 then (if bt294.2.2 = t286 then ((threshinglaw04_works.f kj3).bind fun t301 => (some t301)) else (some false)) else (some false)))) else (none)))) = some r := H
        have A9 := Aside0.mk A90
        clear A90
        replace H := Option.bind_eq_some_iff.mp H
        obtain ⟨⟨t289, t290, t291⟩, A100, H⟩ := H
        replace H : (if t285 = 0 then (if a0.size + a1.size ≤ 9223372036854775807 then ((lrat_Parse.f kj3 (a0 ++ a1)).bind fun bt302 => (if bt302.2.1 = t290 then (if t290 = 0 then (if bt302.2.2 = 0 then (if 0 ≤ (t284.length : Int) then (if (t284.length : Int) ≤ (bt302.1.length : Int) then ((threshingref04_Same.f kj3 (bt302.1.take ((t284.length : Int) : Int).toNat) t284).bind fun t311 => (if t311 = true then ((threshingref04_Same.f kj3 (bt302.1.drop ((t284.length : Int) : Int).toNat) t289).bind fun t316 => (if t316 = true then (threshinglaw04_LratRows.j1 kj3 a0 a2 false) else (threshinglaw04_LratRows.j1 kj3 a0 a2 true))) else (threshinglaw04_LratRows.j1 kj3 a0 a2 true))) else (none)) else (none)) else (threshinglaw04_LratRows.j1 kj3 a0 a2 true)) else (threshinglaw04_LratRows.j1 kj3 a0 a2 (bt302.2.2 != (wrap64 (t291 + (t284.length : Int)))))) else (threshinglaw04_LratRows.j1 kj3 a0 a2 true))) else (none)) else (if a0.size + a1.size ≤ 9223372036854775807 then ((lrat_Parse.f kj3 (a0 ++ a1)).bind fun bt294 => (if (a0.size : Int) > 0 then (if 0 ≤ (wrap64 ((a0.size : Int) - 1)) then (if (wrap64 ((a0.size : Int) - 1)) < (a0.size : Int) then (if (bt a0 (wrap64 ((a0.size : Int) - 1))) = 10 then (if bt294.2.1 = t285 then (if bt294.2.2 = t286 then ((threshinglaw04_works.f kj3).bind fun t299 => (some t299)) else (some false)) else (some false)) else ((threshinglaw04_works.f kj3).bind fun t300 => (some t300))) else (none)) else (none)) else (if bt294.2.1 = t285 then (if bt294.2.2 = t286 then ((threshinglaw04_works.f kj3).bind fun t301 => (some t301)) else (some false)) else (some false)))) else (none))) = some r := H
        have A10 := Aside0.mk A100
        clear A100
        by_cases c11 : t285 = 0
        · rw [if_pos c11] at H
          have c11b0 : (t285 == 0) = true := beq_iff_eq.mpr c11
          have c11b1 : (t285 != 0) = false := bne_eq_false_iff_eq.mpr c11
          clear c11
          by_cases c12 : a0.size + a1.size ≤ 9223372036854775807
          · rw [if_pos c12] at H
            have c12b0 := eq_true c12
            have c12b1 : decide (a0.size + a1.size ≤ 9223372036854775807) = true := decide_eq_true c12
            try have c12b2 : (9223372036854775807 < a0.size + a1.size) = False := eq_false (Nat.not_lt.2 c12)
            replace H := Option.bind_eq_some_iff.mp H
            obtain ⟨⟨t302, t303, t304⟩, A130, H⟩ := H
            replace H : (if t303 = t290 then (if t290 = 0 then (if t304 = 0 then (if 0 ≤ (t284.length : Int) then (if (t284.length : Int) ≤ (t302.length : Int) then ((threshingref04_Same.f kj3 (t302.take ((t284.length : Int) : Int).toNat) t284).bind fun t311 => (if t311 = true then ((threshingref04_Same.f kj3 (t302.drop ((t284.length : Int) : Int).toNat) t289).bind fun t316 => (if t316 = true then (threshinglaw04_LratRows.j1 kj3 a0 a2 false) else (threshinglaw04_LratRows.j1 kj3 a0 a2 true))) else (threshinglaw04_LratRows.j1 kj3 a0 a2 true))) else (none)) else (none)) else (threshinglaw04_LratRows.j1 kj3 a0 a2 true)) else (threshinglaw04_LratRows.j1 kj3 a0 a2 (t304 != (wrap64 (t291 + (t284.length : Int)))))) else (threshinglaw04_LratRows.j1 kj3 a0 a2 true)) = some r := H
            have A13 := Aside0.mk A130
            clear A130
            have HC14 := Aside0.mk H
            clear H
            go_upto_region 9 with (first | ((with_reducible refine gate_callee (f := 15) rfl ?_); refine goesL_ (some 36) rfl rfl Tryd.func15 (by kernel_rfl) rfl #[.string a0] rfl (by (try simp only [List.map_toArray, List.map_cons, List.map_nil]); first | done | rfl | (simp only [List.length_drop, List.length_take]; rfl)) ?_; (with_reducible refine (lrat_Parse.calls kj3 a0 t284 t285 t286 _ A9.out ?sideT).mono ?_); (case sideT => exact LT.pay HLT.out (by repeat (first | (with_reducible first | exact HB.out | apply below_alloc | apply pw_below_drewN | apply below_drew1) | exact HB.out))); rintro e w15 ⟨v287, rfl, ho0, hb⟩; refine ⟨_, rfl, ?_⟩; have n0_ := Aside0.mk (Kd.S_lower ho0 (below_size (by repeat (first | (with_reducible first | exact HB.out | apply below_alloc | apply pw_below_drewN | apply below_drew1) | exact HB.out)))); have n1_ := Aside0.mk (below_step (by repeat (first | (with_reducible first | exact HB.out | apply below_alloc | apply pw_below_drewN | apply below_drew1) | exact HB.out)) hb); clear HB; have HO288 := n0_; have HB := n1_; clear n0_ n1_; (try clear hb); (try clear hb2); (try clear hk); (try clear hi); (try clear ho0)) | ((with_reducible refine gate_callee (f := 15) rfl ?_); refine goesL_ (some 42) rfl rfl Tryd.func15 (by kernel_rfl) rfl #[.string a1] rfl (by (try simp only [List.map_toArray, List.map_cons, List.map_nil]); first | done | rfl | (simp only [List.length_drop, List.length_take]; rfl)) ?_; (with_reducible refine (lrat_Parse.calls kj3 a1 t289 t290 t291 _ A10.out ?sideT).mono ?_); (case sideT => exact LT.pay HLT.out (by repeat (first | (with_reducible first | exact HB.out | apply below_alloc | apply pw_below_drewN | apply below_drew1) | exact HB.out))); rintro e w16 ⟨v292, rfl, ho0, hb⟩; refine ⟨_, rfl, ?_⟩; have n0_ := Aside0.mk (Kd.S_elder' (by (with_reducible repeat (first | apply Kd.S_alloc | apply Kd.S_drewN | apply Kd.S_drew)); exact HO288.out) (Kd.S_base ho0) hb); have n1_ := Aside0.mk (Kd.S_lower (Kd.S_new' ho0 (Kd.S_lt (by (with_reducible repeat (first | apply Kd.S_alloc | apply Kd.S_drewN | apply Kd.S_drew)); exact HO288.out))) (below_size (by repeat (first | (with_reducible first | exact HB.out | apply below_alloc | apply pw_below_drewN | apply below_drew1) | exact HB.out)))); have n2_ := Aside0.mk (below_step (by repeat (first | (with_reducible first | exact HB.out | apply below_alloc | apply pw_below_drewN | apply below_drew1) | exact HB.out)) hb); clear HO288; clear HB; have HO288 := n0_; have HO293 := n1_; have HB := n2_; clear n0_ n1_ n2_; (try clear hb); (try clear hb2); (try clear hk); (try clear hi); (try clear ho0)) | ((with_reducible refine gate_callee (f := 15) rfl ?_); refine goesL_ (some 84) rfl rfl Tryd.func15 (by kernel_rfl) rfl #[.string (a0 ++ a1)] rfl (by (try simp only [List.map_toArray, List.map_cons, List.map_nil]); first | done | rfl | (simp only [List.length_drop, List.length_take]; rfl)) ?_; (with_reducible refine (lrat_Parse.calls kj3 (a0 ++ a1) t302 t303 t304 _ A13.out ?sideT).mono ?_); (case sideT => exact LT.pay HLT.out (by repeat (first | (with_reducible first | exact HB.out | apply below_alloc | apply pw_below_drewN | apply below_drew1) | exact HB.out))); rintro e w17 ⟨v305, rfl, ho0, hb⟩; refine ⟨_, rfl, ?_⟩; have n0_ := Aside0.mk (Kd.S_elder' (by (with_reducible repeat (first | apply Kd.S_alloc | apply Kd.S_drewN | apply Kd.S_drew)); exact HO288.out) (Kd.S_base ho0) hb); have n1_ := Aside0.mk (Kd.S_elder' (by (with_reducible repeat (first | apply Kd.S_alloc | apply Kd.S_drewN | apply Kd.S_drew)); exact HO293.out) (Kd.S_base ho0) hb); have n2_ := Aside0.mk (Kd.S_lower (Kd.S_new' (Kd.S_new' ho0 (Kd.S_lt (by (with_reducible repeat (first | apply Kd.S_alloc | apply Kd.S_drewN | apply Kd.S_drew)); exact HO288.out))) (Kd.S_lt (by (with_reducible repeat (first | apply Kd.S_alloc | apply Kd.S_drewN | apply Kd.S_drew)); exact HO293.out))) (below_size (by repeat (first | (with_reducible first | exact HB.out | apply below_alloc | apply pw_below_drewN | apply below_drew1) | exact HB.out)))); have n3_ := Aside0.mk (below_step (by repeat (first | (with_reducible first | exact HB.out | apply below_alloc | apply pw_below_drewN | apply below_drew1) | exact HB.out)) hb); clear HO288; clear HO293; clear HB; have HO288 := n0_; have HO293 := n1_; have HO306 := n2_; have HB := n3_; clear n0_ n1_ n2_ n3_; (try clear hb); (try clear hb2); (try clear hk); (try clear hi); (try clear ho0)))
            (try simp only [Act.put, List.setIfInBounds_toArray, List.set_cons_zero, List.set_cons_succ])
            go_cut [128] (fun v128 wc => ∃ (kq : Nat) (x128_13 : Bool), v128 = .bool x128_13 ∧ Aside0 (threshinglaw04_LratRows.j1 kq a0 a2 x128_13 = some r) ∧ Aside0 (kq ≤ kj3) ∧ Aside0 (Below w.heap.size w wc))
            case first =>
              have H := HC14.out
              clear HC14
              by_cases c18 : t303 = t290
              · rw [if_pos c18] at H
                have c18b0 : (t303 == t290) = true := beq_iff_eq.mpr c18
                have c18b1 : (t303 != t290) = false := bne_eq_false_iff_eq.mpr c18
                clear c18
                (first | rw [c18b0] | (simp only [i64_w, i32_w]; rw [c18b0]) | skip)
                by_cases c19 : t290 = 0
                · rw [if_pos c19] at H
                  have c19b0 : (t290 == 0) = true := beq_iff_eq.mpr c19
                  have c19b1 : (t290 != 0) = false := bne_eq_false_iff_eq.mpr c19
                  clear c19
                  by_cases c20 : t304 = 0
                  · rw [if_pos c20] at H
                    have c20b0 : (t304 == 0) = true := beq_iff_eq.mpr c20
                    have c20b1 : (t304 != 0) = false := bne_eq_false_iff_eq.mpr c20
                    clear c20
                    by_cases c21 : 0 ≤ (t284.length : Int)
                    · rw [if_pos c21] at H
                      have c21b0 := eq_true c21
                      have c21b1 : decide (0 ≤ (t284.length : Int)) = true := decide_eq_true c21
                      clear c21
                      by_cases c22 : (t284.length : Int) ≤ (t302.length : Int)
                      · rw [if_pos c22] at H
                        have c22b0 := eq_true c22
                        have c22b1 : decide ((t284.length : Int) ≤ (t302.length : Int)) = true := decide_eq_true c22
                        clear c22
                        obtain ⟨y307, hy307⟩ : ∃ y_ : List (S43), y_ = (t302.take ((t284.length : Int) : Int).toNat) := ⟨_, rfl⟩
                        replace H : ((threshingref04_Same.f kj3 y307 t284).bind fun t311 => (if t311 = true then ((threshingref04_Same.f kj3 (t302.drop ((t284.length : Int) : Int).toNat) t289).bind fun t316 => (if t316 = true then (threshinglaw04_LratRows.j1 kj3 a0 a2 false) else (threshinglaw04_LratRows.j1 kj3 a0 a2 true))) else (threshinglaw04_LratRows.j1 kj3 a0 a2 true))) = some r := by first | (rw [hy307]; with_reducible exact H) | (have H2_ := (Option.bind_some _ _).symm.trans H; rw [hy307]; with_reducible exact H2_) | (have H2_ := (Option.bind_some _ _).symm.trans H; with_reducible exact H2_) | with_reducible exact H | (rw [hy307]; exact H) | exact H
                        have Ny307 := Aside0.mk hy307
                        clear hy307
                        replace H := Option.bind_eq_some_iff.mp H
                        obtain ⟨t311, A230, H⟩ := H
                        replace H : (if t311 = true then ((threshingref04_Same.f kj3 (t302.drop ((t284.length : Int) : Int).toNat) t289).bind fun t316 => (if t316 = true then (threshinglaw04_LratRows.j1 kj3 a0 a2 false) else (threshinglaw04_LratRows.j1 kj3 a0 a2 true))) else (threshinglaw04_LratRows.j1 kj3 a0 a2 true)) = some r := H
                        have A23 := Aside0.mk A230
                        clear A230
                        by_cases c24 : t311 = true
                        · subst c24
                          have H1 : ((threshingref04_Same.f kj3 (t302.drop ((t284.length : Int) : Int).toNat) t289).bind fun t316 => (if t316 = true then (threshinglaw04_LratRows.j1 kj3 a0 a2 false) else (threshinglaw04_LratRows.j1 kj3 a0 a2 true))) = some r := by rw [if_pos rfl] at H; exact H
                          clear H
                          have H := H1
                          clear H1
                          have c25b0 := eq_true (of_decide_eq_true (by first | (with_reducible assumption) | assumption) : 0 ≤ (t284.length : Int))
                          have c26b0 := eq_true (of_decide_eq_true (by first | (with_reducible assumption) | assumption) : (t284.length : Int) ≤ (t302.length : Int))
                          obtain ⟨y312, hy312⟩ : ∃ y_ : List (S43), y_ = (t302.drop ((t284.length : Int) : Int).toNat) := ⟨_, rfl⟩
                          replace H : ((threshingref04_Same.f kj3 y312 t289).bind fun t316 => (if t316 = true then (threshinglaw04_LratRows.j1 kj3 a0 a2 false) else (threshinglaw04_LratRows.j1 kj3 a0 a2 true))) = some r := by first | (rw [hy312]; with_reducible exact H) | (have H2_ := (Option.bind_some _ _).symm.trans H; rw [hy312]; with_reducible exact H2_) | (have H2_ := (Option.bind_some _ _).symm.trans H; with_reducible exact H2_) | with_reducible exact H | (rw [hy312]; exact H) | exact H
                          have Ny312 := Aside0.mk hy312
                          clear hy312
                          replace H := Option.bind_eq_some_iff.mp H
                          obtain ⟨t316, A270, H⟩ := H
                          replace H : (if t316 = true then (threshinglaw04_LratRows.j1 kj3 a0 a2 false) else (threshinglaw04_LratRows.j1 kj3 a0 a2 true)) = some r := H
                          have A27 := Aside0.mk A270
                          clear A270
                          by_cases c28 : t316 = true
                          · subst c28
                            have H1 : (threshinglaw04_LratRows.j1 kj3 a0 a2 false) = some r := by rw [if_pos rfl] at H; exact H
                            clear H
                            have H := H1
                            clear H1
                            have H' := Aside0.mk H
                            clear H
                            obtain ⟨Ao29, co29, eo29⟩ := Kd.S_slice HO288.out
                            subst eo29
                            obtain ⟨Ao31, co31, eo31⟩ := Kd.S_slice HO306.out
                            subst eo31
                            have q30 : ((t284.length : Int) : Int) ≤ ((t302.length : Int) : Int) := of_decide_eq_true (by first | (with_reducible assumption) | assumption)
                            obtain ⟨i030, hi030, _, hsz30, _⟩ := info_parts info43
                            have hroom30 : t302.length ≤ co31 := (Kd.S_reads' HO306.out).2.1
                            have hC30 : Kd.C k43 _ Ao31 t302.length t302 := (Kd.S_reads' HO306.out).2.2
                            have hcut30 := cut_to (P := Tryd.prog) 22 43 .i64 Tryd.underlying22 hi030 Ao31 t302.length co31 (t284.length : Int) (of_decide_eq_true (by first | (with_reducible assumption) | assumption)) q30 hroom30
                            have hr30 := Kd.C_take (m := ((t284.length : Int) : Int).toNat) hC30 (by omega)
                            have hy30 : y307.length = ((t284.length : Int) : Int).toNat := (by rw [Ny307.out, List.length_take]; omega)
                            rw [← Ny307.out] at hr30
                            rw [← hy30] at hcut30
                            have HR310 := Aside0.mk hr30
                            have HC310 := Aside0.mk (show y307.length ≤ co31 from by omega)
                            clear hr30 hC30 hroom30 hi030 hsz30
                            have KY30 := Aside0.mk hy30
                            clear hy30
                            have KL30 := Aside0.mk (show ((t284.length : Int) : Int).toNat ≤ t302.length from by omega)
                            replace q30 := eq_true q30
                            go_wp2_with (first | (go_at_call 14; (with_reducible refine (threshingref04_Same.calls kj3 _ _ y307 _ _ t284 true _ ?side1 ?side2 ?side3 ?side4 A23.out).mono ?_); (case side1 => repeat (first | exact (by repeat (first | (with_reducible exact HR310.out) | (with_reducible refine Kd.C_alloc ?_ _) | (with_reducible refine Kd.C_drewN ?_ _) | (with_reducible refine Kd.C_drew ?_) | exact HR310.out)) | (with_reducible refine Kd.C_alloc ?_ _) | (with_reducible refine Kd.C_drewN ?_ _) | (with_reducible refine Kd.C_drew ?_))); (case side2 => exact HC310.out); (case side3 => repeat (first | exact (Kd.S_reads' HO288.out).2.2 | (with_reducible refine Kd.C_alloc ?_ _) | (with_reducible refine Kd.C_drewN ?_ _) | (with_reducible refine Kd.C_drew ?_))); (case side4 => exact (Kd.S_reads' HO288.out).2.1); rintro e w32 ⟨rfl, hb⟩; have n0_ := Aside0.mk (Kd.S_below (by (with_reducible repeat (first | apply Kd.S_alloc | apply Kd.S_drewN | apply Kd.S_drew)); exact HO288.out) hb); have n1_ := Aside0.mk (Kd.S_below (by (with_reducible repeat (first | apply Kd.S_alloc | apply Kd.S_drewN | apply Kd.S_drew)); exact HO293.out) hb); have n2_ := Aside0.mk (Kd.S_below (by (with_reducible repeat (first | apply Kd.S_alloc | apply Kd.S_drewN | apply Kd.S_drew)); exact HO306.out) hb); have n3_ := Aside0.mk (Kd.C_below (by repeat (first | (with_reducible exact HR310.out) | (with_reducible refine Kd.C_alloc ?_ _) | (with_reducible refine Kd.C_drewN ?_ _) | (with_reducible refine Kd.C_drew ?_) | exact HR310.out)) hb); have n4_ := Aside0.mk (below_step (by repeat (first | (with_reducible first | exact HB.out | apply below_alloc | apply pw_below_drewN | apply below_drew1) | exact HB.out)) hb); clear HO288; clear HO293; clear HO306; clear HR310; clear HB; have HO288 := n0_; have HO293 := n1_; have HO306 := n2_; have HR310 := n3_; have HB := n4_; clear n0_ n1_ n2_ n3_ n4_; (try clear hb); (try clear hb2); (try clear hk); (try clear hi); have q33 : ((t284.length : Int) : Int) ≤ ((t302.length : Int) : Int) := of_decide_eq_true (by first | (with_reducible assumption) | assumption); obtain ⟨i033, hi033, _, hsz33, _⟩ := info_parts info43; have hroom33 : t302.length ≤ co31 := (Kd.S_reads' HO306.out).2.1; have hC33 : Kd.C k43 _ Ao31 t302.length t302 := (Kd.S_reads' HO306.out).2.2; have q033 : (0 : Int) ≤ ((t284.length : Int) : Int) := of_decide_eq_true (by first | (with_reducible assumption) | assumption); have hcut33 := cut_from (P := Tryd.prog) 22 43 .i64 Tryd.underlying22 hi033 4 hsz33 Ao31 t302.length co31 (t284.length : Int) q033 q33; have hr33 := Kd.C_drop (m := ((t284.length : Int) : Int).toNat) (c := co31) hC33 (by omega) hroom33; obtain ⟨A33, hA33⟩ : ∃ A1, A1 = (if co31 = ((t284.length : Int) : Int).toNat then Ao31 else (Ao31 : Option Addr).map (·.add (((t284.length : Int) : Int).toNat * 4))) := ⟨_, rfl⟩; obtain ⟨c33, hc33⟩ : ∃ c1, c1 = co31 - ((t284.length : Int) : Int).toNat := ⟨_, rfl⟩; have hy33 : y312.length = t302.length - ((t284.length : Int) : Int).toNat := (by rw [Ny312.out, List.length_drop] <;> omega); rw [show (t302).drop ((t284.length : Int) : Int).toNat = y312 from Ny312.out.symm] at hr33; replace hr33 : Kd.C k43 _ A33 y312.length y312 := (by rw [hA33]; exact hr33); rw [← hy33, ← hA33, ← hc33] at hcut33; have HR315 := Aside0.mk hr33; have HC315 := Aside0.mk (show y312.length ≤ c33 from by rw [hy33, hc33]; exact Nat.sub_le_sub_right hroom33 _); clear hr33 hC33 hroom33 hi033 hsz33 hc33; have KY33 := Aside0.mk hy33; have KA33 := Aside0.mk hA33; clear hy33 hA33; have KL33 := Aside0.mk (show ((t284.length : Int) : Int).toNat ≤ t302.length from by omega); replace q33 := eq_true q33; obtain ⟨Ao34, co34, eo34⟩ := Kd.S_slice HO293.out; subst eo34) | (go_at_call 14; (with_reducible refine (threshingref04_Same.calls kj3 _ _ y312 _ _ t289 true _ ?side1 ?side2 ?side3 ?side4 A27.out).mono ?_); (case side1 => repeat (first | exact (by repeat (first | (with_reducible exact HR315.out) | (with_reducible refine Kd.C_alloc ?_ _) | (with_reducible refine Kd.C_drewN ?_ _) | (with_reducible refine Kd.C_drew ?_) | exact HR315.out)) | (with_reducible refine Kd.C_alloc ?_ _) | (with_reducible refine Kd.C_drewN ?_ _) | (with_reducible refine Kd.C_drew ?_))); (case side2 => exact HC315.out); (case side3 => repeat (first | exact (Kd.S_reads' HO293.out).2.2 | (with_reducible refine Kd.C_alloc ?_ _) | (with_reducible refine Kd.C_drewN ?_ _) | (with_reducible refine Kd.C_drew ?_))); (case side4 => exact (Kd.S_reads' HO293.out).2.1); rintro e w35 ⟨rfl, hb⟩; have n0_ := Aside0.mk (Kd.S_below (by (with_reducible repeat (first | apply Kd.S_alloc | apply Kd.S_drewN | apply Kd.S_drew)); exact HO288.out) hb); have n1_ := Aside0.mk (Kd.S_below (by (with_reducible repeat (first | apply Kd.S_alloc | apply Kd.S_drewN | apply Kd.S_drew)); exact HO293.out) hb); have n2_ := Aside0.mk (Kd.S_below (by (with_reducible repeat (first | apply Kd.S_alloc | apply Kd.S_drewN | apply Kd.S_drew)); exact HO306.out) hb); have n3_ := Aside0.mk (Kd.C_below (by repeat (first | (with_reducible exact HR310.out) | (with_reducible refine Kd.C_alloc ?_ _) | (with_reducible refine Kd.C_drewN ?_ _) | (with_reducible refine Kd.C_drew ?_) | exact HR310.out)) hb); have n4_ := Aside0.mk (Kd.C_below (by repeat (first | (with_reducible exact HR315.out) | (with_reducible refine Kd.C_alloc ?_ _) | (with_reducible refine Kd.C_drewN ?_ _) | (with_reducible refine Kd.C_drew ?_) | exact HR315.out)) hb); have n5_ := Aside0.mk (below_step (by repeat (first | (with_reducible first | exact HB.out | apply below_alloc | apply pw_below_drewN | apply below_drew1) | exact HB.out)) hb); clear HO288; clear HO293; clear HO306; clear HR310; clear HR315; clear HB; have HO288 := n0_; have HO293 := n1_; have HO306 := n2_; have HR310 := n3_; have HR315 := n4_; have HB := n5_; clear n0_ n1_ n2_ n3_ n4_ n5_; (try clear hb); (try clear hb2); (try clear hk); (try clear hi)))
                            go_meet
                            case rel => exact ⟨_, (false), (by first | rfl | (simp; done) | (simp [*]; done)), H', ⟨by have := HJ3.out; first | omega | exact Nat.le_refl _⟩, ⟨by repeat (first | (with_reducible first | exact HB.out | apply below_alloc | apply pw_below_drewN | apply below_drew1) | exact HB.out)⟩⟩
                          · replace c28 := Bool.eq_false_iff.mpr c28
                            subst c28
                            have H1 : (threshinglaw04_LratRows.j1 kj3 a0 a2 true) = some r := by rw [if_neg (show ¬ (false = true) by decide)] at H; exact H
                            clear H
                            have H := H1
                            clear H1
                            have H' := Aside0.mk H
                            clear H
                            obtain ⟨Ao36, co36, eo36⟩ := Kd.S_slice HO288.out
                            subst eo36
                            obtain ⟨Ao38, co38, eo38⟩ := Kd.S_slice HO306.out
                            subst eo38
                            have q37 : ((t284.length : Int) : Int) ≤ ((t302.length : Int) : Int) := of_decide_eq_true (by first | (with_reducible assumption) | assumption)
                            obtain ⟨i037, hi037, _, hsz37, _⟩ := info_parts info43
                            have hroom37 : t302.length ≤ co38 := (Kd.S_reads' HO306.out).2.1
                            have hC37 : Kd.C k43 _ Ao38 t302.length t302 := (Kd.S_reads' HO306.out).2.2
                            have hcut37 := cut_to (P := Tryd.prog) 22 43 .i64 Tryd.underlying22 hi037 Ao38 t302.length co38 (t284.length : Int) (of_decide_eq_true (by first | (with_reducible assumption) | assumption)) q37 hroom37
                            have hr37 := Kd.C_take (m := ((t284.length : Int) : Int).toNat) hC37 (by omega)
                            have hy37 : y307.length = ((t284.length : Int) : Int).toNat := (by rw [Ny307.out, List.length_take]; omega)
                            rw [← Ny307.out] at hr37
                            rw [← hy37] at hcut37
                            have HR310 := Aside0.mk hr37
                            have HC310 := Aside0.mk (show y307.length ≤ co38 from by omega)
                            clear hr37 hC37 hroom37 hi037 hsz37
                            have KY37 := Aside0.mk hy37
                            clear hy37
                            have KL37 := Aside0.mk (show ((t284.length : Int) : Int).toNat ≤ t302.length from by omega)
                            replace q37 := eq_true q37
                            go_wp2_with (first | (go_at_call 14; (with_reducible refine (threshingref04_Same.calls kj3 _ _ y307 _ _ t284 true _ ?side1 ?side2 ?side3 ?side4 A23.out).mono ?_); (case side1 => repeat (first | exact (by repeat (first | (with_reducible exact HR310.out) | (with_reducible refine Kd.C_alloc ?_ _) | (with_reducible refine Kd.C_drewN ?_ _) | (with_reducible refine Kd.C_drew ?_) | exact HR310.out)) | (with_reducible refine Kd.C_alloc ?_ _) | (with_reducible refine Kd.C_drewN ?_ _) | (with_reducible refine Kd.C_drew ?_))); (case side2 => exact HC310.out); (case side3 => repeat (first | exact (Kd.S_reads' HO288.out).2.2 | (with_reducible refine Kd.C_alloc ?_ _) | (with_reducible refine Kd.C_drewN ?_ _) | (with_reducible refine Kd.C_drew ?_))); (case side4 => exact (Kd.S_reads' HO288.out).2.1); rintro e w39 ⟨rfl, hb⟩; have n0_ := Aside0.mk (Kd.S_below (by (with_reducible repeat (first | apply Kd.S_alloc | apply Kd.S_drewN | apply Kd.S_drew)); exact HO288.out) hb); have n1_ := Aside0.mk (Kd.S_below (by (with_reducible repeat (first | apply Kd.S_alloc | apply Kd.S_drewN | apply Kd.S_drew)); exact HO293.out) hb); have n2_ := Aside0.mk (Kd.S_below (by (with_reducible repeat (first | apply Kd.S_alloc | apply Kd.S_drewN | apply Kd.S_drew)); exact HO306.out) hb); have n3_ := Aside0.mk (Kd.C_below (by repeat (first | (with_reducible exact HR310.out) | (with_reducible refine Kd.C_alloc ?_ _) | (with_reducible refine Kd.C_drewN ?_ _) | (with_reducible refine Kd.C_drew ?_) | exact HR310.out)) hb); have n4_ := Aside0.mk (below_step (by repeat (first | (with_reducible first | exact HB.out | apply below_alloc | apply pw_below_drewN | apply below_drew1) | exact HB.out)) hb); clear HO288; clear HO293; clear HO306; clear HR310; clear HB; have HO288 := n0_; have HO293 := n1_; have HO306 := n2_; have HR310 := n3_; have HB := n4_; clear n0_ n1_ n2_ n3_ n4_; (try clear hb); (try clear hb2); (try clear hk); (try clear hi); have q40 : ((t284.length : Int) : Int) ≤ ((t302.length : Int) : Int) := of_decide_eq_true (by first | (with_reducible assumption) | assumption); obtain ⟨i040, hi040, _, hsz40, _⟩ := info_parts info43; have hroom40 : t302.length ≤ co38 := (Kd.S_reads' HO306.out).2.1; have hC40 : Kd.C k43 _ Ao38 t302.length t302 := (Kd.S_reads' HO306.out).2.2; have q040 : (0 : Int) ≤ ((t284.length : Int) : Int) := of_decide_eq_true (by first | (with_reducible assumption) | assumption); have hcut40 := cut_from (P := Tryd.prog) 22 43 .i64 Tryd.underlying22 hi040 4 hsz40 Ao38 t302.length co38 (t284.length : Int) q040 q40; have hr40 := Kd.C_drop (m := ((t284.length : Int) : Int).toNat) (c := co38) hC40 (by omega) hroom40; obtain ⟨A40, hA40⟩ : ∃ A1, A1 = (if co38 = ((t284.length : Int) : Int).toNat then Ao38 else (Ao38 : Option Addr).map (·.add (((t284.length : Int) : Int).toNat * 4))) := ⟨_, rfl⟩; obtain ⟨c40, hc40⟩ : ∃ c1, c1 = co38 - ((t284.length : Int) : Int).toNat := ⟨_, rfl⟩; have hy40 : y312.length = t302.length - ((t284.length : Int) : Int).toNat := (by rw [Ny312.out, List.length_drop] <;> omega); rw [show (t302).drop ((t284.length : Int) : Int).toNat = y312 from Ny312.out.symm] at hr40; replace hr40 : Kd.C k43 _ A40 y312.length y312 := (by rw [hA40]; exact hr40); rw [← hy40, ← hA40, ← hc40] at hcut40; have HR315 := Aside0.mk hr40; have HC315 := Aside0.mk (show y312.length ≤ c40 from by rw [hy40, hc40]; exact Nat.sub_le_sub_right hroom40 _); clear hr40 hC40 hroom40 hi040 hsz40 hc40; have KY40 := Aside0.mk hy40; have KA40 := Aside0.mk hA40; clear hy40 hA40; have KL40 := Aside0.mk (show ((t284.length : Int) : Int).toNat ≤ t302.length from by omega); replace q40 := eq_true q40; obtain ⟨Ao41, co41, eo41⟩ := Kd.S_slice HO293.out; subst eo41) | (go_at_call 14; (with_reducible refine (threshingref04_Same.calls kj3 _ _ y312 _ _ t289 false _ ?side1 ?side2 ?side3 ?side4 A27.out).mono ?_); (case side1 => repeat (first | exact (by repeat (first | (with_reducible exact HR315.out) | (with_reducible refine Kd.C_alloc ?_ _) | (with_reducible refine Kd.C_drewN ?_ _) | (with_reducible refine Kd.C_drew ?_) | exact HR315.out)) | (with_reducible refine Kd.C_alloc ?_ _) | (with_reducible refine Kd.C_drewN ?_ _) | (with_reducible refine Kd.C_drew ?_))); (case side2 => exact HC315.out); (case side3 => repeat (first | exact (Kd.S_reads' HO293.out).2.2 | (with_reducible refine Kd.C_alloc ?_ _) | (with_reducible refine Kd.C_drewN ?_ _) | (with_reducible refine Kd.C_drew ?_))); (case side4 => exact (Kd.S_reads' HO293.out).2.1); rintro e w42 ⟨rfl, hb⟩; have n0_ := Aside0.mk (Kd.S_below (by (with_reducible repeat (first | apply Kd.S_alloc | apply Kd.S_drewN | apply Kd.S_drew)); exact HO288.out) hb); have n1_ := Aside0.mk (Kd.S_below (by (with_reducible repeat (first | apply Kd.S_alloc | apply Kd.S_drewN | apply Kd.S_drew)); exact HO293.out) hb); have n2_ := Aside0.mk (Kd.S_below (by (with_reducible repeat (first | apply Kd.S_alloc | apply Kd.S_drewN | apply Kd.S_drew)); exact HO306.out) hb); have n3_ := Aside0.mk (Kd.C_below (by repeat (first | (with_reducible exact HR310.out) | (with_reducible refine Kd.C_alloc ?_ _) | (with_reducible refine Kd.C_drewN ?_ _) | (with_reducible refine Kd.C_drew ?_) | exact HR310.out)) hb); have n4_ := Aside0.mk (Kd.C_below (by repeat (first | (with_reducible exact HR315.out) | (with_reducible refine Kd.C_alloc ?_ _) | (with_reducible refine Kd.C_drewN ?_ _) | (with_reducible refine Kd.C_drew ?_) | exact HR315.out)) hb); have n5_ := Aside0.mk (below_step (by repeat (first | (with_reducible first | exact HB.out | apply below_alloc | apply pw_below_drewN | apply below_drew1) | exact HB.out)) hb); clear HO288; clear HO293; clear HO306; clear HR310; clear HR315; clear HB; have HO288 := n0_; have HO293 := n1_; have HO306 := n2_; have HR310 := n3_; have HR315 := n4_; have HB := n5_; clear n0_ n1_ n2_ n3_ n4_ n5_; (try clear hb); (try clear hb2); (try clear hk); (try clear hi)))
                            go_meet
                            case rel => exact ⟨_, (true), (by first | rfl | (simp; done) | (simp [*]; done)), H', ⟨by have := HJ3.out; first | omega | exact Nat.le_refl _⟩, ⟨by repeat (first | (with_reducible first | exact HB.out | apply below_alloc | apply pw_below_drewN | apply below_drew1) | exact HB.out)⟩⟩
                        · replace c24 := Bool.eq_false_iff.mpr c24
                          subst c24
                          have H1 : (threshinglaw04_LratRows.j1 kj3 a0 a2 true) = some r := by rw [if_neg (show ¬ (false = true) by decide)] at H; exact H
                          clear H
                          have H := H1
                          clear H1
                          have H' := Aside0.mk H
                          clear H
                          obtain ⟨Ao43, co43, eo43⟩ := Kd.S_slice HO288.out
                          subst eo43
                          obtain ⟨Ao45, co45, eo45⟩ := Kd.S_slice HO306.out
                          subst eo45
                          have q44 : ((t284.length : Int) : Int) ≤ ((t302.length : Int) : Int) := of_decide_eq_true (by first | (with_reducible assumption) | assumption)
                          obtain ⟨i044, hi044, _, hsz44, _⟩ := info_parts info43
                          have hroom44 : t302.length ≤ co45 := (Kd.S_reads' HO306.out).2.1
                          have hC44 : Kd.C k43 _ Ao45 t302.length t302 := (Kd.S_reads' HO306.out).2.2
                          have hcut44 := cut_to (P := Tryd.prog) 22 43 .i64 Tryd.underlying22 hi044 Ao45 t302.length co45 (t284.length : Int) (of_decide_eq_true (by first | (with_reducible assumption) | assumption)) q44 hroom44
                          have hr44 := Kd.C_take (m := ((t284.length : Int) : Int).toNat) hC44 (by omega)
                          have hy44 : y307.length = ((t284.length : Int) : Int).toNat := (by rw [Ny307.out, List.length_take]; omega)
                          rw [← Ny307.out] at hr44
                          rw [← hy44] at hcut44
                          have HR310 := Aside0.mk hr44
                          have HC310 := Aside0.mk (show y307.length ≤ co45 from by omega)
                          clear hr44 hC44 hroom44 hi044 hsz44
                          have KY44 := Aside0.mk hy44
                          clear hy44
                          have KL44 := Aside0.mk (show ((t284.length : Int) : Int).toNat ≤ t302.length from by omega)
                          replace q44 := eq_true q44
                          go_wp2_with (first | (go_at_call 14; (with_reducible refine (threshingref04_Same.calls kj3 _ _ y307 _ _ t284 false _ ?side1 ?side2 ?side3 ?side4 A23.out).mono ?_); (case side1 => repeat (first | exact (by repeat (first | (with_reducible exact HR310.out) | (with_reducible refine Kd.C_alloc ?_ _) | (with_reducible refine Kd.C_drewN ?_ _) | (with_reducible refine Kd.C_drew ?_) | exact HR310.out)) | (with_reducible refine Kd.C_alloc ?_ _) | (with_reducible refine Kd.C_drewN ?_ _) | (with_reducible refine Kd.C_drew ?_))); (case side2 => exact HC310.out); (case side3 => repeat (first | exact (Kd.S_reads' HO288.out).2.2 | (with_reducible refine Kd.C_alloc ?_ _) | (with_reducible refine Kd.C_drewN ?_ _) | (with_reducible refine Kd.C_drew ?_))); (case side4 => exact (Kd.S_reads' HO288.out).2.1); rintro e w46 ⟨rfl, hb⟩; have n0_ := Aside0.mk (Kd.S_below (by (with_reducible repeat (first | apply Kd.S_alloc | apply Kd.S_drewN | apply Kd.S_drew)); exact HO288.out) hb); have n1_ := Aside0.mk (Kd.S_below (by (with_reducible repeat (first | apply Kd.S_alloc | apply Kd.S_drewN | apply Kd.S_drew)); exact HO293.out) hb); have n2_ := Aside0.mk (Kd.S_below (by (with_reducible repeat (first | apply Kd.S_alloc | apply Kd.S_drewN | apply Kd.S_drew)); exact HO306.out) hb); have n3_ := Aside0.mk (Kd.C_below (by repeat (first | (with_reducible exact HR310.out) | (with_reducible refine Kd.C_alloc ?_ _) | (with_reducible refine Kd.C_drewN ?_ _) | (with_reducible refine Kd.C_drew ?_) | exact HR310.out)) hb); have n4_ := Aside0.mk (below_step (by repeat (first | (with_reducible first | exact HB.out | apply below_alloc | apply pw_below_drewN | apply below_drew1) | exact HB.out)) hb); clear HO288; clear HO293; clear HO306; clear HR310; clear HB; have HO288 := n0_; have HO293 := n1_; have HO306 := n2_; have HR310 := n3_; have HB := n4_; clear n0_ n1_ n2_ n3_ n4_; (try clear hb); (try clear hb2); (try clear hk); (try clear hi)))
                          go_meet
                          case rel => exact ⟨_, (true), (by first | rfl | (simp; done) | (simp [*]; done)), H', ⟨by have := HJ3.out; first | omega | exact Nat.le_refl _⟩, ⟨by repeat (first | (with_reducible first | exact HB.out | apply below_alloc | apply pw_below_drewN | apply below_drew1) | exact HB.out)⟩⟩
                      · rw [if_neg c22] at H
                        exact absurd H (by simp)
                    · rw [if_neg c21] at H
                      exact absurd H (by simp)
                  · rw [if_neg c20] at H
                    have c20b0 : (t304 == 0) = false := beq_eq_false_iff_ne.mpr c20
                    have c20b1 : (t304 != 0) = true := bne_iff_ne.mpr c20
                    have H' := Aside0.mk H
                    clear H
                    go_wp2
                    go_meet
                    case rel => exact ⟨_, (true), (by first | rfl | (simp; done) | (simp [*]; done)), H', ⟨by have := HJ3.out; first | omega | exact Nat.le_refl _⟩, ⟨by repeat (first | (with_reducible first | exact HB.out | apply below_alloc | apply pw_below_drewN | apply below_drew1) | exact HB.out)⟩⟩
                · rw [if_neg c19] at H
                  have c19b0 : (t290 == 0) = false := beq_eq_false_iff_ne.mpr c19
                  have c19b1 : (t290 != 0) = true := bne_iff_ne.mpr c19
                  have H' := Aside0.mk H
                  clear H
                  obtain ⟨Ao47, co47, eo47⟩ := Kd.S_slice HO288.out
                  subst eo47
                  go_wp2
                  go_meet
                  case rel => exact ⟨_, ((t304 != (wrap64 (t291 + (t284.length : Int))))), (by first | rfl | (simp; done) | (simp [*]; done)), H', ⟨by have := HJ3.out; first | omega | exact Nat.le_refl _⟩, ⟨by repeat (first | (with_reducible first | exact HB.out | apply below_alloc | apply pw_below_drewN | apply below_drew1) | exact HB.out)⟩⟩
              · rw [if_neg c18] at H
                have c18b0 : (t303 == t290) = false := beq_eq_false_iff_ne.mpr c18
                have c18b1 : (t303 != t290) = true := bne_iff_ne.mpr c18
                (first | rw [c18b0] | (simp only [i64_w, i32_w]; rw [c18b0]) | skip)
                have H' := Aside0.mk H
                clear H
                go_wp2
                go_meet
                case rel => exact ⟨_, (true), (by first | rfl | (simp; done) | (simp [*]; done)), H', ⟨by have := HJ3.out; first | omega | exact Nat.le_refl _⟩, ⟨by repeat (first | (with_reducible first | exact HB.out | apply below_alloc | apply pw_below_drewN | apply below_drew1) | exact HB.out)⟩⟩
            case rest =>
              clear HC14
              try clear c1
              try clear c2
              try clear p2
              try clear c3
              try clear q3
              try clear c4
              try clear q4
              try clear c5
              try clear c5b0
              try clear c5b1
              try clear c6
              try clear p6
              try clear c10
              try clear c11
              try clear c11b0
              try clear c11b1
              try clear c12
              try clear c12b0
              try clear c12b1
              try clear c12b2
              try clear c15
              try clear c18
              try clear c18b0
              try clear c18b1
              try clear c19
              try clear c19b0
              try clear c19b1
              try clear c20
              try clear c20b0
              try clear c20b1
              try clear c21
              try clear c21b0
              try clear c21b1
              try clear c22
              try clear c22b0
              try clear c22b1
              try clear c24
              try clear c25
              try clear c25b0
              try clear c26
              try clear c26b0
              try clear c28
              try clear q30
              try clear c33
              try clear q33
              try clear q37
              try clear c40
              try clear q40
              try clear q44
              try clear p2
              try clear q033
              try clear q040
              try clear q30
              try clear q33
              try clear q37
              try clear q40
              try clear q44
              obtain ⟨kq, x128_13, rfl, HA, HJ13, HB⟩ := hcut
              cases kq with
              | zero => exact absurd HA.out (by simp [threshinglaw04_LratRows.j1])
              | succ kj13 =>
                have H := HA.out
                clear HA
                simp only [threshinglaw04_LratRows.j1] at H
                by_cases c48 : x128_13 = true
                · subst c48
                  have H1 : (some false) = some r := by rw [if_pos rfl] at H; exact H
                  clear H
                  have H := H1
                  clear H1
                  obtain rfl := Option.some.inj H
                  go_wp2
                  go_ret
                  exact ⟨by first | rfl | (simp [errW_none, errW_some] <;> rfl) | (simp [*, errW_none, errW_some] <;> rfl), by repeat (first | (with_reducible first | exact HB.out | apply below_alloc | apply pw_below_drewN | apply below_drew1) | exact HB.out)⟩
                · replace c48 := Bool.eq_false_iff.mpr c48
                  subst c48
                  have H1 : (if (IntKind.u64.wrap (wrap64 ((a0.size : Int) + 1))) = 0 then (none) else (threshinglaw04_LratRows.l0 kj13 a0 (wrap64 (Int.tmod (IntKind.u64.wrap (a2)) (IntKind.u64.wrap (wrap64 ((a0.size : Int) + 1))))) 0 0)) = some r := by rw [if_neg (show ¬ (false = true) by decide)] at H; exact H
                  clear H
                  have H := H1
                  clear H1
                  by_cases c49 : (IntKind.u64.wrap (wrap64 ((a0.size : Int) + 1))) = 0
                  · rw [if_pos c49] at H
                    exact absurd H (by simp)
                  · rw [if_neg c49] at H
                    have c49b0 : ((IntKind.u64.wrap (wrap64 ((a0.size : Int) + 1))) == 0) = false := beq_eq_false_iff_ne.mpr c49
                    have c49b1 : ((IntKind.u64.wrap (wrap64 ((a0.size : Int) + 1))) != 0) = true := bne_iff_ne.mpr c49
                    have H' := Aside0.mk H
                    clear H
                    go_wp2
                    go_loopg [20, 21] kj13 (fun kq v20 v21 w' => ∃ (x20_3 : Int) (x21_3 : Int), v20 = .int .i64 x20_3 ∧ v21 = .int .i64 x21_3 ∧ Aside0 (threshinglaw04_LratRows.l0 kq a0 (wrap64 (Int.tmod (IntKind.u64.wrap (a2)) (IntKind.u64.wrap (wrap64 ((a0.size : Int) + 1))))) x20_3 x21_3 = some r) ∧ Aside0 (kq ≤ kj13) ∧ Aside0 (Below w.heap.size w w'))
                    case atStart => exact ⟨(0), (0), (by first | rfl | (simp; done) | (simp [*]; done)), (by first | rfl | (simp; done) | (simp [*]; done)), H', ⟨Nat.le_refl _⟩, ⟨by repeat (first | (with_reducible first | exact HB.out | apply below_alloc | apply pw_below_drewN | apply below_drew1) | exact HB.out)⟩⟩
                    case round =>
                      clear H'
                      try clear c1
                      try clear c2
                      try clear p2
                      try clear c3
                      try clear q3
                      try clear c4
                      try clear q4
                      try clear c5
                      try clear c5b0
                      try clear c5b1
                      try clear c6
                      try clear p6
                      try clear c10
                      try clear c11
                      try clear c11b0
                      try clear c11b1
                      try clear c12
                      try clear c12b0
                      try clear c12b1
                      try clear c12b2
                      try clear c15
                      try clear c18
                      try clear c18b0
                      try clear c18b1
                      try clear c19
                      try clear c19b0
                      try clear c19b1
                      try clear c20
                      try clear c20b0
                      try clear c20b1
                      try clear c21
                      try clear c21b0
                      try clear c21b1
                      try clear c22
                      try clear c22b0
                      try clear c22b1
                      try clear c24
                      try clear c25
                      try clear c25b0
                      try clear c26
                      try clear c26b0
                      try clear c28
                      try clear q30
                      try clear c33
                      try clear q33
                      try clear q37
                      try clear c40
                      try clear q40
                      try clear q44
                      try clear c48
                      try clear c49
                      try clear c49b0
                      try clear c49b1
                      try clear p2
                      try clear p6
                      try clear q033
                      try clear q040
                      try clear q3
                      try clear q30
                      try clear q33
                      try clear q37
                      try clear q4
                      try clear q40
                      try clear q44
                      obtain ⟨x20_3, x21_3, rfl, rfl, HA, HK3, HB⟩ := hrel
                      cases gk with
                      | zero => exact absurd HA.out (by simp [threshinglaw04_LratRows.l0])
                      | succ k3 =>
                        have H := HA.out
                        clear HA
                        simp only [threshinglaw04_LratRows.l0] at H
                        by_cases c50 : x21_3 < (wrap64 (Int.tmod (IntKind.u64.wrap (a2)) (IntKind.u64.wrap (wrap64 ((a0.size : Int) + 1)))))
                        · rw [if_pos c50] at H
                          have c50b0 : decide (x21_3 < (wrap64 (Int.tmod (IntKind.u64.wrap (a2)) (IntKind.u64.wrap (wrap64 ((a0.size : Int) + 1)))))) = true := decide_eq_true c50
                          clear c50
                          by_cases c51 : 0 ≤ x21_3
                          · rw [if_pos c51] at H
                            have c51b0 : decide (0 ≤ x21_3) = true := decide_eq_true c51
                            clear c51
                            by_cases c52 : x21_3 < (a0.size : Int)
                            · rw [if_pos c52] at H
                              have c52b0 : decide (x21_3 < (a0.size : Int)) = true := decide_eq_true c52
                              clear c52
                              by_cases c54 : (bt a0 x21_3) = 10
                              · rw [if_pos c54] at H
                                have c54b0 : ((bt a0 x21_3) == 10) = true := beq_iff_eq.mpr c54
                                have c54b1 : ((bt a0 x21_3) != 10) = false := bne_eq_false_iff_eq.mpr c54
                                clear c54
                                have H' := Aside0.mk H
                                clear H
                                have p53 : 0 ≤ (x21_3 : Int) := of_decide_eq_true (by first | (with_reducible assumption) | assumption)
                                have q53 : x21_3 < (a0.size : Int) := of_decide_eq_true (by first | (with_reducible assumption) | assumption)
                                have hx53 := bt_at a0 x21_3
                                replace p53 := eq_true p53
                                replace q53 := eq_true q53
                                go_wp2
                                go_roundg k3
                                case measure => have := HJ3.out; have := HJ13.out; have := HK3.out; omega
                                case rel => exact ⟨(wrap64 (x20_3 + 1)), (wrap64 (x21_3 + 1)), (by first | rfl | (simp; done) | (simp [*]; done)), (by first | rfl | (simp; done) | (simp [*]; done)), H', ⟨by have := HJ3.out; have := HJ13.out; have := HK3.out; omega⟩, ⟨by repeat (first | (with_reducible first | exact HB.out | apply below_alloc | apply pw_below_drewN | apply below_drew1) | exact HB.out)⟩⟩
                              · rw [if_neg c54] at H
                                have c54b0 : ((bt a0 x21_3) == 10) = false := beq_eq_false_iff_ne.mpr c54
                                have c54b1 : ((bt a0 x21_3) != 10) = true := bne_iff_ne.mpr c54
                                have H' := Aside0.mk H
                                clear H
                                have p53 : 0 ≤ (x21_3 : Int) := of_decide_eq_true (by first | (with_reducible assumption) | assumption)
                                have q53 : x21_3 < (a0.size : Int) := of_decide_eq_true (by first | (with_reducible assumption) | assumption)
                                have hx53 := bt_at a0 x21_3
                                replace p53 := eq_true p53
                                replace q53 := eq_true q53
                                go_wp2
                                go_roundg k3
                                case measure => have := HJ3.out; have := HJ13.out; have := HK3.out; omega
                                case rel => exact ⟨(x20_3), (wrap64 (x21_3 + 1)), (by first | rfl | (simp; done) | (simp [*]; done)), (by first | rfl | (simp; done) | (simp [*]; done)), H', ⟨by have := HJ3.out; have := HJ13.out; have := HK3.out; omega⟩, ⟨by repeat (first | (with_reducible first | exact HB.out | apply below_alloc | apply pw_below_drewN | apply below_drew1) | exact HB.out)⟩⟩
                            · rw [if_neg c52] at H
                              exact absurd H (by simp)
                          · rw [if_neg c51] at H
                            exact absurd H (by simp)
                        · rw [if_neg c50] at H
                          have c50b0 : decide (x21_3 < (wrap64 (Int.tmod (IntKind.u64.wrap (a2)) (IntKind.u64.wrap (wrap64 ((a0.size : Int) + 1)))))) = false := decide_eq_false c50
                          clear c50
                          obtain ⟨ji55, hji55⟩ : ∃ j_ : Int, (wrap64 (Int.tmod (IntKind.u64.wrap (a2)) (IntKind.u64.wrap (wrap64 ((a0.size : Int) + 1))))) = j_ := ⟨_, rfl⟩
                          replace H : (if 0 ≤ (ji55) then (if (ji55) ≤ (a0.size : Int) then ((lrat_Parse.f k3 (a0.extract 0 ((ji55) : Int).toNat)).bind fun bt317 => (if (ji55) = 0 then (threshinglaw04_LratRows.j3 k3 x20_3 bt317.2.1 bt317.2.2 true) else (if 0 ≤ (wrap64 ((ji55) - 1)) then (if (wrap64 ((ji55) - 1)) < (a0.size : Int) then (threshinglaw04_LratRows.j3 k3 x20_3 bt317.2.1 bt317.2.2 ((bt a0 (wrap64 ((ji55) - 1))) == 10)) else (none)) else (none)))) else (none)) else (none)) = some r := by first | (rw [hji55] at H; exact H) | (simp only [hji55] at H ⊢; exact H)
                          (try rw [hji55] at c50b0)
                          have hji55w : (IntKind.i64.wrap (Int.tmod (IntKind.u64.wrap (a2)) (IntKind.u64.wrap (wrap64 ((a0.size : Int) + 1))))) = ji55 := (i64_w _).trans hji55
                          by_cases c56 : 0 ≤ (ji55)
                          · rw [if_pos c56] at H
                            have c56b0 := eq_true c56
                            have c56b1 : decide (0 ≤ (ji55)) = true := decide_eq_true c56
                            clear c56
                            by_cases c57 : (ji55) ≤ (a0.size : Int)
                            · rw [if_pos c57] at H
                              have c57b0 := eq_true c57
                              have c57b1 : decide ((ji55) ≤ (a0.size : Int)) = true := decide_eq_true c57
                              clear c57
                              replace H := Option.bind_eq_some_iff.mp H
                              obtain ⟨⟨t317, t318, t319⟩, A580, H⟩ := H
                              replace H : (if (ji55) = 0 then (threshinglaw04_LratRows.j3 k3 x20_3 t318 t319 true) else (if 0 ≤ (wrap64 ((ji55) - 1)) then (if (wrap64 ((ji55) - 1)) < (a0.size : Int) then (threshinglaw04_LratRows.j3 k3 x20_3 t318 t319 ((bt a0 (wrap64 ((ji55) - 1))) == 10)) else (none)) else (none))) = some r := H
                              have A58 := Aside0.mk A580
                              clear A580
                              have HC59 := Aside0.mk H
                              clear H
                              go_upto_region 19 with (first | ((with_reducible refine gate_callee (f := 15) rfl ?_); refine goesL_ (some 152) rfl rfl Tryd.func15 (by kernel_rfl) rfl #[.string (a0.extract 0 ((ji55) : Int).toNat)] rfl (by (try simp only [List.map_toArray, List.map_cons, List.map_nil]); first | done | (simp only [hji55]; rfl) | rfl | (simp only [List.length_drop, List.length_take]; rfl)) ?_; (with_reducible refine (lrat_Parse.calls k3 (a0.extract 0 ((ji55) : Int).toNat) t317 t318 t319 _ A58.out ?sideT).mono ?_); (case sideT => exact LT.pay HLT.out (by repeat (first | (with_reducible first | exact HB.out | apply below_alloc | apply pw_below_drewN | apply below_drew1) | exact HB.out))); rintro e w60 ⟨v320, rfl, ho0, hb⟩; refine ⟨_, rfl, ?_⟩; have n0_ := Aside0.mk (Kd.S_lower ho0 (below_size (by repeat (first | (with_reducible first | exact HB.out | apply below_alloc | apply pw_below_drewN | apply below_drew1) | exact HB.out)))); have n1_ := Aside0.mk (below_step (by repeat (first | (with_reducible first | exact HB.out | apply below_alloc | apply pw_below_drewN | apply below_drew1) | exact HB.out)) hb); clear HB; have HO321 := n0_; have HB := n1_; clear n0_ n1_; (try clear hb); (try clear hb2); (try clear hk); (try clear hi); (try clear ho0)))
                              (try simp only [Act.put, List.setIfInBounds_toArray, List.set_cons_zero, List.set_cons_succ])
                              go_cut [164] (fun v164 wc => ∃ (kq : Nat) (x164_58 : Bool), v164 = .bool x164_58 ∧ Aside0 (threshinglaw04_LratRows.j3 kq x20_3 t318 t319 x164_58 = some r) ∧ Aside0 (kq ≤ k3) ∧ Aside0 (Below w.heap.size w wc))
                              case first =>
                                have H := HC59.out
                                clear HC59
                                by_cases c61 : (ji55) = 0
                                · rw [if_pos c61] at H
                                  have c61b0 : ((ji55) == 0) = true := beq_iff_eq.mpr c61
                                  have c61b1 : ((ji55) != 0) = false := bne_eq_false_iff_eq.mpr c61
                                  clear c61
                                  (first | rw [c61b0] | (simp only [i64_w, i32_w]; rw [c61b0]) | skip)
                                  have H' := Aside0.mk H
                                  clear H
                                  go_wp2
                                  go_meet
                                  case rel => exact ⟨_, (true), (by first | rfl | (simp; done) | (simp [*]; done)), H', ⟨by have := HJ3.out; have := HJ13.out; have := HK3.out; first | omega | exact Nat.le_refl _⟩, ⟨by repeat (first | (with_reducible first | exact HB.out | apply below_alloc | apply pw_below_drewN | apply below_drew1) | exact HB.out)⟩⟩
                                · rw [if_neg c61] at H
                                  have c61b0 : ((ji55) == 0) = false := beq_eq_false_iff_ne.mpr c61
                                  have c61b1 : ((ji55) != 0) = true := bne_iff_ne.mpr c61
                                  (first | rw [c61b0] | (simp only [i64_w, i32_w]; rw [c61b0]) | skip)
                                  obtain ⟨ji62, hji62⟩ : ∃ j_ : Int, (wrap64 ((ji55) - 1)) = j_ := ⟨_, rfl⟩
                                  replace H : (if 0 ≤ (ji62) then (if (ji62) < (a0.size : Int) then (threshinglaw04_LratRows.j3 k3 x20_3 t318 t319 ((bt a0 (ji62)) == 10)) else (none)) else (none)) = some r := by first | (rw [hji62] at H; exact H) | (simp only [hji62] at H ⊢; exact H)
                                  have hji62w : (IntKind.i64.wrap ((ji55) - 1)) = ji62 := (i64_w _).trans hji62
                                  by_cases c63 : 0 ≤ (ji62)
                                  · rw [if_pos c63] at H
                                    have c63b0 : decide (0 ≤ (ji62)) = true := decide_eq_true c63
                                    clear c63
                                    by_cases c64 : (ji62) < (a0.size : Int)
                                    · rw [if_pos c64] at H
                                      have c64b0 : decide ((ji62) < (a0.size : Int)) = true := decide_eq_true c64
                                      clear c64
                                      have H' := Aside0.mk H
                                      clear H
                                      have p65 : 0 ≤ ((ji62) : Int) := of_decide_eq_true (by first | (with_reducible assumption) | assumption)
                                      have q65 : (ji62) < (a0.size : Int) := of_decide_eq_true (by first | (with_reducible assumption) | assumption)
                                      have hx65 := bt_at a0 (ji62)
                                      replace p65 := eq_true p65
                                      replace q65 := eq_true q65
                                      go_wp2
                                      go_meet
                                      case rel => exact ⟨_, (((bt a0 (ji62)) == 10)), (by first | rfl | (simp; done) | (simp only [← hji62] <;> (first | rfl | simp)) | (simp [*]; done)), H', ⟨by have := HJ3.out; have := HJ13.out; have := HK3.out; first | omega | exact Nat.le_refl _⟩, ⟨by repeat (first | (with_reducible first | exact HB.out | apply below_alloc | apply pw_below_drewN | apply below_drew1) | exact HB.out)⟩⟩
                                    · rw [if_neg c64] at H
                                      exact absurd H (by simp)
                                  · rw [if_neg c63] at H
                                    exact absurd H (by simp)
                              case rest =>
                                clear HC59
                                try clear c1
                                try clear c2
                                try clear p2
                                try clear c3
                                try clear q3
                                try clear c4
                                try clear q4
                                try clear c5
                                try clear c5b0
                                try clear c5b1
                                try clear p5
                                try clear q5
                                try clear hx5
                                try clear c6
                                try clear p6
                                try clear q6
                                try clear hx6
                                try clear c10
                                try clear c11
                                try clear c11b0
                                try clear c11b1
                                try clear c12
                                try clear c12b0
                                try clear c12b1
                                try clear c12b2
                                try clear c15
                                try clear c18
                                try clear c18b0
                                try clear c18b1
                                try clear c19
                                try clear c19b0
                                try clear c19b1
                                try clear c20
                                try clear c20b0
                                try clear c20b1
                                try clear c21
                                try clear c21b0
                                try clear c21b1
                                try clear c22
                                try clear c22b0
                                try clear c22b1
                                try clear c24
                                try clear c25
                                try clear c25b0
                                try clear c26
                                try clear c26b0
                                try clear c28
                                try clear q30
                                try clear c33
                                try clear q33
                                try clear q37
                                try clear c40
                                try clear q40
                                try clear q44
                                try clear c48
                                try clear c49
                                try clear c49b0
                                try clear c49b1
                                try clear c50
                                try clear c50b0
                                try clear c51
                                try clear c51b0
                                try clear c52
                                try clear c52b0
                                try clear p53
                                try clear q53
                                try clear hx53
                                try clear c54
                                try clear c54b0
                                try clear c54b1
                                try clear c56
                                try clear c56b0
                                try clear c56b1
                                try clear c57
                                try clear c57b0
                                try clear c57b1
                                try clear c61
                                try clear c61b0
                                try clear c61b1
                                try clear c63
                                try clear c63b0
                                try clear c64
                                try clear c64b0
                                try clear p64
                                try clear p65
                                try clear q65
                                try clear hx65
                                try clear p2
                                try clear p53
                                try clear p6
                                try clear p65
                                try clear q033
                                try clear q040
                                try clear q3
                                try clear q30
                                try clear q33
                                try clear q37
                                try clear q4
                                try clear q40
                                try clear q44
                                try clear q53
                                try clear q65
                                obtain ⟨kq, x164_58, rfl, HA, HJ58, HB⟩ := hcut
                                cases kq with
                                | zero => exact absurd HA.out (by simp [threshinglaw04_LratRows.j3])
                                | succ kj58 =>
                                  have H := HA.out
                                  clear HA
                                  simp only [threshinglaw04_LratRows.j3] at H
                                  by_cases c66 : x164_58 = true
                                  · subst c66
                                    have H1 : (if t318 = 0 then (if t319 = 0 then ((threshinglaw04_works.f kj58).bind fun t322 => (some t322)) else (some false)) else (some false)) = some r := by rw [if_pos rfl] at H; exact H
                                    clear H
                                    have H := H1
                                    clear H1
                                    by_cases c67 : t318 = 0
                                    · rw [if_pos c67] at H
                                      have c67b0 : (t318 == 0) = true := beq_iff_eq.mpr c67
                                      have c67b1 : (t318 != 0) = false := bne_eq_false_iff_eq.mpr c67
                                      clear c67
                                      by_cases c68 : t319 = 0
                                      · rw [if_pos c68] at H
                                        have c68b0 : (t319 == 0) = true := beq_iff_eq.mpr c68
                                        have c68b1 : (t319 != 0) = false := bne_eq_false_iff_eq.mpr c68
                                        clear c68
                                        replace H := Option.bind_eq_some_iff.mp H
                                        obtain ⟨t322, A690, H⟩ := H
                                        replace H : (some t322) = some r := H
                                        have A69 := Aside0.mk A690
                                        clear A690
                                        obtain rfl := Option.some.inj H
                                        go_wp2_with (first | (go_at_call 10; (with_reducible refine (threshinglaw04_works.calls kj58  t322 _ A69.out ?sideT).mono ?_); (case sideT => exact LT.pay HLT.out (by repeat (first | (with_reducible first | exact HB.out | apply below_alloc | apply pw_below_drewN | apply below_drew1) | exact HB.out))); rintro e w70 ⟨rfl, hb⟩; have n0_ := Aside0.mk (below_step (by repeat (first | (with_reducible first | exact HB.out | apply below_alloc | apply pw_below_drewN | apply below_drew1) | exact HB.out)) hb); clear HB; have HB := n0_; clear n0_; (try clear hb); (try clear hb2); (try clear hk); (try clear hi)))
                                        go_ret
                                        exact ⟨by first | rfl | (simp [errW_none, errW_some] <;> rfl) | (simp only [← hji55]; first | rfl | (simp [errW_none, errW_some] <;> rfl)) | (simp [*, errW_none, errW_some] <;> rfl), by repeat (first | (with_reducible first | exact HB.out | apply below_alloc | apply pw_below_drewN | apply below_drew1) | exact HB.out)⟩
                                      · rw [if_neg c68] at H
                                        have c68b0 : (t319 == 0) = false := beq_eq_false_iff_ne.mpr c68
                                        have c68b1 : (t319 != 0) = true := bne_iff_ne.mpr c68
                                        obtain rfl := Option.some.inj H
                                        go_wp2
                                        go_ret
                                        exact ⟨by first | rfl | (simp [errW_none, errW_some] <;> rfl) | (simp only [← hji55]; first | rfl | (simp [errW_none, errW_some] <;> rfl)) | (simp [*, errW_none, errW_some] <;> rfl), by repeat (first | (with_reducible first | exact HB.out | apply below_alloc | apply pw_below_drewN | apply below_drew1) | exact HB.out)⟩
                                    · rw [if_neg c67] at H
                                      have c67b0 : (t318 == 0) = false := beq_eq_false_iff_ne.mpr c67
                                      have c67b1 : (t318 != 0) = true := bne_iff_ne.mpr c67
                                      obtain rfl := Option.some.inj H
                                      go_wp2
                                      go_ret
                                      exact ⟨by first | rfl | (simp [errW_none, errW_some] <;> rfl) | (simp only [← hji55]; first | rfl | (simp [errW_none, errW_some] <;> rfl)) | (simp [*, errW_none, errW_some] <;> rfl), by repeat (first | (with_reducible first | exact HB.out | apply below_alloc | apply pw_below_drewN | apply below_drew1) | exact HB.out)⟩
                                  · replace c66 := Bool.eq_false_iff.mpr c66
                                    subst c66
                                    have H1 : (if t318 = 40 then (if t319 = (wrap64 (x20_3 + 1)) then ((threshinglaw04_works.f kj58).bind fun t323 => (some t323)) else (some false)) else (some false)) = some r := by rw [if_neg (show ¬ (false = true) by decide)] at H; exact H
                                    clear H
                                    have H := H1
                                    clear H1
                                    by_cases c71 : t318 = 40
                                    · rw [if_pos c71] at H
                                      have c71b0 : (t318 == 40) = true := beq_iff_eq.mpr c71
                                      have c71b1 : (t318 != 40) = false := bne_eq_false_iff_eq.mpr c71
                                      clear c71
                                      by_cases c72 : t319 = (wrap64 (x20_3 + 1))
                                      · rw [if_pos c72] at H
                                        have c72b0 : (t319 == (wrap64 (x20_3 + 1))) = true := beq_iff_eq.mpr c72
                                        have c72b1 : (t319 != (wrap64 (x20_3 + 1))) = false := bne_eq_false_iff_eq.mpr c72
                                        clear c72
                                        replace H := Option.bind_eq_some_iff.mp H
                                        obtain ⟨t323, A730, H⟩ := H
                                        replace H : (some t323) = some r := H
                                        have A73 := Aside0.mk A730
                                        clear A730
                                        obtain rfl := Option.some.inj H
                                        go_wp2_with (first | (go_at_call 10; (with_reducible refine (threshinglaw04_works.calls kj58  t323 _ A73.out ?sideT).mono ?_); (case sideT => exact LT.pay HLT.out (by repeat (first | (with_reducible first | exact HB.out | apply below_alloc | apply pw_below_drewN | apply below_drew1) | exact HB.out))); rintro e w74 ⟨rfl, hb⟩; have n0_ := Aside0.mk (below_step (by repeat (first | (with_reducible first | exact HB.out | apply below_alloc | apply pw_below_drewN | apply below_drew1) | exact HB.out)) hb); clear HB; have HB := n0_; clear n0_; (try clear hb); (try clear hb2); (try clear hk); (try clear hi)))
                                        go_ret
                                        exact ⟨by first | rfl | (simp [errW_none, errW_some] <;> rfl) | (simp only [← hji55]; first | rfl | (simp [errW_none, errW_some] <;> rfl)) | (simp [*, errW_none, errW_some] <;> rfl), by repeat (first | (with_reducible first | exact HB.out | apply below_alloc | apply pw_below_drewN | apply below_drew1) | exact HB.out)⟩
                                      · rw [if_neg c72] at H
                                        have c72b0 : (t319 == (wrap64 (x20_3 + 1))) = false := beq_eq_false_iff_ne.mpr c72
                                        have c72b1 : (t319 != (wrap64 (x20_3 + 1))) = true := bne_iff_ne.mpr c72
                                        obtain rfl := Option.some.inj H
                                        go_wp2
                                        go_ret
                                        exact ⟨by first | rfl | (simp [errW_none, errW_some] <;> rfl) | (simp only [← hji55]; first | rfl | (simp [errW_none, errW_some] <;> rfl)) | (simp [*, errW_none, errW_some] <;> rfl), by repeat (first | (with_reducible first | exact HB.out | apply below_alloc | apply pw_below_drewN | apply below_drew1) | exact HB.out)⟩
                                    · rw [if_neg c71] at H
                                      have c71b0 : (t318 == 40) = false := beq_eq_false_iff_ne.mpr c71
                                      have c71b1 : (t318 != 40) = true := bne_iff_ne.mpr c71
                                      obtain rfl := Option.some.inj H
                                      go_wp2
                                      go_ret
                                      exact ⟨by first | rfl | (simp [errW_none, errW_some] <;> rfl) | (simp only [← hji55]; first | rfl | (simp [errW_none, errW_some] <;> rfl)) | (simp [*, errW_none, errW_some] <;> rfl), by repeat (first | (with_reducible first | exact HB.out | apply below_alloc | apply pw_below_drewN | apply below_drew1) | exact HB.out)⟩
                            · rw [if_neg c57] at H
                              exact absurd H (by simp)
                          · rw [if_neg c56] at H
                            exact absurd H (by simp)
          · rw [if_neg c12] at H
            exact absurd H (by simp)
        · rw [if_neg c11] at H
          have c11b0 : (t285 == 0) = false := beq_eq_false_iff_ne.mpr c11
          have c11b1 : (t285 != 0) = true := bne_iff_ne.mpr c11
          by_cases c75 : a0.size + a1.size ≤ 9223372036854775807
          · rw [if_pos c75] at H
            have c75b0 := eq_true c75
            have c75b1 : decide (a0.size + a1.size ≤ 9223372036854775807) = true := decide_eq_true c75
            try have c75b2 : (9223372036854775807 < a0.size + a1.size) = False := eq_false (Nat.not_lt.2 c75)
            replace H := Option.bind_eq_some_iff.mp H
            obtain ⟨⟨t294, t295, t296⟩, A760, H⟩ := H
            replace H : (if (a0.size : Int) > 0 then (if 0 ≤ (wrap64 ((a0.size : Int) - 1)) then (if (wrap64 ((a0.size : Int) - 1)) < (a0.size : Int) then (if (bt a0 (wrap64 ((a0.size : Int) - 1))) = 10 then (if t295 = t285 then (if t296 = t286 then ((threshinglaw04_works.f kj3).bind fun t299 => (some t299)) else (some false)) else (some false)) else ((threshinglaw04_works.f kj3).bind fun t300 => (some t300))) else (none)) else (none)) else (if t295 = t285 then (if t296 = t286 then ((threshinglaw04_works.f kj3).bind fun t301 => (some t301)) else (some false)) else (some false))) = some r := H
            have A76 := Aside0.mk A760
            clear A760
            by_cases c77 : (a0.size : Int) > 0
            · rw [if_pos c77] at H
              have c77b0 : decide (0 < (a0.size : Int)) = true := decide_eq_true c77
              have c77b1 : decide (0 < a0.size) = true := decide_eq_true (by omega)
              clear c77
              obtain ⟨ji78, hji78⟩ : ∃ j_ : Int, (wrap64 ((a0.size : Int) - 1)) = j_ := ⟨_, rfl⟩
              replace H : (if 0 ≤ (ji78) then (if (ji78) < (a0.size : Int) then (if (bt a0 (ji78)) = 10 then (if t295 = t285 then (if t296 = t286 then ((threshinglaw04_works.f kj3).bind fun t299 => (some t299)) else (some false)) else (some false)) else ((threshinglaw04_works.f kj3).bind fun t300 => (some t300))) else (none)) else (none)) = some r := by first | (rw [hji78] at H; exact H) | (simp only [hji78] at H ⊢; exact H)
              (try rw [hji78] at A9)
              (try rw [hji78] at A10)
              (try rw [hji78] at A76)
              have hji78w : (IntKind.i64.wrap ((a0.size : Int) - 1)) = ji78 := (i64_w _).trans hji78
              by_cases c79 : 0 ≤ (ji78)
              · rw [if_pos c79] at H
                have c79b0 : decide (0 ≤ (ji78)) = true := decide_eq_true c79
                clear c79
                by_cases c80 : (ji78) < (a0.size : Int)
                · rw [if_pos c80] at H
                  have c80b0 : decide ((ji78) < (a0.size : Int)) = true := decide_eq_true c80
                  clear c80
                  by_cases c82 : (bt a0 (ji78)) = 10
                  · rw [if_pos c82] at H
                    have c82b0 : ((bt a0 (ji78)) == 10) = true := beq_iff_eq.mpr c82
                    have c82b1 : ((bt a0 (ji78)) != 10) = false := bne_eq_false_iff_eq.mpr c82
                    clear c82
                    by_cases c83 : t295 = t285
                    · rw [if_pos c83] at H
                      have c83b0 : (t295 == t285) = true := beq_iff_eq.mpr c83
                      have c83b1 : (t295 != t285) = false := bne_eq_false_iff_eq.mpr c83
                      clear c83
                      by_cases c84 : t296 = t286
                      · rw [if_pos c84] at H
                        have c84b0 : (t296 == t286) = true := beq_iff_eq.mpr c84
                        have c84b1 : (t296 != t286) = false := bne_eq_false_iff_eq.mpr c84
                        clear c84
                        replace H := Option.bind_eq_some_iff.mp H
                        obtain ⟨t299, A850, H⟩ := H
                        replace H : (some t299) = some r := H
                        have A85 := Aside0.mk A850
                        clear A850
                        obtain rfl := Option.some.inj H
                        go_wp2_with (first | ((with_reducible refine gate_callee (f := 15) rfl ?_); refine goesL_ (some 36) rfl rfl Tryd.func15 (by kernel_rfl) rfl #[.string a0] rfl (by (try simp only [List.map_toArray, List.map_cons, List.map_nil]); first | done | rfl | (simp only [List.length_drop, List.length_take]; rfl)) ?_; (with_reducible refine (lrat_Parse.calls kj3 a0 t284 t285 t286 _ A9.out ?sideT).mono ?_); (case sideT => exact LT.pay HLT.out (by repeat (first | (with_reducible first | exact HB.out | apply below_alloc | apply pw_below_drewN | apply below_drew1) | exact HB.out))); rintro e w86 ⟨v287, rfl, ho0, hb⟩; refine ⟨_, rfl, ?_⟩; have n0_ := Aside0.mk (Kd.S_lower ho0 (below_size (by repeat (first | (with_reducible first | exact HB.out | apply below_alloc | apply pw_below_drewN | apply below_drew1) | exact HB.out)))); have n1_ := Aside0.mk (below_step (by repeat (first | (with_reducible first | exact HB.out | apply below_alloc | apply pw_below_drewN | apply below_drew1) | exact HB.out)) hb); clear HB; have HO288 := n0_; have HB := n1_; clear n0_ n1_; (try clear hb); (try clear hb2); (try clear hk); (try clear hi); (try clear ho0)) | ((with_reducible refine gate_callee (f := 15) rfl ?_); refine goesL_ (some 42) rfl rfl Tryd.func15 (by kernel_rfl) rfl #[.string a1] rfl (by (try simp only [List.map_toArray, List.map_cons, List.map_nil]); first | done | rfl | (simp only [List.length_drop, List.length_take]; rfl)) ?_; (with_reducible refine (lrat_Parse.calls kj3 a1 t289 t290 t291 _ A10.out ?sideT).mono ?_); (case sideT => exact LT.pay HLT.out (by repeat (first | (with_reducible first | exact HB.out | apply below_alloc | apply pw_below_drewN | apply below_drew1) | exact HB.out))); rintro e w87 ⟨v292, rfl, ho0, hb⟩; refine ⟨_, rfl, ?_⟩; have n0_ := Aside0.mk (Kd.S_elder' (by (with_reducible repeat (first | apply Kd.S_alloc | apply Kd.S_drewN | apply Kd.S_drew)); exact HO288.out) (Kd.S_base ho0) hb); have n1_ := Aside0.mk (Kd.S_lower (Kd.S_new' ho0 (Kd.S_lt (by (with_reducible repeat (first | apply Kd.S_alloc | apply Kd.S_drewN | apply Kd.S_drew)); exact HO288.out))) (below_size (by repeat (first | (with_reducible first | exact HB.out | apply below_alloc | apply pw_below_drewN | apply below_drew1) | exact HB.out)))); have n2_ := Aside0.mk (below_step (by repeat (first | (with_reducible first | exact HB.out | apply below_alloc | apply pw_below_drewN | apply below_drew1) | exact HB.out)) hb); clear HO288; clear HB; have HO288 := n0_; have HO293 := n1_; have HB := n2_; clear n0_ n1_ n2_; (try clear hb); (try clear hb2); (try clear hk); (try clear hi); (try clear ho0)) | ((with_reducible refine gate_callee (f := 15) rfl ?_); refine goesL_ (some 52) rfl rfl Tryd.func15 (by kernel_rfl) rfl #[.string (a0 ++ a1)] rfl (by (try simp only [List.map_toArray, List.map_cons, List.map_nil]); first | done | rfl | (simp only [List.length_drop, List.length_take]; rfl)) ?_; (with_reducible refine (lrat_Parse.calls kj3 (a0 ++ a1) t294 t295 t296 _ A76.out ?sideT).mono ?_); (case sideT => exact LT.pay HLT.out (by repeat (first | (with_reducible first | exact HB.out | apply below_alloc | apply pw_below_drewN | apply below_drew1) | exact HB.out))); rintro e w88 ⟨v297, rfl, ho0, hb⟩; refine ⟨_, rfl, ?_⟩; have n0_ := Aside0.mk (Kd.S_elder' (by (with_reducible repeat (first | apply Kd.S_alloc | apply Kd.S_drewN | apply Kd.S_drew)); exact HO288.out) (Kd.S_base ho0) hb); have n1_ := Aside0.mk (Kd.S_elder' (by (with_reducible repeat (first | apply Kd.S_alloc | apply Kd.S_drewN | apply Kd.S_drew)); exact HO293.out) (Kd.S_base ho0) hb); have n2_ := Aside0.mk (Kd.S_lower (Kd.S_new' (Kd.S_new' ho0 (Kd.S_lt (by (with_reducible repeat (first | apply Kd.S_alloc | apply Kd.S_drewN | apply Kd.S_drew)); exact HO288.out))) (Kd.S_lt (by (with_reducible repeat (first | apply Kd.S_alloc | apply Kd.S_drewN | apply Kd.S_drew)); exact HO293.out))) (below_size (by repeat (first | (with_reducible first | exact HB.out | apply below_alloc | apply pw_below_drewN | apply below_drew1) | exact HB.out)))); have n3_ := Aside0.mk (below_step (by repeat (first | (with_reducible first | exact HB.out | apply below_alloc | apply pw_below_drewN | apply below_drew1) | exact HB.out)) hb); clear HO288; clear HO293; clear HB; have HO288 := n0_; have HO293 := n1_; have HO298 := n2_; have HB := n3_; clear n0_ n1_ n2_ n3_; (try clear hb); (try clear hb2); (try clear hk); (try clear hi); (try clear ho0); have p81 : 0 ≤ ((ji78) : Int) := of_decide_eq_true (by first | (with_reducible assumption) | assumption); have q81 : (ji78) < (a0.size : Int) := of_decide_eq_true (by first | (with_reducible assumption) | assumption); have hx81 := bt_at a0 (ji78); replace p81 := eq_true p81; replace q81 := eq_true q81) | (go_at_call 10; (with_reducible refine (threshinglaw04_works.calls kj3  t299 _ A85.out ?sideT).mono ?_); (case sideT => exact LT.pay HLT.out (by repeat (first | (with_reducible first | exact HB.out | apply below_alloc | apply pw_below_drewN | apply below_drew1) | exact HB.out))); rintro e w89 ⟨rfl, hb⟩; have n0_ := Aside0.mk (Kd.S_below (by (with_reducible repeat (first | apply Kd.S_alloc | apply Kd.S_drewN | apply Kd.S_drew)); exact HO288.out) hb); have n1_ := Aside0.mk (Kd.S_below (by (with_reducible repeat (first | apply Kd.S_alloc | apply Kd.S_drewN | apply Kd.S_drew)); exact HO293.out) hb); have n2_ := Aside0.mk (Kd.S_below (by (with_reducible repeat (first | apply Kd.S_alloc | apply Kd.S_drewN | apply Kd.S_drew)); exact HO298.out) hb); have n3_ := Aside0.mk (below_step (by repeat (first | (with_reducible first | exact HB.out | apply below_alloc | apply pw_below_drewN | apply below_drew1) | exact HB.out)) hb); clear HO288; clear HO293; clear HO298; clear HB; have HO288 := n0_; have HO293 := n1_; have HO298 := n2_; have HB := n3_; clear n0_ n1_ n2_ n3_; (try clear hb); (try clear hb2); (try clear hk); (try clear hi)))
                        go_ret
                        exact ⟨by first | rfl | (simp [errW_none, errW_some] <;> rfl) | (simp only [← hji78]; first | rfl | (simp [errW_none, errW_some] <;> rfl)) | (simp [*, errW_none, errW_some] <;> rfl), by repeat (first | (with_reducible first | exact HB.out | apply below_alloc | apply pw_below_drewN | apply below_drew1) | exact HB.out)⟩
                      · rw [if_neg c84] at H
                        have c84b0 : (t296 == t286) = false := beq_eq_false_iff_ne.mpr c84
                        have c84b1 : (t296 != t286) = true := bne_iff_ne.mpr c84
                        obtain rfl := Option.some.inj H
                        go_wp2_with (first | ((with_reducible refine gate_callee (f := 15) rfl ?_); refine goesL_ (some 36) rfl rfl Tryd.func15 (by kernel_rfl) rfl #[.string a0] rfl (by (try simp only [List.map_toArray, List.map_cons, List.map_nil]); first | done | rfl | (simp only [List.length_drop, List.length_take]; rfl)) ?_; (with_reducible refine (lrat_Parse.calls kj3 a0 t284 t285 t286 _ A9.out ?sideT).mono ?_); (case sideT => exact LT.pay HLT.out (by repeat (first | (with_reducible first | exact HB.out | apply below_alloc | apply pw_below_drewN | apply below_drew1) | exact HB.out))); rintro e w90 ⟨v287, rfl, ho0, hb⟩; refine ⟨_, rfl, ?_⟩; have n0_ := Aside0.mk (Kd.S_lower ho0 (below_size (by repeat (first | (with_reducible first | exact HB.out | apply below_alloc | apply pw_below_drewN | apply below_drew1) | exact HB.out)))); have n1_ := Aside0.mk (below_step (by repeat (first | (with_reducible first | exact HB.out | apply below_alloc | apply pw_below_drewN | apply below_drew1) | exact HB.out)) hb); clear HB; have HO288 := n0_; have HB := n1_; clear n0_ n1_; (try clear hb); (try clear hb2); (try clear hk); (try clear hi); (try clear ho0)) | ((with_reducible refine gate_callee (f := 15) rfl ?_); refine goesL_ (some 42) rfl rfl Tryd.func15 (by kernel_rfl) rfl #[.string a1] rfl (by (try simp only [List.map_toArray, List.map_cons, List.map_nil]); first | done | rfl | (simp only [List.length_drop, List.length_take]; rfl)) ?_; (with_reducible refine (lrat_Parse.calls kj3 a1 t289 t290 t291 _ A10.out ?sideT).mono ?_); (case sideT => exact LT.pay HLT.out (by repeat (first | (with_reducible first | exact HB.out | apply below_alloc | apply pw_below_drewN | apply below_drew1) | exact HB.out))); rintro e w91 ⟨v292, rfl, ho0, hb⟩; refine ⟨_, rfl, ?_⟩; have n0_ := Aside0.mk (Kd.S_elder' (by (with_reducible repeat (first | apply Kd.S_alloc | apply Kd.S_drewN | apply Kd.S_drew)); exact HO288.out) (Kd.S_base ho0) hb); have n1_ := Aside0.mk (Kd.S_lower (Kd.S_new' ho0 (Kd.S_lt (by (with_reducible repeat (first | apply Kd.S_alloc | apply Kd.S_drewN | apply Kd.S_drew)); exact HO288.out))) (below_size (by repeat (first | (with_reducible first | exact HB.out | apply below_alloc | apply pw_below_drewN | apply below_drew1) | exact HB.out)))); have n2_ := Aside0.mk (below_step (by repeat (first | (with_reducible first | exact HB.out | apply below_alloc | apply pw_below_drewN | apply below_drew1) | exact HB.out)) hb); clear HO288; clear HB; have HO288 := n0_; have HO293 := n1_; have HB := n2_; clear n0_ n1_ n2_; (try clear hb); (try clear hb2); (try clear hk); (try clear hi); (try clear ho0)) | ((with_reducible refine gate_callee (f := 15) rfl ?_); refine goesL_ (some 52) rfl rfl Tryd.func15 (by kernel_rfl) rfl #[.string (a0 ++ a1)] rfl (by (try simp only [List.map_toArray, List.map_cons, List.map_nil]); first | done | rfl | (simp only [List.length_drop, List.length_take]; rfl)) ?_; (with_reducible refine (lrat_Parse.calls kj3 (a0 ++ a1) t294 t295 t296 _ A76.out ?sideT).mono ?_); (case sideT => exact LT.pay HLT.out (by repeat (first | (with_reducible first | exact HB.out | apply below_alloc | apply pw_below_drewN | apply below_drew1) | exact HB.out))); rintro e w92 ⟨v297, rfl, ho0, hb⟩; refine ⟨_, rfl, ?_⟩; have n0_ := Aside0.mk (Kd.S_elder' (by (with_reducible repeat (first | apply Kd.S_alloc | apply Kd.S_drewN | apply Kd.S_drew)); exact HO288.out) (Kd.S_base ho0) hb); have n1_ := Aside0.mk (Kd.S_elder' (by (with_reducible repeat (first | apply Kd.S_alloc | apply Kd.S_drewN | apply Kd.S_drew)); exact HO293.out) (Kd.S_base ho0) hb); have n2_ := Aside0.mk (Kd.S_lower (Kd.S_new' (Kd.S_new' ho0 (Kd.S_lt (by (with_reducible repeat (first | apply Kd.S_alloc | apply Kd.S_drewN | apply Kd.S_drew)); exact HO288.out))) (Kd.S_lt (by (with_reducible repeat (first | apply Kd.S_alloc | apply Kd.S_drewN | apply Kd.S_drew)); exact HO293.out))) (below_size (by repeat (first | (with_reducible first | exact HB.out | apply below_alloc | apply pw_below_drewN | apply below_drew1) | exact HB.out)))); have n3_ := Aside0.mk (below_step (by repeat (first | (with_reducible first | exact HB.out | apply below_alloc | apply pw_below_drewN | apply below_drew1) | exact HB.out)) hb); clear HO288; clear HO293; clear HB; have HO288 := n0_; have HO293 := n1_; have HO298 := n2_; have HB := n3_; clear n0_ n1_ n2_ n3_; (try clear hb); (try clear hb2); (try clear hk); (try clear hi); (try clear ho0); have p81 : 0 ≤ ((ji78) : Int) := of_decide_eq_true (by first | (with_reducible assumption) | assumption); have q81 : (ji78) < (a0.size : Int) := of_decide_eq_true (by first | (with_reducible assumption) | assumption); have hx81 := bt_at a0 (ji78); replace p81 := eq_true p81; replace q81 := eq_true q81))
                        go_ret
                        exact ⟨by first | rfl | (simp [errW_none, errW_some] <;> rfl) | (simp only [← hji78]; first | rfl | (simp [errW_none, errW_some] <;> rfl)) | (simp [*, errW_none, errW_some] <;> rfl), by repeat (first | (with_reducible first | exact HB.out | apply below_alloc | apply pw_below_drewN | apply below_drew1) | exact HB.out)⟩
                    · rw [if_neg c83] at H
                      have c83b0 : (t295 == t285) = false := beq_eq_false_iff_ne.mpr c83
                      have c83b1 : (t295 != t285) = true := bne_iff_ne.mpr c83
                      obtain rfl := Option.some.inj H
                      go_wp2_with (first | ((with_reducible refine gate_callee (f := 15) rfl ?_); refine goesL_ (some 36) rfl rfl Tryd.func15 (by kernel_rfl) rfl #[.string a0] rfl (by (try simp only [List.map_toArray, List.map_cons, List.map_nil]); first | done | rfl | (simp only [List.length_drop, List.length_take]; rfl)) ?_; (with_reducible refine (lrat_Parse.calls kj3 a0 t284 t285 t286 _ A9.out ?sideT).mono ?_); (case sideT => exact LT.pay HLT.out (by repeat (first | (with_reducible first | exact HB.out | apply below_alloc | apply pw_below_drewN | apply below_drew1) | exact HB.out))); rintro e w93 ⟨v287, rfl, ho0, hb⟩; refine ⟨_, rfl, ?_⟩; have n0_ := Aside0.mk (Kd.S_lower ho0 (below_size (by repeat (first | (with_reducible first | exact HB.out | apply below_alloc | apply pw_below_drewN | apply below_drew1) | exact HB.out)))); have n1_ := Aside0.mk (below_step (by repeat (first | (with_reducible first | exact HB.out | apply below_alloc | apply pw_below_drewN | apply below_drew1) | exact HB.out)) hb); clear HB; have HO288 := n0_; have HB := n1_; clear n0_ n1_; (try clear hb); (try clear hb2); (try clear hk); (try clear hi); (try clear ho0)) | ((with_reducible refine gate_callee (f := 15) rfl ?_); refine goesL_ (some 42) rfl rfl Tryd.func15 (by kernel_rfl) rfl #[.string a1] rfl (by (try simp only [List.map_toArray, List.map_cons, List.map_nil]); first | done | rfl | (simp only [List.length_drop, List.length_take]; rfl)) ?_; (with_reducible refine (lrat_Parse.calls kj3 a1 t289 t290 t291 _ A10.out ?sideT).mono ?_); (case sideT => exact LT.pay HLT.out (by repeat (first | (with_reducible first | exact HB.out | apply below_alloc | apply pw_below_drewN | apply below_drew1) | exact HB.out))); rintro e w94 ⟨v292, rfl, ho0, hb⟩; refine ⟨_, rfl, ?_⟩; have n0_ := Aside0.mk (Kd.S_elder' (by (with_reducible repeat (first | apply Kd.S_alloc | apply Kd.S_drewN | apply Kd.S_drew)); exact HO288.out) (Kd.S_base ho0) hb); have n1_ := Aside0.mk (Kd.S_lower (Kd.S_new' ho0 (Kd.S_lt (by (with_reducible repeat (first | apply Kd.S_alloc | apply Kd.S_drewN | apply Kd.S_drew)); exact HO288.out))) (below_size (by repeat (first | (with_reducible first | exact HB.out | apply below_alloc | apply pw_below_drewN | apply below_drew1) | exact HB.out)))); have n2_ := Aside0.mk (below_step (by repeat (first | (with_reducible first | exact HB.out | apply below_alloc | apply pw_below_drewN | apply below_drew1) | exact HB.out)) hb); clear HO288; clear HB; have HO288 := n0_; have HO293 := n1_; have HB := n2_; clear n0_ n1_ n2_; (try clear hb); (try clear hb2); (try clear hk); (try clear hi); (try clear ho0)) | ((with_reducible refine gate_callee (f := 15) rfl ?_); refine goesL_ (some 52) rfl rfl Tryd.func15 (by kernel_rfl) rfl #[.string (a0 ++ a1)] rfl (by (try simp only [List.map_toArray, List.map_cons, List.map_nil]); first | done | rfl | (simp only [List.length_drop, List.length_take]; rfl)) ?_; (with_reducible refine (lrat_Parse.calls kj3 (a0 ++ a1) t294 t295 t296 _ A76.out ?sideT).mono ?_); (case sideT => exact LT.pay HLT.out (by repeat (first | (with_reducible first | exact HB.out | apply below_alloc | apply pw_below_drewN | apply below_drew1) | exact HB.out))); rintro e w95 ⟨v297, rfl, ho0, hb⟩; refine ⟨_, rfl, ?_⟩; have n0_ := Aside0.mk (Kd.S_elder' (by (with_reducible repeat (first | apply Kd.S_alloc | apply Kd.S_drewN | apply Kd.S_drew)); exact HO288.out) (Kd.S_base ho0) hb); have n1_ := Aside0.mk (Kd.S_elder' (by (with_reducible repeat (first | apply Kd.S_alloc | apply Kd.S_drewN | apply Kd.S_drew)); exact HO293.out) (Kd.S_base ho0) hb); have n2_ := Aside0.mk (Kd.S_lower (Kd.S_new' (Kd.S_new' ho0 (Kd.S_lt (by (with_reducible repeat (first | apply Kd.S_alloc | apply Kd.S_drewN | apply Kd.S_drew)); exact HO288.out))) (Kd.S_lt (by (with_reducible repeat (first | apply Kd.S_alloc | apply Kd.S_drewN | apply Kd.S_drew)); exact HO293.out))) (below_size (by repeat (first | (with_reducible first | exact HB.out | apply below_alloc | apply pw_below_drewN | apply below_drew1) | exact HB.out)))); have n3_ := Aside0.mk (below_step (by repeat (first | (with_reducible first | exact HB.out | apply below_alloc | apply pw_below_drewN | apply below_drew1) | exact HB.out)) hb); clear HO288; clear HO293; clear HB; have HO288 := n0_; have HO293 := n1_; have HO298 := n2_; have HB := n3_; clear n0_ n1_ n2_ n3_; (try clear hb); (try clear hb2); (try clear hk); (try clear hi); (try clear ho0); have p81 : 0 ≤ ((ji78) : Int) := of_decide_eq_true (by first | (with_reducible assumption) | assumption); have q81 : (ji78) < (a0.size : Int) := of_decide_eq_true (by first | (with_reducible assumption) | assumption); have hx81 := bt_at a0 (ji78); replace p81 := eq_true p81; replace q81 := eq_true q81))
                      go_ret
                      exact ⟨by first | rfl | (simp [errW_none, errW_some] <;> rfl) | (simp only [← hji78]; first | rfl | (simp [errW_none, errW_some] <;> rfl)) | (simp [*, errW_none, errW_some] <;> rfl), by repeat (first | (with_reducible first | exact HB.out | apply below_alloc | apply pw_below_drewN | apply below_drew1) | exact HB.out)⟩
                  · rw [if_neg c82] at H
                    have c82b0 : ((bt a0 (ji78)) == 10) = false := beq_eq_false_iff_ne.mpr c82
                    have c82b1 : ((bt a0 (ji78)) != 10) = true := bne_iff_ne.mpr c82
                    replace H := Option.bind_eq_some_iff.mp H
                    obtain ⟨t300, A960, H⟩ := H
                    replace H : (some t300) = some r := H
                    have A96 := Aside0.mk A960
                    clear A960
                    obtain rfl := Option.some.inj H
                    go_wp2_with (first | ((with_reducible refine gate_callee (f := 15) rfl ?_); refine goesL_ (some 36) rfl rfl Tryd.func15 (by kernel_rfl) rfl #[.string a0] rfl (by (try simp only [List.map_toArray, List.map_cons, List.map_nil]); first | done | rfl | (simp only [List.length_drop, List.length_take]; rfl)) ?_; (with_reducible refine (lrat_Parse.calls kj3 a0 t284 t285 t286 _ A9.out ?sideT).mono ?_); (case sideT => exact LT.pay HLT.out (by repeat (first | (with_reducible first | exact HB.out | apply below_alloc | apply pw_below_drewN | apply below_drew1) | exact HB.out))); rintro e w97 ⟨v287, rfl, ho0, hb⟩; refine ⟨_, rfl, ?_⟩; have n0_ := Aside0.mk (Kd.S_lower ho0 (below_size (by repeat (first | (with_reducible first | exact HB.out | apply below_alloc | apply pw_below_drewN | apply below_drew1) | exact HB.out)))); have n1_ := Aside0.mk (below_step (by repeat (first | (with_reducible first | exact HB.out | apply below_alloc | apply pw_below_drewN | apply below_drew1) | exact HB.out)) hb); clear HB; have HO288 := n0_; have HB := n1_; clear n0_ n1_; (try clear hb); (try clear hb2); (try clear hk); (try clear hi); (try clear ho0)) | ((with_reducible refine gate_callee (f := 15) rfl ?_); refine goesL_ (some 42) rfl rfl Tryd.func15 (by kernel_rfl) rfl #[.string a1] rfl (by (try simp only [List.map_toArray, List.map_cons, List.map_nil]); first | done | rfl | (simp only [List.length_drop, List.length_take]; rfl)) ?_; (with_reducible refine (lrat_Parse.calls kj3 a1 t289 t290 t291 _ A10.out ?sideT).mono ?_); (case sideT => exact LT.pay HLT.out (by repeat (first | (with_reducible first | exact HB.out | apply below_alloc | apply pw_below_drewN | apply below_drew1) | exact HB.out))); rintro e w98 ⟨v292, rfl, ho0, hb⟩; refine ⟨_, rfl, ?_⟩; have n0_ := Aside0.mk (Kd.S_elder' (by (with_reducible repeat (first | apply Kd.S_alloc | apply Kd.S_drewN | apply Kd.S_drew)); exact HO288.out) (Kd.S_base ho0) hb); have n1_ := Aside0.mk (Kd.S_lower (Kd.S_new' ho0 (Kd.S_lt (by (with_reducible repeat (first | apply Kd.S_alloc | apply Kd.S_drewN | apply Kd.S_drew)); exact HO288.out))) (below_size (by repeat (first | (with_reducible first | exact HB.out | apply below_alloc | apply pw_below_drewN | apply below_drew1) | exact HB.out)))); have n2_ := Aside0.mk (below_step (by repeat (first | (with_reducible first | exact HB.out | apply below_alloc | apply pw_below_drewN | apply below_drew1) | exact HB.out)) hb); clear HO288; clear HB; have HO288 := n0_; have HO293 := n1_; have HB := n2_; clear n0_ n1_ n2_; (try clear hb); (try clear hb2); (try clear hk); (try clear hi); (try clear ho0)) | ((with_reducible refine gate_callee (f := 15) rfl ?_); refine goesL_ (some 52) rfl rfl Tryd.func15 (by kernel_rfl) rfl #[.string (a0 ++ a1)] rfl (by (try simp only [List.map_toArray, List.map_cons, List.map_nil]); first | done | rfl | (simp only [List.length_drop, List.length_take]; rfl)) ?_; (with_reducible refine (lrat_Parse.calls kj3 (a0 ++ a1) t294 t295 t296 _ A76.out ?sideT).mono ?_); (case sideT => exact LT.pay HLT.out (by repeat (first | (with_reducible first | exact HB.out | apply below_alloc | apply pw_below_drewN | apply below_drew1) | exact HB.out))); rintro e w99 ⟨v297, rfl, ho0, hb⟩; refine ⟨_, rfl, ?_⟩; have n0_ := Aside0.mk (Kd.S_elder' (by (with_reducible repeat (first | apply Kd.S_alloc | apply Kd.S_drewN | apply Kd.S_drew)); exact HO288.out) (Kd.S_base ho0) hb); have n1_ := Aside0.mk (Kd.S_elder' (by (with_reducible repeat (first | apply Kd.S_alloc | apply Kd.S_drewN | apply Kd.S_drew)); exact HO293.out) (Kd.S_base ho0) hb); have n2_ := Aside0.mk (Kd.S_lower (Kd.S_new' (Kd.S_new' ho0 (Kd.S_lt (by (with_reducible repeat (first | apply Kd.S_alloc | apply Kd.S_drewN | apply Kd.S_drew)); exact HO288.out))) (Kd.S_lt (by (with_reducible repeat (first | apply Kd.S_alloc | apply Kd.S_drewN | apply Kd.S_drew)); exact HO293.out))) (below_size (by repeat (first | (with_reducible first | exact HB.out | apply below_alloc | apply pw_below_drewN | apply below_drew1) | exact HB.out)))); have n3_ := Aside0.mk (below_step (by repeat (first | (with_reducible first | exact HB.out | apply below_alloc | apply pw_below_drewN | apply below_drew1) | exact HB.out)) hb); clear HO288; clear HO293; clear HB; have HO288 := n0_; have HO293 := n1_; have HO298 := n2_; have HB := n3_; clear n0_ n1_ n2_ n3_; (try clear hb); (try clear hb2); (try clear hk); (try clear hi); (try clear ho0); have p81 : 0 ≤ ((ji78) : Int) := of_decide_eq_true (by first | (with_reducible assumption) | assumption); have q81 : (ji78) < (a0.size : Int) := of_decide_eq_true (by first | (with_reducible assumption) | assumption); have hx81 := bt_at a0 (ji78); replace p81 := eq_true p81; replace q81 := eq_true q81) | (go_at_call 10; (with_reducible refine (threshinglaw04_works.calls kj3  t300 _ A96.out ?sideT).mono ?_); (case sideT => exact LT.pay HLT.out (by repeat (first | (with_reducible first | exact HB.out | apply below_alloc | apply pw_below_drewN | apply below_drew1) | exact HB.out))); rintro e w100 ⟨rfl, hb⟩; have n0_ := Aside0.mk (Kd.S_below (by (with_reducible repeat (first | apply Kd.S_alloc | apply Kd.S_drewN | apply Kd.S_drew)); exact HO288.out) hb); have n1_ := Aside0.mk (Kd.S_below (by (with_reducible repeat (first | apply Kd.S_alloc | apply Kd.S_drewN | apply Kd.S_drew)); exact HO293.out) hb); have n2_ := Aside0.mk (Kd.S_below (by (with_reducible repeat (first | apply Kd.S_alloc | apply Kd.S_drewN | apply Kd.S_drew)); exact HO298.out) hb); have n3_ := Aside0.mk (below_step (by repeat (first | (with_reducible first | exact HB.out | apply below_alloc | apply pw_below_drewN | apply below_drew1) | exact HB.out)) hb); clear HO288; clear HO293; clear HO298; clear HB; have HO288 := n0_; have HO293 := n1_; have HO298 := n2_; have HB := n3_; clear n0_ n1_ n2_ n3_; (try clear hb); (try clear hb2); (try clear hk); (try clear hi)))
                    go_ret
                    exact ⟨by first | rfl | (simp [errW_none, errW_some] <;> rfl) | (simp only [← hji78]; first | rfl | (simp [errW_none, errW_some] <;> rfl)) | (simp [*, errW_none, errW_some] <;> rfl), by repeat (first | (with_reducible first | exact HB.out | apply below_alloc | apply pw_below_drewN | apply below_drew1) | exact HB.out)⟩
                · rw [if_neg c80] at H
                  exact absurd H (by simp)
              · rw [if_neg c79] at H
                exact absurd H (by simp)
            · rw [if_neg c77] at H
              have c77b0 : decide (0 < (a0.size : Int)) = false := decide_eq_false c77
              have c77b1 : decide (0 < a0.size) = false := decide_eq_false (by omega)
              clear c77
              by_cases c101 : t295 = t285
              · rw [if_pos c101] at H
                have c101b0 : (t295 == t285) = true := beq_iff_eq.mpr c101
                have c101b1 : (t295 != t285) = false := bne_eq_false_iff_eq.mpr c101
                clear c101
                by_cases c102 : t296 = t286
                · rw [if_pos c102] at H
                  have c102b0 : (t296 == t286) = true := beq_iff_eq.mpr c102
                  have c102b1 : (t296 != t286) = false := bne_eq_false_iff_eq.mpr c102
                  clear c102
                  replace H := Option.bind_eq_some_iff.mp H
                  obtain ⟨t301, A1030, H⟩ := H
                  replace H : (some t301) = some r := H
                  have A103 := Aside0.mk A1030
                  clear A1030
                  obtain rfl := Option.some.inj H
                  go_wp2_with (first | ((with_reducible refine gate_callee (f := 15) rfl ?_); refine goesL_ (some 36) rfl rfl Tryd.func15 (by kernel_rfl) rfl #[.string a0] rfl (by (try simp only [List.map_toArray, List.map_cons, List.map_nil]); first | done | rfl | (simp only [List.length_drop, List.length_take]; rfl)) ?_; (with_reducible refine (lrat_Parse.calls kj3 a0 t284 t285 t286 _ A9.out ?sideT).mono ?_); (case sideT => exact LT.pay HLT.out (by repeat (first | (with_reducible first | exact HB.out | apply below_alloc | apply pw_below_drewN | apply below_drew1) | exact HB.out))); rintro e w104 ⟨v287, rfl, ho0, hb⟩; refine ⟨_, rfl, ?_⟩; have n0_ := Aside0.mk (Kd.S_lower ho0 (below_size (by repeat (first | (with_reducible first | exact HB.out | apply below_alloc | apply pw_below_drewN | apply below_drew1) | exact HB.out)))); have n1_ := Aside0.mk (below_step (by repeat (first | (with_reducible first | exact HB.out | apply below_alloc | apply pw_below_drewN | apply below_drew1) | exact HB.out)) hb); clear HB; have HO288 := n0_; have HB := n1_; clear n0_ n1_; (try clear hb); (try clear hb2); (try clear hk); (try clear hi); (try clear ho0)) | ((with_reducible refine gate_callee (f := 15) rfl ?_); refine goesL_ (some 42) rfl rfl Tryd.func15 (by kernel_rfl) rfl #[.string a1] rfl (by (try simp only [List.map_toArray, List.map_cons, List.map_nil]); first | done | rfl | (simp only [List.length_drop, List.length_take]; rfl)) ?_; (with_reducible refine (lrat_Parse.calls kj3 a1 t289 t290 t291 _ A10.out ?sideT).mono ?_); (case sideT => exact LT.pay HLT.out (by repeat (first | (with_reducible first | exact HB.out | apply below_alloc | apply pw_below_drewN | apply below_drew1) | exact HB.out))); rintro e w105 ⟨v292, rfl, ho0, hb⟩; refine ⟨_, rfl, ?_⟩; have n0_ := Aside0.mk (Kd.S_elder' (by (with_reducible repeat (first | apply Kd.S_alloc | apply Kd.S_drewN | apply Kd.S_drew)); exact HO288.out) (Kd.S_base ho0) hb); have n1_ := Aside0.mk (Kd.S_lower (Kd.S_new' ho0 (Kd.S_lt (by (with_reducible repeat (first | apply Kd.S_alloc | apply Kd.S_drewN | apply Kd.S_drew)); exact HO288.out))) (below_size (by repeat (first | (with_reducible first | exact HB.out | apply below_alloc | apply pw_below_drewN | apply below_drew1) | exact HB.out)))); have n2_ := Aside0.mk (below_step (by repeat (first | (with_reducible first | exact HB.out | apply below_alloc | apply pw_below_drewN | apply below_drew1) | exact HB.out)) hb); clear HO288; clear HB; have HO288 := n0_; have HO293 := n1_; have HB := n2_; clear n0_ n1_ n2_; (try clear hb); (try clear hb2); (try clear hk); (try clear hi); (try clear ho0)) | ((with_reducible refine gate_callee (f := 15) rfl ?_); refine goesL_ (some 52) rfl rfl Tryd.func15 (by kernel_rfl) rfl #[.string (a0 ++ a1)] rfl (by (try simp only [List.map_toArray, List.map_cons, List.map_nil]); first | done | rfl | (simp only [List.length_drop, List.length_take]; rfl)) ?_; (with_reducible refine (lrat_Parse.calls kj3 (a0 ++ a1) t294 t295 t296 _ A76.out ?sideT).mono ?_); (case sideT => exact LT.pay HLT.out (by repeat (first | (with_reducible first | exact HB.out | apply below_alloc | apply pw_below_drewN | apply below_drew1) | exact HB.out))); rintro e w106 ⟨v297, rfl, ho0, hb⟩; refine ⟨_, rfl, ?_⟩; have n0_ := Aside0.mk (Kd.S_elder' (by (with_reducible repeat (first | apply Kd.S_alloc | apply Kd.S_drewN | apply Kd.S_drew)); exact HO288.out) (Kd.S_base ho0) hb); have n1_ := Aside0.mk (Kd.S_elder' (by (with_reducible repeat (first | apply Kd.S_alloc | apply Kd.S_drewN | apply Kd.S_drew)); exact HO293.out) (Kd.S_base ho0) hb); have n2_ := Aside0.mk (Kd.S_lower (Kd.S_new' (Kd.S_new' ho0 (Kd.S_lt (by (with_reducible repeat (first | apply Kd.S_alloc | apply Kd.S_drewN | apply Kd.S_drew)); exact HO288.out))) (Kd.S_lt (by (with_reducible repeat (first | apply Kd.S_alloc | apply Kd.S_drewN | apply Kd.S_drew)); exact HO293.out))) (below_size (by repeat (first | (with_reducible first | exact HB.out | apply below_alloc | apply pw_below_drewN | apply below_drew1) | exact HB.out)))); have n3_ := Aside0.mk (below_step (by repeat (first | (with_reducible first | exact HB.out | apply below_alloc | apply pw_below_drewN | apply below_drew1) | exact HB.out)) hb); clear HO288; clear HO293; clear HB; have HO288 := n0_; have HO293 := n1_; have HO298 := n2_; have HB := n3_; clear n0_ n1_ n2_ n3_; (try clear hb); (try clear hb2); (try clear hk); (try clear hi); (try clear ho0)) | (go_at_call 10; (with_reducible refine (threshinglaw04_works.calls kj3  t301 _ A103.out ?sideT).mono ?_); (case sideT => exact LT.pay HLT.out (by repeat (first | (with_reducible first | exact HB.out | apply below_alloc | apply pw_below_drewN | apply below_drew1) | exact HB.out))); rintro e w107 ⟨rfl, hb⟩; have n0_ := Aside0.mk (Kd.S_below (by (with_reducible repeat (first | apply Kd.S_alloc | apply Kd.S_drewN | apply Kd.S_drew)); exact HO288.out) hb); have n1_ := Aside0.mk (Kd.S_below (by (with_reducible repeat (first | apply Kd.S_alloc | apply Kd.S_drewN | apply Kd.S_drew)); exact HO293.out) hb); have n2_ := Aside0.mk (Kd.S_below (by (with_reducible repeat (first | apply Kd.S_alloc | apply Kd.S_drewN | apply Kd.S_drew)); exact HO298.out) hb); have n3_ := Aside0.mk (below_step (by repeat (first | (with_reducible first | exact HB.out | apply below_alloc | apply pw_below_drewN | apply below_drew1) | exact HB.out)) hb); clear HO288; clear HO293; clear HO298; clear HB; have HO288 := n0_; have HO293 := n1_; have HO298 := n2_; have HB := n3_; clear n0_ n1_ n2_ n3_; (try clear hb); (try clear hb2); (try clear hk); (try clear hi)))
                  go_ret
                  exact ⟨by first | rfl | (simp [errW_none, errW_some] <;> rfl) | (simp [*, errW_none, errW_some] <;> rfl), by repeat (first | (with_reducible first | exact HB.out | apply below_alloc | apply pw_below_drewN | apply below_drew1) | exact HB.out)⟩
                · rw [if_neg c102] at H
                  have c102b0 : (t296 == t286) = false := beq_eq_false_iff_ne.mpr c102
                  have c102b1 : (t296 != t286) = true := bne_iff_ne.mpr c102
                  obtain rfl := Option.some.inj H
                  go_wp2_with (first | ((with_reducible refine gate_callee (f := 15) rfl ?_); refine goesL_ (some 36) rfl rfl Tryd.func15 (by kernel_rfl) rfl #[.string a0] rfl (by (try simp only [List.map_toArray, List.map_cons, List.map_nil]); first | done | rfl | (simp only [List.length_drop, List.length_take]; rfl)) ?_; (with_reducible refine (lrat_Parse.calls kj3 a0 t284 t285 t286 _ A9.out ?sideT).mono ?_); (case sideT => exact LT.pay HLT.out (by repeat (first | (with_reducible first | exact HB.out | apply below_alloc | apply pw_below_drewN | apply below_drew1) | exact HB.out))); rintro e w108 ⟨v287, rfl, ho0, hb⟩; refine ⟨_, rfl, ?_⟩; have n0_ := Aside0.mk (Kd.S_lower ho0 (below_size (by repeat (first | (with_reducible first | exact HB.out | apply below_alloc | apply pw_below_drewN | apply below_drew1) | exact HB.out)))); have n1_ := Aside0.mk (below_step (by repeat (first | (with_reducible first | exact HB.out | apply below_alloc | apply pw_below_drewN | apply below_drew1) | exact HB.out)) hb); clear HB; have HO288 := n0_; have HB := n1_; clear n0_ n1_; (try clear hb); (try clear hb2); (try clear hk); (try clear hi); (try clear ho0)) | ((with_reducible refine gate_callee (f := 15) rfl ?_); refine goesL_ (some 42) rfl rfl Tryd.func15 (by kernel_rfl) rfl #[.string a1] rfl (by (try simp only [List.map_toArray, List.map_cons, List.map_nil]); first | done | rfl | (simp only [List.length_drop, List.length_take]; rfl)) ?_; (with_reducible refine (lrat_Parse.calls kj3 a1 t289 t290 t291 _ A10.out ?sideT).mono ?_); (case sideT => exact LT.pay HLT.out (by repeat (first | (with_reducible first | exact HB.out | apply below_alloc | apply pw_below_drewN | apply below_drew1) | exact HB.out))); rintro e w109 ⟨v292, rfl, ho0, hb⟩; refine ⟨_, rfl, ?_⟩; have n0_ := Aside0.mk (Kd.S_elder' (by (with_reducible repeat (first | apply Kd.S_alloc | apply Kd.S_drewN | apply Kd.S_drew)); exact HO288.out) (Kd.S_base ho0) hb); have n1_ := Aside0.mk (Kd.S_lower (Kd.S_new' ho0 (Kd.S_lt (by (with_reducible repeat (first | apply Kd.S_alloc | apply Kd.S_drewN | apply Kd.S_drew)); exact HO288.out))) (below_size (by repeat (first | (with_reducible first | exact HB.out | apply below_alloc | apply pw_below_drewN | apply below_drew1) | exact HB.out)))); have n2_ := Aside0.mk (below_step (by repeat (first | (with_reducible first | exact HB.out | apply below_alloc | apply pw_below_drewN | apply below_drew1) | exact HB.out)) hb); clear HO288; clear HB; have HO288 := n0_; have HO293 := n1_; have HB := n2_; clear n0_ n1_ n2_; (try clear hb); (try clear hb2); (try clear hk); (try clear hi); (try clear ho0)) | ((with_reducible refine gate_callee (f := 15) rfl ?_); refine goesL_ (some 52) rfl rfl Tryd.func15 (by kernel_rfl) rfl #[.string (a0 ++ a1)] rfl (by (try simp only [List.map_toArray, List.map_cons, List.map_nil]); first | done | rfl | (simp only [List.length_drop, List.length_take]; rfl)) ?_; (with_reducible refine (lrat_Parse.calls kj3 (a0 ++ a1) t294 t295 t296 _ A76.out ?sideT).mono ?_); (case sideT => exact LT.pay HLT.out (by repeat (first | (with_reducible first | exact HB.out | apply below_alloc | apply pw_below_drewN | apply below_drew1) | exact HB.out))); rintro e w110 ⟨v297, rfl, ho0, hb⟩; refine ⟨_, rfl, ?_⟩; have n0_ := Aside0.mk (Kd.S_elder' (by (with_reducible repeat (first | apply Kd.S_alloc | apply Kd.S_drewN | apply Kd.S_drew)); exact HO288.out) (Kd.S_base ho0) hb); have n1_ := Aside0.mk (Kd.S_elder' (by (with_reducible repeat (first | apply Kd.S_alloc | apply Kd.S_drewN | apply Kd.S_drew)); exact HO293.out) (Kd.S_base ho0) hb); have n2_ := Aside0.mk (Kd.S_lower (Kd.S_new' (Kd.S_new' ho0 (Kd.S_lt (by (with_reducible repeat (first | apply Kd.S_alloc | apply Kd.S_drewN | apply Kd.S_drew)); exact HO288.out))) (Kd.S_lt (by (with_reducible repeat (first | apply Kd.S_alloc | apply Kd.S_drewN | apply Kd.S_drew)); exact HO293.out))) (below_size (by repeat (first | (with_reducible first | exact HB.out | apply below_alloc | apply pw_below_drewN | apply below_drew1) | exact HB.out)))); have n3_ := Aside0.mk (below_step (by repeat (first | (with_reducible first | exact HB.out | apply below_alloc | apply pw_below_drewN | apply below_drew1) | exact HB.out)) hb); clear HO288; clear HO293; clear HB; have HO288 := n0_; have HO293 := n1_; have HO298 := n2_; have HB := n3_; clear n0_ n1_ n2_ n3_; (try clear hb); (try clear hb2); (try clear hk); (try clear hi); (try clear ho0)))
                  go_ret
                  exact ⟨by first | rfl | (simp [errW_none, errW_some] <;> rfl) | (simp [*, errW_none, errW_some] <;> rfl), by repeat (first | (with_reducible first | exact HB.out | apply below_alloc | apply pw_below_drewN | apply below_drew1) | exact HB.out)⟩
              · rw [if_neg c101] at H
                have c101b0 : (t295 == t285) = false := beq_eq_false_iff_ne.mpr c101
                have c101b1 : (t295 != t285) = true := bne_iff_ne.mpr c101
                obtain rfl := Option.some.inj H
                go_wp2_with (first | ((with_reducible refine gate_callee (f := 15) rfl ?_); refine goesL_ (some 36) rfl rfl Tryd.func15 (by kernel_rfl) rfl #[.string a0] rfl (by (try simp only [List.map_toArray, List.map_cons, List.map_nil]); first | done | rfl | (simp only [List.length_drop, List.length_take]; rfl)) ?_; (with_reducible refine (lrat_Parse.calls kj3 a0 t284 t285 t286 _ A9.out ?sideT).mono ?_); (case sideT => exact LT.pay HLT.out (by repeat (first | (with_reducible first | exact HB.out | apply below_alloc | apply pw_below_drewN | apply below_drew1) | exact HB.out))); rintro e w111 ⟨v287, rfl, ho0, hb⟩; refine ⟨_, rfl, ?_⟩; have n0_ := Aside0.mk (Kd.S_lower ho0 (below_size (by repeat (first | (with_reducible first | exact HB.out | apply below_alloc | apply pw_below_drewN | apply below_drew1) | exact HB.out)))); have n1_ := Aside0.mk (below_step (by repeat (first | (with_reducible first | exact HB.out | apply below_alloc | apply pw_below_drewN | apply below_drew1) | exact HB.out)) hb); clear HB; have HO288 := n0_; have HB := n1_; clear n0_ n1_; (try clear hb); (try clear hb2); (try clear hk); (try clear hi); (try clear ho0)) | ((with_reducible refine gate_callee (f := 15) rfl ?_); refine goesL_ (some 42) rfl rfl Tryd.func15 (by kernel_rfl) rfl #[.string a1] rfl (by (try simp only [List.map_toArray, List.map_cons, List.map_nil]); first | done | rfl | (simp only [List.length_drop, List.length_take]; rfl)) ?_; (with_reducible refine (lrat_Parse.calls kj3 a1 t289 t290 t291 _ A10.out ?sideT).mono ?_); (case sideT => exact LT.pay HLT.out (by repeat (first | (with_reducible first | exact HB.out | apply below_alloc | apply pw_below_drewN | apply below_drew1) | exact HB.out))); rintro e w112 ⟨v292, rfl, ho0, hb⟩; refine ⟨_, rfl, ?_⟩; have n0_ := Aside0.mk (Kd.S_elder' (by (with_reducible repeat (first | apply Kd.S_alloc | apply Kd.S_drewN | apply Kd.S_drew)); exact HO288.out) (Kd.S_base ho0) hb); have n1_ := Aside0.mk (Kd.S_lower (Kd.S_new' ho0 (Kd.S_lt (by (with_reducible repeat (first | apply Kd.S_alloc | apply Kd.S_drewN | apply Kd.S_drew)); exact HO288.out))) (below_size (by repeat (first | (with_reducible first | exact HB.out | apply below_alloc | apply pw_below_drewN | apply below_drew1) | exact HB.out)))); have n2_ := Aside0.mk (below_step (by repeat (first | (with_reducible first | exact HB.out | apply below_alloc | apply pw_below_drewN | apply below_drew1) | exact HB.out)) hb); clear HO288; clear HB; have HO288 := n0_; have HO293 := n1_; have HB := n2_; clear n0_ n1_ n2_; (try clear hb); (try clear hb2); (try clear hk); (try clear hi); (try clear ho0)) | ((with_reducible refine gate_callee (f := 15) rfl ?_); refine goesL_ (some 52) rfl rfl Tryd.func15 (by kernel_rfl) rfl #[.string (a0 ++ a1)] rfl (by (try simp only [List.map_toArray, List.map_cons, List.map_nil]); first | done | rfl | (simp only [List.length_drop, List.length_take]; rfl)) ?_; (with_reducible refine (lrat_Parse.calls kj3 (a0 ++ a1) t294 t295 t296 _ A76.out ?sideT).mono ?_); (case sideT => exact LT.pay HLT.out (by repeat (first | (with_reducible first | exact HB.out | apply below_alloc | apply pw_below_drewN | apply below_drew1) | exact HB.out))); rintro e w113 ⟨v297, rfl, ho0, hb⟩; refine ⟨_, rfl, ?_⟩; have n0_ := Aside0.mk (Kd.S_elder' (by (with_reducible repeat (first | apply Kd.S_alloc | apply Kd.S_drewN | apply Kd.S_drew)); exact HO288.out) (Kd.S_base ho0) hb); have n1_ := Aside0.mk (Kd.S_elder' (by (with_reducible repeat (first | apply Kd.S_alloc | apply Kd.S_drewN | apply Kd.S_drew)); exact HO293.out) (Kd.S_base ho0) hb); have n2_ := Aside0.mk (Kd.S_lower (Kd.S_new' (Kd.S_new' ho0 (Kd.S_lt (by (with_reducible repeat (first | apply Kd.S_alloc | apply Kd.S_drewN | apply Kd.S_drew)); exact HO288.out))) (Kd.S_lt (by (with_reducible repeat (first | apply Kd.S_alloc | apply Kd.S_drewN | apply Kd.S_drew)); exact HO293.out))) (below_size (by repeat (first | (with_reducible first | exact HB.out | apply below_alloc | apply pw_below_drewN | apply below_drew1) | exact HB.out)))); have n3_ := Aside0.mk (below_step (by repeat (first | (with_reducible first | exact HB.out | apply below_alloc | apply pw_below_drewN | apply below_drew1) | exact HB.out)) hb); clear HO288; clear HO293; clear HB; have HO288 := n0_; have HO293 := n1_; have HO298 := n2_; have HB := n3_; clear n0_ n1_ n2_ n3_; (try clear hb); (try clear hb2); (try clear hk); (try clear hi); (try clear ho0)))
                go_ret
                exact ⟨by first | rfl | (simp [errW_none, errW_some] <;> rfl) | (simp [*, errW_none, errW_some] <;> rfl), by repeat (first | (with_reducible first | exact HB.out | apply below_alloc | apply pw_below_drewN | apply below_drew1) | exact HB.out)⟩
          · rw [if_neg c75] at H
            exact absurd H (by simp)

/-- THE ONE PURE STATEMENT of threshinglaw04_LratRows: yours. -/
def threshinglaw04_LratRows.Pure : Prop := ∀ (a0 : ByteArray) (a1 : ByteArray) (a2 : Int), a0.size ≤ 140737488351232 → a1.size ≤ 140737488351232 → (Lit.int .i64 a2).wf = true → ∃ k, threshinglaw04_LratRows.f k a0 a1 a2 = some true
theorem threshinglaw04_LratRows.walk (P : threshinglaw04_LratRows.Pure) (a0 : ByteArray) (a1 : ByteArray) (a2 : Int) (w : World) (w0 : a0.size ≤ 140737488351232) (w1 : a1.size ≤ 140737488351232) (w2 : (Lit.int .i64 a2).wf = true) (hlt : LT w.heap.size w) :
    Calls Tryd.prog 6 #[.string a0, .string a1, .int .i64 a2] w fun e w' => e = .returned (.bool true) ∧ Below w.heap.size w w' := by
  obtain ⟨k, h⟩ := P a0 a1 a2 w0 w1 w2
  refine (threshinglaw04_LratRows.calls k a0 a1 a2 true w h hlt).mono ?_
  rintro e w' ⟨rfl, hd⟩
  exact ⟨rfl, hd⟩

end Go.Proofs.YtfjnkbkcoakooaaDoor.PB
