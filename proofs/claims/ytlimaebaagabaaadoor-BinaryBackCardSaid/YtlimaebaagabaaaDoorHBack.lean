import Derived.Test.YtlimaebaagabaaaDoorHLrat
import Derived.Test.YtlimaebaagabaaaDoorPSize
import Derived.Test.YtlimaebaagabaaaDoorHBinaryParse
import Derived.Test.YtlimaebaagabaaaDoorHBinaryWrite
namespace Go.Proofs.YtlimaebaagabaaaDoor.PB
open Go.RowKit Go.Proofs.YtlimaebaagabaaaDoorW.PrintWords Go.Proofs.YtlimaebaagabaaaDoorW.PrintLast Go.Proofs.YtlimaebaagabaaaDoorW.PrintMore
attribute [local go_sem] max2_int min2_int max_two min_two max_three min_three max_four min_four
set_option linter.unusedVariables false
set_option linter.unusedSimpArgs false
/-- The steps told are few. -/
theorem Bparse_few (l0 : List Int) (hB : Bytes l0) (m : List S43) (p : Int) (h : Bparse l0 = (m, 0, p)) : p = 0 ∧ m.length + Btot m ≤ l0.length ∧ (m.all Bmay = true ∧ Bsteps m = l0) := by
  obtain ⟨l, r, hbs, hmay, hr⟩ := Bsplit l0.length l0 (Nat.le_refl _) hB
  have htl := Bsteps_tot l hmay
  rcases hr with hr | ⟨hr, hbad⟩
  · subst hr
    rw [List.append_nil] at hbs
    rw [hbs, Bparse_ok l hmay] at h
    simp only [Prod.mk.injEq] at h
    obtain ⟨rfl, _, rfl⟩ := h
    exact ⟨rfl, by rw [hbs]; exact htl, List.all_eq_true.2 hmay, hbs.symm⟩
  · rw [hbs, Bparse_bad l r hmay hr hbad] at h
    simp at h
theorem Bparse_kinds (l0 : List Int) (hB : Bytes l0) : (∃ m, Bparse l0 = (m, 0, 0)) ∨ ∃ p : Int, Bparse l0 = ([], 50, p) ∧ 0 ≤ p ∧ p < l0.length := by
  obtain ⟨l, r, hbs, hmay, hr⟩ := Bsplit l0.length l0 (Nat.le_refl _) hB
  rcases hr with hr | ⟨hr, hbad⟩
  · subst hr
    rw [List.append_nil] at hbs
    exact .inl ⟨l, by rw [hbs]; exact Bparse_ok l hmay⟩
  · refine .inr ⟨((Bsteps l).length : Int), by rw [hbs]; exact Bparse_bad l r hmay hr hbad, by omega, ?_⟩
    have h1 := congrArg List.length hbs
    have h2 : 0 < r.length := by cases r with | nil => exact absurd rfl hr | cons a r => simp
    rw [List.length_append] at h1
    omega
theorem _root_.Go.Lib.TabBelow.up {P : Program} {B B' : Nat} {w : World} {name : String} {k : IntKind} {zs : List Int} (h : Lib.TabBelow P B w name k zs) (hb : B ≤ B') : Lib.TabBelow P B' w name k zs := fun w' h' => h w' (h'.mono hb)
set_option maxHeartbeats 2000000 in
set_option maxRecDepth 100000 in
theorem back_calls (A0 A1 : Option Addr) (c0 c1 : Nat) (l0 : List S43) (l1 : List Int) (w : World) (hr0 : Kd.C k43 w A0 l0.length l0) (hc0 : l0.length ≤ c0) (hr1 : Kd.C (Kd.int .u8) w A1 l1.length l1) (hc1 : l1.length ≤ c1) (hB1 : Bytes l1) (htab : Pow10 w.heap.size w) :
    Calls Tryd.prog 3 #[.slice A0 l0.length c0, .slice A1 l1.length c1] w fun e w' => e = .returned (.bool true) ∧ Below w.heap.size w w' := by
  have HR0 := Aside0.mk hr0
  have HC0 := Aside0.mk hc0
  have HR1 := Aside0.mk hr1
  have HC1 := Aside0.mk hc1
  have HTAB := Aside0.mk htab
  have HB := Aside0.mk (Below.refl w.heap.size w)
  have hBB1 := Aside0.mk hB1
  have hm0 : l0.length ≤ 9223372036854775807 := hr0.2.1
  have hm1 : l1.length ≤ 9223372036854775807 := hr1.2.1
  clear hr0 hc0 hr1 hc1 hB1 htab
  obtain ⟨sz, hsz, hsmall⟩ := size_ev l0 hm0
  obtain ⟨ks, hks⟩ := hsz.rounds
  have HSZ := Aside0.mk hks
  clear hks hsz
  by_cases h0 : 6000 < sz
  · clear hsmall
    go_enter Tryd.func3, Tryd.ntmps3
    go_wp2_with (first | (go_at_call 4; refine (threshingref04_Size.calls ks A0 c0 l0 6000 sz _ HR0.out HC0.out HSZ.out).mono ?_; rintro e w2 ⟨rfl, hb⟩; have HB2 := Aside0.mk (below_step HB.out hb); clear hb) | (go_at_call 5; refine (threshinglaw05_works.calls 0 true _ (works_f 0)).mono ?_; rintro e w3 ⟨rfl, hb⟩; have HB3 := Aside0.mk (below_step HB2.out hb); clear hb))
    go_ret
    exact ⟨rfl, HB3.out⟩
  have hsm := Aside0.mk (hsmall (by omega))
  clear hsmall
  by_cases h1 : 6000 < l1.length
  · have h1' : decide (6000 < l1.length) = true := decide_eq_true h1
    have h1'' : decide ((6000 : Int) < (l1.length : Int)) = true := decide_eq_true (by omega)
    go_enter Tryd.func3, Tryd.ntmps3
    go_wp2_with (first | (go_at_call 4; refine (threshingref04_Size.calls ks A0 c0 l0 6000 sz _ HR0.out HC0.out HSZ.out).mono ?_; rintro e w2 ⟨rfl, hb⟩; have HB2 := Aside0.mk (below_step HB.out hb); clear hb) | (go_at_call 5; refine (threshinglaw05_works.calls 0 true _ (works_f 0)).mono ?_; rintro e w3 ⟨rfl, hb⟩; have HB3 := Aside0.mk (below_step HB2.out hb); clear hb))
    go_ret
    exact ⟨rfl, HB3.out⟩
  have h1' : decide (6000 < l1.length) = false := decide_eq_false h1
  have h1'' : decide ((6000 : Int) < (l1.length : Int)) = false := decide_eq_false (by omega)
  go_enter Tryd.func3, Tryd.ntmps3
  cases hall : l0.all Bmay with
  | true =>
    obtain ⟨cb, hcb⟩ : ∃ cb, cb = Bsteps l0 := ⟨_, rfl⟩
    obtain ⟨tb, htb⟩ : ∃ tb, tb = Llines l0 := ⟨_, rfl⟩
    have hbw := Aside0.mk (show binary_Write.f 0 l0 = some (cb, 0) by
      unfold binary_Write.f Bwrite
      rw [if_pos (Bsmall_of l0 (by have := hsm.out; omega)), if_neg (by have := hsm.out; omega), if_pos hall, hcb])
    have hlw := Aside0.mk (show Lwrite l0 = (tb, 0) by unfold Lwrite; rw [hall, htb]; rfl)
    have hcl := Aside0.mk (show cb.length ≤ 1048576 by
      have h1 := Bsteps_length l0
      have h2 := hsm.out
      rw [hcb]
      omega)
    have hpf := Aside0.mk (show binary_Parse.f 0 cb = some (l0, 0, 0) by rw [parse_f 0 cb hcl.out, hcb, Bparse_ok l0 (List.all_eq_true.1 hall)])
    clear hcb htb hall
    go_upto_if 42 with (first | (go_at_call 4; refine (threshingref04_Size.calls ks A0 c0 l0 6000 sz _ HR0.out HC0.out HSZ.out).mono ?_; rintro e w2 ⟨rfl, hb⟩; have HB2 := Aside0.mk (below_step HB.out hb); clear hb) | (go_at_call 6; refine (binary_Write.calls 0 A0 c0 l0 cb 0 _ (Kd.C_below HR0.out HB2.out) HC0.out hbw.out).mono ?_; rintro e w3 ⟨v3, rfl, hR, hb⟩; obtain ⟨Ac, cc, rfl, hlc, hlC⟩ := Kd.R_reads hR; have HRC3 := Aside0.mk hlc; have HR3 := Aside0.mk hlC; have HB3 := Aside0.mk (below_step HB2.out hb); clear hb hR hlc hlC) | (go_at_call 7; refine (lwrite_calls A0 c0 l0 _ (Kd.C_below HR0.out HB3.out) HC0.out hsm.out ((HTAB.out.on HB3.out).up HB3.out.size)).mono ?_; rw [hlw.out]; rintro e w4 ⟨t4, rfl, _, hb⟩; have HB4 := Aside0.mk (below_step HB3.out hb); have HR4 := Aside0.mk (Kd.C_below HR3.out hb); clear hb))
    go_cut [] (fun wc => Aside0 (Below w.heap.size w wc))
    case first =>
      go_wp2_with (first | (go_at_call 8; refine (binary_Parse.calls 0 Ac cc cb l0 0 0 _ HR4.out HRC3.out hpf.out).mono ?_; rintro e w5 ⟨v5, rfl, hS, hb⟩; have HB5 := Aside0.mk (below_step HB4.out hb); obtain ⟨Am, cm, rfl, hmc, hmC⟩ := Kd.R_reads (Kd.S_R hS); have HMC := Aside0.mk hmc; have HM := Aside0.mk hmC; clear hS hb hmc hmC) | (go_at_call 9; refine (threshingref04_Same.calls 20000 A0 c0 l0 Am cm l0 true _ (Kd.C_below HR0.out HB5.out) HC0.out HM.out HMC.out (same_f l0 (by have := hsm.out; omega) (by have := hsm.out; omega) 20000 (by have := hsm.out; omega))).mono ?_; rintro e w6 ⟨rfl, hb⟩; have HB6 := Aside0.mk (below_step HB5.out hb); clear hb))
      go_meet
      case rel => exact HB6
    case rest =>
      clear HB3 HR3 HRC3 HB4 HR4
      have HB4 := hcut
      clear hcut
      have hl6 : l1.length ≤ 6000 := by omega
      rcases Bparse_kinds l1 hBB1.out with ⟨m, hm⟩ | ⟨p, hp, hp0, hp1⟩
      · obtain ⟨_, hmt, hmall, hms⟩ := Bparse_few l1 hBB1.out m 0 hm
        have hp2 := Aside0.mk (show binary_Parse.f 0 l1 = some (m, 0, 0) by rw [parse_f 0 l1 (by omega), hm])
        have hw2 := Aside0.mk (show binary_Write.f 0 m = some (l1, 0) by
          unfold binary_Write.f Bwrite
          rw [if_pos (Bsmall_of m (by omega)), if_neg (by omega), if_pos hmall, hms])
        clear hm hmt hmall hms
        go_wp2_with (first | (go_at_call 8; refine (binary_Parse.calls 0 A1 c1 l1 m 0 0 _ (Kd.C_below HR1.out HB4.out) HC1.out hp2.out).mono ?_; rintro e w7 ⟨v7, rfl, hS, hb⟩; have HB7 := Aside0.mk (below_step HB4.out hb); obtain ⟨An, cn, rfl, hnc, hnC⟩ := Kd.R_reads (Kd.S_R hS); have HNC := Aside0.mk hnc; have HN := Aside0.mk hnC; clear hS hb hnc hnC) | (go_at_call 6; refine (binary_Write.calls 0 An cn m l1 0 _ HN.out HNC.out hw2.out).mono ?_; rintro e w8 ⟨v8, rfl, hR, hb⟩; obtain ⟨Ad, cd, rfl, hdc, hdC⟩ := Kd.R_reads hR; have HB8 := Aside0.mk (below_step HB7.out hb); have hcvA := Kd.C_string (P := Tryd.prog) (c := c1) Tryd.underlying23 Tryd.underlying5 Tryd.underlying9 (Kd.C_below HR1.out HB8.out); have hcvB := Kd.C_string (P := Tryd.prog) (c := cd) Tryd.underlying23 Tryd.underlying5 Tryd.underlying9 hdC; clear hb hR hdc hdC) | (go_at_call 5; refine (threshinglaw05_works.calls 0 true _ (works_f 0)).mono ?_; rintro e w9 ⟨rfl, hb⟩; have HB9 := Aside0.mk (below_step HB8.out hb); clear hb))
        go_ret
        exact ⟨rfl, HB9.out⟩
      · have hp2 := Aside0.mk (show binary_Parse.f 0 l1 = some ([], 50, p) by rw [parse_f 0 l1 (by omega), hp])
        clear hp
        go_wp2_with (first | (go_at_call 8; refine (binary_Parse.calls 0 A1 c1 l1 [] 50 p _ (Kd.C_below HR1.out HB4.out) HC1.out hp2.out).mono ?_; rintro e w7 ⟨v7, rfl, hS, hb⟩; have HB7 := Aside0.mk (below_step HB4.out hb); obtain ⟨An, cn, rfl, hnc, hnC⟩ := Kd.R_reads (Kd.S_R hS); clear hS hb hnc hnC) | (go_at_call 5; refine (threshinglaw05_works.calls 0 true _ (works_f 0)).mono ?_; rintro e w9 ⟨rfl, hb⟩; have HB9 := Aside0.mk (below_step HB7.out hb); clear hb))
        go_ret
        exact ⟨rfl, HB9.out⟩
  | false =>
    have hbw := Aside0.mk (show binary_Write.f 0 l0 = some ([], 50) by
      unfold binary_Write.f Bwrite
      rw [if_pos (Bsmall_of l0 (by have := hsm.out; omega)), if_neg (by have := hsm.out; omega), if_neg (by rw [hall]; decide)])
    have hlw := Aside0.mk (show Lwrite l0 = ([], 40) by unfold Lwrite; rw [hall]; rfl)
    clear hall
    obtain ⟨cb, hcb⟩ : ∃ cb : List Int, cb = [] := ⟨_, rfl⟩
    go_upto_if 42 with (first | (go_at_call 4; refine (threshingref04_Size.calls ks A0 c0 l0 6000 sz _ HR0.out HC0.out HSZ.out).mono ?_; rintro e w2 ⟨rfl, hb⟩; have HB2 := Aside0.mk (below_step HB.out hb); clear hb) | (go_at_call 6; refine (binary_Write.calls 0 A0 c0 l0 [] 50 _ (Kd.C_below HR0.out HB2.out) HC0.out hbw.out).mono ?_; rintro e w3 ⟨v3, rfl, hR, hb⟩; obtain ⟨Ac, cc, rfl, hlc, hlC⟩ := Kd.R_reads hR; have HB3 := Aside0.mk (below_step HB2.out hb); clear hb hR hlc hlC) | (go_at_call 7; refine (lwrite_calls A0 c0 l0 _ (Kd.C_below HR0.out HB3.out) HC0.out hsm.out ((HTAB.out.on HB3.out).up HB3.out.size)).mono ?_; rw [hlw.out]; rintro e w4 ⟨t4, rfl, _, hb⟩; have HB4 := Aside0.mk (below_step HB3.out hb); clear hb))
    go_cut [] (fun wc => Aside0 (Below w.heap.size w wc))
    case first =>
      go_wp2
      go_meet
      case rel => exact HB4
    case rest =>
      clear HB4
      have HB4 := hcut
      clear hcut
      have hl6 : l1.length ≤ 6000 := by omega
      rcases Bparse_kinds l1 hBB1.out with ⟨m, hm⟩ | ⟨p, hp, hp0, hp1⟩
      · obtain ⟨_, hmt, hmall, hms⟩ := Bparse_few l1 hBB1.out m 0 hm
        have hp2 := Aside0.mk (show binary_Parse.f 0 l1 = some (m, 0, 0) by rw [parse_f 0 l1 (by omega), hm])
        have hw2 := Aside0.mk (show binary_Write.f 0 m = some (l1, 0) by
          unfold binary_Write.f Bwrite
          rw [if_pos (Bsmall_of m (by omega)), if_neg (by omega), if_pos hmall, hms])
        clear hm hmt hmall hms
        go_wp2_with (first | (go_at_call 8; refine (binary_Parse.calls 0 A1 c1 l1 m 0 0 _ (Kd.C_below HR1.out HB4.out) HC1.out hp2.out).mono ?_; rintro e w7 ⟨v7, rfl, hS, hb⟩; have HB7 := Aside0.mk (below_step HB4.out hb); obtain ⟨An, cn, rfl, hnc, hnC⟩ := Kd.R_reads (Kd.S_R hS); have HNC := Aside0.mk hnc; have HN := Aside0.mk hnC; clear hS hb hnc hnC) | (go_at_call 6; refine (binary_Write.calls 0 An cn m l1 0 _ HN.out HNC.out hw2.out).mono ?_; rintro e w8 ⟨v8, rfl, hR, hb⟩; obtain ⟨Ad, cd, rfl, hdc, hdC⟩ := Kd.R_reads hR; have HB8 := Aside0.mk (below_step HB7.out hb); have hcvA := Kd.C_string (P := Tryd.prog) (c := c1) Tryd.underlying23 Tryd.underlying5 Tryd.underlying9 (Kd.C_below HR1.out HB8.out); have hcvB := Kd.C_string (P := Tryd.prog) (c := cd) Tryd.underlying23 Tryd.underlying5 Tryd.underlying9 hdC; clear hb hR hdc hdC) | (go_at_call 5; refine (threshinglaw05_works.calls 0 true _ (works_f 0)).mono ?_; rintro e w9 ⟨rfl, hb⟩; have HB9 := Aside0.mk (below_step HB8.out hb); clear hb))
        go_ret
        exact ⟨rfl, HB9.out⟩
      · have hp2 := Aside0.mk (show binary_Parse.f 0 l1 = some ([], 50, p) by rw [parse_f 0 l1 (by omega), hp])
        clear hp
        go_wp2_with (first | (go_at_call 8; refine (binary_Parse.calls 0 A1 c1 l1 [] 50 p _ (Kd.C_below HR1.out HB4.out) HC1.out hp2.out).mono ?_; rintro e w7 ⟨v7, rfl, hS, hb⟩; have HB7 := Aside0.mk (below_step HB4.out hb); obtain ⟨An, cn, rfl, hnc, hnC⟩ := Kd.R_reads (Kd.S_R hS); clear hS hb hnc hnC) | (go_at_call 5; refine (threshinglaw05_works.calls 0 true _ (works_f 0)).mono ?_; rintro e w9 ⟨rfl, hb⟩; have HB9 := Aside0.mk (below_step HB7.out hb); clear hb))
        go_ret
        exact ⟨rfl, HB9.out⟩
end Go.Proofs.YtlimaebaagabaaaDoor.PB
