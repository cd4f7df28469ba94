import Derived.Test.YtlimaebaagabaaaHBytes
namespace Go.Proofs.Ytlimaebaagabaaa.PB
open Go.RowKit Go.Proofs.YtlimaebaagabaaaW.PrintWords Go.Proofs.YtlimaebaagabaaaW.PrintLast Go.Proofs.YtlimaebaagabaaaW.PrintMore
attribute [local go_sem] max2_int min2_int max_two min_two max_three min_three max_four min_four
set_option linter.unusedVariables false
set_option linter.unusedSimpArgs false

set_option maxHeartbeats 2000000 in
set_option maxRecDepth 100000 in
theorem rows_calls (A0 A1 : Option Addr) (c0 c1 : Nat) (l0 l1 : List Int) (w : World) (hr0 : Kd.C (Kd.int .u8) w A0 l0.length l0) (hc0 : l0.length ≤ c0) (hr1 : Kd.C (Kd.int .u8) w A1 l1.length l1) (hc1 : l1.length ≤ c1) (hB0 : Bytes l0) (hB1 : Bytes l1) :
    Calls Try.prog 5 #[.slice A0 l0.length c0, .slice A1 l1.length c1] w fun e w' => e = .returned (.bool true) ∧ Below w.heap.size w w' := by
  have HR0 := Aside0.mk hr0
  have HC0 := Aside0.mk hc0
  have HR1 := Aside0.mk hr1
  have HC1 := Aside0.mk hc1
  have HB := Aside0.mk (Below.refl w.heap.size w)
  have hBB0 := Aside0.mk hB0
  have hBB1 := Aside0.mk hB1
  have hm0 : l0.length ≤ 9223372036854775807 := hr0.2.1
  have hm1 : l1.length ≤ 9223372036854775807 := hr1.2.1
  clear hr0 hc0 hr1 hc1 hB0 hB1
  by_cases h0 : 6000 < l0.length
  · have h0' : decide (6000 < l0.length) = true := decide_eq_true h0
    go_enter Try.func5, Try.ntmps5
    go_wp2_with (go_at_call 9; refine (threshinglaw05_works.calls 0 true _ (works_f 0)).mono ?_; rintro e w2 ⟨rfl, hb⟩; have HB2 := Aside0.mk (below_step HB.out hb); clear hb)
    go_ret
    exact ⟨rfl, HB2.out⟩
  have h0' : decide (6000 < l0.length) = false := decide_eq_false h0
  have h0'' : decide ((6000 : Int) < (l0.length : Int)) = false := decide_eq_false (by omega)
  by_cases h1 : 6000 < l1.length
  · have h1' : decide (6000 < l1.length) = true := decide_eq_true h1
    have h1'' : decide ((6000 : Int) < (l1.length : Int)) = true := decide_eq_true (by omega)
    go_enter Try.func5, Try.ntmps5
    go_wp2_with (go_at_call 9; refine (threshinglaw05_works.calls 0 true _ (works_f 0)).mono ?_; rintro e w2 ⟨rfl, hb⟩; have HB2 := Aside0.mk (below_step HB.out hb); clear hb)
    go_ret
    exact ⟨rfl, HB2.out⟩
  have h1' : decide (6000 < l1.length) = false := decide_eq_false h1
  have h1'' : decide ((6000 : Int) < (l1.length : Int)) = false := decide_eq_false (by omega)
  obtain ⟨l, r, hbs, hmay, hr⟩ := Bsplit l0.length l0 (Nat.le_refl _) hBB0.out
  rcases hr with hr | ⟨hr, hbad⟩
  · subst hr
    rw [List.append_nil] at hbs
    have hp0 : Bparse l0 = (l, 0, 0) := by rw [hbs]; exact Bparse_ok l hmay
    have htl := Bsteps_tot l hmay
    rw [← hbs] at htl
    obtain ⟨m, r', hbs', hmay', hr'⟩ := Bsplit l1.length l1 (Nat.le_refl _) hBB1.out
    have htm := Bsteps_tot m hmay'
    have htm' : (Bsteps m).length ≤ l1.length := by rw [hbs', List.length_append]; omega
    have hall : ∀ s ∈ l ++ m, Bmay s = true := fun s hs => (List.mem_append.1 hs).elim (hmay s) (hmay' s)
    have hcat : l0 ++ l1 = Bsteps (l ++ m) ++ r' := by rw [hbs, hbs', Bsteps_append, List.append_assoc]
    have hstr := Aside0.mk (show bytesOf (strOfNums l0 ++ strOfNums l1) = l0 ++ l1 by rw [bytesOf_append, bytesOf_str hBB0.out, bytesOf_str hBB1.out])
    have hsz := Aside0.mk (show (strOfNums l0 ++ strOfNums l1).size ≤ 9223372036854775807 by rw [ByteArray.size_append, strOfNums_size, strOfNums_size]; omega)
    have hadd : (strOfNums l0).size + (strOfNums l1).size ≤ 9223372036854775807 := by rw [strOfNums_size, strOfNums_size]; omega
    obtain ⟨lm, hlm⟩ : ∃ lm, lm = l0 ++ l1 := ⟨_, rfl⟩
    have hlml := Aside0.mk (show lm.length ≤ 1048576 by rw [hlm, List.length_append]; omega)
    rw [← hlm] at hcat hstr
    rcases hr' with hr' | ⟨hr', hbad'⟩
    · subst hr'
      rw [List.append_nil] at hbs' hcat
      have hp1 := Aside0.mk (show Bparse l1 = (m, 0, 0) by rw [hbs']; exact Bparse_ok m hmay')
      obtain ⟨b, hb⟩ : ∃ b, b = l ++ m := ⟨_, rfl⟩
      have hp2 := Aside0.mk (show Bparse lm = (b, 0, 0) by rw [hcat, hb]; exact Bparse_ok (l ++ m) hall)
      have hbl := Aside0.mk (show b.length = l.length + m.length by rw [hb, List.length_append])
      have hbt := Aside0.mk (show b.take l.length = l by rw [hb]; simp)
      have hbd := Aside0.mk (show b.drop l.length = m by rw [hb]; simp)
      have hlen := Aside0.mk (show l.length + Btot l ≤ 6000 ∧ m.length + Btot m ≤ 6000 by omega)
      have hp0' := Aside0.mk hp0
      have hl6 : l.length ≤ 6000 := by omega
      have hm6 : m.length ≤ 6000 := by omega
      clear hp0 hb hbs hbs' hcat hall hmay hmay' htl htm htm' hlm
      go_enter Try.func5, Try.ntmps5
      go_wp2_with fail
      refine (binary_Parse.calls 0 A0 c0 l0 l 0 0 w HR0.out HC0.out (by rw [parse_f 0 l0 (by omega), hp0'.out])).mono ?_
      rintro e w2 ⟨v2, rfl, hS, hb⟩
      have HB2 := Aside0.mk hb
      obtain ⟨Al, cl, rfl, hlc, hlC⟩ := Kd.R_reads (Kd.S_R hS)
      have HLC := Aside0.mk hlc
      have HL := Aside0.mk hlC
      clear hS hb hlc hlC HB
      go_wp2_with fail
      refine (binary_Parse.calls 0 A1 c1 l1 m 0 0 w2 (Kd.C_below HR1.out HB2.out) HC1.out (by rw [parse_f 0 l1 (by omega), hp1.out])).mono ?_
      rintro e w3 ⟨v3, rfl, hS, hb⟩
      have HB3 := Aside0.mk (below_step HB2.out hb)
      obtain ⟨Am, cm, rfl, hmc, hmC⟩ := Kd.R_reads (Kd.S_R hS)
      have HMC := Aside0.mk hmc
      have HM := Aside0.mk hmC
      have HL3 := Aside0.mk (Kd.C_below HL.out hb)
      clear hS hb hmc hmC HB2 HL
      have hcvA := Kd.C_string (P := Try.prog) (c := c0) Try.underlying26 Try.underlying5 Try.underlying9 (Kd.C_below HR0.out HB3.out)
      have hcvB := Kd.C_string (P := Try.prog) (c := c1) Try.underlying26 Try.underlying5 Try.underlying9 (Kd.C_below HR1.out HB3.out)
      go_wp2_with ((with_reducible refine gate_dst (N := 44) rfl ?_); refine bytes_event 9 26 5 (.tmp 43) rfl rfl (strOfNums l0 ++ strOfNums l1) rfl Try.underlying9 Try.underlying26 Try.underlying5 hsz.out ?_; intro A2 c2 w4 hC2 hc2 hb; rw [hstr.out] at hC2 hc2; rw [hstr.out]; have HC2 := Aside0.mk hC2; have Hc2 := Aside0.mk hc2; have HB4 := Aside0.mk (below_step HB3.out hb); have HL4 := Aside0.mk (Kd.C_below HL3.out hb); have HM4 := Aside0.mk (Kd.C_below HM.out hb); clear hC2 hc2 hb hcvA hcvB HB3 HL3 HM)
      refine (binary_Parse.calls 0 A2 c2 lm b 0 0 w4 HC2.out Hc2.out (by rw [parse_f 0 lm hlml.out, hp2.out])).mono ?_
      rintro e w5 ⟨v5, rfl, hS, hb⟩
      have HB5 := Aside0.mk (below_step HB4.out hb)
      obtain ⟨Ab, cb, rfl, hbc, hbC⟩ := Kd.R_reads (Kd.S_R hS)
      have HBC := Aside0.mk hbc
      have HBB := Aside0.mk hbC
      have HL5 := Aside0.mk (Kd.C_below HL4.out hb)
      have HM5 := Aside0.mk (Kd.C_below HM4.out hb)
      clear hS hb hbc hbC HB4 HL4 HM4 HC2 Hc2
      obtain ⟨i43, hi43, hz43⟩ := Option.map_eq_some_iff.1 info43
      have hsz43 : i43.size = 4 := by simp only [Prod.mk.injEq] at hz43; exact hz43.2.1
      have hk0 : ((0 : Int) == 0) = true := rfl
      have hsum : ((b.length : Int) == (l.length : Int) + (m.length : Int)) = true := by rw [beq_iff_eq, hbl.out]; omega
      have hcA := cut_to (P := Try.prog) 22 43 .i64 Try.underlying22 hi43 Ab b.length cb (l.length : Int) (by omega) (by have := hbl.out; omega) HBC.out
      rw [Int.toNat_natCast] at hcA
      have hcB := cut_from (P := Try.prog) 22 43 .i64 Try.underlying22 hi43 4 hsz43 Ab b.length cb (l.length : Int) (by omega) (by have := hbl.out; omega)
      rw [Int.toNat_natCast] at hcB
      have HX := Aside0.mk (Kd.C_drop (m := l.length) HBB.out (by have := hbl.out; omega) HBC.out)
      have HY := Aside0.mk (Kd.C_take (m := l.length) HBB.out (by have := hbl.out; omega))
      rw [hbt.out] at HY
      rw [hbd.out] at HX
      have ebl : b.length - l.length = m.length := by have := hbl.out; omega
      rw [ebl] at hcB
      have ek : k43.sz = 4 := rfl
      rw [ek] at HX
      obtain ⟨A3, hA3⟩ : ∃ A3, A3 = (if cb = l.length then Ab else Ab.map (·.add (l.length * 4))) := ⟨_, rfl⟩
      rw [← hA3] at hcB HX
      have Hcm := Aside0.mk (show m.length ≤ cb - l.length by have := hbl.out; have := HBC.out; omega)
      have Hcl := Aside0.mk (show l.length ≤ cb by have := hbl.out; have := HBC.out; omega)
      obtain ⟨c3, hc3⟩ : ∃ c3, c3 = cb - l.length := ⟨_, rfl⟩
      rw [← hc3] at hcB Hcm
      clear hA3 hc3 ebl ek hi43 hz43 hsz43
      go_wp2_with fail
      refine (threshingref04_Same.calls 20000 _ _ l _ _ l true w5 HY.out Hcl.out HL5.out HLC.out (same_f l (by have := hlen.out.1; omega) (by have := hlen.out.1; omega) 20000 (by have := hlen.out.1; omega))).mono ?_
      rintro e w6 ⟨rfl, hb⟩
      have HB6 := Aside0.mk (below_step HB5.out hb)
      have HX6 := Aside0.mk (Kd.C_below HX.out hb)
      have HM6 := Aside0.mk (Kd.C_below HM5.out hb)
      clear hb HB5 HX HM5
      go_wp2_with fail
      refine (threshingref04_Same.calls 20000 _ _ m _ _ m true w6 HX6.out Hcm.out HM6.out HMC.out (same_f m (by have := hlen.out.2; omega) (by have := hlen.out.2; omega) 20000 (by have := hlen.out.2; omega))).mono ?_
      rintro e w7 ⟨rfl, hb⟩
      have HB7 := Aside0.mk (below_step HB6.out hb)
      clear hb HB6
      go_wp2_with fail
      refine (threshinglaw05_works.calls 0 true w7 (works_f 0)).mono ?_
      rintro e w8 ⟨rfl, hb⟩
      have HB8 := Aside0.mk (below_step HB7.out hb)
      clear hb
      go_wp2_with fail
      go_ret
      exact ⟨rfl, HB8.out⟩
    · have hcl : (Bsteps (l ++ m)).length = l0.length + (Bsteps m).length := by rw [Bsteps_append, List.length_append, ← hbs]
      obtain ⟨p1, hp1e⟩ : ∃ p1 : Int, p1 = ((Bsteps m).length : Int) := ⟨_, rfl⟩
      obtain ⟨p2, hp2e⟩ : ∃ p2 : Int, p2 = (l0.length : Int) + p1 := ⟨_, rfl⟩
      have hp1 := Aside0.mk (show Bparse l1 = ([], 50, p1) by rw [hbs', hp1e]; exact Bparse_bad m r' hmay' hr' hbad')
      have hp2 := Aside0.mk (show Bparse lm = ([], 50, p2) by rw [hcat, Bparse_bad (l ++ m) r' hall hr' hbad', hcl, hp2e, hp1e]; simp)
      have hp10 : 0 ≤ p1 := by omega
      have hp11 : p1 ≤ 6000 := by omega
      have hsum : (p2 == (l0.length : Int) + p1) = true := by rw [beq_iff_eq, hp2e]
      have hp0' := Aside0.mk hp0
      clear hp0 hbs hbs' hcat hall hmay hmay' htl htm htm' hlm hp1e hp2e hcl hr' hbad'
      go_enter Try.func5, Try.ntmps5
      go_wp2_with fail
      refine (binary_Parse.calls 0 A0 c0 l0 l 0 0 w HR0.out HC0.out (by rw [parse_f 0 l0 (by omega), hp0'.out])).mono ?_
      rintro e w2 ⟨v2, rfl, hS, hb⟩
      have HB2 := Aside0.mk hb
      obtain ⟨Al, cl, rfl, hlc, hlC⟩ := Kd.R_reads (Kd.S_R hS)
      have HLC := Aside0.mk hlc
      have HL := Aside0.mk hlC
      clear hS hb hlc hlC HB
      go_wp2_with fail
      refine (binary_Parse.calls 0 A1 c1 l1 [] 50 p1 w2 (Kd.C_below HR1.out HB2.out) HC1.out (by rw [parse_f 0 l1 (by omega), hp1.out])).mono ?_
      rintro e w3 ⟨v3, rfl, hS, hb⟩
      have HB3 := Aside0.mk (below_step HB2.out hb)
      obtain ⟨Am, cm, rfl, hmc, hmC⟩ := Kd.R_reads (Kd.S_R hS)
      have HMC := Aside0.mk hmc
      have HM := Aside0.mk hmC
      have HL3 := Aside0.mk (Kd.C_below HL.out hb)
      clear hS hb hmc hmC HB2 HL
      have hcvA := Kd.C_string (P := Try.prog) (c := c0) Try.underlying26 Try.underlying5 Try.underlying9 (Kd.C_below HR0.out HB3.out)
      have hcvB := Kd.C_string (P := Try.prog) (c := c1) Try.underlying26 Try.underlying5 Try.underlying9 (Kd.C_below HR1.out HB3.out)
      go_wp2_with ((with_reducible refine gate_dst (N := 44) rfl ?_); refine bytes_event 9 26 5 (.tmp 43) rfl rfl (strOfNums l0 ++ strOfNums l1) rfl Try.underlying9 Try.underlying26 Try.underlying5 hsz.out ?_; intro A2 c2 w4 hC2 hc2 hb; rw [hstr.out] at hC2 hc2; rw [hstr.out]; have HC2 := Aside0.mk hC2; have Hc2 := Aside0.mk hc2; have HB4 := Aside0.mk (below_step HB3.out hb); have HL4 := Aside0.mk (Kd.C_below HL3.out hb); have HM4 := Aside0.mk (Kd.C_below HM.out hb); clear hC2 hc2 hb hcvA hcvB HB3 HL3 HM)
      refine (binary_Parse.calls 0 A2 c2 lm [] 50 p2 w4 HC2.out Hc2.out (by rw [parse_f 0 lm hlml.out, hp2.out])).mono ?_
      rintro e w5 ⟨v5, rfl, hS, hb⟩
      have HB5 := Aside0.mk (below_step HB4.out hb)
      obtain ⟨Ab, cb, rfl, hbc, hbC⟩ := Kd.R_reads (Kd.S_R hS)
      have HBC := Aside0.mk hbc
      have HBB := Aside0.mk hbC
      have HL5 := Aside0.mk (Kd.C_below HL4.out hb)
      have HM5 := Aside0.mk (Kd.C_below HM4.out hb)
      clear hS hb hbc hbC HB4 HL4 HM4 HC2 Hc2
      go_wp2_with fail
      refine (threshinglaw05_works.calls 0 true w5 (works_f 0)).mono ?_
      rintro e w8 ⟨rfl, hb⟩
      have HB8 := Aside0.mk (below_step HB5.out hb)
      clear hb
      go_wp2_with fail
      go_ret
      exact ⟨rfl, HB8.out⟩
  · have hp0 := Aside0.mk (show Bparse l0 = ([], 50, ((Bsteps l).length : Int)) by rw [hbs]; exact Bparse_bad l r hmay hr hbad)
    obtain ⟨q1, hq1⟩ : ∃ q, q = Bparse l1 := ⟨_, rfl⟩
    have HQ1 := Aside0.mk hq1
    clear hq1 hbs hmay hr hbad
    go_enter Try.func5, Try.ntmps5
    go_wp2_with fail
    refine (binary_Parse.calls 0 A0 c0 l0 _ _ _ w HR0.out HC0.out (by rw [parse_f 0 l0 (by omega), hp0.out])).mono ?_
    rintro e w2 ⟨v2, rfl, hS, hb⟩
    have HB2 := Aside0.mk hb
    clear hS hb
    go_wp2_with fail
    refine (binary_Parse.calls 0 A1 c1 l1 q1.1 q1.2.1 q1.2.2 w2 (Kd.C_below HR1.out HB2.out) HC1.out (by rw [parse_f 0 l1 (by omega), HQ1.out])).mono ?_
    rintro e w3 ⟨v3, rfl, hS, hb⟩
    have HB3 := Aside0.mk (below_step HB2.out hb)
    clear hS hb HB2
    go_wp2_with fail
    refine (threshinglaw05_works.calls 0 true w3 (works_f 0)).mono ?_
    rintro e w4 ⟨rfl, hb⟩
    have HB4 := Aside0.mk (below_step HB3.out hb)
    clear hb
    go_wp2_with fail
    go_ret
    exact ⟨rfl, HB4.out⟩

theorem binaryRows_walk {w : World} (A0 : Option Addr) (c0 : Nat) (l0 : List Int) (hr0 : Kd.C (Kd.int .u8) w A0 l0.length l0) (hc0 : l0.length ≤ c0) (hB0 : Bytes l0) (_ : l0.length ≤ 140737488351232)
    (A1 : Option Addr) (c1 : Nat) (l1 : List Int) (hr1 : Kd.C (Kd.int .u8) w A1 l1.length l1) (hc1 : l1.length ≤ c1) (hB1 : Bytes l1) (_ : l1.length ≤ 140737488351232) (w' : World) (hw : w' = w := by rfl) :
    Calls Try.prog 5 #[.slice A0 l0.length c0, .slice A1 l1.length c1] w' fun e w'' => e = .returned (.bool true) ∧ Below w'.heap.size w' w'' := by
  subst hw
  exact rows_calls A0 A1 c0 c1 l0 l1 _ hr0 hc0 hr1 hc1 hB0 hB1
end Go.Proofs.Ytlimaebaagabaaa.PB
