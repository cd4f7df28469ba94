import Derived.Test.YtigloobbpcnnhaaDoorM9
import Derived.Test.YtigloobbpcnnhaaDoorMA
import Derived.Test.YtigloobbpcnnhaaDoorMG
section
namespace Go.Proofs.YtigloobbpcnnhaaDoor.PB
open Go.RowKit Go.Proofs.YtigloobbpcnnhaaDoorW.PrintWords Go.Proofs.YtigloobbpcnnhaaDoorW.PrintLast Go.Proofs.YtigloobbpcnnhaaDoorW.PrintMore
set_option linter.unusedVariables false
set_option linter.unusedSimpArgs false
/-! ### The law DimacsPrints -/
set_option maxHeartbeats 1000000 in
set_option maxRecDepth 100000 in
theorem prints_calls (v : Int) (A : Option Addr) (c : Nat) (cs : List (List Int)) (Am : Option Addr) (cm : Nat) (m : List Bool) (w : World) (hC : kcs.C w A cs.length cs) (hc : cs.length ≤ c) (hg : GoodF cs) (hv : -9223372036854775808 ≤ v ∧ v ≤ 9223372036854775807) (hM : Kd.bool.C w Am m.length m) (hmc : m.length ≤ cm) (hlt : LT w.heap.size w) :
    Calls Tryd.prog 4 #[.agg #[.int .i64 v, .slice A cs.length c], .slice Am m.length cm] w fun e w' => e = .returned (.bool true) ∧ Below w.heap.size w w' := by
  have HLT := Aside0.mk hlt
  have HC := Aside0.mk hC
  have HCC := Aside0.mk hc
  have HM := Aside0.mk hM
  have HMC := Aside0.mk hmc
  obtain ⟨sz, hse, hsm⟩ := size_ev v cs hg.1 (fun q hq => (hg.2 q hq).1)
  obtain ⟨ks, hks⟩ := hse.rounds
  have HKS := Aside0.mk hks
  have hml := hM.2.1
  obtain ⟨W1, hW1⟩ : ∃ W1, W1 = w.alloc (.cells #[.int .i64 v, .slice A cs.length c] 25) := ⟨_, rfl⟩
  have HGW1 := Aside0.mk (show W1.heap[w.heap.size]? = some (.cells #[.int .i64 v, .slice A cs.length c] 25 (0, 0)) by rw [hW1]; exact blk_new w _)
  have HCW1 := Aside0.mk (show kcs.C W1 A cs.length cs by rw [hW1]; exact Kd.C_below HC.out (below_alloc (Below.refl _ _) _))
  have HMW1 := Aside0.mk (show Kd.bool.C W1 Am m.length m by rw [hW1]; exact Kd.C_below HM.out (below_alloc (Below.refl _ _) _))
  have HBW1 := Aside0.mk (show Below w.heap.size w W1 by rw [hW1]; exact below_alloc (Below.refl _ _) _)
  clear hlt hC hc hM hmc hse hks
  by_cases h1 : 3000 < sz
  · have t1 : decide (3000 < sz) = true := decide_eq_true h1
    go_enter Tryd.func4, Tryd.ntmps4
    go_wp2_with (go_at_call 11; rw [← hW1]; refine (threshingkit_Size.calls ks v A c cs 3000 sz W1 HCW1.out HCC.out HKS.out).mono ?_; rintro e w2 ⟨rfl, hb⟩; have HB2 := Aside0.mk (below_step HBW1.out hb); clear hb)
    go_ret
    exact ⟨rfl, HB2.out⟩
  have t1 : decide (3000 < sz) = false := decide_eq_false h1
  have hsum := hsm (by omega)
  by_cases h2 : 3000 < m.length
  · have t3 : decide (3000 < m.length) = true := decide_eq_true h2
    have t4 : decide (3000 < (m.length : Int)) = true := decide_eq_true (by omega)
    go_enter Tryd.func4, Tryd.ntmps4
    go_wp2_with (go_at_call 11; rw [← hW1]; refine (threshingkit_Size.calls ks v A c cs 3000 sz W1 HCW1.out HCC.out HKS.out).mono ?_; rintro e w2 ⟨rfl, hb⟩; have HB2 := Aside0.mk (below_step HBW1.out hb); clear hb)
    go_ret
    exact ⟨rfl, HB2.out⟩
  have t3 : decide (3000 < m.length) = false := decide_eq_false h2
  have t4 : decide (3000 < (m.length : Int)) = false := decide_eq_false (by omega)
  have hin : ∀ q ∈ cs, q.length ≤ 3000 := fun q hq => by have := sum_mem cs q hq; omega
  obtain ⟨kp, hkp⟩ := (refprint_ev v cs hv (fun q hq => ⟨by have := hin q hq; omega, (hg.2 q hq).2⟩) (by omega)).rounds
  obtain ⟨kv, hkv⟩ := (refvalues_ev m (by omega)).rounds
  obtain ⟨vB, hvB⟩ : ∃ vB, vB = baOf (dValues m) := ⟨_, rfl⟩
  have HVB := Aside0.mk hvB
  rw [← hvB] at hkv
  have HKV := Aside0.mk hkv
  have HML := Aside0.mk (show m.length ≤ 3000 by omega)
  have HPG := Aside0.mk (show (∀ q ∈ cs, q.length ≤ 140737488355328 ∧ ∀ x ∈ q, I32 x) ∧ cs.length ≤ 140737488355328 ∧ (cs.map List.length).sum + cs.length ≤ 1000000 from ⟨fun q hq => ⟨(hg.2 q hq).1, (hg.2 q hq).2⟩, hg.1, by omega⟩)
  clear hvB hkv hsum hin hg hv hml hsm
  obtain ⟨r1, hr1⟩ : ∃ r1, r1 = baOf (dPrint v cs).1 := ⟨_, rfl⟩
  obtain ⟨pe, hpe⟩ : ∃ pe, pe = (dPrint v cs).2 := ⟨_, rfl⟩
  have HP2 := Aside0.mk hpe.symm
  rw [← hr1, ← hpe] at hkp
  have HKP := Aside0.mk hkp
  have hpp : (pe == pe) = true := beq_self_eq_true pe
  by_cases hz : dRight v cs = 0
  · have HDR := Aside0.mk hz
    have HR1 := Aside0.mk (show r1 = baOf (dText v cs) by rw [hr1]; unfold dPrint; rw [if_pos hz])
    clear hkp hr1 hpe hz
    go_enter Tryd.func4, Tryd.ntmps4
    go_wp2_with (first | (go_at_call 11; rw [← hW1]; refine (threshingkit_Size.calls ks v A c cs 3000 sz W1 HCW1.out HCC.out HKS.out).mono ?_; rintro e w2 ⟨rfl, hb⟩; have HGw2 := Aside0.mk (blk_below HGW1.out hb); have HCw2 := Aside0.mk (Kd.C_below HCW1.out hb); have HMw2 := Aside0.mk (Kd.C_below HMW1.out hb); have HBw2 := Aside0.mk (below_step HBW1.out hb); have hcz0 := (blk_cell HGw2.out 0).trans (show _ = some (Value.int .i64 v) from rfl); have hcz1 := (blk_cell HGw2.out 1).trans (show _ = some (Value.slice A cs.length c) from rfl); clear hb HGW1 HCW1 HMW1; clear hW1) | (go_at_call 12; have hp := print_calls v A c cs w2 HCw2.out HCC.out HPG.out.1 HPG.out.2.1 HPG.out.2.2 (HLT.out.pay HBw2.out); rw [HP2.out] at hp; refine hp.mono ?_; clear hp; rintro e w3 ⟨rv, rfl, ⟨hem, _⟩, hb⟩; have hem1 := hem HDR.out; clear hem; obtain ⟨ge, ce, rfl, _, _, _⟩ := hem1.slice; have HEM3 := Aside0.mk hem1; clear hem1; clear hcz0 hcz1; have HGw3 := Aside0.mk (blk_below HGw2.out hb); have HCw3 := Aside0.mk (Kd.C_below HCw2.out hb); have HMw3 := Aside0.mk (Kd.C_below HMw2.out hb); have HBw3 := Aside0.mk (below_step HBw2.out hb); have hcz0 := (blk_cell HGw3.out 0).trans (show _ = some (Value.int .i64 v) from rfl); have hcz1 := (blk_cell HGw3.out 1).trans (show _ = some (Value.slice A cs.length c) from rfl); clear hb HGw2 HCw2 HMw2) | (go_at_call 13; refine (threshingref02_Print.calls kp v A c cs r1 pe w3 HCw3.out HCC.out HKP.out).mono ?_; rintro e w4 ⟨rfl, hb⟩; clear hcz0 hcz1; have HGw4 := Aside0.mk (blk_below HGw3.out hb); have HCw4 := Aside0.mk (Kd.C_below HCw3.out hb); have HMw4 := Aside0.mk (Kd.C_below HMw3.out hb); have HBw4 := Aside0.mk (below_step HBw3.out hb); have hcz0 := (blk_cell HGw4.out 0).trans (show _ = some (Value.int .i64 v) from rfl); have hcz1 := (blk_cell HGw4.out 1).trans (show _ = some (Value.slice A cs.length c) from rfl); have HEM4 := Aside0.mk (HEM3.out.below hb); clear hb HGw3 HCw3 HMw3; have hcv := (Kd.C_string (P := Tryd.prog) (c := ce) Tryd.underlying22 Tryd.underlying5 Tryd.underlying9 HEM4.out.C).trans (show _ = Result.ok (Value.string r1) w4 by rw [bI_str, HR1.out])) | (go_at_call 14; refine (values_calls Am cm m w4 HMw4.out HMC.out (by have := HML.out; omega) (HLT.out.pay HBw4.out)).mono ?_; rw [← HVB.out]; rintro e w5 ⟨rfl, hb⟩; have HB5 := Aside0.mk (below_step HBw4.out hb); have HM5 := Aside0.mk (Kd.C_below HMw4.out hb); clear hb) | (go_at_call 15; refine (threshingref02_Values.calls kv Am cm m vB w5 HM5.out HMC.out HKV.out).mono ?_; rintro e w6 ⟨rfl, hb⟩; have HB6 := Aside0.mk (below_step HB5.out hb); clear hb) | (go_at_call 10; refine (works_c w w6 HLT.out HB6.out).mono ?_; rintro e w7 ⟨rfl, hb⟩; have HB7 := Aside0.mk hb; clear hb))
    go_ret
    exact ⟨rfl, HB7.out⟩
  · have HDR := Aside0.mk hz
    have HR1 := Aside0.mk (show r1 = baOf [] by rw [hr1]; unfold dPrint; rw [if_neg hz])
    clear hkp hr1 hpe hz
    go_enter Tryd.func4, Tryd.ntmps4
    go_wp2_with (first | (go_at_call 11; rw [← hW1]; refine (threshingkit_Size.calls ks v A c cs 3000 sz W1 HCW1.out HCC.out HKS.out).mono ?_; rintro e w2 ⟨rfl, hb⟩; have HGw2 := Aside0.mk (blk_below HGW1.out hb); have HCw2 := Aside0.mk (Kd.C_below HCW1.out hb); have HMw2 := Aside0.mk (Kd.C_below HMW1.out hb); have HBw2 := Aside0.mk (below_step HBW1.out hb); have hcz0 := (blk_cell HGw2.out 0).trans (show _ = some (Value.int .i64 v) from rfl); have hcz1 := (blk_cell HGw2.out 1).trans (show _ = some (Value.slice A cs.length c) from rfl); clear hb HGW1 HCW1 HMW1; clear hW1) | (go_at_call 12; have hp := print_calls v A c cs w2 HCw2.out HCC.out HPG.out.1 HPG.out.2.1 HPG.out.2.2 (HLT.out.pay HBw2.out); rw [HP2.out] at hp; refine hp.mono ?_; clear hp; rintro e w3 ⟨rv, rfl, ⟨_, hnil⟩, hb⟩; obtain rfl := hnil HDR.out; clear hnil; clear hcz0 hcz1; have HGw3 := Aside0.mk (blk_below HGw2.out hb); have HCw3 := Aside0.mk (Kd.C_below HCw2.out hb); have HMw3 := Aside0.mk (Kd.C_below HMw2.out hb); have HBw3 := Aside0.mk (below_step HBw2.out hb); have hcz0 := (blk_cell HGw3.out 0).trans (show _ = some (Value.int .i64 v) from rfl); have hcz1 := (blk_cell HGw3.out 1).trans (show _ = some (Value.slice A cs.length c) from rfl); clear hb HGw2 HCw2 HMw2) | (go_at_call 13; refine (threshingref02_Print.calls kp v A c cs r1 pe w3 HCw3.out HCC.out HKP.out).mono ?_; rintro e w4 ⟨rfl, hb⟩; clear hcz0 hcz1; have HGw4 := Aside0.mk (blk_below HGw3.out hb); have HCw4 := Aside0.mk (Kd.C_below HCw3.out hb); have HMw4 := Aside0.mk (Kd.C_below HMw3.out hb); have HBw4 := Aside0.mk (below_step HBw3.out hb); have hcz0 := (blk_cell HGw4.out 0).trans (show _ = some (Value.int .i64 v) from rfl); have hcz1 := (blk_cell HGw4.out 1).trans (show _ = some (Value.slice A cs.length c) from rfl); clear hb HGw3 HCw3 HMw3; have hcv := (Kd.C_string (P := Tryd.prog) (w := w4) (A := none) (n := 0) (c := 0) (xs := []) Tryd.underlying22 Tryd.underlying5 Tryd.underlying9 ⟨rfl, by decide, fun hp => absurd hp (by simp)⟩).trans (show _ = Result.ok (Value.string r1) w4 by rw [HR1.out]; rfl)) | (go_at_call 14; refine (values_calls Am cm m w4 HMw4.out HMC.out (by have := HML.out; omega) (HLT.out.pay HBw4.out)).mono ?_; rw [← HVB.out]; rintro e w5 ⟨rfl, hb⟩; have HB5 := Aside0.mk (below_step HBw4.out hb); have HM5 := Aside0.mk (Kd.C_below HMw4.out hb); clear hb) | (go_at_call 15; refine (threshingref02_Values.calls kv Am cm m vB w5 HM5.out HMC.out HKV.out).mono ?_; rintro e w6 ⟨rfl, hb⟩; have HB6 := Aside0.mk (below_step HB5.out hb); clear hb) | (go_at_call 10; refine (works_c w w6 HLT.out HB6.out).mono ?_; rintro e w7 ⟨rfl, hb⟩; have HB7 := Aside0.mk hb; clear hb))
    go_ret
    exact ⟨rfl, HB7.out⟩
theorem dimacsPrints_walk {w : World} (v : Int) (A : Option Addr) (c : Nat) (cs : List (List Int)) (hC : kcs.C w A cs.length cs) (hc : cs.length ≤ c) (hg : GoodF cs) (hv : -9223372036854775808 ≤ v ∧ v ≤ 9223372036854775807) (Am : Option Addr) (cm : Nat) (m : List Bool) (hM : Kd.bool.C w Am m.length m) (hmc : m.length ≤ cm) (w' : World) (hlt : LT w'.heap.size w') (hw : w' = w := by rfl) :
    Calls Tryd.prog 4 #[.agg #[.int .i64 v, .slice A cs.length c], .slice Am m.length cm] w' fun e w'' => e = .returned (.bool true) ∧ Below w'.heap.size w' w'' := by
  subst hw
  exact prints_calls v A c cs Am cm m _ hC hc hg hv hM hmc hlt
end Go.Proofs.YtigloobbpcnnhaaDoor.PB
end
