import Derived.Test.YtigloobbpcnnhaaDoorM9
import Derived.Test.YtigloobbpcnnhaaDoorMN
section
namespace Go.Proofs.YtigloobbpcnnhaaDoor.PB
open Go.RowKit Go.Proofs.YtigloobbpcnnhaaDoorW.PrintWords Go.Proofs.YtigloobbpcnnhaaDoorW.PrintLast Go.Proofs.YtigloobbpcnnhaaDoorW.PrintMore
set_option linter.unusedVariables false
set_option linter.unusedSimpArgs false
/-! ### The law DimacsParses -/
set_option maxHeartbeats 1000000 in
set_option maxRecDepth 100000 in
theorem parses_calls (s : List UInt8) (w : World) (hlt : LT w.heap.size w) : Calls Tryd.prog 3 #[.string (baOf s)] w fun e w' => e = .returned (.bool true) ∧ Below w.heap.size w w' := by
  have HLT := Aside0.mk hlt
  obtain ⟨sB, hsB⟩ : ∃ sB, sB = baOf s := ⟨_, rfl⟩
  have hsz : sB.size = s.length := by rw [hsB]; rfl
  have HSB := Aside0.mk hsB
  rw [← hsB]
  clear hlt hsB
  by_cases h1 : 3000 < sB.size
  · have t1 : decide (3000 < sB.size) = true := decide_eq_true h1
    have t2 : decide (3000 < (sB.size : Int)) = true := decide_eq_true (by omega)
    go_enter Tryd.func3, Tryd.ntmps3
    go_wp2_with fail
    go_ret
    exact ⟨rfl, Below.refl _ _⟩
  have t1 : decide (3000 < sB.size) = false := decide_eq_false h1
  have t2 : decide (3000 < (sB.size : Int)) = false := decide_eq_false (by omega)
  have HSL := Aside0.mk (show s.length ≤ 3000 by omega)
  obtain ⟨v0, cs0, e0, n0, hd⟩ : ∃ v0 cs0 e0 n0, dParse s = ((v0, cs0), e0, n0) := ⟨_, _, _, _, rfl⟩
  have HD := Aside0.mk hd
  have hcl := dParse_small s
  rw [hd] at hcl
  have HCL := Aside0.mk (show cs0.length ≤ 1000000000 ∧ ∀ q ∈ cs0, q.length ≤ 1000000000 from ⟨by have := hcl.1; simp only at this; omega, fun q hq => by have := hcl.2 q hq; omega⟩)
  have e1 : (e0 == e0) = true := beq_self_eq_true e0
  have e2 : (n0 == n0) = true := beq_self_eq_true n0
  clear hd hcl hsz
  go_enter Tryd.func3, Tryd.ntmps3
  go_wp2_with (first | ((with_reducible refine gate_dst (N := 14) rfl ?_); refine text_event 9 22 (.tmp 13) rfl rfl s ?hx Tryd.underlying9 Tryd.underlying22 Tryd.underlying5 (by have := HSL.out; omega) ?_; (case hx => rw [← HSB.out]; rfl); intro g1 c1 w1 hC hcc hb; have HT1 := Aside0.mk hC; have HTC := Aside0.mk hcc; have HB1 := Aside0.mk hb; clear hC hcc hb) | (go_at_call 7; have hp := parse_c w w1 ⟨g1, 0, none⟩ s c1 HT1.out HTC.out (by have := HSL.out; omega) HLT.out HB1.out; rw [HD.out] at hp; refine hp.mono ?_; clear hp; rintro e w2 ⟨A2, c2, rfl, hC, hcc, hb, hb1⟩; have HC2 := Aside0.mk (Kd.C_below hC (below_alloc (Below.refl _ _) (.cells #[.int .i64 v0, .slice A2 cs0.length c2] 25))); have HE2 := Aside0.mk hcc; have HG2 := Aside0.mk (blk_new w2 (.cells #[.int .i64 v0, .slice A2 cs0.length c2] 25)); have HT2 := Aside0.mk (Kd.C_below HT1.out (below_alloc hb1 (.cells #[.int .i64 v0, .slice A2 cs0.length c2] 25))); have HB2 := Aside0.mk (below_alloc hb (.cells #[.int .i64 v0, .slice A2 cs0.length c2] 25)); clear hC hcc hb hb1) | ((with_reducible refine gate_dst (N := 23) rfl ?_); refine text_event 9 22 (.tmp 22) rfl rfl s ?hx Tryd.underlying9 Tryd.underlying22 Tryd.underlying5 (by have := HSL.out; omega) ?_; (case hx => rw [← HSB.out]; rfl); intro g3 c3 w3 hC hcc hb; have HU3 := Aside0.mk hC; have HUC := Aside0.mk hcc; have HB3 := Aside0.mk (below_step HB2.out hb); have HC3 := Aside0.mk (Kd.C_below HC2.out hb); have HG3 := Aside0.mk (blk_below HG2.out hb); have HT3 := Aside0.mk (Kd.C_below HT2.out hb); clear hC hcc hb) | (go_at_call 8; have hp := rparse_calls ⟨g3, 0, none⟩ c3 s w3 HU3.out HUC.out (by have := HSL.out; omega); rw [HD.out] at hp; refine hp.mono ?_; clear hp; rintro e w4 ⟨A4, c4, rfl, hC, hcc, hb⟩; have HC4 := Aside0.mk (Kd.C_below hC (below_alloc (Below.refl _ _) (.cells #[.int .i64 v0, .slice A4 cs0.length c4] 25))); have HE4 := Aside0.mk hcc; have hb2 := below_alloc hb (.cells #[.int .i64 v0, .slice A4 cs0.length c4] 25); have HC42 := Aside0.mk (Kd.C_below HC3.out hb2); have HT4 := Aside0.mk (Kd.C_below HT3.out hb2); have HB4 := Aside0.mk (below_step HB3.out hb2); have hgg := blk_below HG3.out hb2; have hcz0 := (blk_cell hgg 0).trans (show _ = some (Value.int .i64 v0) from rfl); have hcz1 := (blk_cell hgg 1).trans (show _ = some (Value.slice A2 cs0.length c2) from rfl); clear hC hcc hb hb2 hgg) | (go_at_call 9; refine (same_calls (w4.alloc (.cells #[.int .i64 v0, .slice A4 cs0.length c4] 25)) (w4.alloc (.cells #[.int .i64 v0, .slice A4 cs0.length c4] 25)) v0 cs0 A2 A4 c2 c4 HC42.out HE2.out HC4.out HE4.out HCL.out (Below.refl _ _)).mono ?_; rintro e w5 ⟨rfl, hb⟩; have HB5 := Aside0.mk (below_step HB4.out hb); have hcv := (Kd.C_string (P := Tryd.prog) (c := c1) Tryd.underlying22 Tryd.underlying5 Tryd.underlying9 (Kd.C_below HT4.out hb)).trans (show _ = Result.ok (Value.string sB) w5 by rw [bI_str, HSB.out]); clear hb hcz0 hcz1) | (go_at_call 10; refine (works_c w w5 HLT.out HB5.out).mono ?_; rintro e w6 ⟨rfl, hb⟩; have HB6 := Aside0.mk hb; clear hb))
  go_ret
  exact ⟨rfl, HB6.out⟩
theorem dimacsParses_walk (s : ByteArray) (_ : s.size ≤ maxLen) (w : World) (hlt : LT w.heap.size w) :
    Calls Tryd.prog 3 #[.string s] w fun e w' => e = .returned (.bool true) ∧ Below w.heap.size w w' := by
  have h := parses_calls s.data.toList w hlt
  rwa [show baOf s.data.toList = s by cases s; simp [baOf]] at h
end Go.Proofs.YtigloobbpcnnhaaDoor.PB
end
