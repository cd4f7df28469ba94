import Derived.Test.YtlimaebaagabaaaDoorHMay
namespace Go.Proofs.YtlimaebaagabaaaDoor.PB
open Go.RowKit Go.Proofs.YtlimaebaagabaaaDoorW.PrintWords Go.Proofs.YtlimaebaagabaaaDoorW.PrintLast Go.Proofs.YtlimaebaagabaaaDoorW.PrintMore
set_option linter.unusedVariables false
set_option linter.unusedSimpArgs false
theorem lsz64 : (Tryd.prog.info? 64).map (·.size) = some 1 := by kernel_rfl
theorem lsz65 : (Tryd.prog.info? 65).map (·.size) = some 1 := by kernel_rfl
def Lfits (k id : Int) (N2 : Nat) : Bool := decide (k = 1) && decide (0 < id) || (decide (k = 2) && decide (0 ≤ id) && decide (N2 = 0))
def Lmay (s : S43) : Bool := Lfits s.f0 s.f1 s.f2.length && decide (s.f1 ≤ 4611686018427387903) && s.f2.all Llit && s.f3.all (Lhint s.f0)

set_option maxHeartbeats 1000000 in
set_option maxRecDepth 100000 in
theorem lmay_cons (k id : Int) (A2 A3 : Option Addr) (c2 c3 : Nat) (l2 l3 : List Int) (w : World) (hne : l2 ≠ []) (hC2 : Kd.C (Kd.int .i32) w A2 l2.length l2) (hC3 : Kd.C (Kd.int .i64) w A3 l3.length l3) :
    Calls Tryd.prog 16 #[.agg #[.int .u8 k, .int .i64 id, .slice A2 l2.length c2, .slice A3 l3.length c3]] w fun e w' => e = .returned (.bool (Lmay ⟨k, id, l2, l3⟩)) ∧ Below w.heap.size w w' := by
  have HC2 := Aside0.mk hC2
  have HC3 := Aside0.mk hC3
  clear hC2 hC3
  go_enter Tryd.func16, Tryd.ntmps16
  go_upto_region 3 with (first | ((with_reducible refine gate_dst (N := 1) rfl ?_); refine box_event ?hg (N := 1) ?hd (cs := #[.int .u8 k, .int .i64 id, .slice A2 l2.length c2, .slice A3 l3.length c3]) (t := 39) ?hr ?_; (case hd => rfl); (case hg => rfl); (case hr => first | (go_simp; done) | (go_simp; rfl)); intro g1 hgb w1 hbox hb; have HG1 := Aside0.mk hbox; have HB1 := Aside0.mk hb; clear hbox hb hgb) | ((with_reducible refine gate_dst (N := 3) rfl ?_); refine box_event ?hg (N := 3) ?hd (cs := #[.nilFunc]) (t := 64) ?hr ?_; (case hd => rfl); (case hg => rfl); (case hr => first | (go_simp; done) | (go_simp; rfl)); intro g3 hgb w3 hbox hb; have HG3 := Aside0.mk hbox; have HB3 := Aside0.mk (below_step HB1.out hb); have HG13 := Aside0.mk (blk_below HG1.out hb); have HL3 := Aside0.mk (show w.heap.size ≤ g3 by rw [hgb]; exact HB1.out.size); clear hbox hb hgb) | ((with_reducible refine gate_store (t := 64) (p := 3) rfl ?_); refine store_one 64 3 _ rfl rfl rfl (.func (.func 22) #[] #[]) #[.func (.func 22) #[] #[]] rfl rfl HG3.out rfl lsz64 (show 0 + 1 ≤ 1 by omega) rfl rfl ?_; intro w4 hw4 hsb; have HG34 := Aside0.mk hw4; have HG14 := Aside0.mk (hsb.other HG13.out (blk_ne HG13.out HG3.out (by decide))); have HB4 := Aside0.mk (hsb.below HB3.out HL3.out); clear hw4 hsb) | ((with_reducible refine gate_dst (N := 4) rfl ?_); refine box_event ?hg (N := 4) ?hd (cs := #[.nilFunc]) (t := 65) ?hr ?_; (case hd => rfl); (case hg => rfl); (case hr => first | (go_simp; done) | (go_simp; rfl)); intro g5 hgb w5 hbox hb; have HG5 := Aside0.mk hbox; have HB5 := Aside0.mk (below_step HB4.out hb); have HG15 := Aside0.mk (blk_below HG14.out hb); have HG35 := Aside0.mk (blk_below HG34.out hb); have HL5 := Aside0.mk (show w.heap.size ≤ g5 by rw [hgb]; exact HB4.out.size); clear hbox hb hgb) | ((with_reducible refine gate_store (t := 65) (p := 4) rfl ?_); refine store_one 65 4 (.tmp 6) rfl rfl rfl (.func (.func 23) #[] #[.pointer (some ⟨g1, 0, none⟩)]) #[.func (.func 23) #[] #[.pointer (some ⟨g1, 0, none⟩)]] rfl rfl HG5.out rfl lsz65 (show 0 + 1 ≤ 1 by omega) rfl rfl ?_; intro w6 hw6 hsb; have HG56 := Aside0.mk hw6; have HG16 := Aside0.mk (hsb.other HG15.out (blk_ne HG15.out HG5.out (by decide))); have HG36 := Aside0.mk (hsb.other HG35.out (blk_ne HG35.out HG5.out (by decide))); have HB6 := Aside0.mk (hsb.below HB5.out HL5.out); clear hw6 hsb))
  have hc0 := (blk_cell HG16.out 0).trans (show _ = some (Value.int .u8 k) from rfl)
  have hc1 := (blk_cell HG16.out 1).trans (show _ = some (Value.int .i64 id) from rfl)
  have hc2 := (blk_cell HG16.out 2).trans (show _ = some (Value.slice A2 l2.length c2) from rfl)
  have hc3 := (blk_cell HG16.out 3).trans (show _ = some (Value.slice A3 l3.length c3) from rfl)
  have HC26 := Aside0.mk (Kd.C_below HC2.out HB6.out)
  have HC36 := Aside0.mk (Kd.C_below HC3.out HB6.out)
  clear HC2 HC3 HB1 HB3 HB4 HB5
  go_upto_region 4 with fail
  all_goals (by_cases h6 : id ≤ 4611686018427387903)
  all_goals (go_wp2_with (first | (go_at_call 24; refine (cf24_calls g3 A2 c2 l2 _ HC26.out HG36.out).mono ?_; rintro e w7 ⟨rfl, rfl⟩) | (go_at_call 26; refine (cf26_calls g5 g1 k id _ _ A3 c3 l3 _ HC36.out HG56.out HG16.out).mono ?_; rintro e w7 ⟨rfl, rfl⟩)))
  all_goals (first | (exact absurd (by assumption) hne) | go_ret)
  all_goals (refine ⟨?_, HB6.out⟩)
  all_goals (first | (simp [Lmay, Lfits, *]; done) | (simp [Lmay, Lfits, *]; intros; exfalso; omega) | skip)
set_option maxHeartbeats 1000000 in
set_option maxRecDepth 100000 in
theorem lmay_nil (k id : Int) (A2 A3 : Option Addr) (c2 c3 : Nat) (l3 : List Int) (w : World) (hC2 : Kd.C (Kd.int .i32) w A2 0 []) (hC3 : Kd.C (Kd.int .i64) w A3 l3.length l3) :
    Calls Tryd.prog 16 #[.agg #[.int .u8 k, .int .i64 id, .slice A2 0 c2, .slice A3 l3.length c3]] w fun e w' => e = .returned (.bool (Lmay ⟨k, id, [], l3⟩)) ∧ Below w.heap.size w w' := by
  have HC2 := Aside0.mk hC2
  have HC3 := Aside0.mk hC3
  clear hC2 hC3
  go_enter Tryd.func16, Tryd.ntmps16
  go_upto_region 3 with (first | ((with_reducible refine gate_dst (N := 1) rfl ?_); refine box_event ?hg (N := 1) ?hd (cs := #[.int .u8 k, .int .i64 id, .slice A2 0 c2, .slice A3 l3.length c3]) (t := 39) ?hr ?_; (case hd => rfl); (case hg => rfl); (case hr => first | (go_simp; done) | (go_simp; rfl)); intro g1 hgb w1 hbox hb; have HG1 := Aside0.mk hbox; have HB1 := Aside0.mk hb; clear hbox hb hgb) | ((with_reducible refine gate_dst (N := 3) rfl ?_); refine box_event ?hg (N := 3) ?hd (cs := #[.nilFunc]) (t := 64) ?hr ?_; (case hd => rfl); (case hg => rfl); (case hr => first | (go_simp; done) | (go_simp; rfl)); intro g3 hgb w3 hbox hb; have HG3 := Aside0.mk hbox; have HB3 := Aside0.mk (below_step HB1.out hb); have HG13 := Aside0.mk (blk_below HG1.out hb); have HL3 := Aside0.mk (show w.heap.size ≤ g3 by rw [hgb]; exact HB1.out.size); clear hbox hb hgb) | ((with_reducible refine gate_store (t := 64) (p := 3) rfl ?_); refine store_one 64 3 _ rfl rfl rfl (.func (.func 22) #[] #[]) #[.func (.func 22) #[] #[]] rfl rfl HG3.out rfl lsz64 (show 0 + 1 ≤ 1 by omega) rfl rfl ?_; intro w4 hw4 hsb; have HG34 := Aside0.mk hw4; have HG14 := Aside0.mk (hsb.other HG13.out (blk_ne HG13.out HG3.out (by decide))); have HB4 := Aside0.mk (hsb.below HB3.out HL3.out); clear hw4 hsb) | ((with_reducible refine gate_dst (N := 4) rfl ?_); refine box_event ?hg (N := 4) ?hd (cs := #[.nilFunc]) (t := 65) ?hr ?_; (case hd => rfl); (case hg => rfl); (case hr => first | (go_simp; done) | (go_simp; rfl)); intro g5 hgb w5 hbox hb; have HG5 := Aside0.mk hbox; have HB5 := Aside0.mk (below_step HB4.out hb); have HG15 := Aside0.mk (blk_below HG14.out hb); have HG35 := Aside0.mk (blk_below HG34.out hb); have HL5 := Aside0.mk (show w.heap.size ≤ g5 by rw [hgb]; exact HB4.out.size); clear hbox hb hgb) | ((with_reducible refine gate_store (t := 65) (p := 4) rfl ?_); refine store_one 65 4 (.tmp 6) rfl rfl rfl (.func (.func 23) #[] #[.pointer (some ⟨g1, 0, none⟩)]) #[.func (.func 23) #[] #[.pointer (some ⟨g1, 0, none⟩)]] rfl rfl HG5.out rfl lsz65 (show 0 + 1 ≤ 1 by omega) rfl rfl ?_; intro w6 hw6 hsb; have HG56 := Aside0.mk hw6; have HG16 := Aside0.mk (hsb.other HG15.out (blk_ne HG15.out HG5.out (by decide))); have HG36 := Aside0.mk (hsb.other HG35.out (blk_ne HG35.out HG5.out (by decide))); have HB6 := Aside0.mk (hsb.below HB5.out HL5.out); clear hw6 hsb))
  have hc0 := (blk_cell HG16.out 0).trans (show _ = some (Value.int .u8 k) from rfl)
  have hc1 := (blk_cell HG16.out 1).trans (show _ = some (Value.int .i64 id) from rfl)
  have hc2 := (blk_cell HG16.out 2).trans (show _ = some (Value.slice A2 0 c2) from rfl)
  have hc3 := (blk_cell HG16.out 3).trans (show _ = some (Value.slice A3 l3.length c3) from rfl)
  have HC26 := Aside0.mk (Kd.C_below HC2.out HB6.out)
  have HC36 := Aside0.mk (Kd.C_below HC3.out HB6.out)
  clear HC2 HC3 HB1 HB3 HB4 HB5
  go_upto_region 4 with fail
  all_goals (by_cases h6 : id ≤ 4611686018427387903)
  all_goals (go_wp2_with (first | (go_at_call 24; refine (cf24_calls g3 A2 c2 [] _ HC26.out HG36.out).mono ?_; rintro e w7 ⟨rfl, rfl⟩) | (go_at_call 26; refine (cf26_calls g5 g1 k id _ _ A3 c3 l3 _ HC36.out HG56.out HG16.out).mono ?_; rintro e w7 ⟨rfl, rfl⟩)))
  all_goals (first | go_ret)
  all_goals (refine ⟨?_, HB6.out⟩)
  all_goals (first | (simp [Lmay, Lfits, *]; done) | (simp [Lmay, Lfits, *]; intros; exfalso; omega) | skip)
theorem lmay_calls (k id : Int) (A2 A3 : Option Addr) (c2 c3 : Nat) (l2 l3 : List Int) (w : World) (hC2 : Kd.C (Kd.int .i32) w A2 l2.length l2) (hC3 : Kd.C (Kd.int .i64) w A3 l3.length l3) :
    Calls Tryd.prog 16 #[.agg #[.int .u8 k, .int .i64 id, .slice A2 l2.length c2, .slice A3 l3.length c3]] w fun e w' => e = .returned (.bool (Lmay ⟨k, id, l2, l3⟩)) ∧ Below w.heap.size w w' := by
  by_cases h : l2 = []
  · subst h
    exact lmay_nil k id A2 A3 c2 c3 l3 w hC2 hC3
  · exact lmay_cons k id A2 A3 c2 c3 l2 l3 w h hC2 hC3
end Go.Proofs.YtlimaebaagabaaaDoor.PB
