import Derived.Test.YtfjnkbkcoakooaaDoorHLib
import Derived.Test.YtfjnkbkcoakooaaDoorSpecl
section
namespace Go.Proofs.YtfjnkbkcoakooaaDoor.PB
open Go.RowKit Go.Proofs.YtfjnkbkcoakooaaDoorW.PrintWords Go.Proofs.YtfjnkbkcoakooaaDoorW.PrintLast Go.Proofs.YtfjnkbkcoakooaaDoorW.PrintMore
set_option linter.unusedVariables false
set_option linter.unusedSimpArgs false
def Llit (x : Int) : Bool := !decide (x = 0) && decide (-1048576 ≤ x) && decide (x ≤ 1048576)
def Lhint (k : Int) (h : Int) : Bool := !decide (h = 0) && decide (h ≤ 4611686018427387903) && decide (-4611686018427387903 ≤ h) && (decide (0 < h) || decide (k = 1))
set_option maxHeartbeats 1000000 in
set_option maxRecDepth 100000 in
theorem may1_calls (x : Int) (w : World) : Calls Tryd.prog 33 #[.int .i32 x] w fun e w' => e = .returned (.bool (Llit x)) ∧ w' = w := by
  go_enter Tryd.func33, Tryd.ntmps33
  by_cases h0 : x = 0
  · go_wp2
    go_ret
    refine ⟨?_, rfl⟩
    simp [Llit, h0]
  · by_cases h1 : -1048576 ≤ x
    · go_wp2
      go_ret
      refine ⟨?_, rfl⟩
      simp [Llit, h0, h1]
    · go_wp2
      go_ret
      refine ⟨?_, rfl⟩
      simp [Llit, h0]
      omega
set_option maxHeartbeats 1000000 in
set_option maxRecDepth 100000 in
theorem may3_calls (g : Nat) (x : Int) (w : World) (hg : w.heap[g]? = some (.cells #[.func (.func 33) #[] #[]] 67 (0, 0))) : Calls Tryd.prog 36 #[.int .i32 x, .pointer (some ⟨g, 0, none⟩)] w fun e w' => e = .returned (.bool (!Llit x)) ∧ w' = w := by
  have hcell := (blk_cell hg 0).trans (show _ = some (Value.func (.func 33) #[] #[]) from rfl)
  go_enter Tryd.func36, Tryd.ntmps36
  go_wp2_with (go_at_call 33; refine (may1_calls x w).mono ?_; rintro e w2 ⟨rfl, rfl⟩)
  go_ret
  exact ⟨rfl, rfl⟩
theorem rd_mem_of (l : List Int) (x : Int) (h0 : 0 ≤ x) (h : x < l.length) : rd l x ∈ l := by
  have e := rdi_nat l x h0 h
  have : rd l x ∈ l.take (x + 1).toNat := by rw [e]; simp
  exact List.mem_of_mem_take this
set_option maxHeartbeats 1000000 in
set_option maxRecDepth 100000 in
theorem if37_calls (g : Nat) (A : Option Addr) (c : Nat) (l : List Int) (w : World) (hC : Kd.C (Kd.int .i32) w A l.length l) (hg : w.heap[g]? = some (.cells #[.func (.func 33) #[] #[]] 67 (0, 0))) :
    Calls Tryd.prog 55 #[.slice A l.length c, .func (.func 36) #[] #[.pointer (some ⟨g, 0, none⟩)]] w fun e w' => ∃ n : Int, e = .returned (.int .i64 n) ∧ (decide (0 ≤ n) = !l.all Llit) ∧ w' = w := by
  have HC := Aside0.mk hC
  have HG := Aside0.mk hg
  have hm : l.length ≤ 9223372036854775807 := hC.2.1
  clear hC hg
  go_enter Tryd.func55, Tryd.ntmps55
  go_wp2
  go_loopg [8] l.length (fun j v8 wr => ∃ (x : Int), v8 = .int .i64 x ∧ 0 ≤ x ∧ x + j = l.length ∧ Aside0 ((l.take x.toNat).all Llit = true) ∧ Aside0 (wr = w))
  case atStart => exact ⟨0, rfl, by omega, by omega, ⟨by simp⟩, ⟨rfl⟩⟩
  case round =>
    obtain ⟨x, rfl, hx0, hxj, HT, HW⟩ := hrel
    obtain rfl := HW.out
    by_cases hlt : x < (l.length : Int)
    · obtain ⟨ad, e0, hx_0⟩ := Kd.at_int HC.out x hx0 hlt
      cases e0
      obtain ⟨y, hy⟩ : ∃ y, y = rd l x := ⟨_, rfl⟩
      rw [← hy] at hx_0
      have HY := Aside0.mk hy
      clear hy
      have htk := Aside0.mk (rdi_nat l x hx0 hlt)
      have p0 := eq_true hx0
      have q0 := eq_true hlt
      cases hl : Llit y with
      | true =>
        go_wp2_with (go_at_call 36; refine (may3_calls g y _ HG.out).mono ?_; rintro e w2 ⟨rfl, rfl⟩)
        go_roundg (gk - 1)
        case rel => exact ⟨x + 1, rfl, by omega, by omega, ⟨by rw [htk.out, ← HY.out]; simp [HT.out, hl]⟩, ⟨rfl⟩⟩
        case measure => omega
      | false =>
        go_wp2_with (go_at_call 36; refine (may3_calls g y _ HG.out).mono ?_; rintro e w2 ⟨rfl, rfl⟩)
        go_ret
        have hf : l.all Llit = false := List.all_eq_false.2 ⟨y, by rw [HY.out]; exact rd_mem_of l x hx0 hlt, by simp [hl]⟩
        exact ⟨x, rfl, by rw [hf]; simpa using hx0, rfl⟩
    · go_wp2
      go_ret
      have hx : x.toNat = l.length := by omega
      have ht : l.all Llit = true := by have := HT.out; rw [hx, List.take_length] at this; exact this
      exact ⟨-1, rfl, by rw [ht]; rfl, rfl⟩
set_option maxHeartbeats 1000000 in
set_option maxRecDepth 100000 in
theorem cf24_calls (g : Nat) (A : Option Addr) (c : Nat) (l : List Int) (w : World) (hC : Kd.C (Kd.int .i32) w A l.length l) (hg : w.heap[g]? = some (.cells #[.func (.func 33) #[] #[]] 67 (0, 0))) :
    Calls Tryd.prog 35 #[.slice A l.length c, .func (.func 36) #[] #[.pointer (some ⟨g, 0, none⟩)]] w fun e w' => e = .returned (.bool (!l.all Llit)) ∧ w' = w := by
  go_enter Tryd.func35, Tryd.ntmps35
  go_wp2_with (go_at_call 55; refine (if37_calls g A c l w hC hg).mono ?_; rintro e w2 ⟨n, rfl, hn, rfl⟩)
  go_ret
  exact ⟨by rw [← hn]; rfl, rfl⟩
set_option maxHeartbeats 1000000 in
set_option maxRecDepth 100000 in
theorem may2_calls (g : Nat) (k id : Int) (v2 v3 : Value) (x : Int) (w : World) (hg : w.heap[g]? = some (.cells #[.int .u8 k, .int .i64 id, v2, v3] 43 (0, 0))) : Calls Tryd.prog 34 #[.int .i64 x, .pointer (some ⟨g, 0, none⟩)] w fun e w' => e = .returned (.bool (Lhint k x)) ∧ w' = w := by
  have hcell := (blk_cell hg 0).trans (show _ = some (Value.int .u8 k) from rfl)
  go_enter Tryd.func34, Tryd.ntmps34
  by_cases h0 : x = 0
  · go_wp2
    go_ret
    refine ⟨?_, rfl⟩
    simp [Lhint, h0]
  · by_cases h1 : x ≤ 4611686018427387903
    · by_cases h2 : -4611686018427387903 ≤ x
      · by_cases h3 : 0 < x
        · go_wp2
          go_ret
          refine ⟨?_, rfl⟩
          simp [Lhint, h0, h1, h2, h3]
        · go_wp2
          go_ret
          refine ⟨?_, rfl⟩
          simp [Lhint, h0, h1, h2, h3]
          have e1 : (x != 0) = true := bne_iff_ne.mpr h0
          have e2 : decide (0 < x) = false := decide_eq_false (by omega)
          rw [e1, e2]
          by_cases hk : k = 1
          · simp [hk]
          · simp [hk]
      · go_wp2
        go_ret
        refine ⟨?_, rfl⟩
        simp [Lhint, h0, h1]
        omega
    · go_wp2
      go_ret
      refine ⟨?_, rfl⟩
      simp [Lhint, h0]
      omega
set_option maxHeartbeats 1000000 in
set_option maxRecDepth 100000 in
theorem may4_calls (g g1 : Nat) (k id : Int) (v2 v3 : Value) (x : Int) (w : World) (hg : w.heap[g]? = some (.cells #[.func (.func 34) #[] #[.pointer (some ⟨g1, 0, none⟩)]] 68 (0, 0))) (hg1 : w.heap[g1]? = some (.cells #[.int .u8 k, .int .i64 id, v2, v3] 43 (0, 0))) : Calls Tryd.prog 38 #[.int .i64 x, .pointer (some ⟨g, 0, none⟩)] w fun e w' => e = .returned (.bool (!Lhint k x)) ∧ w' = w := by
  have hcell := (blk_cell hg 0).trans (show _ = some (Value.func (.func 34) #[] #[.pointer (some ⟨g1, 0, none⟩)]) from rfl)
  go_enter Tryd.func38, Tryd.ntmps38
  go_wp2_with (go_at_call 34; refine (may2_calls g1 k id v2 v3 x w hg1).mono ?_; rintro e w2 ⟨rfl, rfl⟩)
  go_ret
  exact ⟨rfl, rfl⟩
set_option maxHeartbeats 1000000 in
set_option maxRecDepth 100000 in
theorem if38_calls (g g1 : Nat) (k id : Int) (v2 v3 : Value) (A : Option Addr) (c : Nat) (l : List Int) (w : World) (hC : Kd.C (Kd.int .i64) w A l.length l) (hg : w.heap[g]? = some (.cells #[.func (.func 34) #[] #[.pointer (some ⟨g1, 0, none⟩)]] 68 (0, 0))) (hg1 : w.heap[g1]? = some (.cells #[.int .u8 k, .int .i64 id, v2, v3] 43 (0, 0))) :
    Calls Tryd.prog 56 #[.slice A l.length c, .func (.func 38) #[] #[.pointer (some ⟨g, 0, none⟩)]] w fun e w' => ∃ n : Int, e = .returned (.int .i64 n) ∧ (decide (0 ≤ n) = !l.all (Lhint k)) ∧ w' = w := by
  have HC := Aside0.mk hC
  have HG := Aside0.mk hg
  have HG1 := Aside0.mk hg1
  have hm : l.length ≤ 9223372036854775807 := hC.2.1
  clear hC hg hg1
  go_enter Tryd.func56, Tryd.ntmps56
  go_wp2
  go_loopg [8] l.length (fun j v8 wr => ∃ (x : Int), v8 = .int .i64 x ∧ 0 ≤ x ∧ x + j = l.length ∧ Aside0 ((l.take x.toNat).all (Lhint k) = true) ∧ Aside0 (wr = w))
  case atStart => exact ⟨0, rfl, by omega, by omega, ⟨by simp⟩, ⟨rfl⟩⟩
  case round =>
    obtain ⟨x, rfl, hx0, hxj, HT, HW⟩ := hrel
    obtain rfl := HW.out
    by_cases hlt : x < (l.length : Int)
    · obtain ⟨ad, e0, hx_0⟩ := Kd.at_int HC.out x hx0 hlt
      cases e0
      obtain ⟨y, hy⟩ : ∃ y, y = rd l x := ⟨_, rfl⟩
      rw [← hy] at hx_0
      have HY := Aside0.mk hy
      clear hy
      have htk := Aside0.mk (rdi_nat l x hx0 hlt)
      have p0 := eq_true hx0
      have q0 := eq_true hlt
      cases hl : Lhint k y with
      | true =>
        go_wp2_with (go_at_call 38; refine (may4_calls g g1 k id v2 v3 y _ HG.out HG1.out).mono ?_; rintro e w2 ⟨rfl, rfl⟩)
        go_roundg (gk - 1)
        case rel => exact ⟨x + 1, rfl, by omega, by omega, ⟨by rw [htk.out, ← HY.out]; simp [HT.out, hl]⟩, ⟨rfl⟩⟩
        case measure => omega
      | false =>
        go_wp2_with (go_at_call 38; refine (may4_calls g g1 k id v2 v3 y _ HG.out HG1.out).mono ?_; rintro e w2 ⟨rfl, rfl⟩)
        go_ret
        have hf : l.all (Lhint k) = false := List.all_eq_false.2 ⟨y, by rw [HY.out]; exact rd_mem_of l x hx0 hlt, by simp [hl]⟩
        exact ⟨x, rfl, by rw [hf]; simpa using hx0, rfl⟩
    · go_wp2
      go_ret
      have hx : x.toNat = l.length := by omega
      have ht : l.all (Lhint k) = true := by have := HT.out; rw [hx, List.take_length] at this; exact this
      exact ⟨-1, rfl, by rw [ht]; rfl, rfl⟩
set_option maxHeartbeats 1000000 in
set_option maxRecDepth 100000 in
theorem cf26_calls (g g1 : Nat) (k id : Int) (v2 v3 : Value) (A : Option Addr) (c : Nat) (l : List Int) (w : World) (hC : Kd.C (Kd.int .i64) w A l.length l) (hg : w.heap[g]? = some (.cells #[.func (.func 34) #[] #[.pointer (some ⟨g1, 0, none⟩)]] 68 (0, 0))) (hg1 : w.heap[g1]? = some (.cells #[.int .u8 k, .int .i64 id, v2, v3] 43 (0, 0))) :
    Calls Tryd.prog 37 #[.slice A l.length c, .func (.func 38) #[] #[.pointer (some ⟨g, 0, none⟩)]] w fun e w' => e = .returned (.bool (!l.all (Lhint k))) ∧ w' = w := by
  go_enter Tryd.func37, Tryd.ntmps37
  go_wp2_with (go_at_call 56; refine (if38_calls g g1 k id v2 v3 A c l w hC hg hg1).mono ?_; rintro e w2 ⟨n, rfl, hn, rfl⟩)
  go_ret
  exact ⟨by rw [← hn]; rfl, rfl⟩
end Go.Proofs.YtfjnkbkcoakooaaDoor.PB
end

section
namespace Go.Proofs.YtfjnkbkcoakooaaDoor.PB
open Go.RowKit Go.Proofs.YtfjnkbkcoakooaaDoorW.PrintWords Go.Proofs.YtfjnkbkcoakooaaDoorW.PrintLast Go.Proofs.YtfjnkbkcoakooaaDoorW.PrintMore
set_option linter.unusedVariables false
set_option linter.unusedSimpArgs false
theorem lsz64 : (Tryd.prog.info? 67).map (·.size) = some 1 := by kernel_rfl
theorem lsz65 : (Tryd.prog.info? 68).map (·.size) = some 1 := by kernel_rfl
def Lfits (k id : Int) (N2 : Nat) : Bool := decide (k = 1) && decide (0 < id) || (decide (k = 2) && decide (0 ≤ id) && decide (N2 = 0))
def Lmay (s : S43) : Bool := Lfits s.f0 s.f1 s.f2.length && decide (s.f1 ≤ 4611686018427387903) && s.f2.all Llit && s.f3.all (Lhint s.f0)

set_option maxHeartbeats 1000000 in
set_option maxRecDepth 100000 in
theorem lmay_cons (k id : Int) (A2 A3 : Option Addr) (c2 c3 : Nat) (l2 l3 : List Int) (w : World) (hne : l2 ≠ []) (hC2 : Kd.C (Kd.int .i32) w A2 l2.length l2) (hC3 : Kd.C (Kd.int .i64) w A3 l3.length l3) :
    Calls Tryd.prog 23 #[.agg #[.int .u8 k, .int .i64 id, .slice A2 l2.length c2, .slice A3 l3.length c3]] w fun e w' => e = .returned (.bool (Lmay ⟨k, id, l2, l3⟩)) ∧ Below w.heap.size w w' := by
  have HC2 := Aside0.mk hC2
  have HC3 := Aside0.mk hC3
  clear hC2 hC3
  go_enter Tryd.func23, Tryd.ntmps23
  go_upto_region 3 with (first | ((with_reducible refine gate_dst (N := 1) rfl ?_); refine box_event ?hg (N := 1) ?hd (cs := #[.int .u8 k, .int .i64 id, .slice A2 l2.length c2, .slice A3 l3.length c3]) (t := 43) ?hr ?_; (case hd => rfl); (case hg => rfl); (case hr => first | (go_simp; done) | (go_simp; rfl)); intro g1 hgb w1 hbox hb; have HG1 := Aside0.mk hbox; have HB1 := Aside0.mk hb; clear hbox hb hgb) | ((with_reducible refine gate_dst (N := 3) rfl ?_); refine box_event ?hg (N := 3) ?hd (cs := #[.nilFunc]) (t := 67) ?hr ?_; (case hd => rfl); (case hg => rfl); (case hr => first | (go_simp; done) | (go_simp; rfl)); intro g3 hgb w3 hbox hb; have HG3 := Aside0.mk hbox; have HB3 := Aside0.mk (below_step HB1.out hb); have HG13 := Aside0.mk (blk_below HG1.out hb); have HL3 := Aside0.mk (show w.heap.size ≤ g3 by rw [hgb]; exact HB1.out.size); clear hbox hb hgb) | ((with_reducible refine gate_store (t := 67) (p := 3) rfl ?_); refine store_one 67 3 _ rfl rfl rfl (.func (.func 33) #[] #[]) #[.func (.func 33) #[] #[]] rfl rfl HG3.out rfl lsz64 (show 0 + 1 ≤ 1 by omega) rfl rfl ?_; intro w4 hw4 hsb; have HG34 := Aside0.mk hw4; have HG14 := Aside0.mk (hsb.other HG13.out (blk_ne HG13.out HG3.out (by decide))); have HB4 := Aside0.mk (hsb.below HB3.out HL3.out); clear hw4 hsb) | ((with_reducible refine gate_dst (N := 4) rfl ?_); refine box_event ?hg (N := 4) ?hd (cs := #[.nilFunc]) (t := 68) ?hr ?_; (case hd => rfl); (case hg => rfl); (case hr => first | (go_simp; done) | (go_simp; rfl)); intro g5 hgb w5 hbox hb; have HG5 := Aside0.mk hbox; have HB5 := Aside0.mk (below_step HB4.out hb); have HG15 := Aside0.mk (blk_below HG14.out hb); have HG35 := Aside0.mk (blk_below HG34.out hb); have HL5 := Aside0.mk (show w.heap.size ≤ g5 by rw [hgb]; exact HB4.out.size); clear hbox hb hgb) | ((with_reducible refine gate_store (t := 68) (p := 4) rfl ?_); refine store_one 68 4 (.tmp 6) rfl rfl rfl (.func (.func 34) #[] #[.pointer (some ⟨g1, 0, none⟩)]) #[.func (.func 34) #[] #[.pointer (some ⟨g1, 0, none⟩)]] rfl rfl HG5.out rfl lsz65 (show 0 + 1 ≤ 1 by omega) rfl rfl ?_; intro w6 hw6 hsb; have HG56 := Aside0.mk hw6; have HG16 := Aside0.mk (hsb.other HG15.out (blk_ne HG15.out HG5.out (by decide))); have HG36 := Aside0.mk (hsb.other HG35.out (blk_ne HG35.out HG5.out (by decide))); have HB6 := Aside0.mk (hsb.below HB5.out HL5.out); clear hw6 hsb))
  have hc0 := (blk_cell HG16.out 0).trans (show _ = some (Value.int .u8 k) from rfl)
  have hc1 := (blk_cell HG16.out 1).trans (show _ = some (Value.int .i64 id) from rfl)
  have hc2 := (blk_cell HG16.out 2).trans (show _ = some (Value.slice A2 l2.length c2) from rfl)
  have hc3 := (blk_cell HG16.out 3).trans (show _ = some (Value.slice A3 l3.length c3) from rfl)
  have HC26 := Aside0.mk (Kd.C_below HC2.out HB6.out)
  have HC36 := Aside0.mk (Kd.C_below HC3.out HB6.out)
  clear HC2 HC3 HB1 HB3 HB4 HB5
  go_upto_region 4 with fail
  all_goals (by_cases h6 : id ≤ 4611686018427387903)
  all_goals (go_wp2_with (first | (go_at_call 35; refine (cf24_calls g3 A2 c2 l2 _ HC26.out HG36.out).mono ?_; rintro e w7 ⟨rfl, rfl⟩) | (go_at_call 37; refine (cf26_calls g5 g1 k id _ _ A3 c3 l3 _ HC36.out HG56.out HG16.out).mono ?_; rintro e w7 ⟨rfl, rfl⟩)))
  all_goals (first | (exact absurd (by assumption) hne) | go_ret)
  all_goals (refine ⟨?_, HB6.out⟩)
  all_goals (first | (simp [Lmay, Lfits, *]; done) | (simp [Lmay, Lfits, *]; intros; exfalso; omega) | skip)
set_option maxHeartbeats 1000000 in
set_option maxRecDepth 100000 in
theorem lmay_nil (k id : Int) (A2 A3 : Option Addr) (c2 c3 : Nat) (l3 : List Int) (w : World) (hC2 : Kd.C (Kd.int .i32) w A2 0 []) (hC3 : Kd.C (Kd.int .i64) w A3 l3.length l3) :
    Calls Tryd.prog 23 #[.agg #[.int .u8 k, .int .i64 id, .slice A2 0 c2, .slice A3 l3.length c3]] w fun e w' => e = .returned (.bool (Lmay ⟨k, id, [], l3⟩)) ∧ Below w.heap.size w w' := by
  have HC2 := Aside0.mk hC2
  have HC3 := Aside0.mk hC3
  clear hC2 hC3
  go_enter Tryd.func23, Tryd.ntmps23
  go_upto_region 3 with (first | ((with_reducible refine gate_dst (N := 1) rfl ?_); refine box_event ?hg (N := 1) ?hd (cs := #[.int .u8 k, .int .i64 id, .slice A2 0 c2, .slice A3 l3.length c3]) (t := 43) ?hr ?_; (case hd => rfl); (case hg => rfl); (case hr => first | (go_simp; done) | (go_simp; rfl)); intro g1 hgb w1 hbox hb; have HG1 := Aside0.mk hbox; have HB1 := Aside0.mk hb; clear hbox hb hgb) | ((with_reducible refine gate_dst (N := 3) rfl ?_); refine box_event ?hg (N := 3) ?hd (cs := #[.nilFunc]) (t := 67) ?hr ?_; (case hd => rfl); (case hg => rfl); (case hr => first | (go_simp; done) | (go_simp; rfl)); intro g3 hgb w3 hbox hb; have HG3 := Aside0.mk hbox; have HB3 := Aside0.mk (below_step HB1.out hb); have HG13 := Aside0.mk (blk_below HG1.out hb); have HL3 := Aside0.mk (show w.heap.size ≤ g3 by rw [hgb]; exact HB1.out.size); clear hbox hb hgb) | ((with_reducible refine gate_store (t := 67) (p := 3) rfl ?_); refine store_one 67 3 _ rfl rfl rfl (.func (.func 33) #[] #[]) #[.func (.func 33) #[] #[]] rfl rfl HG3.out rfl lsz64 (show 0 + 1 ≤ 1 by omega) rfl rfl ?_; intro w4 hw4 hsb; have HG34 := Aside0.mk hw4; have HG14 := Aside0.mk (hsb.other HG13.out (blk_ne HG13.out HG3.out (by decide))); have HB4 := Aside0.mk (hsb.below HB3.out HL3.out); clear hw4 hsb) | ((with_reducible refine gate_dst (N := 4) rfl ?_); refine box_event ?hg (N := 4) ?hd (cs := #[.nilFunc]) (t := 68) ?hr ?_; (case hd => rfl); (case hg => rfl); (case hr => first | (go_simp; done) | (go_simp; rfl)); intro g5 hgb w5 hbox hb; have HG5 := Aside0.mk hbox; have HB5 := Aside0.mk (below_step HB4.out hb); have HG15 := Aside0.mk (blk_below HG14.out hb); have HG35 := Aside0.mk (blk_below HG34.out hb); have HL5 := Aside0.mk (show w.heap.size ≤ g5 by rw [hgb]; exact HB4.out.size); clear hbox hb hgb) | ((with_reducible refine gate_store (t := 68) (p := 4) rfl ?_); refine store_one 68 4 (.tmp 6) rfl rfl rfl (.func (.func 34) #[] #[.pointer (some ⟨g1, 0, none⟩)]) #[.func (.func 34) #[] #[.pointer (some ⟨g1, 0, none⟩)]] rfl rfl HG5.out rfl lsz65 (show 0 + 1 ≤ 1 by omega) rfl rfl ?_; intro w6 hw6 hsb; have HG56 := Aside0.mk hw6; have HG16 := Aside0.mk (hsb.other HG15.out (blk_ne HG15.out HG5.out (by decide))); have HG36 := Aside0.mk (hsb.other HG35.out (blk_ne HG35.out HG5.out (by decide))); have HB6 := Aside0.mk (hsb.below HB5.out HL5.out); clear hw6 hsb))
  have hc0 := (blk_cell HG16.out 0).trans (show _ = some (Value.int .u8 k) from rfl)
  have hc1 := (blk_cell HG16.out 1).trans (show _ = some (Value.int .i64 id) from rfl)
  have hc2 := (blk_cell HG16.out 2).trans (show _ = some (Value.slice A2 0 c2) from rfl)
  have hc3 := (blk_cell HG16.out 3).trans (show _ = some (Value.slice A3 l3.length c3) from rfl)
  have HC26 := Aside0.mk (Kd.C_below HC2.out HB6.out)
  have HC36 := Aside0.mk (Kd.C_below HC3.out HB6.out)
  clear HC2 HC3 HB1 HB3 HB4 HB5
  go_upto_region 4 with fail
  all_goals (by_cases h6 : id ≤ 4611686018427387903)
  all_goals (go_wp2_with (first | (go_at_call 35; refine (cf24_calls g3 A2 c2 [] _ HC26.out HG36.out).mono ?_; rintro e w7 ⟨rfl, rfl⟩) | (go_at_call 37; refine (cf26_calls g5 g1 k id _ _ A3 c3 l3 _ HC36.out HG56.out HG16.out).mono ?_; rintro e w7 ⟨rfl, rfl⟩)))
  all_goals (first | go_ret)
  all_goals (refine ⟨?_, HB6.out⟩)
  all_goals (first | (simp [Lmay, Lfits, *]; done) | (simp [Lmay, Lfits, *]; intros; exfalso; omega) | skip)
theorem lmay_calls (k id : Int) (A2 A3 : Option Addr) (c2 c3 : Nat) (l2 l3 : List Int) (w : World) (hC2 : Kd.C (Kd.int .i32) w A2 l2.length l2) (hC3 : Kd.C (Kd.int .i64) w A3 l3.length l3) :
    Calls Tryd.prog 23 #[.agg #[.int .u8 k, .int .i64 id, .slice A2 l2.length c2, .slice A3 l3.length c3]] w fun e w' => e = .returned (.bool (Lmay ⟨k, id, l2, l3⟩)) ∧ Below w.heap.size w w' := by
  by_cases h : l2 = []
  · subst h
    exact lmay_nil k id A2 A3 c2 c3 l3 w hC2 hC3
  · exact lmay_cons k id A2 A3 c2 c3 l2 l3 w h hC2 hC3
end Go.Proofs.YtfjnkbkcoakooaaDoor.PB
end
