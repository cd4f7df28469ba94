import Derived.Test.YtlimaebaagabaaaDoorHLib
import Derived.Test.YtlimaebaagabaaaDoorSpecw
namespace Go.Proofs.YtlimaebaagabaaaDoor.PB
open Go.RowKit Go.Proofs.YtlimaebaagabaaaDoorW.PrintWords Go.Proofs.YtlimaebaagabaaaDoorW.PrintLast Go.Proofs.YtlimaebaagabaaaDoorW.PrintMore
set_option linter.unusedVariables false
set_option linter.unusedSimpArgs false
def Llit (x : Int) : Bool := !decide (x = 0) && decide (-1048576 ≤ x) && decide (x ≤ 1048576)
def Lhint (k : Int) (h : Int) : Bool := !decide (h = 0) && decide (h ≤ 4611686018427387903) && decide (-4611686018427387903 ≤ h) && (decide (0 < h) || decide (k = 1))
set_option maxHeartbeats 1000000 in
set_option maxRecDepth 100000 in
theorem may1_calls (x : Int) (w : World) : Calls Tryd.prog 22 #[.int .i32 x] w fun e w' => e = .returned (.bool (Llit x)) ∧ w' = w := by
  go_enter Tryd.func22, Tryd.ntmps22
  by_cases h0 : x = 0
  · go_wp2
    go_ret
    refine ⟨?_, rfl⟩
    simp [Llit, h0]
  · by_cases h1 : -1048576 ≤ x
    · go_wp2
      go_ret
      refine ⟨?_, rfl⟩
      simp [Llit, h0, h1]
    · go_wp2
      go_ret
      refine ⟨?_, rfl⟩
      simp [Llit, h0]
      omega
set_option maxHeartbeats 1000000 in
set_option maxRecDepth 100000 in
theorem may3_calls (g : Nat) (x : Int) (w : World) (hg : w.heap[g]? = some (.cells #[.func (.func 22) #[] #[]] 64 (0, 0))) : Calls Tryd.prog 25 #[.int .i32 x, .pointer (some ⟨g, 0, none⟩)] w fun e w' => e = .returned (.bool (!Llit x)) ∧ w' = w := by
  have hcell := (blk_cell hg 0).trans (show _ = some (Value.func (.func 22) #[] #[]) from rfl)
  go_enter Tryd.func25, Tryd.ntmps25
  go_wp2_with (go_at_call 22; refine (may1_calls x w).mono ?_; rintro e w2 ⟨rfl, rfl⟩)
  go_ret
  exact ⟨rfl, rfl⟩
theorem rd_mem_of (l : List Int) (x : Int) (h0 : 0 ≤ x) (h : x < l.length) : rd l x ∈ l := by
  have e := rdi_nat l x h0 h
  have : rd l x ∈ l.take (x + 1).toNat := by rw [e]; simp
  exact List.mem_of_mem_take this
set_option maxHeartbeats 1000000 in
set_option maxRecDepth 100000 in
theorem if37_calls (g : Nat) (A : Option Addr) (c : Nat) (l : List Int) (w : World) (hC : Kd.C (Kd.int .i32) w A l.length l) (hg : w.heap[g]? = some (.cells #[.func (.func 22) #[] #[]] 64 (0, 0))) :
    Calls Tryd.prog 37 #[.slice A l.length c, .func (.func 25) #[] #[.pointer (some ⟨g, 0, none⟩)]] w fun e w' => ∃ n : Int, e = .returned (.int .i64 n) ∧ (decide (0 ≤ n) = !l.all Llit) ∧ w' = w := by
  have HC := Aside0.mk hC
  have HG := Aside0.mk hg
  have hm : l.length ≤ 9223372036854775807 := hC.2.1
  clear hC hg
  go_enter Tryd.func37, Tryd.ntmps37
  go_wp2
  go_loopg [8] l.length (fun j v8 wr => ∃ (x : Int), v8 = .int .i64 x ∧ 0 ≤ x ∧ x + j = l.length ∧ Aside0 ((l.take x.toNat).all Llit = true) ∧ Aside0 (wr = w))
  case atStart => exact ⟨0, rfl, by omega, by omega, ⟨by simp⟩, ⟨rfl⟩⟩
  case round =>
    obtain ⟨x, rfl, hx0, hxj, HT, HW⟩ := hrel
    obtain rfl := HW.out
    by_cases hlt : x < (l.length : Int)
    · obtain ⟨ad, e0, hx_0⟩ := Kd.at_int HC.out x hx0 hlt
      cases e0
      obtain ⟨y, hy⟩ : ∃ y, y = rd l x := ⟨_, rfl⟩
      rw [← hy] at hx_0
      have HY := Aside0.mk hy
      clear hy
      have htk := Aside0.mk (rdi_nat l x hx0 hlt)
      have p0 := eq_true hx0
      have q0 := eq_true hlt
      cases hl : Llit y with
      | true =>
        go_wp2_with (go_at_call 25; refine (may3_calls g y _ HG.out).mono ?_; rintro e w2 ⟨rfl, rfl⟩)
        go_roundg (gk - 1)
        case rel => exact ⟨x + 1, rfl, by omega, by omega, ⟨by rw [htk.out, ← HY.out]; simp [HT.out, hl]⟩, ⟨rfl⟩⟩
        case measure => omega
      | false =>
        go_wp2_with (go_at_call 25; refine (may3_calls g y _ HG.out).mono ?_; rintro e w2 ⟨rfl, rfl⟩)
        go_ret
        have hf : l.all Llit = false := List.all_eq_false.2 ⟨y, by rw [HY.out]; exact rd_mem_of l x hx0 hlt, by simp [hl]⟩
        exact ⟨x, rfl, by rw [hf]; simpa using hx0, rfl⟩
    · go_wp2
      go_ret
      have hx : x.toNat = l.length := by omega
      have ht : l.all Llit = true := by have := HT.out; rw [hx, List.take_length] at this; exact this
      exact ⟨-1, rfl, by rw [ht]; rfl, rfl⟩
set_option maxHeartbeats 1000000 in
set_option maxRecDepth 100000 in
theorem cf24_calls (g : Nat) (A : Option Addr) (c : Nat) (l : List Int) (w : World) (hC : Kd.C (Kd.int .i32) w A l.length l) (hg : w.heap[g]? = some (.cells #[.func (.func 22) #[] #[]] 64 (0, 0))) :
    Calls Tryd.prog 24 #[.slice A l.length c, .func (.func 25) #[] #[.pointer (some ⟨g, 0, none⟩)]] w fun e w' => e = .returned (.bool (!l.all Llit)) ∧ w' = w := by
  go_enter Tryd.func24, Tryd.ntmps24
  go_wp2_with (go_at_call 37; refine (if37_calls g A c l w hC hg).mono ?_; rintro e w2 ⟨n, rfl, hn, rfl⟩)
  go_ret
  exact ⟨by rw [← hn]; rfl, rfl⟩
set_option maxHeartbeats 1000000 in
set_option maxRecDepth 100000 in
theorem may2_calls (g : Nat) (k id : Int) (v2 v3 : Value) (x : Int) (w : World) (hg : w.heap[g]? = some (.cells #[.int .u8 k, .int .i64 id, v2, v3] 39 (0, 0))) : Calls Tryd.prog 23 #[.int .i64 x, .pointer (some ⟨g, 0, none⟩)] w fun e w' => e = .returned (.bool (Lhint k x)) ∧ w' = w := by
  have hcell := (blk_cell hg 0).trans (show _ = some (Value.int .u8 k) from rfl)
  go_enter Tryd.func23, Tryd.ntmps23
  by_cases h0 : x = 0
  · go_wp2
    go_ret
    refine ⟨?_, rfl⟩
    simp [Lhint, h0]
  · by_cases h1 : x ≤ 4611686018427387903
    · by_cases h2 : -4611686018427387903 ≤ x
      · by_cases h3 : 0 < x
        · go_wp2
          go_ret
          refine ⟨?_, rfl⟩
          simp [Lhint, h0, h1, h2, h3]
        · go_wp2
          go_ret
          refine ⟨?_, rfl⟩
          simp [Lhint, h0, h1, h2, h3]
          have e1 : (x != 0) = true := bne_iff_ne.mpr h0
          have e2 : decide (0 < x) = false := decide_eq_false (by omega)
          rw [e1, e2]
          by_cases hk : k = 1
          · simp [hk]
          · simp [hk]
      · go_wp2
        go_ret
        refine ⟨?_, rfl⟩
        simp [Lhint, h0, h1]
        omega
    · go_wp2
      go_ret
      refine ⟨?_, rfl⟩
      simp [Lhint, h0]
      omega
set_option maxHeartbeats 1000000 in
set_option maxRecDepth 100000 in
theorem may4_calls (g g1 : Nat) (k id : Int) (v2 v3 : Value) (x : Int) (w : World) (hg : w.heap[g]? = some (.cells #[.func (.func 23) #[] #[.pointer (some ⟨g1, 0, none⟩)]] 65 (0, 0))) (hg1 : w.heap[g1]? = some (.cells #[.int .u8 k, .int .i64 id, v2, v3] 39 (0, 0))) : Calls Tryd.prog 27 #[.int .i64 x, .pointer (some ⟨g, 0, none⟩)] w fun e w' => e = .returned (.bool (!Lhint k x)) ∧ w' = w := by
  have hcell := (blk_cell hg 0).trans (show _ = some (Value.func (.func 23) #[] #[.pointer (some ⟨g1, 0, none⟩)]) from rfl)
  go_enter Tryd.func27, Tryd.ntmps27
  go_wp2_with (go_at_call 23; refine (may2_calls g1 k id v2 v3 x w hg1).mono ?_; rintro e w2 ⟨rfl, rfl⟩)
  go_ret
  exact ⟨rfl, rfl⟩
set_option maxHeartbeats 1000000 in
set_option maxRecDepth 100000 in
theorem if38_calls (g g1 : Nat) (k id : Int) (v2 v3 : Value) (A : Option Addr) (c : Nat) (l : List Int) (w : World) (hC : Kd.C (Kd.int .i64) w A l.length l) (hg : w.heap[g]? = some (.cells #[.func (.func 23) #[] #[.pointer (some ⟨g1, 0, none⟩)]] 65 (0, 0))) (hg1 : w.heap[g1]? = some (.cells #[.int .u8 k, .int .i64 id, v2, v3] 39 (0, 0))) :
    Calls Tryd.prog 38 #[.slice A l.length c, .func (.func 27) #[] #[.pointer (some ⟨g, 0, none⟩)]] w fun e w' => ∃ n : Int, e = .returned (.int .i64 n) ∧ (decide (0 ≤ n) = !l.all (Lhint k)) ∧ w' = w := by
  have HC := Aside0.mk hC
  have HG := Aside0.mk hg
  have HG1 := Aside0.mk hg1
  have hm : l.length ≤ 9223372036854775807 := hC.2.1
  clear hC hg hg1
  go_enter Tryd.func38, Tryd.ntmps38
  go_wp2
  go_loopg [8] l.length (fun j v8 wr => ∃ (x : Int), v8 = .int .i64 x ∧ 0 ≤ x ∧ x + j = l.length ∧ Aside0 ((l.take x.toNat).all (Lhint k) = true) ∧ Aside0 (wr = w))
  case atStart => exact ⟨0, rfl, by omega, by omega, ⟨by simp⟩, ⟨rfl⟩⟩
  case round =>
    obtain ⟨x, rfl, hx0, hxj, HT, HW⟩ := hrel
    obtain rfl := HW.out
    by_cases hlt : x < (l.length : Int)
    · obtain ⟨ad, e0, hx_0⟩ := Kd.at_int HC.out x hx0 hlt
      cases e0
      obtain ⟨y, hy⟩ : ∃ y, y = rd l x := ⟨_, rfl⟩
      rw [← hy] at hx_0
      have HY := Aside0.mk hy
      clear hy
      have htk := Aside0.mk (rdi_nat l x hx0 hlt)
      have p0 := eq_true hx0
      have q0 := eq_true hlt
      cases hl : Lhint k y with
      | true =>
        go_wp2_with (go_at_call 27; refine (may4_calls g g1 k id v2 v3 y _ HG.out HG1.out).mono ?_; rintro e w2 ⟨rfl, rfl⟩)
        go_roundg (gk - 1)
        case rel => exact ⟨x + 1, rfl, by omega, by omega, ⟨by rw [htk.out, ← HY.out]; simp [HT.out, hl]⟩, ⟨rfl⟩⟩
        case measure => omega
      | false =>
        go_wp2_with (go_at_call 27; refine (may4_calls g g1 k id v2 v3 y _ HG.out HG1.out).mono ?_; rintro e w2 ⟨rfl, rfl⟩)
        go_ret
        have hf : l.all (Lhint k) = false := List.all_eq_false.2 ⟨y, by rw [HY.out]; exact rd_mem_of l x hx0 hlt, by simp [hl]⟩
        exact ⟨x, rfl, by rw [hf]; simpa using hx0, rfl⟩
    · go_wp2
      go_ret
      have hx : x.toNat = l.length := by omega
      have ht : l.all (Lhint k) = true := by have := HT.out; rw [hx, List.take_length] at this; exact this
      exact ⟨-1, rfl, by rw [ht]; rfl, rfl⟩
set_option maxHeartbeats 1000000 in
set_option maxRecDepth 100000 in
theorem cf26_calls (g g1 : Nat) (k id : Int) (v2 v3 : Value) (A : Option Addr) (c : Nat) (l : List Int) (w : World) (hC : Kd.C (Kd.int .i64) w A l.length l) (hg : w.heap[g]? = some (.cells #[.func (.func 23) #[] #[.pointer (some ⟨g1, 0, none⟩)]] 65 (0, 0))) (hg1 : w.heap[g1]? = some (.cells #[.int .u8 k, .int .i64 id, v2, v3] 39 (0, 0))) :
    Calls Tryd.prog 26 #[.slice A l.length c, .func (.func 27) #[] #[.pointer (some ⟨g, 0, none⟩)]] w fun e w' => e = .returned (.bool (!l.all (Lhint k))) ∧ w' = w := by
  go_enter Tryd.func26, Tryd.ntmps26
  go_wp2_with (go_at_call 38; refine (if38_calls g g1 k id v2 v3 A c l w hC hg hg1).mono ?_; rintro e w2 ⟨n, rfl, hn, rfl⟩)
  go_ret
  exact ⟨by rw [← hn]; rfl, rfl⟩
end Go.Proofs.YtlimaebaagabaaaDoor.PB
