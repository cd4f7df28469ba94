import Derived.Test.YtfjnkbkcoakooaaDoorHMay2
import Derived.Test.YtfjnkbkcoakooaaDoorHBuilder
import Derived.Test.YtfjnkbkcoakooaaDoorShelf
import Derived.StillTailTactics
namespace Go.Proofs.YtfjnkbkcoakooaaDoor.PB
open Go.RowKit Go.Proofs.YtfjnkbkcoakooaaDoorW.PrintWords Go.Proofs.YtfjnkbkcoakooaaDoorW.PrintLast Go.Proofs.YtfjnkbkcoakooaaDoorW.PrintMore
attribute [local go_sem] max2_int min2_int max_two min_two max_three min_three max_four min_four
set_option linter.unusedVariables false
set_option linter.unusedSimpArgs false
theorem Lmay_eq (s : S43) : Lmay s = Bmay s := by
  have e2 : s.f2.all Llit = s.f2.all fun x => !decide (x = 0) && decide (-1048576 ≤ x) && decide (x ≤ 1048576) := rfl
  have key : (decide (s.f0 = 1) && decide (1 ≤ s.f1) || decide (s.f0 = 2) && decide (0 ≤ s.f1) && decide (s.f2.length = 0)) = Lfits s.f0 s.f1 s.f2.length := by
    unfold Lfits
    have : decide (1 ≤ s.f1) = decide (0 < s.f1) := by congr 1
    rw [this]
  unfold Lmay Bmay
  rw [key, e2]
  cases hf : Lfits s.f0 s.f1 s.f2.length with
  | false => simp
  | true =>
    have hk : s.f0 = 1 ∨ s.f0 = 2 := by
      unfold Lfits at hf
      simp only [Bool.or_eq_true, Bool.and_eq_true, decide_eq_true_eq] at hf
      omega
    have e3 : (s.f3.all (Lhint s.f0)) = (s.f3.all fun h => !decide (h = 0) && decide (-4611686018427387903 ≤ h) && decide (h ≤ 4611686018427387903) && (decide (0 < h) || !decide (s.f0 = 2))) := by
      congr 1
      funext h
      unfold Lhint
      have e4 : decide (s.f0 = 1) = !decide (s.f0 = 2) := by rcases hk with hk | hk <;> rw [hk] <;> rfl
      rw [e4]
      generalize decide (h = 0) = a
      generalize decide (-4611686018427387903 ≤ h) = b
      generalize decide (h ≤ 4611686018427387903) = c
      cases a <;> cases b <;> cases c <;> rfl
    rw [e3]
theorem lsz3 : (Tryd.prog.info? 3).map (·.size) = some 1 := by kernel_rfl
set_option maxHeartbeats 1000000 in
set_option maxRecDepth 100000 in
theorem spend_but (gb : Nat) (a b : Int) (k id : Int) (A2 A3 : Option Addr) (c2 c3 n2 n3 : Nat) (base : Nat) (w : World) (hg : w.heap[gb]? = some (.cells #[.int .i64 a, .int .i64 b] 48 (0, 0))) (hb : base ≤ gb) (ha0 : 0 ≤ a) (ha : a ≤ 4194304) (hb0 : 0 ≤ b) (hb1 : b ≤ 16777217) (h2 : n2 ≤ 1000000) (h3 : n3 ≤ 1000000) :
    Calls Tryd.prog 19 #[.pointer (some ⟨gb, 0, none⟩), .agg #[.int .u8 k, .int .i64 id, .slice A2 n2 c2, .slice A3 n3 c3]] w fun e w' =>
      e = .returned (.bool (decide (a + 1 ≤ 4194304) && decide (min (b + n2 + n3) 16777217 ≤ 16777216))) ∧ w'.heap[gb]? = some (.cells #[.int .i64 (a + 1), .int .i64 (min (b + n2 + n3) 16777217)] 48 (0, 0)) ∧ Below base w w' ∧ (∀ q, q < w.heap.size → q ≠ gb → w'.heap[q]? = w.heap[q]?) := by
  have HG := Aside0.mk hg
  have hc0 := (blk_cell hg 0).trans (show _ = some (Value.int .i64 a) from rfl)
  have hc1 := (blk_cell hg 1).trans (show _ = some (Value.int .i64 b) from rfl)
  clear hg
  go_enter Tryd.func19, Tryd.ntmps19
  go_upto_region 2 with (first | ((with_reducible refine gate_dst (N := 3) rfl ?_); refine box_event ?hg (N := 3) ?hd (cs := #[.int .u8 k, .int .i64 id, .slice A2 n2 c2, .slice A3 n3 c3]) (t := 43) ?hr ?_; (case hd => rfl); (case hg => rfl); (case hr => first | (go_simp; done) | (go_simp; rfl)); intro g1 hgb w1 hbox hb; have HG1 := Aside0.mk hbox; have HB1 := Aside0.mk (hb.mono (Nat.le_trans ‹base ≤ gb› (Nat.le_of_lt (blk_lt HG.out)))); have HGB1 := Aside0.mk (blk_below HG.out hb); have HBT1 := Aside0.mk (show ∀ q, q < w.heap.size → q ≠ gb → w1.heap[q]? = w.heap[q]? from fun q hq _ => hb.block q hq); clear hbox hb hgb hc0 hc1; have hc0 := (blk_cell HGB1.out 0).trans (show _ = some (Value.int .i64 a) from rfl); have hc1 := (blk_cell HGB1.out 1).trans (show _ = some (Value.int .i64 b) from rfl)) | ((with_reducible refine gate_store (t := 3) (p := 11) rfl ?_); refine store_one 3 11 (.tmp 9) rfl rfl rfl (.int .i64 (a + 1)) #[.int .i64 (a + 1), .int .i64 b] rfl rfl HGB1.out rfl lsz3 (show 0 + 1 ≤ 2 by omega) rfl rfl ?_; intro w2 hw2 hsb; have HGB2 := Aside0.mk hw2; have HG12 := Aside0.mk (hsb.other HG1.out (blk_ne HG1.out HGB1.out (by decide))); have HB2 := Aside0.mk (hsb.below HB1.out ‹base ≤ gb›); have HBT2 := Aside0.mk (show ∀ q, q < w.heap.size → q ≠ gb → w2.heap[q]? = w.heap[q]? from fun q hq hne => (hsb.blk q hne).trans (HBT1.out q hq hne)); clear hw2 hsb hc0 hc1; have hc0 := (blk_cell HGB2.out 0).trans (show _ = some (Value.int .i64 (a + 1)) from rfl); have hc1 := (blk_cell HGB2.out 1).trans (show _ = some (Value.int .i64 b) from rfl); have hd2 := (blk_cell HG12.out 2).trans (show _ = some (Value.slice A2 n2 c2) from rfl); have hd3 := (blk_cell HG12.out 3).trans (show _ = some (Value.slice A3 n3 c3) from rfl); have hfz := blk_frozen HGB2.out 1))
  have hmn : (if 16777217 < b + (n2 : Int) + (n3 : Int) then 16777217 else b + (n2 : Int) + (n3 : Int)) = min (b + n2 + n3) 16777217 := by split <;> omega
  have hne1 : g1 ≠ gb := blk_ne HG12.out HGB2.out (by decide)
  have hne2 : gb ≠ g1 := Ne.symm hne1
  go_still_tail 16, (by kernel_rfl)
  all_goals (try go_wp2)
  all_goals go_ret
  all_goals (refine ⟨?_, ?_, ?_, ?_⟩)
  all_goals (first | rfl | exact (fun q hq hne => (Below.heap_setCell w2 ⟨gb, 1, none⟩ _ q hne).trans (HBT2.out q hq hne)) | (by_cases hq : a + 1 ≤ 4194304; (· simp [hq]); (· simp [hq])) | ((with_reducible repeat (first | refine blk_drewN ?_ _ | refine blk_drew ?_ | refine blk_alloc ?_ _)); refine blk_put (cs := #[.int .i64 (a + 1), .int .i64 b]) ?_ 1 _ rfl; (with_reducible repeat (first | refine blk_drewN ?_ _ | refine blk_drew ?_ | refine blk_alloc ?_ _)); exact HGB2.out) | exact below_drew1 (HB2.out.setCell (p := ⟨gb, 1, none⟩) ‹base ≤ gb› _) | (simp; intros; omega) | skip)
theorem spend_calls (gb : Nat) (a b : Int) (k id : Int) (A2 A3 : Option Addr) (c2 c3 n2 n3 : Nat) (base : Nat) (w : World) (hg : w.heap[gb]? = some (.cells #[.int .i64 a, .int .i64 b] 48 (0, 0))) (hb : base ≤ gb) (ha0 : 0 ≤ a) (ha : a ≤ 4194304) (hb0 : 0 ≤ b) (hb1 : b ≤ 16777217) (h2 : n2 ≤ 1000000) (h3 : n3 ≤ 1000000) :
    Calls Tryd.prog 19 #[.pointer (some ⟨gb, 0, none⟩), .agg #[.int .u8 k, .int .i64 id, .slice A2 n2 c2, .slice A3 n3 c3]] w fun e w' =>
      e = .returned (.bool (decide (a + 1 ≤ 4194304) && decide (min (b + n2 + n3) 16777217 ≤ 16777216))) ∧ w'.heap[gb]? = some (.cells #[.int .i64 (a + 1), .int .i64 (min (b + n2 + n3) 16777217)] 48 (0, 0)) ∧ Below base w w' :=
  (spend_but gb a b k id A2 A3 c2 c3 n2 n3 base w hg hb ha0 ha hb0 hb1 h2 h3).mono fun _ _ h => ⟨h.1, h.2.1, h.2.2.1⟩
end Go.Proofs.YtfjnkbkcoakooaaDoor.PB
