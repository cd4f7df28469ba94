import Derived.Test.YtlimaebaagabaaaDoorHLib
namespace Go.Proofs.YtlimaebaagabaaaDoor.PB
open Go.RowKit Go.Proofs.YtlimaebaagabaaaDoorW.PrintWords Go.Proofs.YtlimaebaagabaaaDoorW.PrintLast Go.Proofs.YtlimaebaagabaaaDoorW.PrintMore
attribute [local go_sem] max2_int min2_int max_two min_two max_three min_three max_four min_four
set_option linter.unusedVariables false
set_option linter.unusedSimpArgs false

/-- A number's code. -/
def Bcode (n : Int) : Int := if n < 0 then Go.bits .or .u64 (IntKind.u64.wrap ((IntKind.u64.wrap (wrap64 (-n))) * 2)) 1 else IntKind.u64.wrap ((IntKind.u64.wrap n) * 2)
/-- A code's bytes. -/
def Bvar : Nat → Int → List Int
  | 0, c => [c % 256]
  | k + 1, c => if 127 < c then Go.bits .or .u8 (c % 256) 128 :: Bvar k (c / 128) else [c % 256]
def Bput (n : Int) : List Int := Bvar 10 (Bcode n)
theorem u64_wrap (n : Int) : IntKind.u64.wrap n = n % 18446744073709551616 := by simp [IntKind.wrap, IntKind.bits, IntKind.signed]
theorem bits_u64_range (op : BinOp) (x y : Int) : 0 ≤ Go.bits op .u64 x y ∧ Go.bits op .u64 x y ≤ 18446744073709551615 := by
  unfold Go.bits
  rw [u64_wrap]
  omega
theorem Bcode_range (n : Int) : 0 ≤ Bcode n ∧ Bcode n < 128 ^ 11 := by
  unfold Bcode
  split
  · have h := bits_u64_range .or (IntKind.u64.wrap ((IntKind.u64.wrap (wrap64 (-n))) * 2)) 1
    omega
  · rw [u64_wrap]
    omega
theorem Bvar_length (k : Nat) : ∀ c, (Bvar k c).length ≤ k + 1 := by
  induction k with
  | zero => intro c; simp [Bvar]
  | succ k ih =>
    intro c
    unfold Bvar
    split
    · have := ih (c / 128); simp only [List.length_cons]; omega
    · simp

set_option maxHeartbeats 1000000 in
set_option maxRecDepth 100000 in
theorem put_calls (g : Nat) (v : Value) (bs : List Int) (n : Int) (w0 w : World) (hB : Below w0.heap.size w0 w)
    (hg : w.heap[g]? = some (.cells #[v] 43 (0, 0))) (hgB : w0.heap.size ≤ g) (ho : Kd.R (Kd.int .u8) 5 w w0.heap.size (fun _ => True) v bs) (hl : bs.length + 20 < 140737488355328) :
    Calls Tryd.prog 11 #[.pointer (some ⟨g, 0, none⟩), .int .i64 n] w fun e w' => e = .returned (.tuple #[]) ∧ ∃ v', w'.heap[g]? = some (.cells #[v'] 43 (0, 0)) ∧ Kd.R (Kd.int .u8) 5 w' w0.heap.size (fun _ => True) v' (bs ++ Bput n) ∧ Below w0.heap.size w0 w' ∧ KT [43, 5] w w' := by
  have HB := Aside0.mk hB
  have HG := Aside0.mk hg
  have HO := Aside0.mk ho
  have HK := Aside0.mk (KT.refl [43, 5] w)
  clear hB hg ho
  by_cases hn : n < 0
  all_goals
    have hcode : Aside0 (Bcode n = _) := Aside0.mk (by unfold Bcode; first | rw [if_pos hn] | rw [if_neg hn])
    go_enter Tryd.func11, Tryd.ntmps11
    go_wp2
    go_loopg [4] 10 (fun j v4 wr => ∃ (c : Int) (v' : Value) (bs' : List Int), v4 = .int .u64 c ∧ 0 ≤ c ∧ Aside0 (c < 128 ^ (j + 1)) ∧ Aside0 (bs' ++ Bvar j c = bs ++ Bput n) ∧ Aside0 (wr.heap[g]? = some (.cells #[v'] 43 (0, 0))) ∧ Aside0 (Kd.R (Kd.int .u8) 5 wr w0.heap.size (fun _ => True) v' bs') ∧ Aside0 (Below w0.heap.size w0 wr) ∧ Aside0 (KT [43, 5] w wr))
    case atStart => exact ⟨Bcode n, v, bs, by rw [hcode.out], (Bcode_range n).1, ⟨(Bcode_range n).2⟩, ⟨rfl⟩, HG, HO, HB, HK⟩
    case round =>
      clear HB HG HO HK
      obtain ⟨c, v', bs', rfl, hc0, hc1, hbs, HG, HO, HB, HK⟩ := hrel
      obtain ⟨A', cap', rfl⟩ := Kd.R_slice HO.out
      have hcell := blk_cell HG.out 0
      have hfz := blk_frozen HG.out 0
      have hlen : Aside0 (bs'.length + (Bvar gk c).length = bs.length + (Bput n).length) := Aside0.mk (by have := congrArg List.length hbs.out; simpa using this)
      have hput := Aside0.mk (Bvar_length 10 (Bcode n))
      by_cases hc : 127 < c
      · have hgk : Aside0 (0 < gk) := Aside0.mk (by
          rcases Nat.eq_zero_or_pos gk with h0 | h0
          · subst h0; have := hc1.out; omega
          · exact h0)
        go_wp2_with (first | ((with_reducible refine gate_builtin (b := .append) (xs := #[.tmp 23, .tmp 27]) rfl ?_); at_builtin; refine Kd.R_append (Kd.int .u8) (w0 := w0) w0.heap.size rfl (.tmp 23) (.tmp 27) 23 5 (.int .u8 0) 1 rfl Tryd.underlying23 info5 rfl (by decide) (by omega) _ bs' (Go.bits .or .u8 (c % 256) 128) [.int .u8 (Go.bits .or .u8 (c % 256) 128)] (fun _ => True) (fun _ => False) rfl rfl rfl (fun _ hk => hk.elim) (fun _ _ => trivial) HO.out HB.out HB.out.size ?aL ?_; (case aL => have := hlen.out; have := hput.out; unfold Bput at *; omega); intro v1 w1 ho hb hg1 hat; obtain ⟨A1, c1, rfl⟩ := Kd.R_slice ho; have HG1 := Aside0.mk (blk_grown HG.out hg1 (Kd.R_ne HO.out HG.out (by decide))); have HK1 := Aside0.mk (HK.out.grown hg1 (R_row HO.out (by decide))); have HO1 := Aside0.mk ho; have HB1 := Aside0.mk hb; clear ho hb hg1 hat hcell hfz; have hcell := blk_cell HG1.out 0; have hfz := blk_frozen HG1.out 0))
        obtain ⟨j, rfl⟩ : ∃ j, gk = j + 1 := ⟨gk - 1, by have := hgk.out; omega⟩
        go_roundg j
        case measure => omega
        case rel =>
          refine ⟨c / 128, .slice A1 (bs' ++ [Go.bits .or .u8 (c % 256) 128]).length c1, bs' ++ [Go.bits .or .u8 (c % 256) 128], rfl, by omega, ⟨?_⟩, ⟨?_⟩, ⟨blk_put HG1.out 0 _ (by simp)⟩, ⟨Kd.R_set HO1.out HG1.out (by decide) 0 _⟩, ⟨HB1.out.setCell (p := ⟨g, 0, none⟩) hgB _⟩, ⟨HK1.out.set HG1.out (by decide) _⟩⟩
          · have := hc1.out
            rw [Int.pow_succ] at this
            omega
          · have := hbs.out
            rw [Bvar, if_pos hc] at this
            rw [← this]; simp
      · have hlast : Aside0 (bs' ++ [c] = bs ++ Bput n) := Aside0.mk (by
          rw [← hbs.out]
          have hm : c % 256 = c := by omega
          cases gk with
          | zero => rw [Bvar, hm]
          | succ j => rw [Bvar, if_neg hc, hm])
        go_wp2_with (first | ((with_reducible refine gate_builtin (b := .append) (xs := #[.tmp 35, .tmp 38]) rfl ?_); at_builtin; refine Kd.R_append (Kd.int .u8) (w0 := w0) w0.heap.size rfl (.tmp 35) (.tmp 38) 23 5 (.int .u8 0) 1 rfl Tryd.underlying23 info5 rfl (by decide) (by omega) _ bs' c [.int .u8 c] (fun _ => True) (fun _ => False) rfl rfl rfl (fun _ hk => hk.elim) (fun _ _ => trivial) HO.out HB.out HB.out.size ?aL ?_; (case aL => have := hlen.out; have := hput.out; unfold Bput at *; omega); intro v1 w1 ho hb hg1 hat; obtain ⟨A1, c1, rfl⟩ := Kd.R_slice ho; have HG1 := Aside0.mk (blk_grown HG.out hg1 (Kd.R_ne HO.out HG.out (by decide))); have HK1 := Aside0.mk (HK.out.grown hg1 (R_row HO.out (by decide))); have HO1 := Aside0.mk ho; have HB1 := Aside0.mk hb; clear ho hb hg1 hat hcell hfz; have hcell := blk_cell HG1.out 0; have hfz := blk_frozen HG1.out 0))
        go_end0
        exact ⟨rfl, _, blk_put HG1.out 0 _ (by simp; rfl), by rw [← hlast.out, show bs'.length + 1 = (bs' ++ [c]).length from by simp]; exact Kd.R_set HO1.out HG1.out (by decide) 0 _, HB1.out.setCell (p := ⟨g, 0, none⟩) hgB _, HK1.out.set HG1.out (by decide) _⟩
end Go.Proofs.YtlimaebaagabaaaDoor.PB
