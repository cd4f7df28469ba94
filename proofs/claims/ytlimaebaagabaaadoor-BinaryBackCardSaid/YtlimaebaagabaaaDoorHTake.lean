import Derived.Test.YtlimaebaagabaaaDoorHNum
namespace Go.Proofs.YtlimaebaagabaaaDoor.PB
open Go.RowKit Go.Proofs.YtlimaebaagabaaaDoorW.PrintWords Go.Proofs.YtlimaebaagabaaaDoorW.PrintLast Go.Proofs.YtlimaebaagabaaaDoorW.PrintMore
attribute [local go_sem] max2_int min2_int max_two min_two max_three min_three max_four min_four
set_option linter.unusedVariables false
set_option linter.unusedSimpArgs false
theorem nsz41 : (Tryd.prog.info? 36).map (·.size) = some 1 := by kernel_rfl
theorem nsz39 : (Tryd.prog.info? 37).map (·.size) = some 1 := by kernel_rfl

/-- Below block number B all is as it was, but block g. -/
structure But (B g : Nat) (w w' : World) : Prop where
  size : w.heap.size ≤ w'.heap.size
  blk : ∀ k, k < B → k ≠ g → w'.heap[k]? = w.heap[k]?
theorem But.same {B g : Nat} {w a b : World} (h : But B g w a) (k : SameBut g a b) : But B g w b := ⟨Nat.le_trans h.size (Nat.le_of_eq k.size.symm), fun i hi hne => (k.blk i hne).trans (h.blk i hi hne)⟩
theorem But.grown {B g : Nat} {w a b : World} (h : But B g w a) {row : Option Nat} (k : a.grownBy b row) (hB : B ≤ a.heap.size) (hr : ∀ i, row = some i → B ≤ i) : But B g w b :=
  ⟨Nat.le_trans h.size k.size, fun i hi hne => (k.block i (by omega) (fun e => by have := hr i e.symm; omega)).trans (h.blk i hi hne)⟩
theorem But.below {B g : Nat} {w a b : World} (h : But B g w a) (k : Below a.heap.size a b) (hB : B ≤ a.heap.size) : But B g w b := ⟨Nat.le_trans h.size k.size, fun i hi hne => (k.block i (by omega)).trans (h.blk i hi hne)⟩

/-- The reader at block g: what is left; its step, whose rows were made from w1's end on. -/
structure RS (wb w1 : World) (g : Nat) (bs : List Int) (s : S43) (bad : Bool) (w : World) : Prop where
  ex : ∃ A c vl vh, w.heap[g]? = some (.cells #[.slice A bs.length c, .int .u8 s.f0, .int .i64 s.f1, vl, vh, .bool bad] 60 (0, 0)) ∧ bs.length ≤ c ∧ Kd.C (Kd.int .u8) wb A bs.length bs ∧
    Kd.R (Kd.int .i32) 40 w w1.heap.size (fun _ => True) vl s.f2 ∧ Kd.R (Kd.int .i64) 2 w w1.heap.size (fun _ => True) vh s.f3
  below : Below wb.heap.size wb w
  but : But w1.heap.size g w1 w
  base : wb.heap.size ≤ g
  base1 : wb.heap.size ≤ w1.heap.size
  lt : g < w1.heap.size

def addL (s : S43) (n : Int) : S43 := ⟨s.f0, s.f1, s.f2 ++ [wrap32 n], s.f3⟩
def addH (s : S43) (n : Int) : S43 := ⟨s.f0, s.f1, s.f2, s.f3 ++ [n]⟩
def outL (n : Int) : Bool := decide (n < -1048576) || decide (1048576 < n)

set_option maxHeartbeats 1000000 in
set_option maxRecDepth 100000 in
theorem hint_calls (wb w1 : World) (g : Nat) (bs : List Int) (s : S43) (bad : Bool) (w : World) (n : Int) (h : RS wb w1 g bs s bad w) (hl : s.f3.length ≤ 4398046511104) :
    Calls Tryd.prog 31 #[.pointer (some ⟨g, 0, none⟩), .int .i64 n] w fun e w' => e = .returned (.tuple #[]) ∧ RS wb w1 g bs (addH s n) bad w' := by
  obtain ⟨A, c, vl, vh, hg, hc, hr, hl2, hl3⟩ := h.ex
  obtain ⟨Al, cl, rfl⟩ := Kd.R_slice hl2
  obtain ⟨Ah, ch, rfl⟩ := Kd.R_slice hl3
  have HG := Aside0.mk hg
  have HO := Aside0.mk hl3
  have HO2 := Aside0.mk hl2
  have HH := Aside0.mk h
  have hcz4 := (blk_cell hg 4).trans (show _ = some (Value.slice Ah s.f3.length ch) from rfl)
  have HB1 := Aside0.mk (show Below w1.heap.size w w from Below.refl _ _)
  clear hg hl2 hl3 h
  go_enter Tryd.func31, Tryd.ntmps31
  go_wp2_with (first | ((with_reducible refine gate_builtin (b := .append) (xs := #[.tmp 9, .tmp 11]) rfl ?_); at_builtin; refine Kd.R_append (Kd.int .i64) (w0 := w) w1.heap.size rfl (.tmp 9) (.tmp 11) 37 2 (.int .i64 0) 8 rfl Tryd.underlying37 info2 rfl (by decide) (by omega) _ s.f3 n [.int .i64 n] (fun _ => True) (fun _ => False) rfl rfl rfl (fun _ hk => hk.elim) (fun _ _ => trivial) HO.out HB1.out HH.out.but.size ?aL ?_; (case aL => omega); intro v1 w2 ho hb hg1 hat; obtain ⟨A1, c1, rfl⟩ := Kd.R_slice ho; have HG1 := Aside0.mk (blk_grown HG.out hg1 (Kd.R_ne HO.out HG.out (by decide))); have HO1 := Aside0.mk ho; have HGR := Aside0.mk hg1; clear ho hb hg1 hat) | ((with_reducible refine gate_store (t := 37) (p := 15) rfl ?_); refine store_one 37 15 (.tmp 12) rfl rfl rfl (.slice A1 (s.f3 ++ [n]).length c1) #[.slice A bs.length c, .int .u8 s.f0, .int .i64 s.f1, .slice Al s.f2.length cl, .slice A1 (s.f3 ++ [n]).length c1, .bool bad] rfl (by first | rfl | (simp; rfl)) HG1.out rfl nsz39 (show 4 + 1 ≤ 6 by omega) rfl rfl ?_; intro w8 hw8 hsb; have HX := Aside0.mk hw8; have HS := Aside0.mk hsb; clear hw8 hsb))
  go_end0
  refine ⟨rfl, ⟨A, c, _, _, HX.out, hc, hr, ?_, HS.out.Rt HO1.out HG1.out (by decide)⟩, ?_, ?_, HH.out.base, HH.out.base1, HH.out.lt⟩
  · refine HS.out.Rt ?_ HG1.out (by decide)
    exact Kd.R_mono (Kd.R_grown (Kd.R_bound HO2.out) HGR.out (fun k hk he => by
      obtain ⟨_, _, _, q, hq, cells, hcs⟩ := hk
      obtain ⟨cells', hcs'⟩ := Kd.R_typed HO.out k he.symm
      rw [hcs] at hcs'
      injection hcs' with hcs'
      injection hcs' with _ hcs'
      subst hcs'
      revert hq
      decide)) (fun _ hk => hk.1)
  · exact HS.out.below (HH.out.below.grown HGR.out HH.out.below.size (fun k hk => Nat.le_trans HH.out.base1 (own_base (Kd.own_of_R HO.out) k hk))) HH.out.base
  · exact (HH.out.but.grown HGR.out HH.out.but.size (fun k hk => own_base (Kd.own_of_R HO.out) k hk)).same HS.out

set_option maxHeartbeats 2000000 in
set_option maxRecDepth 100000 in
theorem lit_calls (wb w1 : World) (g : Nat) (bs : List Int) (s : S43) (bad : Bool) (w : World) (n : Int) (h : RS wb w1 g bs s bad w) (hl : s.f2.length ≤ 4398046511104) :
    Calls Tryd.prog 30 #[.pointer (some ⟨g, 0, none⟩), .int .i64 n] w fun e w' => e = .returned (.tuple #[]) ∧ RS wb w1 g bs (addL s n) (bad || outL n) w' := by
  obtain ⟨A, c, vl, vh, hg, hc, hr, hl2, hl3⟩ := h.ex
  obtain ⟨Al, cl, rfl⟩ := Kd.R_slice hl2
  obtain ⟨Ah, ch, rfl⟩ := Kd.R_slice hl3
  have HG := Aside0.mk hg
  have HO := Aside0.mk hl2
  have HO3 := Aside0.mk hl3
  have HH := Aside0.mk h
  have hcz5 := (blk_cell hg 5).trans (show _ = some (Value.bool bad) from rfl)
  clear hg hl2 hl3 h
  go_enter Tryd.func30, Tryd.ntmps30
  go_upto_region 0 with (fail)
  go_cut [] (fun wc => Aside0 (wc.heap[g]? = some (.cells #[.slice A bs.length c, .int .u8 s.f0, .int .i64 s.f1, .slice Al s.f2.length cl, .slice Ah s.f3.length ch, .bool (bad || outL n)] 60 (0, 0))) ∧ Aside0 (SameBut g w wc))
  case first =>
    cases bad with
    | true =>
      go_wp2_with (first | ((with_reducible refine gate_store (t := 4) (p := 18) rfl ?_); refine store_one 4 18 (.tmp 16) rfl rfl rfl (.bool (true)) #[.slice A bs.length c, .int .u8 s.f0, .int .i64 s.f1, .slice Al s.f2.length cl, .slice Ah s.f3.length ch, .bool (true)] rfl rfl HG.out rfl nsz4 (Nat.le_refl 6) rfl rfl ?_; intro w9 hw9 hsb; have HX9 := Aside0.mk hw9; have HS9 := Aside0.mk hsb; clear hw9 hsb))
      go_meet
      case rel => exact ⟨⟨by simpa using HX9.out⟩, HS9⟩
    | false =>
      by_cases h1 : n < -1048576
      · have h1' : decide (n < -1048576) = true := decide_eq_true h1
        have HBB := Aside0.mk (show outL n = true by unfold outL; rw [h1']; rfl)
        go_wp2_with (first | ((with_reducible refine gate_store (t := 4) (p := 18) rfl ?_); refine store_one 4 18 (.tmp 16) rfl rfl rfl (.bool (true)) #[.slice A bs.length c, .int .u8 s.f0, .int .i64 s.f1, .slice Al s.f2.length cl, .slice Ah s.f3.length ch, .bool (true)] rfl rfl HG.out rfl nsz4 (Nat.le_refl 6) rfl rfl ?_; intro w9 hw9 hsb; have HX9 := Aside0.mk hw9; have HS9 := Aside0.mk hsb; clear hw9 hsb))
        go_meet
        case rel => exact ⟨⟨by rw [HBB.out]; simpa using HX9.out⟩, HS9⟩
      · have h1' : decide (n < -1048576) = false := decide_eq_false h1
        have HBB := Aside0.mk (show outL n = decide (1048576 < n) by unfold outL; rw [h1']; rfl)
        go_wp2_with (first | ((with_reducible refine gate_store (t := 4) (p := 18) rfl ?_); refine store_one 4 18 (.tmp 16) rfl rfl rfl (.bool (decide (1048576 < n))) #[.slice A bs.length c, .int .u8 s.f0, .int .i64 s.f1, .slice Al s.f2.length cl, .slice Ah s.f3.length ch, .bool (decide (1048576 < n))] rfl rfl HG.out rfl nsz4 (Nat.le_refl 6) rfl rfl ?_; intro w9 hw9 hsb; have HX9 := Aside0.mk hw9; have HS9 := Aside0.mk hsb; clear hw9 hsb))
        go_meet
        case rel => exact ⟨⟨by rw [HBB.out]; simpa using HX9.out⟩, HS9⟩
  case rest =>
    clear HG hcz5
    obtain ⟨HG, HS0⟩ := hcut
    have hcz3 := (blk_cell HG.out 3).trans (show _ = some (Value.slice Al s.f2.length cl) from rfl)
    have HB1 := Aside0.mk (Below.refl w1.heap.size w1)
    have HBU := Aside0.mk (HH.out.but.same HS0.out)
    have HBW := Aside0.mk (HS0.out.below HH.out.below HH.out.base)
    have hg55 := (show ∃ cs, w.heap[g]? = some (.cells cs 60 (0, 0)) by obtain ⟨A, c, vl, vh, hg, _⟩ := HH.out.ex; exact ⟨_, hg⟩)
    obtain ⟨cs55, hg55⟩ := hg55
    have HOa := Aside0.mk (HS0.out.Rt HO.out hg55 (by decide))
    have HOb := Aside0.mk (HS0.out.Rt HO3.out hg55 (by decide))
    clear hg55 HO HO3 HS0
    go_wp2_with (first | ((with_reducible refine gate_builtin (b := .append) (xs := #[.tmp 24, .tmp 27]) rfl ?_); at_builtin; refine Kd.R_append (Kd.int .i32) (w0 := _) w1.heap.size rfl (.tmp 24) (.tmp 27) 36 40 (.int .i32 0) 4 rfl Tryd.underlying36 info44 rfl (by decide) (by omega) _ s.f2 (wrap32 n) [.int .i32 (wrap32 n)] (fun _ => True) (fun _ => False) rfl rfl rfl (fun _ hk => hk.elim) (fun _ _ => trivial) HOa.out (Below.refl _ _) HBU.out.size ?aL ?_; (case aL => omega); intro v1 w2 ho hb hg1 hat; obtain ⟨A1, c1, rfl⟩ := Kd.R_slice ho; have HG1 := Aside0.mk (blk_grown HG.out hg1 (Kd.R_ne HOa.out HG.out (by decide))); have HO1 := Aside0.mk ho; have HGR := Aside0.mk hg1; clear ho hb hg1 hat) | ((with_reducible refine gate_store (t := 36) (p := 31) rfl ?_); refine store_one 36 31 (.tmp 28) rfl rfl rfl (.slice A1 (s.f2 ++ [wrap32 n]).length c1) #[.slice A bs.length c, .int .u8 s.f0, .int .i64 s.f1, .slice A1 (s.f2 ++ [wrap32 n]).length c1, .slice Ah s.f3.length ch, .bool (bad || outL n)] rfl (by first | rfl | (simp; rfl)) HG1.out rfl nsz41 (show 3 + 1 ≤ 6 by omega) rfl rfl ?_; intro w8 hw8 hsb; have HX := Aside0.mk hw8; have HS := Aside0.mk hsb; clear hw8 hsb))
    go_end0
    refine ⟨rfl, ⟨A, c, _, _, HX.out, hc, hr, HS.out.Rt HO1.out HG1.out (by decide), ?_⟩, ?_, ?_, HH.out.base, HH.out.base1, HH.out.lt⟩
    · refine HS.out.Rt ?_ HG1.out (by decide)
      exact Kd.R_mono (Kd.R_grown (Kd.R_bound HOb.out) HGR.out (fun k hk he => by
        obtain ⟨_, _, _, q, hq, cells, hcs⟩ := hk
        obtain ⟨cells', hcs'⟩ := Kd.R_typed HOa.out k he.symm
        rw [hcs] at hcs'
        injection hcs' with hcs'
        injection hcs' with _ hcs'
        subst hcs'
        revert hq
        decide)) (fun _ hk => hk.1)
    · exact HS.out.below (HBW.out.grown HGR.out HBW.out.size (fun k hk => Nat.le_trans HH.out.base1 (own_base (Kd.own_of_R HOa.out) k hk))) HH.out.base
    · exact (HBU.out.grown HGR.out HBU.out.size (fun k hk => own_base (Kd.own_of_R HOa.out) k hk)).same HS.out
end Go.Proofs.YtlimaebaagabaaaDoor.PB
