import Derived.Test.YtlimaebaagabaaaDoorSpecm
namespace Go.Proofs.YtlimaebaagabaaaDoor.PB
open Go.RowKit Go.Proofs.YtlimaebaagabaaaDoorW.PrintWords Go.Proofs.YtlimaebaagabaaaDoorW.PrintLast Go.Proofs.YtlimaebaagabaaaDoorW.PrintMore
attribute [local go_sem] max2_int min2_int max_two min_two max_three min_three max_four min_four
set_option linter.unusedVariables false
set_option linter.unusedSimpArgs false

theorem sz43 : (Tryd.prog.info? 39).map (·.size) = some 4 := by kernel_rfl
theorem sz26 : (Tryd.prog.info? 23).map (·.size) = some 1 := by kernel_rfl

set_option maxHeartbeats 1000000 in
set_option maxRecDepth 100000 in
theorem write_calls (A0 : Option Addr) (c0 : Nat) (l0 : List (S43)) (w : World) (hr0 : Kd.C k43 w A0 l0.length l0) (hc0 : l0.length ≤ c0) (hsm : Bsmall l0 = true) :
    Calls Tryd.prog 6 #[.slice A0 l0.length c0] w fun e w' => ∃ v0_ : Value, e = .returned (.tuple #[v0_, .int .i64 (Bwrite l0).2]) ∧ Kd.R (Kd.int .u8) 5 w' w.heap.size (fun _ => True) v0_ (Bwrite l0).1 ∧ Below w.heap.size w w' := by
  have HR0 := Aside0.mk hr0
  have HC0 := Aside0.mk hc0
  have HS := Aside0.mk (List.all_eq_true.1 hsm)
  have hmx : l0.length ≤ 9223372036854775807 := hr0.2.1
  clear hr0 hc0 hsm
  have HB := Aside0.mk (Below.refl w.heap.size w)
  go_enter Tryd.func6, Tryd.ntmps6
  go_upto_block 0 with (fail)
  go_cut [4] (fun v4 wc => ∃ n : Int, v4 = .int .i64 n ∧ 0 ≤ n ∧ Aside0 ((16777216 < n) ↔ 16777216 < Btot l0) ∧ Aside0 (Below w.heap.size w wc))
  case first =>
    go_wp2
    go_loopg [4, 16] l0.length (fun j v4 v16 wr => ∃ (x : Int), v16 = .int .i64 x ∧ 0 ≤ x ∧ x + j = l0.length ∧ v4 = .int .i64 (Btot (l0.take x.toNat) : Nat) ∧ Btot (l0.take x.toNat) ≤ 16777216 ∧ Aside0 (Below w.heap.size w wr))
    case atStart => exact ⟨0, rfl, by omega, by omega, rfl, by simp [Btot], HB⟩
    case round =>
      clear HB
      obtain ⟨x, rfl, hx0, hxj, rfl, hn, HB⟩ := hrel
      obtain ⟨m, hm⟩ : ∃ m, m = Btot (l0.take x.toNat) := ⟨_, rfl⟩
      rw [← hm] at hn ⊢
      have HM := Aside0.mk hm
      clear hm
      by_cases hlt : x < (l0.length : Int)
      · obtain ⟨ad, A2, c2, A3, c3, e0, hx_0, hx_1, hx_2, hx_3, hl2, hi2, hl3, hi3⟩ := at_T43 HR0.out x hx0 hlt
        cases e0
        replace hx_0 := (HB.out.cell (World.block_lt_of_cell? w _ hx_0)).trans hx_0
        replace hx_1 := (HB.out.cell (World.block_lt_of_cell? w _ hx_1)).trans hx_1
        replace hx_2 := (HB.out.cell (World.block_lt_of_cell? w _ hx_2)).trans hx_2
        replace hx_3 := (HB.out.cell (World.block_lt_of_cell? w _ hx_3)).trans hx_3
        have hss := HS.out _ (rd43_mem l0 x hx0 hlt)
        simp only [Bool.and_eq_true, decide_eq_true_eq] at hss
        obtain ⟨hs2, hs3⟩ := hss
        have HT : Aside0 (l0.take (x + 1).toNat = l0.take x.toNat ++ [rd_T43 l0 x]) := Aside0.mk (rd43_nat l0 x hx0 hlt)
        clear hl2 hi2 hl3 hi3
        go_wp2_with (first | ((with_reducible refine gate_dst (N := 6) rfl ?_); refine box_event ?hg (N := 6) ?hd (cs := #[.int .u8 0, .int .i64 0, .slice none 0 0, .slice none 0 0]) (t := 39) ?hr ?_; (case hd => rfl); (case hg => rfl); (case hr => first | (go_simp; done) | (go_simp; rfl)); intro gb hgb w7 hbox hb; have HX := Aside0.mk hbox; have HB7 := Aside0.mk (below_step HB.out hb); have HG7 : w.heap.size ≤ gb := (by rw [hgb]; exact HB.out.size); clear hbox hb hgb) | ((with_reducible refine gate_store (t := 39) (p := 6) rfl ?_); refine store_four 39 6 (.tmp 19) rfl rfl rfl (.int .u8 (rd_T43 l0 x).f0) (.int .i64 (rd_T43 l0 x).f1) (.slice A2 (rd_T43 l0 x).f2.length c2) (.slice A3 (rd_T43 l0 x).f3.length c3) #[.int .u8 (rd_T43 l0 x).f0, .int .i64 (rd_T43 l0 x).f1, .slice A2 (rd_T43 l0 x).f2.length c2, .slice A3 (rd_T43 l0 x).f3.length c3] rfl rfl HX.out sz43 (Nat.le_refl 4) rfl rfl rfl rfl rfl ?_; intro w8 hw8 hsb; have HX8 := Aside0.mk hw8; have HB8 := Aside0.mk (hsb.below HB7.out HG7); clear hw8 hsb; have hcz2 : w8.cell? ⟨gb, 2, none⟩ = _ := (blk_cell HX8.out 2).trans rfl; have hcz3 : w8.cell? ⟨gb, 3, none⟩ = _ := (blk_cell HX8.out 3).trans rfl))
        · go_meet
          case rel =>
            refine ⟨_, rfl, by omega, ⟨?_⟩, HB8⟩
            have h1 := Btot_take_le l0 (x + 1).toNat
            rw [HT.out, Btot_append, ← HM.out] at h1
            simp only [Btot] at h1
            constructor <;> intro _ <;> omega
        · obtain ⟨j, rfl⟩ : ∃ j, gk = j + 1 := ⟨gk - 1, by omega⟩
          go_roundg j
          case measure => omega
          case rel =>
            have e1 : Btot (l0.take (x + 1).toNat) = m + ((rd_T43 l0 x).f2.length + (rd_T43 l0 x).f3.length) := by
              rw [HT.out, Btot_append, ← HM.out]
              simp only [Btot]
              omega
            exact ⟨x + 1, rfl, by omega, by omega, by rw [e1]; simp, by rw [e1]; omega, HB8⟩
      · go_wp2
        go_meet
        case rel =>
          have e1 : l0.take x.toNat = l0 := List.take_of_length_le (by omega)
          have e2 := HM.out
          rw [e1] at e2
          exact ⟨m, rfl, by omega, ⟨by rw [← e2]; omega⟩, HB⟩
  case rest =>
    clear HB
    obtain ⟨n, rfl, hn0, HN, HB⟩ := hcut
    by_cases hbig : 4194304 < l0.length
    · have hb1 : decide (4194304 < l0.length) = true := decide_eq_true hbig
      have hfin := Aside0.mk (show Bwrite l0 = ([], 3) by unfold Bwrite; rw [if_pos (.inl hbig)])
      go_wp2
      go_ret2
      exact ⟨.slice none 0 0, by rw [hfin.out]; rfl, by rw [hfin.out]; exact Kd.R_nil _ _ _ _ _, HB.out⟩
    · by_cases hn : 16777216 < n
      · have hb1 : decide (4194304 < l0.length) = false := decide_eq_false hbig
        have hb2 : l0.length ≤ 4194304 := by omega
        have hb3 : decide ((4194304 : Int) < (l0.length : Int)) = false := decide_eq_false (by omega)
        have hfin := Aside0.mk (show Bwrite l0 = ([], 3) by unfold Bwrite; rw [if_pos (.inr (HN.out.1 hn))])
        go_wp2
        go_ret2
        exact ⟨.slice none 0 0, by rw [hfin.out]; rfl, by rw [hfin.out]; exact Kd.R_nil _ _ _ _ _, HB.out⟩
      · have hb1 : decide (4194304 < l0.length) = false := decide_eq_false hbig
        have hb2 : l0.length ≤ 4194304 := by omega
        have hb3 : decide ((4194304 : Int) < (l0.length : Int)) = false := decide_eq_false (by omega)
        have hle := Aside0.mk (show l0.length ≤ 4194304 ∧ Btot l0 ≤ 16777216 from ⟨by omega, Nat.le_of_not_lt (fun h => hn (HN.out.2 h))⟩)
        clear hbig HN
        go_wp2_with (first | ((with_reducible refine gate_dst (N := 39) rfl ?_); refine box_event ?hg (N := 39) ?hd (cs := #[.slice none 0 0]) (t := 43) ?hr ?_; (case hd => rfl); (case hg => rfl); (case hr => first | (go_simp; done) | (go_simp; rfl)); intro gw hgw w7 hbox hb; have HW := Aside0.mk (show WS w gw [] w7 from ⟨⟨_, hbox, Kd.R_nil _ _ _ _ _⟩, below_step HB.out hb, by rw [hgw]; exact HB.out.size⟩); clear hbox hb hgw HB))
        go_loopg [42] l0.length (fun j v42 wr => ∃ (x : Int), v42 = .int .i64 x ∧ 0 ≤ x ∧ x + j = l0.length ∧ Aside0 ((l0.take x.toNat).all Bmay = true) ∧ Aside0 (WS w gw (Bsteps (l0.take x.toNat)) wr))
        case atStart => exact ⟨0, rfl, by omega, by omega, ⟨by simp⟩, by simpa [Bsteps] using HW⟩
        case round =>
          clear HW
          obtain ⟨x, rfl, hx0, hxj, HA, HW⟩ := hrel
          by_cases hlt : x < (l0.length : Int)
          · obtain ⟨ad, A2, c2, A3, c3, e0, hx_0, hx_1, hx_2, hx_3, hl2, hi2, hl3, hi3⟩ := at_T43 HR0.out x hx0 hlt
            cases e0
            replace hx_0 := (HW.out.below.cell (World.block_lt_of_cell? w _ hx_0)).trans hx_0
            replace hx_1 := (HW.out.below.cell (World.block_lt_of_cell? w _ hx_1)).trans hx_1
            replace hx_2 := (HW.out.below.cell (World.block_lt_of_cell? w _ hx_2)).trans hx_2
            replace hx_3 := (HW.out.below.cell (World.block_lt_of_cell? w _ hx_3)).trans hx_3
            have HL2 := Aside0.mk hl2
            have HI2 := Aside0.mk hi2
            have HL3 := Aside0.mk hl3
            have HI3 := Aside0.mk hi3
            clear hl2 hi2 hl3 hi3
            have HT : Aside0 (l0.take (x + 1).toNat = l0.take x.toNat ++ [rd_T43 l0 x]) := Aside0.mk (rd43_nat l0 x hx0 hlt)
            have hmem := Aside0.mk (rd43_mem l0 x hx0 hlt)
            obtain ⟨s, hs⟩ : ∃ s, s = rd_T43 l0 x := ⟨_, rfl⟩
            rw [← hs] at hx_0 hx_1 hx_2 hx_3 HL2 HI2 HL3 HI3 HT hmem
            clear hs
            have hmayf := fun (b : Bool) (hb : Bmay s = b) => Aside0.mk (hb ▸ may_f s HI2.out.2.1 HI3.out.2.1 (s.f2.length + s.f3.length + 4) (by omega))
            have htot : s.f2.length + s.f3.length ≤ Btot l0 := by
              have h1 := Btot_take_le l0 (x + 1).toNat
              rw [HT.out, Btot_append] at h1
              simp only [Btot] at h1
              omega
            have hf2 : s.f2.length ≤ 16777216 := by have := hle.out.2; omega
            have hf3 : s.f3.length ≤ 16777216 := by have := hle.out.2; omega
            have hb0 : (Bsteps (l0.take x.toNat)).length ≤ 400000000 := by
              have h1 := Bsteps_length (l0.take x.toNat)
              have h2 := Btot_take_le l0 x.toNat
              have h3 := List.length_take_le x.toNat l0
              have h4 := hle.out
              omega
            clear htot
            obtain ⟨b0, hb0e⟩ : ∃ b0, b0 = Bsteps (l0.take x.toNat) := ⟨_, rfl⟩
            rw [← hb0e] at HW hb0
            have HBE := Aside0.mk hb0e
            clear hb0e
            by_cases hmay : Bmay s = true
            · have HM := hmayf true hmay
              have HMay := Aside0.mk hmay
              clear hmayf hmay
              go_upto_if 51 with (first | ((with_reducible refine gate_dst (N := 9) rfl ?_); refine box_event ?hg (N := 9) ?hd (cs := #[.int .u8 0, .int .i64 0, .slice none 0 0, .slice none 0 0]) (t := 39) ?hr ?_; (case hd => rfl); (case hg => rfl); (case hr => first | (go_simp; done) | (go_simp; rfl)); intro gs hgs w7 hbox hb; have HX := Aside0.mk hbox; have HW7 := Aside0.mk (HW.out.step hb); have HGS : w.heap.size ≤ gs := (by rw [hgs]; exact HW.out.below.size); clear hbox hb hgs HW) | ((with_reducible refine gate_store (t := 39) (p := 9) rfl ?_); refine store_four 39 9 (.tmp 45) rfl rfl rfl (.int .u8 s.f0) (.int .i64 s.f1) (.slice A2 s.f2.length c2) (.slice A3 s.f3.length c3) #[.int .u8 s.f0, .int .i64 s.f1, .slice A2 s.f2.length c2, .slice A3 s.f3.length c3] rfl rfl HX.out sz43 (Nat.le_refl 4) rfl rfl rfl rfl rfl ?_; intro w8 hw8 hsb; have HW8 := Aside0.mk (HW7.out.same hsb HX.out (by decide) (by decide) HGS); clear HX HW7; have HX := Aside0.mk hw8; have HW := HW8; clear hw8 hsb HW8; have hcz0 : w8.cell? ⟨gs, 0, none⟩ = _ := (blk_cell HX.out 0).trans rfl; have hcz1 : w8.cell? ⟨gs, 1, none⟩ = _ := (blk_cell HX.out 1).trans rfl; have hcz2 : w8.cell? ⟨gs, 2, none⟩ = _ := (blk_cell HX.out 2).trans rfl; have hcz3 : w8.cell? ⟨gs, 3, none⟩ = _ := (blk_cell HX.out 3).trans rfl) | (go_at_call 10; refine (binary_may.calls _ _ _ A2 c2 s.f2 A3 c3 s.f3 true _ (Kd.C_below HI2.out HW.out.below) HL2.out (Kd.C_below HI3.out HW.out.below) HL3.out HM.out).mono ?_; rintro e w9 ⟨rfl, hb⟩; have HX9 := Aside0.mk (blk_below HX.out hb); have HW9 := Aside0.mk (HW.out.step hb); clear HX HW hcz0 hcz1 hcz2 hcz3; have HX := HX9; have HW := HW9; clear HX9 HW9 hb; have hcz0 : w9.cell? ⟨gs, 0, none⟩ = _ := (blk_cell HX.out 0).trans rfl))
              clear hcz0
              go_cut [] (fun wc => Aside0 (WS w gw (b0 ++ Bhead s) wc) ∧ Aside0 (wc.heap[gs]? = some (.cells #[.int .u8 s.f0, .int .i64 s.f1, .slice A2 s.f2.length c2, .slice A3 s.f3.length c3] 39 (0, 0))))
              case first =>
                obtain ⟨v, hg1, ho1⟩ := HW.out.ex
                obtain ⟨A', cap', rfl⟩ := Kd.R_slice ho1
                have HG := Aside0.mk hg1
                have HO := Aside0.mk ho1
                have HB := Aside0.mk HW.out.below
                have hgwB := HW.out.base
                clear hg1 ho1 HW
                have hcell := blk_cell HG.out 0
                have hfz := blk_frozen HG.out 0
                by_cases hk : s.f0 = 1
                · have hk1 : (s.f0 == 1) = true := beq_iff_eq.mpr hk
                  have hh := Aside0.mk (show Bhead s = 97 :: (Bput s.f1 ++ (Blits s.f2 ++ Bput 0)) by unfold Bhead; rw [if_pos hk])
                  clear hk
                  go_wp2_with (first | ((with_reducible refine gate_builtin (b := .append) (xs := #[.tmp 56, .tmp 57]) rfl ?_); at_builtin; refine Kd.R_append (Kd.int .u8) (w0 := w) w.heap.size rfl (.tmp 56) (.tmp 57) 23 5 (.int .u8 0) 1 rfl Tryd.underlying23 info5 rfl (by decide) (by omega) _ b0 97 [.int .u8 97] (fun _ => True) (fun _ => False) rfl rfl rfl (fun _ hk => hk.elim) (fun _ _ => trivial) HO.out HB.out HB.out.size ?aL ?_; (case aL => omega); intro v1 w1 ho hb hg1 hat; obtain ⟨A1, c1, rfl⟩ := Kd.R_slice ho; have HG1 := Aside0.mk (blk_grown HG.out hg1 (Kd.R_ne HO.out HG.out (by decide))); have HX1 := Aside0.mk (blk_grown HX.out hg1 (Kd.R_ne HO.out HX.out (by decide))); have HO1 := Aside0.mk ho; have HB1 := Aside0.mk hb; clear ho hb hg1 hat hcell hfz HX HG HO HB) | ((with_reducible refine gate_store (t := 23) (p := 60) rfl ?_); refine store_one 23 60 (.tmp 58) rfl rfl rfl (.slice A1 (b0 ++ [97]).length c1) #[.slice A1 (b0 ++ [97]).length c1] rfl (by first | rfl | (simp; rfl)) HG1.out rfl sz26 (Nat.le_refl 1) rfl rfl ?_; intro w8 hw8 hsb; have HW := Aside0.mk (show WS w gw (b0 ++ [97]) w8 from ⟨⟨_, hw8, hsb.Rt HO1.out HG1.out (by decide)⟩, hsb.below HB1.out hgwB, hgwB⟩); have HX := Aside0.mk (hsb.other HX1.out (blk_ne HX1.out HG1.out (by decide))); clear hw8 hsb HX1 HG1 HO1 HB1; have hcz1 : w8.cell? ⟨gs, 1, none⟩ = _ := (blk_cell HX.out 1).trans rfl) | (go_at_call 11; refine (put_ws gw _ _ w _ HW.out (by simp only [List.length_append, List.length_cons, List.length_nil]; have := Bput_length s.f1; omega)).mono ?_; rintro e w9 ⟨rfl, HW9, HK9⟩; have HX9 := Aside0.mk (HK9.blk _ _ _ _ HX.out (by decide)); clear HW HX HK9; (try clear hcz0); (try clear hcz1); (try clear hcz2); (try clear hcz3); have HW := Aside0.mk HW9; have HX := HX9; clear HW9 HX9; have hcz1 : w9.cell? ⟨gs, 1, none⟩ = _ := (blk_cell HX.out 1).trans rfl; have hcz2 : w9.cell? ⟨gs, 2, none⟩ = _ := (blk_cell HX.out 2).trans rfl; have hcz3 : w9.cell? ⟨gs, 3, none⟩ = _ := (blk_cell HX.out 3).trans rfl))
                  go_loopg [68] s.f2.length (fun j v68 wr => ∃ (y : Int), v68 = .int .i64 y ∧ 0 ≤ y ∧ y + j = s.f2.length ∧ Aside0 (WS w gw (b0 ++ [97] ++ Bput s.f1 ++ Blits (s.f2.take y.toNat)) wr) ∧ Aside0 (wr.heap[gs]? = some (.cells #[.int .u8 s.f0, .int .i64 s.f1, .slice A2 s.f2.length c2, .slice A3 s.f3.length c3] 39 (0, 0))))
                  case atStart => exact ⟨0, rfl, by omega, by omega, by simpa [Blits] using HW, HX⟩
                  case round =>
                    clear HW HX hcz1 hcz2 hcz3
                    obtain ⟨y, rfl, hy0, hyj, HW, HX⟩ := hrel
                    have hBl := Bflat_length (f := fun z => Bput (wrap64 z)) (fun z => Bput_length _) (s.f2.take y.toNat)
                    have hBt := List.length_take_le y.toNat s.f2
                    have hB1 := Bput_length s.f1
                    by_cases hylt : y < (s.f2.length : Int)
                    · have hBn := Aside0.mk (rdi_nat s.f2 y hy0 hylt)
                      obtain ⟨ad2, e2, hx2⟩ := Kd.at_int HI2.out y hy0 hylt
                      cases e2
                      replace hx2 := (HW.out.below.cell (World.block_lt_of_cell? w _ hx2)).trans hx2
                      go_wp2_with (first | (go_at_call 11; refine (put_ws gw _ _ w _ HW.out (by simp only [List.length_append, List.length_cons, List.length_nil, Blits]; omega)).mono ?_; rintro e w9 ⟨rfl, HW9, HK9⟩; have HX9 := Aside0.mk (HK9.blk _ _ _ _ HX.out (by decide)); clear HW HX HK9; have HW := Aside0.mk HW9; have HX := HX9; clear HW9 HX9))
                      obtain ⟨j, rfl⟩ : ∃ j, gk = j + 1 := ⟨gk - 1, by omega⟩
                      go_roundg j
                      case measure => omega
                      case rel => exact ⟨y + 1, rfl, by omega, by omega, ⟨by rw [hBn.out]; simpa [Blits] using HW.out⟩, HX⟩
                    · have hall : s.f2.take y.toNat = s.f2 := List.take_of_length_le (by omega)
                      rw [hall] at HW hBl
                      clear hall
                      go_wp2_with (first | (go_at_call 11; refine (put_ws gw _ _ w _ HW.out (by simp only [List.length_append, List.length_cons, List.length_nil, Blits]; omega)).mono ?_; rintro e w9 ⟨rfl, HW9, HK9⟩; have HX9 := Aside0.mk (HK9.blk _ _ _ _ HX.out (by decide)); clear HW HX HK9; have HW := Aside0.mk HW9; have HX := HX9; clear HW9 HX9))
                      go_meet
                      case rel => exact ⟨⟨by rw [hh.out]; simpa using HW.out⟩, HX⟩
                · have hk1 : (s.f0 == 1) = false := beq_eq_false_iff_ne.mpr hk
                  have hh := Aside0.mk (show Bhead s = 100 :: Bput s.f1 by unfold Bhead; rw [if_neg hk])
                  clear hk
                  go_wp2_with (first | ((with_reducible refine gate_builtin (b := .append) (xs := #[.tmp 83, .tmp 84]) rfl ?_); at_builtin; refine Kd.R_append (Kd.int .u8) (w0 := w) w.heap.size rfl (.tmp 83) (.tmp 84) 23 5 (.int .u8 0) 1 rfl Tryd.underlying23 info5 rfl (by decide) (by omega) _ b0 100 [.int .u8 100] (fun _ => True) (fun _ => False) rfl rfl rfl (fun _ hk => hk.elim) (fun _ _ => trivial) HO.out HB.out HB.out.size ?aL ?_; (case aL => omega); intro v1 w1 ho hb hg1 hat; obtain ⟨A1, c1, rfl⟩ := Kd.R_slice ho; have HG1 := Aside0.mk (blk_grown HG.out hg1 (Kd.R_ne HO.out HG.out (by decide))); have HX1 := Aside0.mk (blk_grown HX.out hg1 (Kd.R_ne HO.out HX.out (by decide))); have HO1 := Aside0.mk ho; have HB1 := Aside0.mk hb; clear ho hb hg1 hat hcell hfz HX HG HO HB) | ((with_reducible refine gate_store (t := 23) (p := 87) rfl ?_); refine store_one 23 87 (.tmp 85) rfl rfl rfl (.slice A1 (b0 ++ [100]).length c1) #[.slice A1 (b0 ++ [100]).length c1] rfl (by first | rfl | (simp; rfl)) HG1.out rfl sz26 (Nat.le_refl 1) rfl rfl ?_; intro w8 hw8 hsb; have HW := Aside0.mk (show WS w gw (b0 ++ [100]) w8 from ⟨⟨_, hw8, hsb.Rt HO1.out HG1.out (by decide)⟩, hsb.below HB1.out hgwB, hgwB⟩); have HX := Aside0.mk (hsb.other HX1.out (blk_ne HX1.out HG1.out (by decide))); clear hw8 hsb HX1 HG1 HO1 HB1; have hcz1 : w8.cell? ⟨gs, 1, none⟩ = _ := (blk_cell HX.out 1).trans rfl) | (go_at_call 11; refine (put_ws gw _ _ w _ HW.out (by simp only [List.length_append, List.length_cons, List.length_nil]; have := Bput_length s.f1; omega)).mono ?_; rintro e w9 ⟨rfl, HW9, HK9⟩; have HX9 := Aside0.mk (HK9.blk _ _ _ _ HX.out (by decide)); clear HW HX HK9; (try clear hcz0); (try clear hcz1); (try clear hcz2); (try clear hcz3); have HW := Aside0.mk HW9; have HX := HX9; clear HW9 HX9; have hcz1 : w9.cell? ⟨gs, 1, none⟩ = _ := (blk_cell HX.out 1).trans rfl; have hcz2 : w9.cell? ⟨gs, 2, none⟩ = _ := (blk_cell HX.out 2).trans rfl; have hcz3 : w9.cell? ⟨gs, 3, none⟩ = _ := (blk_cell HX.out 3).trans rfl))
                  go_meet
                  case rel => exact ⟨⟨by rw [hh.out]; simpa using HW.out⟩, HX⟩
              case rest =>
                clear HW HX
                obtain ⟨HW, HX⟩ := hcut
                have hcz3 := (blk_cell HX.out 3).trans (show _ = some (Value.slice A3 s.f3.length c3) from rfl)
                have hBh := Bhead_length s
                go_wp2
                go_loopg [95] s.f3.length (fun j v95 wr => ∃ (y : Int), v95 = .int .i64 y ∧ 0 ≤ y ∧ y + j = s.f3.length ∧ Aside0 (WS w gw (b0 ++ Bhead s ++ Bhints (s.f3.take y.toNat)) wr) ∧ Aside0 (wr.heap[gs]? = some (.cells #[.int .u8 s.f0, .int .i64 s.f1, .slice A2 s.f2.length c2, .slice A3 s.f3.length c3] 39 (0, 0))))
                case atStart => exact ⟨0, rfl, by omega, by omega, by simpa [Bhints] using HW, HX⟩
                case round =>
                  clear HW HX hcz3
                  obtain ⟨y, rfl, hy0, hyj, HW, HX⟩ := hrel
                  have hBl := Bflat_length (f := Bput) Bput_length (s.f3.take y.toNat)
                  have hBt := List.length_take_le y.toNat s.f3
                  by_cases hylt : y < (s.f3.length : Int)
                  · have hBn := Aside0.mk (rdi_nat s.f3 y hy0 hylt)
                    obtain ⟨ad3, e3, hx3⟩ := Kd.at_int HI3.out y hy0 hylt
                    cases e3
                    replace hx3 := (HW.out.below.cell (World.block_lt_of_cell? w _ hx3)).trans hx3
                    go_wp2_with (first | (go_at_call 11; refine (put_ws gw _ _ w _ HW.out (by simp only [List.length_append, List.length_cons, List.length_nil, Bhints]; omega)).mono ?_; rintro e w9 ⟨rfl, HW9, HK9⟩; have HX9 := Aside0.mk (HK9.blk _ _ _ _ HX.out (by decide)); clear HW HX HK9; have HW := Aside0.mk HW9; have HX := HX9; clear HW9 HX9))
                    obtain ⟨j, rfl⟩ : ∃ j, gk = j + 1 := ⟨gk - 1, by omega⟩
                    go_roundg j
                    case measure => omega
                    case rel => exact ⟨y + 1, rfl, by omega, by omega, ⟨by rw [hBn.out]; simpa [Bhints] using HW.out⟩, HX⟩
                  · have hall : s.f3.take y.toNat = s.f3 := List.take_of_length_le (by omega)
                    rw [hall] at HW hBl
                    clear hall
                    go_wp2_with (first | (go_at_call 11; refine (put_ws gw _ _ w _ HW.out (by simp only [List.length_append, List.length_cons, List.length_nil, Bhints]; omega)).mono ?_; rintro e w9 ⟨rfl, HW9, HK9⟩; have HX9 := Aside0.mk (HK9.blk _ _ _ _ HX.out (by decide)); clear HW HX HK9; have HW := Aside0.mk HW9; have HX := HX9; clear HW9 HX9))
                    go_roundg (l0.length - (x + 1).toNat)
                    case measure => omega
                    case rel => exact ⟨x + 1, rfl, by omega, by omega, ⟨by rw [HT.out, List.all_append, HA.out]; simp [HMay.out]⟩, ⟨by rw [HT.out]; have := HW.out; rw [HBE.out] at this; simpa [Bsteps, Bstep] using this⟩⟩
            · have hmay' : Bmay s = false := by simpa using hmay
              have HM := hmayf false hmay'
              have hfin := Aside0.mk (show Bwrite l0 = ([], 50) by
                unfold Bwrite
                rw [if_neg (by have := hle.out; omega), if_neg]
                intro hall
                exact hmay (List.all_eq_true.1 hall s hmem.out))
              clear hmayf hmay hmay'
              go_wp2_with (first | ((with_reducible refine gate_dst (N := 9) rfl ?_); refine box_event ?hg (N := 9) ?hd (cs := #[.int .u8 0, .int .i64 0, .slice none 0 0, .slice none 0 0]) (t := 39) ?hr ?_; (case hd => rfl); (case hg => rfl); (case hr => first | (go_simp; done) | (go_simp; rfl)); intro gs hgs w7 hbox hb; have HX := Aside0.mk hbox; have HW7 := Aside0.mk (HW.out.step hb); have HGS : w.heap.size ≤ gs := (by rw [hgs]; exact HW.out.below.size); clear hbox hb hgs HW) | ((with_reducible refine gate_store (t := 39) (p := 9) rfl ?_); refine store_four 39 9 (.tmp 45) rfl rfl rfl (.int .u8 s.f0) (.int .i64 s.f1) (.slice A2 s.f2.length c2) (.slice A3 s.f3.length c3) #[.int .u8 s.f0, .int .i64 s.f1, .slice A2 s.f2.length c2, .slice A3 s.f3.length c3] rfl rfl HX.out sz43 (Nat.le_refl 4) rfl rfl rfl rfl rfl ?_; intro w8 hw8 hsb; have HW8 := Aside0.mk (HW7.out.same hsb HX.out (by decide) (by decide) HGS); clear HX HW7; have HX := Aside0.mk hw8; have HW := HW8; clear hw8 hsb HW8; have hcz0 : w8.cell? ⟨gs, 0, none⟩ = _ := (blk_cell HX.out 0).trans rfl; have hcz1 : w8.cell? ⟨gs, 1, none⟩ = _ := (blk_cell HX.out 1).trans rfl; have hcz2 : w8.cell? ⟨gs, 2, none⟩ = _ := (blk_cell HX.out 2).trans rfl; have hcz3 : w8.cell? ⟨gs, 3, none⟩ = _ := (blk_cell HX.out 3).trans rfl) | (go_at_call 10; refine (binary_may.calls _ _ _ A2 c2 s.f2 A3 c3 s.f3 false _ (Kd.C_below HI2.out HW.out.below) HL2.out (Kd.C_below HI3.out HW.out.below) HL3.out HM.out).mono ?_; rintro e w9 ⟨rfl, hb⟩; have HX9 := Aside0.mk (blk_below HX.out hb); have HW9 := Aside0.mk (HW.out.step hb); clear HX HW hcz0 hcz1 hcz2 hcz3; have HX := HX9; have HW := HW9; clear HX9 HW9 hb; have hcz0 : w9.cell? ⟨gs, 0, none⟩ = _ := (blk_cell HX.out 0).trans rfl))
              go_ret2
              exact ⟨.slice none 0 0, by rw [hfin.out]; rfl, by rw [hfin.out]; exact Kd.R_nil _ _ _ _ _, HW.out.below⟩
          · have hall : l0.take x.toNat = l0 := List.take_of_length_le (by omega)
            have hfin := Aside0.mk (show Bwrite l0 = (Bsteps l0, 0) by
              unfold Bwrite
              have h1 := HA.out
              rw [hall] at h1
              rw [if_neg (by have := hle.out; omega), if_pos h1])
            rw [hall] at HW
            clear hall
            obtain ⟨v, hg1, ho1⟩ := HW.out.ex
            obtain ⟨A', cap', rfl⟩ := Kd.R_slice ho1
            have HO := Aside0.mk ho1
            have hcell := (blk_cell hg1 0).trans (show _ = some (Value.slice A' (Bsteps l0).length cap') from rfl)
            clear hg1 ho1
            go_wp2
            go_ret2
            exact ⟨.slice A' (Bsteps l0).length cap', by rw [hfin.out]; rfl, by rw [hfin.out]; exact HO.out, HW.out.below⟩

def binary_Write.f (_ : Nat) (l0 : List S43) : Option (List Int × Int) := if Bsmall l0 = true then some (Bwrite l0) else none
theorem binary_Write.mono : ∀ a0 k, LeO (binary_Write.f k a0) (binary_Write.f (k + 1) a0) := fun _ _ => LeO.refl _
theorem binary_Write.calls (k : Nat) (A0 : Option Addr) (c0 : Nat) (l0 : List (S43)) (r1 : List Int) (r2 : Int) (w : World) (hr0 : Kd.C k43 w A0 l0.length l0) (hc0 : l0.length ≤ c0) (h : binary_Write.f k l0 = some (r1, r2)) :
    Calls Tryd.prog 6 #[.slice A0 l0.length c0] w fun e w' => ∃ v0_ : Value, e = .returned (.tuple #[v0_, .int .i64 r2]) ∧ Kd.R (Kd.int .u8) 5 w' w.heap.size (fun _ => True) v0_ r1 ∧ Below w.heap.size w w' := by
  unfold binary_Write.f at h
  split at h
  · rename_i hs
    have e := Option.some.inj h
    have := write_calls A0 c0 l0 w hr0 hc0 hs
    rw [e] at this
    exact this
  · cases h
end Go.Proofs.YtlimaebaagabaaaDoor.PB
