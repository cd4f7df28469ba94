import Derived.Test.YtlimaebaagabaaaDoorSpecm
namespace Go.Proofs.YtlimaebaagabaaaDoor.PB
open Go.RowKit Go.Proofs.YtlimaebaagabaaaDoorW.PrintWords Go.Proofs.YtlimaebaagabaaaDoorW.PrintLast Go.Proofs.YtlimaebaagabaaaDoorW.PrintMore
attribute [local go_sem] max2_int min2_int max_two min_two max_three min_three max_four min_four
set_option linter.unusedVariables false
set_option linter.unusedSimpArgs false
theorem nsz26 : (Tryd.prog.info? 23).map (·.size) = some 1 := by kernel_rfl
theorem nsz4 : (Tryd.prog.info? 4).map (·.size) = some 1 := by kernel_rfl

/-- A code with seven bits more. -/
def Bacc (x code b : Int) : Int := Go.bits .or .u64 code (IntKind.u64.wrap (IntKind.u64.wrap (Go.bits .and .u8 b 127) * 2 ^ (7 * x).toNat))
def Bval (c : Int) : Int := if Go.bits .and .u64 c 1 = 1 then wrap64 (-(wrap64 (c / 2))) else wrap64 (c / 2)
def Bbad (x b cd : Int) : Bool := ((b == 0) && decide (0 < x)) || ((cd == 1) || decide (4611686018427387903 < cd / 2))
/-- A number from place x on: its value, whether it is bad, what follows. -/
def Bnum : Int → Int → List Int → Option (Int × Bool × List Int)
  | _, _, [] => none
  | x, code, b :: r => if x = 9 then none else if b / 128 = 1 then Bnum (x + 1) (Bacc x code b) r else some (Bval (Bacc x code b), Bbad x b (Bacc x code b), r)
def Bnumber (bs : List Int) : Int × Bool × List Int := (Bnum 0 0 bs).getD (0, true, bs)

/-- The reader at block g: what is left, its step's cells, whether it is bad. -/
structure RD (wb : World) (g : Nat) (bs : List Int) (v1 v2 v3 v4 : Value) (bad : Bool) (w : World) : Prop where
  ex : ∃ A c, w.heap[g]? = some (.cells #[.slice A bs.length c, v1, v2, v3, v4, .bool bad] 60 (0, 0)) ∧ bs.length ≤ c ∧ Kd.C (Kd.int .u8) wb A bs.length bs
  below : Below wb.heap.size wb w
  base : wb.heap.size ≤ g

theorem drop_cons (bs : List Int) (x : Int) (h0 : 0 ≤ x) (h : x < bs.length) : bs.drop x.toNat = rd bs x :: bs.drop (x + 1).toNat := by
  obtain ⟨i, rfl⟩ := Int.eq_ofNat_of_zero_le h0
  have hi : i < bs.length := by omega
  have e : ((i : Int) + 1).toNat = i + 1 := by omega
  rw [e, Int.toNat_natCast, List.drop_eq_getElem_cons hi]
  simp [rd, List.getElem?_eq_getElem hi]

def NumPost (wb : World) (g : Nat) (v1 v2 v3 v4 : Value) (bad : Bool) (w : World) (r : Int × Bool × List Int) (e : Ending) (w' : World) : Prop :=
  e = .returned (.int .i64 r.1) ∧ RD wb g r.2.2 v1 v2 v3 v4 (bad || r.2.1) w' ∧ SameBut g w w'

set_option maxHeartbeats 1000000 in
set_option maxRecDepth 100000 in
theorem number_calls (wb : World) (g : Nat) (bs : List Int) (v1 v2 v3 v4 : Value) (bad : Bool) (w : World) (h : RD wb g bs v1 v2 v3 v4 bad w) :
    Calls Tryd.prog 28 #[.pointer (some ⟨g, 0, none⟩)] w (NumPost wb g v1 v2 v3 v4 bad w (Bnumber bs)) := by
  obtain ⟨A, c, hg, hc, hr⟩ := h.ex
  have HG := Aside0.mk hg
  have HR := Aside0.mk hr
  have HC := Aside0.mk hc
  have HB := Aside0.mk h.below
  have hgB := h.base
  have hmx : bs.length ≤ 9223372036854775807 := hr.2.1
  have hcz0 := (blk_cell hg 0).trans (show _ = some (Value.slice A bs.length c) from rfl)
  clear hg hr hc h
  go_enter Tryd.func28, Tryd.ntmps28
  go_upto_block 0 with (fail)
  go_cut [] (fun wc => Aside0 (Bnum 0 0 bs = none) ∧ Aside0 (w = wc))
  case first =>
    go_wp2
    go_loopg [3, 11] bs.length (fun j v3 v11 wr => ∃ (x code : Int), v11 = .int .i64 x ∧ v3 = .int .u64 code ∧ 0 ≤ x ∧ x + j = bs.length ∧ x ≤ 9 ∧ Aside0 (Bnum x code (bs.drop x.toNat) = Bnum 0 0 bs) ∧ Aside0 (w = wr))
    case atStart => exact ⟨0, 0, rfl, rfl, by omega, by omega, by omega, ⟨rfl⟩, ⟨rfl⟩⟩
    case round =>
      clear hcz0
      obtain ⟨x, code, rfl, rfl, hx0, hxj, hx9, HN, HE⟩ := hrel
      obtain rfl := HE.out
      clear HE
      by_cases hlt : x < (bs.length : Int)
      · obtain ⟨ad2, e2, hx2⟩ := Kd.at_int HR.out x hx0 hlt
        cases e2
        replace hx2 := (HB.out.cell (World.block_lt_of_cell? wb _ hx2)).trans hx2
        have HN' := HN.out
        rw [drop_cons bs x hx0 hlt, Bnum] at HN'
        obtain ⟨b, hb⟩ : ∃ b, b = rd bs x := ⟨_, rfl⟩
        rw [← hb] at HN' hx2
        clear hb HN
        by_cases h9 : x = 9
        · have h9' : (x == 9) = true := beq_iff_eq.mpr h9
          rw [if_pos h9] at HN'
          have HN := Aside0.mk HN'
          clear h9 HN'
          go_wp2
          go_meet
          case rel => exact ⟨⟨HN.out.symm⟩, ⟨rfl⟩⟩
        · have h9' : (x == 9) = false := beq_eq_false_iff_ne.mpr h9
          have hx8 : x < 9 := by omega
          rw [if_neg h9] at HN'
          clear h9
          obtain ⟨cd, hcd⟩ : ∃ cd, Bacc x code b = cd := ⟨_, rfl⟩
          rw [hcd] at HN'
          unfold Bacc at hcd
          by_cases hb1 : b / 128 = 1
          · have hb1' : (b / 128 == 1) = true := beq_iff_eq.mpr hb1
            rw [if_pos hb1] at HN'
            have HN := Aside0.mk HN'
            clear hb1 HN'
            go_wp2
            obtain ⟨j, rfl⟩ : ∃ j, gk = j + 1 := ⟨gk - 1, by omega⟩
            go_roundg j
            case measure => omega
            case rel => exact ⟨x + 1, cd, rfl, rfl, by omega, by omega, by omega, HN, ⟨rfl⟩⟩
          · have hb1' : (b / 128 == 1) = false := beq_eq_false_iff_ne.mpr hb1
            rw [if_neg hb1] at HN'
            have hfin := Aside0.mk (show Bnumber bs = (Bval cd, Bbad x b cd, bs.drop (x + 1).toNat) by unfold Bnumber; rw [← HN']; rfl)
            clear hb1 HN'
            obtain ⟨i5, hi5, hz5⟩ := Option.map_eq_some_iff.1 info5
            have hsz5 : i5.size = 1 := by simp only [Prod.mk.injEq] at hz5; exact hz5.2.1
            have hcut0 := cut_from (P := Tryd.prog) 23 5 .i64 Tryd.underlying23 hi5 1 hsz5 (some ad2) bs.length c (x + 1) (by omega) (by omega)
            have hdl : bs.length - (x + 1).toNat = (bs.drop (x + 1).toNat).length := by rw [List.length_drop]
            rw [hdl] at hcut0
            have HC1 := Aside0.mk (Kd.C_drop (m := (x + 1).toNat) HR.out (by omega) HC.out)
            have hle1 := Aside0.mk (show (bs.drop (x + 1).toNat).length ≤ c - (x + 1).toNat by have := HC.out; rw [List.length_drop]; omega)
            have hsz1 : (Kd.int .u8).sz = 1 := rfl
            rw [hsz1] at HC1
            obtain ⟨A1, hA1⟩ : ∃ A1, A1 = (if c = (x + 1).toNat then some ad2 else (some ad2).map (·.add ((x + 1).toNat * 1))) := ⟨_, rfl⟩
            rw [← hA1] at hcut0 HC1
            obtain ⟨c1, hc1⟩ : ∃ c1, c1 = c - (x + 1).toNat := ⟨_, rfl⟩
            rw [← hc1] at hcut0 hle1
            obtain ⟨r1, hr1⟩ : ∃ r1, r1 = bs.drop (x + 1).toNat := ⟨_, rfl⟩
            rw [← hr1] at hcut0 hle1 HC1 hfin
            clear hA1 hc1 hr1 hdl hi5 hz5 hsz5 hsz1
            have hcz0 := (blk_cell HG.out 0).trans (show _ = some (Value.slice (some ad2) bs.length c) from rfl)
            go_upto_region 9 with ((with_reducible refine gate_store (t := 23) (p := 38) rfl ?_); refine store_one 23 38 (.tmp 36) rfl rfl rfl (.slice A1 r1.length c1) #[.slice A1 r1.length c1, v1, v2, v3, v4, .bool bad] rfl rfl HG.out rfl nsz26 (show 0 + 1 ≤ 6 by omega) rfl rfl ?_; intro w8 hw8 hsb; have HX := Aside0.mk hw8; have HS := Aside0.mk hsb; have hcz5 := (blk_cell hw8 5).trans (show _ = some (Value.bool bad) from rfl); clear hw8 hsb)
            clear hcut0 hcz0 hx2
            go_cut [] (fun wc => Aside0 (wc.heap[g]? = some (.cells #[.slice A1 r1.length c1, v1, v2, v3, v4, .bool (bad || Bbad x b cd)] 60 (0, 0))) ∧ Aside0 (SameBut g w wc))
            case first =>
              cases bad with
              | true =>
                go_wp2_with (first | ((with_reducible refine gate_store (t := 4) (p := 62) rfl ?_); refine store_one 4 62 (.tmp 60) rfl rfl rfl (.bool true) #[.slice A1 r1.length c1, v1, v2, v3, v4, .bool true] rfl rfl HX.out rfl nsz4 (Nat.le_refl 6) rfl rfl ?_; intro w9 hw9 hsb; have HX9 := Aside0.mk hw9; have HS9 := Aside0.mk hsb; clear hw9 hsb))
                go_meet
                case rel => exact ⟨⟨by simpa using HX9.out⟩, ⟨HS.out.trans HS9.out⟩⟩
              | false =>
                by_cases hz : b = 0
                · have hz' : (b == 0) = true := beq_iff_eq.mpr hz
                  by_cases hp : 0 < x
                  · have HBB := Aside0.mk (show Bbad x b cd = true by unfold Bbad; rw [hz', decide_eq_true hp]; rfl)
                    clear hz
                    go_wp2_with (first | ((with_reducible refine gate_store (t := 4) (p := 62) rfl ?_); refine store_one 4 62 (.tmp 60) rfl rfl rfl (.bool (true)) #[.slice A1 r1.length c1, v1, v2, v3, v4, .bool (true)] rfl rfl HX.out rfl nsz4 (Nat.le_refl 6) rfl rfl ?_; intro w9 hw9 hsb; have HX9 := Aside0.mk hw9; have HS9 := Aside0.mk hsb; clear hw9 hsb))
                    go_meet
                    case rel => exact ⟨⟨by rw [HBB.out]; simpa using HX9.out⟩, ⟨HS.out.trans HS9.out⟩⟩
                  · have HBB := Aside0.mk (show Bbad x b cd = ((cd == 1) || decide (4611686018427387903 < cd / 2)) by unfold Bbad; rw [hz', decide_eq_false hp]; rfl)
                    have hp' : decide (0 < x) = false := decide_eq_false hp
                    have hx00 : x = 0 := by omega
                    clear hz hp
                    by_cases h1 : cd = 1
                    · have h1' : (cd == 1) = true := beq_iff_eq.mpr h1
                      rw [h1'] at HBB
                      clear h1
                      go_wp2_with (first | ((with_reducible refine gate_store (t := 4) (p := 62) rfl ?_); refine store_one 4 62 (.tmp 60) rfl rfl rfl (.bool (true)) #[.slice A1 r1.length c1, v1, v2, v3, v4, .bool (true)] rfl rfl HX.out rfl nsz4 (Nat.le_refl 6) rfl rfl ?_; intro w9 hw9 hsb; have HX9 := Aside0.mk hw9; have HS9 := Aside0.mk hsb; clear hw9 hsb))
                      go_meet
                      case rel => exact ⟨⟨by rw [HBB.out]; simpa using HX9.out⟩, ⟨HS.out.trans HS9.out⟩⟩
                    · have h1' : (cd == 1) = false := beq_eq_false_iff_ne.mpr h1
                      rw [h1'] at HBB
                      clear h1
                      go_wp2_with (first | ((with_reducible refine gate_store (t := 4) (p := 62) rfl ?_); refine store_one 4 62 (.tmp 60) rfl rfl rfl (.bool (decide (4611686018427387903 < cd / 2))) #[.slice A1 r1.length c1, v1, v2, v3, v4, .bool (decide (4611686018427387903 < cd / 2))] rfl rfl HX.out rfl nsz4 (Nat.le_refl 6) rfl rfl ?_; intro w9 hw9 hsb; have HX9 := Aside0.mk hw9; have HS9 := Aside0.mk hsb; clear hw9 hsb))
                      go_meet
                      case rel => exact ⟨⟨by rw [HBB.out]; simpa using HX9.out⟩, ⟨HS.out.trans HS9.out⟩⟩
                · have hz' : (b == 0) = false := beq_eq_false_iff_ne.mpr hz
                  have HBB := Aside0.mk (show Bbad x b cd = ((cd == 1) || decide (4611686018427387903 < cd / 2)) by unfold Bbad; rw [hz']; rfl)
                  clear hz
                  by_cases h1 : cd = 1
                  · have h1' : (cd == 1) = true := beq_iff_eq.mpr h1
                    rw [h1'] at HBB
                    clear h1
                    go_wp2_with (first | ((with_reducible refine gate_store (t := 4) (p := 62) rfl ?_); refine store_one 4 62 (.tmp 60) rfl rfl rfl (.bool (true)) #[.slice A1 r1.length c1, v1, v2, v3, v4, .bool (true)] rfl rfl HX.out rfl nsz4 (Nat.le_refl 6) rfl rfl ?_; intro w9 hw9 hsb; have HX9 := Aside0.mk hw9; have HS9 := Aside0.mk hsb; clear hw9 hsb))
                    go_meet
                    case rel => exact ⟨⟨by rw [HBB.out]; simpa using HX9.out⟩, ⟨HS.out.trans HS9.out⟩⟩
                  · have h1' : (cd == 1) = false := beq_eq_false_iff_ne.mpr h1
                    rw [h1'] at HBB
                    clear h1
                    go_wp2_with (first | ((with_reducible refine gate_store (t := 4) (p := 62) rfl ?_); refine store_one 4 62 (.tmp 60) rfl rfl rfl (.bool (decide (4611686018427387903 < cd / 2))) #[.slice A1 r1.length c1, v1, v2, v3, v4, .bool (decide (4611686018427387903 < cd / 2))] rfl rfl HX.out rfl nsz4 (Nat.le_refl 6) rfl rfl ?_; intro w9 hw9 hsb; have HX9 := Aside0.mk hw9; have HS9 := Aside0.mk hsb; clear hw9 hsb))
                    go_meet
                    case rel => exact ⟨⟨by rw [HBB.out]; simpa using HX9.out⟩, ⟨HS.out.trans HS9.out⟩⟩
            case rest =>
              clear HX HS hcz5
              obtain ⟨HX, HS⟩ := hcut
              have hRD := Aside0.mk (show RD wb g r1 v1 v2 v3 v4 (bad || Bbad x b cd) _ from ⟨⟨A1, c1, HX.out, hle1.out, HC1.out⟩, HS.out.below HB.out hgB, hgB⟩)
              by_cases hs : Go.bits .and .u64 cd 1 = 1
              · have hs' : (Go.bits .and .u64 cd 1 == 1) = true := beq_iff_eq.mpr hs
                have hv := Aside0.mk (show Bval cd = wrap64 (-(wrap64 (cd / 2))) by unfold Bval; rw [if_pos hs])
                clear hs
                go_wp2
                go_ret
                exact ⟨by rw [hfin.out, hv.out]; rfl, by rw [hfin.out]; exact hRD.out, HS.out⟩
              · have hs' : (Go.bits .and .u64 cd 1 == 1) = false := beq_eq_false_iff_ne.mpr hs
                have hv := Aside0.mk (show Bval cd = wrap64 (cd / 2) by unfold Bval; rw [if_neg hs])
                clear hs
                go_wp2
                go_ret
                exact ⟨by rw [hfin.out, hv.out]; rfl, by rw [hfin.out]; exact hRD.out, HS.out⟩
      · have HN' := HN.out
        rw [List.drop_of_length_le (by omega), Bnum] at HN'
        have HN := Aside0.mk HN'
        clear HN'
        go_wp2
        go_meet
        case rel => exact ⟨⟨HN.out.symm⟩, ⟨rfl⟩⟩
  case rest =>
    obtain ⟨HN, HE⟩ := hcut
    obtain rfl := HE.out
    clear HE
    have hfin := Aside0.mk (show Bnumber bs = (0, true, bs) by unfold Bnumber; rw [HN.out]; rfl)
    go_wp2_with (first | ((with_reducible refine gate_store (t := 4) (p := 76) rfl ?_); refine store_one 4 76 (.const (.bool true)) rfl rfl rfl (.bool true) #[.slice A bs.length c, v1, v2, v3, v4, .bool true] rfl rfl HG.out rfl nsz4 (Nat.le_refl 6) rfl rfl ?_; intro w8 hw8 hsb; have HX := Aside0.mk hw8; have HS := Aside0.mk hsb; clear hw8 hsb))
    go_ret
    refine ⟨by rw [hfin.out]; rfl, ?_, HS.out⟩
    rw [hfin.out, Bool.or_true]
    exact ⟨⟨A, c, HX.out, HC.out, HR.out⟩, HS.out.below HB.out hgB, hgB⟩
end Go.Proofs.YtlimaebaagabaaaDoor.PB
