import Derived.Test.YtlimaebaagabaaaDoorHRow
namespace Go.Proofs.YtlimaebaagabaaaDoor.PB
open Go.RowKit Go.Proofs.YtlimaebaagabaaaDoorW.PrintWords Go.Proofs.YtlimaebaagabaaaDoorW.PrintLast Go.Proofs.YtlimaebaagabaaaDoorW.PrintMore
attribute [local go_sem] max2_int min2_int max_two min_two max_three min_three max_four min_four
set_option linter.unusedVariables false
set_option linter.unusedSimpArgs false
theorem nsz43 : (Tryd.prog.info? 39).map (·.size) = some 4 := by kernel_rfl
theorem nsz5 : (Tryd.prog.info? 5).map (·.size) = some 1 := by kernel_rfl
theorem nsz2 : (Tryd.prog.info? 2).map (·.size) = some 1 := by kernel_rfl

def BoneA (r : List Int) : List Int × S43 × Bool :=
  let q := BrowL (Bnumber r).2.2 ⟨1, (Bnumber r).1, [], []⟩ (Bnumber r).2.1
  BrowH q.1 q.2.1 q.2.2
def BoneD (r : List Int) : List Int × S43 × Bool := BrowH (Bnumber r).2.2 ⟨2, (Bnumber r).1, [], []⟩ (Bnumber r).2.1
/-- One step: whether it is one; what is left, the step, whether it is bad. -/
def Bone (bs : List Int) : Bool × List Int × S43 × Bool :=
  if rd bs 0 = 97 then (!(BoneA (bs.drop 1)).2.2 && Bmay (BoneA (bs.drop 1)).2.1, BoneA (bs.drop 1))
  else if rd bs 0 = 100 then (!(BoneD (bs.drop 1)).2.2 && Bmay (BoneD (bs.drop 1)).2.1, BoneD (bs.drop 1))
  else (false, bs, z43, false)

theorem RS.upd {wb w1 : World} {g : Nat} {bs bs' : List Int} {s s' : S43} {bad bad' : Bool} {w w' : World} (h : RS wb w1 g bs s bad w) (hs : SameBut g w w') {A : Option Addr} {c : Nat} {vl vh : Value}
    (hg' : w'.heap[g]? = some (.cells #[.slice A bs'.length c, .int .u8 s'.f0, .int .i64 s'.f1, vl, vh, .bool bad'] 60 (0, 0))) (hc : bs'.length ≤ c) (hC : Kd.C (Kd.int .u8) wb A bs'.length bs')
    (h2 : Kd.R (Kd.int .i32) 40 w w1.heap.size (fun _ => True) vl s'.f2) (h3 : Kd.R (Kd.int .i64) 2 w w1.heap.size (fun _ => True) vh s'.f3) : RS wb w1 g bs' s' bad' w' := by
  obtain ⟨_, _, _, _, hg, _⟩ := h.ex
  exact ⟨⟨A, c, vl, vh, hg', hc, hC, hs.Rt h2 hg (by decide), hs.Rt h3 hg (by decide)⟩, hs.below h.below h.base, h.but.same hs, h.base, h.base1, h.lt⟩

theorem RS.step {wb w1 : World} {g : Nat} {bs : List Int} {s : S43} {bad : Bool} {w w' : World} (h : RS wb w1 g bs s bad w) (hb : Below w.heap.size w w') : RS wb w1 g bs s bad w' := by
  obtain ⟨A, c, vl, vh, hg, hc, hC, h2, h3⟩ := h.ex
  have hle : wb.heap.size ≤ w.heap.size := h.below.size
  exact ⟨⟨A, c, vl, vh, blk_below hg hb, hc, hC, Kd.R_below h2 hb, Kd.R_below h3 hb⟩, below_step h.below hb, h.but.below hb h.but.size, h.base, h.base1, h.lt⟩

set_option maxHeartbeats 2000000 in
set_option maxRecDepth 100000 in
theorem one_calls (wb : World) (g : Nat) (bs : List Int) (v1 v2 v3 v4 : Value) (w : World) (h : RD wb g bs v1 v2 v3 v4 false w) (hne : 0 < bs.length) (hl : bs.length ≤ 4398046511104) (hglt : g < w.heap.size) :
    Calls Tryd.prog 18 #[.pointer (some ⟨g, 0, none⟩)] w fun e w' => e = .returned (.bool (Bone bs).1) ∧ RS wb w g (Bone bs).2.1 (Bone bs).2.2.1 (Bone bs).2.2.2 w' := by
  obtain ⟨A, c, hg, hc, hr⟩ := h.ex
  have HG := Aside0.mk hg
  have HD := Aside0.mk h
  have HC := Aside0.mk hc
  have HR := Aside0.mk hr
  obtain ⟨ad, e0, hx0⟩ := Kd.at_int hr 0 (by omega) (by omega)
  cases e0
  have ea : ad.add (0 : Int).toNat = ad := by simp [Addr.add]
  rw [ea] at hx0
  clear ea
  have HX0 := Aside0.mk hx0
  clear hg hc hr h hx0
  obtain ⟨b, hb⟩ : ∃ b, b = rd bs 0 := ⟨_, rfl⟩
  have HBd := Aside0.mk hb
  rw [← hb] at HX0
  clear hb
  go_enter Tryd.func18, Tryd.ntmps18
  go_upto_region 2 with ((with_reducible refine gate_store (t := 39) (p := 6) rfl ?_); refine store_four 39 6 (.tmp 4) rfl rfl rfl (.int .u8 0) (.int .i64 0) (.slice none 0 0) (.slice none 0 0) #[.slice (some ad) bs.length c, .int .u8 0, .int .i64 0, .slice none 0 0, .slice none 0 0, .bool false] rfl rfl HG.out nsz43 (show 1 + 4 ≤ 6 by omega) rfl rfl rfl rfl rfl ?_; intro w8 hw8 hsb; have HG8 := Aside0.mk hw8; have HS := Aside0.mk hsb; clear hw8 hsb)
  have H0 := Aside0.mk (show RS wb w g bs z43 false w8 from ⟨⟨some ad, c, .slice none 0 0, .slice none 0 0, HG8.out, HC.out, HR.out, Kd.R_nil _ _ _ _ _, Kd.R_nil _ _ _ _ _⟩, HS.out.below HD.out.below HD.out.base, ⟨Nat.le_of_eq HS.out.size.symm, fun k _ hk => HS.out.blk k hk⟩, HD.out.base, HD.out.below.size, hglt⟩)
  have hx0 := (H0.out.below.cell (World.block_lt_of_cell? wb _ HX0.out)).trans HX0.out
  have hcz0 := (blk_cell HG8.out 0).trans (show _ = some (Value.slice (some ad) bs.length c) from rfl)
  clear HS
  obtain ⟨i5, hi5, hz5⟩ := Option.map_eq_some_iff.1 info5
  have hsz5 : i5.size = 1 := by simp only [Prod.mk.injEq] at hz5; exact hz5.2.1
  have hcut0 := cut_from (P := Tryd.prog) 23 5 .i64 Tryd.underlying23 hi5 1 hsz5 (some ad) bs.length c 1 (by omega) (by omega)
  have hdl : bs.length - (1 : Int).toNat = (bs.drop 1).length := by rw [List.length_drop]; rfl
  rw [hdl] at hcut0
  have HC1 := Aside0.mk (Kd.C_drop (m := 1) HR.out (by omega) HC.out)
  have hle1 := Aside0.mk (show (bs.drop 1).length ≤ c - (1 : Int).toNat by have := HC.out; rw [List.length_drop]; show bs.length - 1 ≤ c - 1; omega)
  have hsz1 : (Kd.int .u8).sz = 1 := rfl
  rw [hsz1] at HC1
  obtain ⟨A1, hA1⟩ : ∃ A1, A1 = (if c = (1 : Int).toNat then some ad else (some ad).map (·.add ((1 : Int).toNat * 1))) := ⟨_, rfl⟩
  rw [← hA1] at hcut0
  replace HC1 : Aside0 ((Kd.int .u8).C wb A1 (bs.drop 1).length (bs.drop 1)) := by rw [hA1]; exact HC1
  obtain ⟨c1, hc1⟩ : ∃ c1, c1 = c - (1 : Int).toNat := ⟨_, rfl⟩
  rw [← hc1] at hcut0 hle1
  obtain ⟨r1, hr1⟩ : ∃ r1, r1 = bs.drop 1 := ⟨_, rfl⟩
  have hbl0 := Aside0.mk (show r1.length + 1 = bs.length by rw [hr1, List.length_drop]; omega)
  rw [← hr1] at hcut0 hle1 HC1
  have HR1 := Aside0.mk hr1
  clear hA1 hc1 hr1 hdl hi5 hz5 hsz5 hsz1
  have hbl := Aside0.mk (show (Bnumber r1).2.2.length ≤ 4398046511104 by have h1 := (Bnumber_length r1).1; have h2 := hbl0.out; omega)
  by_cases h97 : b = 97
  · have h97' : (b == 97) = true := beq_iff_eq.mpr h97
    have hfin := Aside0.mk (show Bone bs = (!(BoneA r1).2.2 && Bmay (BoneA r1).2.1, BoneA r1) by unfold Bone; rw [← HBd.out, if_pos h97, HR1.out])
    clear h97
    go_wp2_with (first | ((with_reducible refine gate_store (t := 5) (p := 18) rfl ?_); refine store_one 5 18 (.const (.int .u8 1)) rfl rfl rfl (.int .u8 1) #[.slice (some ad) bs.length c, .int .u8 1, .int .i64 0, .slice none 0 0, .slice none 0 0, .bool false] rfl rfl HG8.out rfl nsz5 (show 1 + 1 ≤ 6 by omega) rfl rfl ?_; intro w9 hw9 hsb; have HG9 := Aside0.mk hw9; have H1 := Aside0.mk (H0.out.upd (s' := ⟨1, 0, [], []⟩) hsb hw9 HC.out HR.out (Kd.R_nil _ _ _ _ _) (Kd.R_nil _ _ _ _ _)); clear hw9 hsb H0 hcz0; have hcz0 := (blk_cell HG9.out 0).trans (show _ = some (Value.slice (some ad) bs.length c) from rfl)) | ((with_reducible refine gate_store (t := 23) (p := 32) rfl ?_); refine store_one 23 32 (.tmp 30) rfl rfl rfl (.slice A1 r1.length c1) #[.slice A1 r1.length c1, .int .u8 1, .int .i64 0, .slice none 0 0, .slice none 0 0, .bool false] rfl rfl HG9.out rfl nsz26 (show 0 + 1 ≤ 6 by omega) rfl rfl ?_; intro w10 hw9 hsb; have H2 := Aside0.mk (H1.out.upd (s' := ⟨1, 0, [], []⟩) hsb hw9 hle1.out HC1.out (Kd.R_nil _ _ _ _ _) (Kd.R_nil _ _ _ _ _)); clear hw9 hsb H1 hcz0) | (go_at_call 28; refine (number_rs wb w g r1 ⟨1, 0, [], []⟩ false _ H2.out).mono ?_; rintro e w11 ⟨rfl, hq⟩; obtain ⟨A2, c2, vl, vh, hg2, hc2, hC2, hl2, hl3⟩ := hq.ex; have H3 := Aside0.mk hq; have HG3 := Aside0.mk hg2; have HC3 := Aside0.mk hc2; have HR3 := Aside0.mk hC2; have HL2 := Aside0.mk hl2; have HL3 := Aside0.mk hl3; clear hq hg2 hc2 hC2 hl2 hl3 H2) | ((with_reducible refine gate_store (t := 2) (p := 38) rfl ?_); refine store_one 2 38 (.tmp 35) rfl rfl rfl (.int .i64 (Bnumber r1).1) #[.slice A2 (Bnumber r1).2.2.length c2, .int .u8 1, .int .i64 (Bnumber r1).1, vl, vh, .bool (false || (Bnumber r1).2.1)] rfl rfl HG3.out rfl nsz2 (show 2 + 1 ≤ 6 by omega) rfl rfl ?_; intro w12 hw9 hsb; have H4 := Aside0.mk (H3.out.upd (s' := ⟨1, (Bnumber r1).1, [], []⟩) hsb hw9 HC3.out HR3.out HL2.out HL3.out); have hcz1 := (blk_cell hw9 1).trans (show _ = some (Value.int .u8 1) from rfl); clear hw9 hsb H3 HG3 HC3 HR3 HL2 HL3) | (go_at_call 29; refine (rowl_calls wb w g (Bnumber r1).2.2 ⟨1, (Bnumber r1).1, [], []⟩ (false || (Bnumber r1).2.1) _ H4.out (by have := hbl.out; simp only [List.length_nil]; omega)).mono ?_; rintro e w13 ⟨rfl, hq⟩; have H5 := Aside0.mk hq; clear hq H4 hcz1))
    have hkeep := Aside0.mk (BrowL_keeps (Bnumber r1).2.2 ⟨1, (Bnumber r1).1, [], []⟩ (false || (Bnumber r1).2.1))
    refine (rowh_calls wb w g _ _ _ _ H5.out (by have h1 := hkeep.out.1; have h2 := hkeep.out.2.1; have h3 := hbl.out; rw [h2]; simp only [List.length_nil]; omega)).mono ?_
    rintro e w14 ⟨rfl, hq⟩
    have H6 := Aside0.mk hq
    clear hq H5 hkeep
    rcases hR : BoneA r1 with ⟨b2, s2, bad2⟩
    have hR' : BrowH (BrowL (Bnumber r1).2.2 ⟨1, (Bnumber r1).1, [], []⟩ (false || (Bnumber r1).2.1)).1 (BrowL (Bnumber r1).2.2 ⟨1, (Bnumber r1).1, [], []⟩ (false || (Bnumber r1).2.1)).2.1 (BrowL (Bnumber r1).2.2 ⟨1, (Bnumber r1).1, [], []⟩ (false || (Bnumber r1).2.1)).2.2 = (b2, s2, bad2) := hR
    rw [hR'] at H6
    rw [hR] at hfin
    clear hR hR'
    obtain ⟨A6, c6, vl6, vh6, hg6, hc6, hC6, hl6, hl7⟩ := H6.out.ex
    obtain ⟨Al, cl, rfl⟩ := Kd.R_slice hl6
    obtain ⟨Ah, ch, rfl⟩ := Kd.R_slice hl7
    obtain ⟨Al', cl', el, hll, hrl⟩ := Kd.R_reads hl6
    obtain ⟨Ah', ch', eh, hlh, hrh⟩ := Kd.R_reads hl7
    injection el with el1 _ el2
    subst el1; subst el2
    injection eh with eh1 _ eh2
    subst eh1; subst eh2
    have hcz1 := (blk_cell hg6 1).trans (show _ = some (Value.int .u8 s2.f0) from rfl)
    have hcz2 := (blk_cell hg6 2).trans (show _ = some (Value.int .i64 s2.f1) from rfl)
    have hcz3 := (blk_cell hg6 3).trans (show _ = some (Value.slice Al s2.f2.length cl) from rfl)
    have hcz4 := (blk_cell hg6 4).trans (show _ = some (Value.slice Ah s2.f3.length ch) from rfl)
    have hcz5 := (blk_cell hg6 5).trans (show _ = some (Value.bool bad2) from rfl)
    have HLL := Aside0.mk hll
    have HRL := Aside0.mk hrl
    have HLH := Aside0.mk hlh
    have HRH := Aside0.mk hrh
    clear hg6 hc6 hC6 hl6 hl7 hll hrl hlh hrh
    cases bad2 with
    | true =>
      go_wp2
      go_ret
      exact ⟨by rw [hfin.out]; rfl, by rw [hfin.out]; exact H6.out⟩
    | false =>
      obtain ⟨m, hm⟩ : ∃ m, m = Bmay s2 := ⟨_, rfl⟩
      have HM := Aside0.mk (hm ▸ may_f s2 HRL.out.2.1 HRH.out.2.1 (s2.f2.length + s2.f3.length + 4) (by omega))
      rw [← hm] at hfin
      clear hm
      go_wp2_with (first | (go_at_call 10; refine (binary_may.calls _ _ _ Al cl s2.f2 Ah ch s2.f3 m _ HRL.out HLL.out HRH.out HLH.out HM.out).mono ?_; rintro e w15 ⟨rfl, hb6⟩; have HB6 := Aside0.mk hb6; clear hb6 hcz1 hcz2 hcz3 hcz4 hcz5))
      go_ret
      exact ⟨by rw [hfin.out]; rfl, by rw [hfin.out]; exact H6.out.step HB6.out⟩
  · have h97' : (b == 97) = false := beq_eq_false_iff_ne.mpr h97
    by_cases h100 : b = 100
    · have h100' : (b == 100) = true := beq_iff_eq.mpr h100
      have hfin := Aside0.mk (show Bone bs = (!(BoneD r1).2.2 && Bmay (BoneD r1).2.1, BoneD r1) by unfold Bone; rw [← HBd.out, if_neg h97, if_pos h100, HR1.out])
      clear h97 h100
      go_wp2_with (first | ((with_reducible refine gate_store (t := 5) (p := 24) rfl ?_); refine store_one 5 24 (.const (.int .u8 2)) rfl rfl rfl (.int .u8 2) #[.slice (some ad) bs.length c, .int .u8 2, .int .i64 0, .slice none 0 0, .slice none 0 0, .bool false] rfl rfl HG8.out rfl nsz5 (show 1 + 1 ≤ 6 by omega) rfl rfl ?_; intro w9 hw9 hsb; have HG9 := Aside0.mk hw9; have H1 := Aside0.mk (H0.out.upd (s' := ⟨2, 0, [], []⟩) hsb hw9 HC.out HR.out (Kd.R_nil _ _ _ _ _) (Kd.R_nil _ _ _ _ _)); clear hw9 hsb H0 hcz0; have hcz0 := (blk_cell HG9.out 0).trans (show _ = some (Value.slice (some ad) bs.length c) from rfl)) | ((with_reducible refine gate_store (t := 23) (p := 32) rfl ?_); refine store_one 23 32 (.tmp 30) rfl rfl rfl (.slice A1 r1.length c1) #[.slice A1 r1.length c1, .int .u8 2, .int .i64 0, .slice none 0 0, .slice none 0 0, .bool false] rfl rfl HG9.out rfl nsz26 (show 0 + 1 ≤ 6 by omega) rfl rfl ?_; intro w10 hw9 hsb; have H2 := Aside0.mk (H1.out.upd (s' := ⟨2, 0, [], []⟩) hsb hw9 hle1.out HC1.out (Kd.R_nil _ _ _ _ _) (Kd.R_nil _ _ _ _ _)); clear hw9 hsb H1 hcz0) | (go_at_call 28; refine (number_rs wb w g r1 ⟨2, 0, [], []⟩ false _ H2.out).mono ?_; rintro e w11 ⟨rfl, hq⟩; obtain ⟨A2, c2, vl, vh, hg2, hc2, hC2, hl2, hl3⟩ := hq.ex; have H3 := Aside0.mk hq; have HG3 := Aside0.mk hg2; have HC3 := Aside0.mk hc2; have HR3 := Aside0.mk hC2; have HL2 := Aside0.mk hl2; have HL3 := Aside0.mk hl3; clear hq hg2 hc2 hC2 hl2 hl3 H2) | ((with_reducible refine gate_store (t := 2) (p := 38) rfl ?_); refine store_one 2 38 (.tmp 35) rfl rfl rfl (.int .i64 (Bnumber r1).1) #[.slice A2 (Bnumber r1).2.2.length c2, .int .u8 2, .int .i64 (Bnumber r1).1, vl, vh, .bool (false || (Bnumber r1).2.1)] rfl rfl HG3.out rfl nsz2 (show 2 + 1 ≤ 6 by omega) rfl rfl ?_; intro w12 hw9 hsb; have H4 := Aside0.mk (H3.out.upd (s' := ⟨2, (Bnumber r1).1, [], []⟩) hsb hw9 HC3.out HR3.out HL2.out HL3.out); have hcz1 := (blk_cell hw9 1).trans (show _ = some (Value.int .u8 2) from rfl); clear hw9 hsb H3 HG3 HC3 HR3 HL2 HL3))
      refine (rowh_calls wb w g _ _ _ _ H4.out (by have h3 := hbl.out; simp only [List.length_nil]; omega)).mono ?_
      rintro e w14 ⟨rfl, hq⟩
      have H6 := Aside0.mk hq
      clear hq H4 hcz1
      rcases hR : BoneD r1 with ⟨b2, s2, bad2⟩
      have hR' : BrowH (Bnumber r1).2.2 ⟨2, (Bnumber r1).1, [], []⟩ (false || (Bnumber r1).2.1) = (b2, s2, bad2) := hR
      rw [hR'] at H6
      rw [hR] at hfin
      clear hR hR'
      obtain ⟨A6, c6, vl6, vh6, hg6, hc6, hC6, hl6, hl7⟩ := H6.out.ex
      obtain ⟨Al, cl, rfl⟩ := Kd.R_slice hl6
      obtain ⟨Ah, ch, rfl⟩ := Kd.R_slice hl7
      obtain ⟨Al', cl', el, hll, hrl⟩ := Kd.R_reads hl6
      obtain ⟨Ah', ch', eh, hlh, hrh⟩ := Kd.R_reads hl7
      injection el with el1 _ el2
      subst el1; subst el2
      injection eh with eh1 _ eh2
      subst eh1; subst eh2
      have hcz1 := (blk_cell hg6 1).trans (show _ = some (Value.int .u8 s2.f0) from rfl)
      have hcz2 := (blk_cell hg6 2).trans (show _ = some (Value.int .i64 s2.f1) from rfl)
      have hcz3 := (blk_cell hg6 3).trans (show _ = some (Value.slice Al s2.f2.length cl) from rfl)
      have hcz4 := (blk_cell hg6 4).trans (show _ = some (Value.slice Ah s2.f3.length ch) from rfl)
      have hcz5 := (blk_cell hg6 5).trans (show _ = some (Value.bool bad2) from rfl)
      have HLL := Aside0.mk hll
      have HRL := Aside0.mk hrl
      have HLH := Aside0.mk hlh
      have HRH := Aside0.mk hrh
      clear hg6 hc6 hC6 hl6 hl7 hll hrl hlh hrh
      cases bad2 with
      | true =>
        go_wp2
        go_ret
        exact ⟨by rw [hfin.out]; rfl, by rw [hfin.out]; exact H6.out⟩
      | false =>
        obtain ⟨m, hm⟩ : ∃ m, m = Bmay s2 := ⟨_, rfl⟩
        have HM := Aside0.mk (hm ▸ may_f s2 HRL.out.2.1 HRH.out.2.1 (s2.f2.length + s2.f3.length + 4) (by omega))
        rw [← hm] at hfin
        clear hm
        go_wp2_with (first | (go_at_call 10; refine (binary_may.calls _ _ _ Al cl s2.f2 Ah ch s2.f3 m _ HRL.out HLL.out HRH.out HLH.out HM.out).mono ?_; rintro e w15 ⟨rfl, hb6⟩; have HB6 := Aside0.mk hb6; clear hb6 hcz1 hcz2 hcz3 hcz4 hcz5))
        go_ret
        exact ⟨by rw [hfin.out]; rfl, by rw [hfin.out]; exact H6.out.step HB6.out⟩
    · have h100' : (b == 100) = false := beq_eq_false_iff_ne.mpr h100
      have hfin := Aside0.mk (show Bone bs = (false, bs, z43, false) by unfold Bone; rw [← HBd.out, if_neg h97, if_neg h100])
      clear h97 h100
      go_wp2
      go_ret
      exact ⟨by rw [hfin.out]; rfl, by rw [hfin.out]; exact H0.out⟩
end Go.Proofs.YtlimaebaagabaaaDoor.PB
