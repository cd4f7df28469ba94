import Derived.Test.YtfjnkbkcoakooaaDoorHLtext
namespace Go.Proofs.YtfjnkbkcoakooaaDoor.PB
open Go.RowKit Go.Proofs.YtfjnkbkcoakooaaDoorW.PrintWords Go.Proofs.YtfjnkbkcoakooaaDoorW.PrintLast Go.Proofs.YtfjnkbkcoakooaaDoorW.PrintMore
set_option linter.unusedVariables false
set_option linter.unusedSimpArgs false
theorem lsz39 : (Tryd.prog.info? 43).map (·.size) = some 4 := by kernel_rfl
theorem Lnum_bytes (n : Int) : ∃ t : ByteArray, bytesOf t = Lnum n := ⟨_, rfl⟩
theorem bytes_app {a b : List Int} (ha : ∃ t : ByteArray, bytesOf t = a) (hb : ∃ t : ByteArray, bytesOf t = b) : ∃ t : ByteArray, bytesOf t = a ++ b := by
  obtain ⟨s, rfl⟩ := ha
  obtain ⟨t, rfl⟩ := hb
  exact ⟨s ++ t, bytesOf_append s t⟩
theorem Lwords_bytes (l : List Int) : ∃ t : ByteArray, bytesOf t = Lwords l := by
  induction l with
  | nil => exact ⟨⟨#[]⟩, rfl⟩
  | cons x l ih => exact bytes_app ⟨_, rfl⟩ ih
theorem Lline_bytes (s : S43) : ∃ t : ByteArray, bytesOf t = Lline s := by
  unfold Lline Lmid Lhead
  refine bytes_app (bytes_app (bytes_app (Lnum_bytes _) ?_) (bytes_app (Lwords_bytes _) ?_)) (bytes_app (Lwords_bytes _) ⟨⟨#[32, 48, 10]⟩, rfl⟩)
  · split
    · exact ⟨⟨#[32, 100]⟩, rfl⟩
    · exact ⟨⟨#[]⟩, rfl⟩
  · split
    · exact ⟨_, rfl⟩
    · exact ⟨⟨#[]⟩, rfl⟩
theorem Llines_bytes (l : List S43) : ∃ t : ByteArray, bytesOf t = Llines l := by
  induction l with
  | nil => exact ⟨⟨#[]⟩, rfl⟩
  | cons x l ih => exact bytes_app (Lline_bytes x) ih
theorem st_calls (base g : Nat) (bs : List Int) (t : ByteArray) (w : World) (h : BD base g bs w) (ht : bytesOf t = bs) :
    Calls Tryd.prog 24 #[.pointer (some ⟨g, 0, none⟩)] w fun e w' => e = .returned (.string t) ∧ Below base w w' := by
  obtain ⟨p, v, hg, hp, hR⟩ := h.ex
  have hb : base ≤ w.heap.size := Nat.le_trans h.lt (Nat.le_of_lt (blk_lt hg))
  have ho := Kd.own_of_R hR
  have hc := bytes_back bs t ht
  have hI : Lib.IsBuilder 53 5 base g (Lib.byteCells t.data.toList) w := by
    rw [hc]
    have hA : Lib.BuilderAt 53 5 base g (.pointer p) (bs.map (Value.int .u8)) w := ⟨h.lt, v, hg, by simpa [encs] using ho, fun e => Kd.R_ne hR hg (by decide) e.symm⟩
    rcases hp with rfl | rfl
    · exact .inl hA
    · exact .inr hA
  exact Tryd.Builder_String_any base g t.data.toList w hI hb
set_option maxHeartbeats 2000000 in
set_option maxRecDepth 100000 in
/-- The text and the error are told (of few steps: at most 6000 with their literals and hints). -/
theorem lwrite_calls (A0 : Option Addr) (c0 : Nat) (l0 : List S43) (w : World) (hr0 : Kd.C k43 w A0 l0.length l0) (hc0 : l0.length ≤ c0) (hl : l0.length + Btot l0 ≤ 6000) (htab : Pow10 w.heap.size w) :
    Calls Tryd.prog 12 #[.slice A0 l0.length c0] w fun e w' => ∃ s : ByteArray, e = .returned (.tuple #[.string s, .int .i64 (Lwrite l0).2]) ∧ bytesOf s = (Lwrite l0).1 ∧ Below w.heap.size w w' := by
  have HR0 := Aside0.mk hr0
  have HC0 := Aside0.mk hc0
  have HL := Aside0.mk hl
  have HTAB := Aside0.mk htab
  clear hr0 hc0 hl htab
  go_enter Tryd.func12, Tryd.ntmps12
  go_wp2_with (first | ((with_reducible refine gate_dst (N := 16) rfl ?_); refine box_event ?hg (N := 16) ?hd (cs := #[.int .i64 0, .int .i64 0]) (t := 48) ?hr ?_; (case hd => rfl); (case hg => rfl); (case hr => first | (go_simp; done) | (go_simp; rfl)); intro gu hgb w1 hbox hb; have HGU := Aside0.mk hbox; have HB1 := Aside0.mk hb; have HLU := Aside0.mk (show w.heap.size ≤ gu by rw [hgb]; exact Nat.le_refl _); clear hbox hb hgb))
  go_loopg [21] l0.length (fun j v21 wr => ∃ (x : Int), v21 = .int .i64 x ∧ 0 ≤ x ∧ x + j = l0.length ∧ Aside0 (wr.heap[gu]? = some (.cells #[.int .i64 x, .int .i64 (Btot (l0.take x.toNat) : Nat)] 48 (0, 0))) ∧ Aside0 (Below w.heap.size w wr))
  case atStart => exact ⟨0, rfl, by omega, by omega, ⟨by simpa [Btot] using HGU.out⟩, HB1⟩
  case round =>
    obtain ⟨x, rfl, hx0, hxj, HG, HB⟩ := hrel
    by_cases hlt : x < (l0.length : Int)
    · obtain ⟨ad, A2, c2, A3, c3, e0, hx_0, hx_1, hx_2, hx_3, hl2, hi2, hl3, hi3⟩ := at_T43 HR0.out x hx0 hlt
      cases e0
      replace hx_0 := (HB.out.cell (World.block_lt_of_cell? w _ hx_0)).trans hx_0
      replace hx_1 := (HB.out.cell (World.block_lt_of_cell? w _ hx_1)).trans hx_1
      replace hx_2 := (HB.out.cell (World.block_lt_of_cell? w _ hx_2)).trans hx_2
      replace hx_3 := (HB.out.cell (World.block_lt_of_cell? w _ hx_3)).trans hx_3
      obtain ⟨s, hs⟩ : ∃ s, s = rd_T43 l0 x := ⟨_, rfl⟩
      rw [← hs] at hx_0 hx_1 hx_2 hx_3
      have HT : Aside0 (l0.take (x + 1).toNat = l0.take x.toNat ++ [s]) := Aside0.mk (by rw [hs]; exact rd43_nat l0 x hx0 hlt)
      clear hl2 hi2 hl3 hi3 hs
      obtain ⟨m, hm⟩ : ∃ m, m = Btot (l0.take x.toNat) := ⟨_, rfl⟩
      rw [← hm] at HG
      have hbt := Aside0.mk (show Btot (l0.take (x + 1).toNat) = m + (s.f2.length + s.f3.length) by rw [HT.out, Btot_append, ← hm]; simp [Btot])
      have hle := Aside0.mk (show x + 1 ≤ 6000 ∧ m + (s.f2.length + s.f3.length) ≤ 6000 by
        have h1 := Btot_take_le l0 (x + 1).toNat
        rw [hbt.out] at h1
        have := HL.out
        omega)
      clear hm
      have hmin := Aside0.mk (show min ((m : Int) + (s.f2.length : Int) + (s.f3.length : Int)) 16777217 = ((m + (s.f2.length + s.f3.length) : Nat) : Int) by have := hle.out; omega)
      have htr := Aside0.mk (show (decide (x + 1 ≤ 4194304) && decide (min ((m : Int) + (s.f2.length : Int) + (s.f3.length : Int)) 16777217 ≤ 16777216)) = true by
        have := hle.out
        rw [hmin.out, decide_eq_true (by omega), decide_eq_true (by omega)]
        rfl)
      go_wp2_with (first | ((with_reducible refine gate_dst (N := 7) rfl ?_); refine box_event ?hg (N := 7) ?hd (cs := #[.int .u8 0, .int .i64 0, .slice none 0 0, .slice none 0 0]) (t := 43) ?hr ?_; (case hd => rfl); (case hg => rfl); (case hr => first | (go_simp; done) | (go_simp; rfl)); intro gc hgb w3 hbox hb; have HX := Aside0.mk hbox; have HB3 := Aside0.mk (below_step HB.out hb); have HG3 := Aside0.mk (blk_below HG.out hb); have HLC := Aside0.mk (show w.heap.size ≤ gc by rw [hgb]; exact HB.out.size); clear hbox hb hgb) | ((with_reducible refine gate_store (t := 43) (p := 7) rfl ?_); refine store_four 43 7 (.tmp 24) rfl rfl rfl (.int .u8 s.f0) (.int .i64 s.f1) (.slice A2 s.f2.length c2) (.slice A3 s.f3.length c3) #[.int .u8 s.f0, .int .i64 s.f1, .slice A2 s.f2.length c2, .slice A3 s.f3.length c3] rfl rfl HX.out lsz39 (Nat.le_refl 4) rfl rfl rfl rfl rfl ?_; intro w4 hw4 hsb; have HX4 := Aside0.mk hw4; have HG4 := Aside0.mk (hsb.other HG3.out (blk_ne HG3.out HX.out (by decide))); have HB4 := Aside0.mk (hsb.below HB3.out HLC.out); clear hw4 hsb; have hcz0 := (blk_cell HX4.out 0).trans (show _ = some (Value.int .u8 s.f0) from rfl); have hcz1 := (blk_cell HX4.out 1).trans (show _ = some (Value.int .i64 s.f1) from rfl); have hcz2 := (blk_cell HX4.out 2).trans (show _ = some (Value.slice A2 s.f2.length c2) from rfl); have hcz3 := (blk_cell HX4.out 3).trans (show _ = some (Value.slice A3 s.f3.length c3) from rfl)) | (go_at_call 19; refine (spend_calls gu x (m : Int) s.f0 s.f1 A2 A3 c2 c3 s.f2.length s.f3.length w.heap.size _ HG4.out HLU.out hx0 (by have := hle.out; omega) (by omega) (by have := hle.out; omega) (by have := hle.out; omega) (by have := hle.out; omega)).mono ?_; rw [htr.out, hmin.out]; rintro e w5 ⟨rfl, h5, hb⟩; have HG5 := Aside0.mk h5; have HB5 := Aside0.mk (HB4.out.trans hb); clear h5 hb))
      have hw : wrap64 (x + 1) = x + 1 := by have := hle.out; unfold wrap64; omega
      go_roundg (gk - 1)
      case rel => exact ⟨x + 1, by rw [hw], by omega, by omega, ⟨by rw [hbt.out]; exact HG5.out⟩, HB5⟩
      case measure => omega
    · obtain ⟨u, hu⟩ : ∃ u : Nat, u = Btot (l0.take x.toNat) := ⟨_, rfl⟩
      clear hu
      go_upto_region 12 with (first | ((with_reducible refine gate_dst (N := 8) rfl ?_); refine box_event ?hg (N := 8) ?hd (cs := #[.pointer none, .slice none 0 0]) (t := 53) ?hr ?_; (case hd => rfl); (case hg => rfl); (case hr => first | (go_simp; done) | (go_simp; rfl)); intro gb hgb w2 hbox hb; have HBD := Aside0.mk (show BD w.heap.size gb [] w2 from ⟨⟨none, .slice none 0 0, hbox, .inl rfl, Kd.R_nil _ _ _ _ _⟩, by rw [hgb]; exact HB.out.size⟩); have HB2 := Aside0.mk (below_step HB.out hb); clear hbox hb hgb))
      clear HGU HB1 HLU HB
      go_loopg [33] l0.length (fun j v33 wr => ∃ (x : Int), v33 = .int .i64 x ∧ 0 ≤ x ∧ x + j = l0.length ∧ Aside0 ((l0.take x.toNat).all Bmay = true) ∧ Aside0 (BD w.heap.size gb (Llines (l0.take x.toNat)) wr) ∧ Aside0 (Below w.heap.size w wr))
      case atStart => exact ⟨0, rfl, by omega, by omega, ⟨by simp⟩, by simpa [Llines] using HBD, HB2⟩
      case round =>
        clear HBD HB2 hxj hx0 hlt
        obtain ⟨x, rfl, hx0, hxj, HALL, HBD, HB⟩ := hrel
        by_cases hlt : x < (l0.length : Int)
        · obtain ⟨ad, A2, c2, A3, c3, e0, hx_0, hx_1, hx_2, hx_3, hl2, hi2, hl3, hi3⟩ := at_T43 HR0.out x hx0 hlt
          cases e0
          replace hx_0 := (HB.out.cell (World.block_lt_of_cell? w _ hx_0)).trans hx_0
          replace hx_1 := (HB.out.cell (World.block_lt_of_cell? w _ hx_1)).trans hx_1
          replace hx_2 := (HB.out.cell (World.block_lt_of_cell? w _ hx_2)).trans hx_2
          replace hx_3 := (HB.out.cell (World.block_lt_of_cell? w _ hx_3)).trans hx_3
          have HMEM := Aside0.mk (rd43_mem l0 x hx0 hlt)
          obtain ⟨s, hs⟩ : ∃ s, s = rd_T43 l0 x := ⟨_, rfl⟩
          rw [← hs] at hx_0 hx_1 hx_2 hx_3 hi2 hi3 HMEM
          have HT : Aside0 (l0.take (x + 1).toNat = l0.take x.toNat ++ [s]) := Aside0.mk (by rw [hs]; exact rd43_nat l0 x hx0 hlt)
          have HC2 := Aside0.mk hi2
          have HC3 := Aside0.mk hi3
          clear hl2 hi2 hl3 hi3 hs
          cases hmay : Lmay s with
          | false =>
            go_wp2_with (first | ((with_reducible refine gate_dst (N := 11) rfl ?_); refine box_event ?hg (N := 11) ?hd (cs := #[.int .u8 0, .int .i64 0, .slice none 0 0, .slice none 0 0]) (t := 43) ?hr ?_; (case hd => rfl); (case hg => rfl); (case hr => first | (go_simp; done) | (go_simp; rfl)); intro gc hgb w3 hbox hb; have HX := Aside0.mk hbox; have HB3 := Aside0.mk (below_step HB.out hb); have HBD3 := Aside0.mk (HBD.out.below hb); have HLC := Aside0.mk (show w.heap.size ≤ gc by rw [hgb]; exact HB.out.size); clear hbox hb hgb) | ((with_reducible refine gate_store (t := 43) (p := 11) rfl ?_); refine store_four 43 11 (.tmp 36) rfl rfl rfl (.int .u8 s.f0) (.int .i64 s.f1) (.slice A2 s.f2.length c2) (.slice A3 s.f3.length c3) #[.int .u8 s.f0, .int .i64 s.f1, .slice A2 s.f2.length c2, .slice A3 s.f3.length c3] rfl rfl HX.out lsz39 (Nat.le_refl 4) rfl rfl rfl rfl rfl ?_; intro w4 hw4 hsb; have HX4 := Aside0.mk hw4; have HBD4 := Aside0.mk (HBD3.out.same hsb HX.out (by decide) (by decide)); have HB4 := Aside0.mk (hsb.below HB3.out HLC.out); clear hw4 hsb; have hcz0 := (blk_cell HX4.out 0).trans (show _ = some (Value.int .u8 s.f0) from rfl); have hcz1 := (blk_cell HX4.out 1).trans (show _ = some (Value.int .i64 s.f1) from rfl); have hcz2 := (blk_cell HX4.out 2).trans (show _ = some (Value.slice A2 s.f2.length c2) from rfl); have hcz3 := (blk_cell HX4.out 3).trans (show _ = some (Value.slice A3 s.f3.length c3) from rfl)) | (go_at_call 23; refine (lmay_calls s.f0 s.f1 A2 A3 c2 c3 s.f2 s.f3 _ (Kd.C_below HC2.out HB4.out) (Kd.C_below HC3.out HB4.out)).mono ?_; rw [show Lmay (⟨s.f0, s.f1, s.f2, s.f3⟩ : S43) = false from hmay]; rintro e w5 ⟨rfl, hb⟩; have HX5 := Aside0.mk (blk_below HX4.out hb); have HBD5 := Aside0.mk (HBD4.out.below hb); have HB5 := Aside0.mk (below_step HB4.out hb); clear hb hcz0 hcz1 hcz2 hcz3))
            have hf : l0.all Bmay = false := List.all_eq_false.2 ⟨s, HMEM.out, by rw [← Lmay_eq, hmay]; simp⟩
            go_ret2
            have hq := show Lwrite l0 = ([], 40) by unfold Lwrite; rw [hf]; rfl
            exact ⟨ByteArray.mk #[], by rw [hq]; rfl, by rw [hq]; rfl, HB5.out⟩
          | true =>
            have HF := Aside0.mk (Lfit_of s (by rw [← Lmay_eq]; exact hmay))
            have HMAY := Aside0.mk hmay
            have hid0 := HF.out.id.1
            have hid1 := HF.out.id.2
            have hkk := Aside0.mk HF.out.k
            have htot : s.f2.length + s.f3.length ≤ Btot l0 := by
              have h1 := Btot_take_le l0 (x + 1).toNat
              rw [HT.out, Btot_append] at h1
              simp only [Btot] at h1
              omega
            have hf2 : s.f2.length ≤ 6000 := by have := HL.out; omega
            have hf3 : s.f3.length ≤ 6000 := by have := HL.out; omega
            have hb0 : (Llines (l0.take x.toNat)).length ≤ 300000 := by
              have h1 := Llines_length (l0.take x.toNat) HALL.out
              have h2 := Btot_take_le l0 x.toNat
              have h3 := List.length_take_le x.toNat l0
              have h4 := HL.out
              omega
            clear htot hmay
            obtain ⟨b0, hb0e⟩ : ∃ b0, b0 = Llines (l0.take x.toNat) := ⟨_, rfl⟩
            rw [← hb0e] at HBD hb0
            have HBE := Aside0.mk hb0e
            clear hb0e
            have HSZ := Aside0.mk (show b0.length + (⟨(Lib.itoa s.f1).toArray⟩ : ByteArray).size ≤ 140737488355328 by
              have := Lib.itoa_length_le s.f1 hid0 hid1
              show b0.length + (Lib.itoa s.f1).length ≤ _
              omega)
            go_upto_if 46 with (first | ((with_reducible refine gate_dst (N := 11) rfl ?_); refine box_event ?hg (N := 11) ?hd (cs := #[.int .u8 0, .int .i64 0, .slice none 0 0, .slice none 0 0]) (t := 43) ?hr ?_; (case hd => rfl); (case hg => rfl); (case hr => first | (go_simp; done) | (go_simp; rfl)); intro gc hgb w3 hbox hb; have HX := Aside0.mk hbox; have HB3 := Aside0.mk (below_step HB.out hb); have HBD3 := Aside0.mk (HBD.out.below hb); have HLC := Aside0.mk (show w.heap.size ≤ gc by rw [hgb]; exact HB.out.size); clear hbox hb hgb) | ((with_reducible refine gate_store (t := 43) (p := 11) rfl ?_); refine store_four 43 11 (.tmp 36) rfl rfl rfl (.int .u8 s.f0) (.int .i64 s.f1) (.slice A2 s.f2.length c2) (.slice A3 s.f3.length c3) #[.int .u8 s.f0, .int .i64 s.f1, .slice A2 s.f2.length c2, .slice A3 s.f3.length c3] rfl rfl HX.out lsz39 (Nat.le_refl 4) rfl rfl rfl rfl rfl ?_; intro w4 hw4 hsb; have HX4 := Aside0.mk hw4; have HBD4 := Aside0.mk (HBD3.out.same hsb HX.out (by decide) (by decide)); have HB4 := Aside0.mk (hsb.below HB3.out HLC.out); clear hw4 hsb; have hcz0 := (blk_cell HX4.out 0).trans (show _ = some (Value.int .u8 s.f0) from rfl); have hcz1 := (blk_cell HX4.out 1).trans (show _ = some (Value.int .i64 s.f1) from rfl); have hcz2 := (blk_cell HX4.out 2).trans (show _ = some (Value.slice A2 s.f2.length c2) from rfl); have hcz3 := (blk_cell HX4.out 3).trans (show _ = some (Value.slice A3 s.f3.length c3) from rfl)) | (go_at_call 23; refine (lmay_calls s.f0 s.f1 A2 A3 c2 c3 s.f2 s.f3 _ (Kd.C_below HC2.out HB4.out) (Kd.C_below HC3.out HB4.out)).mono ?_; rw [show Lmay (⟨s.f0, s.f1, s.f2, s.f3⟩ : S43) = true from HMAY.out]; rintro e w5 ⟨rfl, hb⟩; have HX5 := Aside0.mk (blk_below HX4.out hb); have HBD5 := Aside0.mk (HBD4.out.below hb); have HB5 := Aside0.mk (below_step HB4.out hb); clear hb hcz0 hcz1 hcz2 hcz3; have hcz1 := (blk_cell HX5.out 1).trans (show _ = some (Value.int .i64 s.f1) from rfl)) | (go_at_call 22; refine (fi_calls s.f1 _ hid0 hid1 (HTAB.out.on HB5.out)).mono ?_; rintro e w6 ⟨rfl, hb⟩; have HX6 := Aside0.mk (blk_below HX5.out hb); have HBD6 := Aside0.mk (HBD5.out.below hb); have HB6 := Aside0.mk (below_step HB5.out hb); clear hb hcz1) | (go_at_call 21; refine (ws_calls w.heap.size gb b0 ⟨(Lib.itoa s.f1).toArray⟩ _ HBD6.out HSZ.out).mono ?_; rintro e w7 ⟨rfl, h7, hb, hk⟩; have HBD7 := Aside0.mk h7; have HB7 := Aside0.mk (HB6.out.trans hb); have HX7 := Aside0.mk (hk.blk _ _ _ _ HX6.out (by decide)); clear h7 hb hk; have hcz0 := (blk_cell HX7.out 0).trans (show _ = some (Value.int .u8 s.f0) from rfl)))
            clear HX HB3 HBD3 HX4 HBD4 HB4 HX5 HBD5 HB5 HX6 HBD6 HB6 HBD HB
            go_cut [] (fun wc => Aside0 (BD w.heap.size gb (b0 ++ Lhead s) wc) ∧ Aside0 (wc.heap[gc]? = some (.cells #[.int .u8 s.f0, .int .i64 s.f1, .slice A2 s.f2.length c2, .slice A3 s.f3.length c3] 43 (0, 0))) ∧ Aside0 (Below w.heap.size w wc))
            case first =>
              have hln := Aside0.mk (show (b0 ++ Lnum s.f1).length + (⟨#[32, 100]⟩ : ByteArray).size ≤ 140737488355328 by
                have := Lnum_length s.f1 HF.out.id
                rw [List.length_append]
                show b0.length + (Lnum s.f1).length + 2 ≤ _
                omega)
              by_cases hk : s.f0 = 2
              · have hk1 : (s.f0 == 2) = true := beq_iff_eq.mpr hk
                have hh := Aside0.mk (show Lhead s = Lnum s.f1 ++ [32, 100] by unfold Lhead; rw [if_pos hk])
                clear hk
                go_wp2_with (go_at_call 21; refine (ws_calls w.heap.size gb (b0 ++ Lnum s.f1) ⟨#[32, 100]⟩ _ HBD7.out (hln.out)).mono ?_; rintro e w8 ⟨rfl, h7, hb, hk⟩; have HBD8 := Aside0.mk h7; have HB8 := Aside0.mk (HB7.out.trans hb); have HX8 := Aside0.mk (hk.blk _ _ _ _ HX7.out (by decide)); clear h7 hb hk)
                go_meet
                case rel => exact ⟨⟨by rw [hh.out, ← List.append_assoc]; exact HBD8.out⟩, HX8, HB8⟩
              · have hk1 : (s.f0 == 2) = false := beq_eq_false_iff_ne.mpr hk
                have hh := Aside0.mk (show Lhead s = Lnum s.f1 by unfold Lhead; rw [if_neg hk, List.append_nil])
                clear hk
                go_wp2
                go_meet
                case rel => exact ⟨⟨by rw [hh.out]; exact HBD7.out⟩, HX7, HB7⟩
            case rest =>
              clear HX7 HBD7 HB7 hcz0
              obtain ⟨HBD, HX, HB⟩ := hcut
              have hcz2 := (blk_cell HX.out 2).trans (show _ = some (Value.slice A2 s.f2.length c2) from rfl)
              go_wp2
              go_loopg [51] s.f2.length (fun j v51 wr => ∃ (y : Int), v51 = .int .i64 y ∧ 0 ≤ y ∧ y + j = s.f2.length ∧ Aside0 (BD w.heap.size gb (b0 ++ Lhead s ++ Lwords (s.f2.take y.toNat)) wr) ∧ Aside0 (wr.heap[gc]? = some (.cells #[.int .u8 s.f0, .int .i64 s.f1, .slice A2 s.f2.length c2, .slice A3 s.f3.length c3] 43 (0, 0))) ∧ Aside0 (Below w.heap.size w wr))
              case atStart => exact ⟨0, rfl, by omega, by omega, by simpa [Lwords] using HBD, HX, HB⟩
              case round =>
                clear HBD HX HB hcz2
                obtain ⟨y, rfl, hy0, hyj, HBD, HX, HB⟩ := hrel
                have hl1 := Aside0.mk (show (b0 ++ Lhead s ++ Lwords (s.f2.take y.toNat)).length ≤ 500000 by
                  have h1 := Lhead_length s HF.out
                  have h2 := Lwords_length (s.f2.take y.toNat) (fun n hn => HF.out.lits' n (List.mem_of_mem_take hn))
                  have h3 := List.length_take_le y.toNat s.f2
                  simp only [List.length_append]
                  omega)
                by_cases hylt : y < (s.f2.length : Int)
                · have hBn := Aside0.mk (rdi_nat s.f2 y hy0 hylt)
                  obtain ⟨ad2, e2, hx2⟩ := Kd.at_int HC2.out y hy0 hylt
                  cases e2
                  replace hx2 := (HB.out.cell (World.block_lt_of_cell? w _ hx2)).trans hx2
                  have hz0 := (HF.out.lits _ (rd_mem_of s.f2 y hy0 hylt)).1
                  have hz1 := (HF.out.lits _ (rd_mem_of s.f2 y hy0 hylt)).2
                  have hil := Aside0.mk (Lib.itoa_length_le (rd s.f2 y) (by omega) (by omega))
                  go_wp2_with (go_at_call 20; refine (word_calls w.heap.size gb (b0 ++ Lhead s ++ Lwords (s.f2.take y.toNat)) (rd s.f2 y) _ HBD.out (by omega) (by omega) (HTAB.out.on HB.out) (by have h1 := hl1.out; have h2 := hil.out; omega) (by have h2 := hil.out; omega)).mono ?_; rintro e w9 ⟨rfl, h7, hb, hk⟩; have HBD9 := Aside0.mk h7; have HB9 := Aside0.mk (HB.out.trans hb); have HX9 := Aside0.mk (hk.blk _ _ _ _ HX.out (by decide)); clear h7 hb hk)
                  obtain ⟨j, rfl⟩ : ∃ j, gk = j + 1 := ⟨gk - 1, by omega⟩
                  go_roundg j
                  case measure => omega
                  case rel => exact ⟨y + 1, rfl, by omega, by omega, ⟨by rw [hBn.out, Lwords_snoc, ← List.append_assoc]; exact HBD9.out⟩, HX9, HB9⟩
                · have hall : s.f2.take y.toNat = s.f2 := List.take_of_length_le (by omega)
                  rw [hall] at HBD hl1
                  clear hall
                  have hcz0 := (blk_cell HX.out 0).trans (show _ = some (Value.int .u8 s.f0) from rfl)
                  go_upto_if 62 with fail
                  go_cut [] (fun wc => Aside0 (BD w.heap.size gb (b0 ++ Lmid s) wc) ∧ Aside0 (wc.heap[gc]? = some (.cells #[.int .u8 s.f0, .int .i64 s.f1, .slice A2 s.f2.length c2, .slice A3 s.f3.length c3] 43 (0, 0))) ∧ Aside0 (Below w.heap.size w wc))
                  case first =>
                    have hil := Aside0.mk (Lib.itoa_length_le 0 (by omega) (by omega))
                    by_cases hk : s.f0 = 1
                    · have hk1 : (s.f0 == 1) = true := beq_iff_eq.mpr hk
                      have hh := Aside0.mk (show Lmid s = Lhead s ++ (Lwords s.f2 ++ Lword 0) by unfold Lmid; rw [if_pos hk])
                      clear hk
                      go_wp2_with (go_at_call 20; refine (word_calls w.heap.size gb (b0 ++ Lhead s ++ Lwords s.f2) (0) _ HBD.out (by omega) (by omega) (HTAB.out.on HB.out) (by have h1 := hl1.out; have h2 := hil.out; omega) (by have h2 := hil.out; omega)).mono ?_; rintro e w9 ⟨rfl, h7, hb, hk⟩; have HBD9 := Aside0.mk h7; have HB9 := Aside0.mk (HB.out.trans hb); have HX9 := Aside0.mk (hk.blk _ _ _ _ HX.out (by decide)); clear h7 hb hk)
                      go_meet
                      case rel => exact ⟨⟨by rw [hh.out]; simpa [Lword] using HBD9.out⟩, HX9, HB9⟩
                    · have hk1 : (s.f0 == 1) = false := beq_eq_false_iff_ne.mpr hk
                      have hh := Aside0.mk (show Lmid s = Lhead s ++ Lwords s.f2 by unfold Lmid; rw [if_neg hk, List.append_nil])
                      clear hk
                      go_wp2
                      go_meet
                      case rel => exact ⟨⟨by rw [hh.out, ← List.append_assoc]; exact HBD.out⟩, HX, HB⟩
                  case rest =>
                    clear HBD HX HB hcz0 hl1
                    obtain ⟨HBD, HX, HB⟩ := hcut
                    have hcz3 := (blk_cell HX.out 3).trans (show _ = some (Value.slice A3 s.f3.length c3) from rfl)
                    go_wp2
                    go_loopg [68] s.f3.length (fun j v68 wr => ∃ (z : Int), v68 = .int .i64 z ∧ 0 ≤ z ∧ z + j = s.f3.length ∧ Aside0 (BD w.heap.size gb (b0 ++ Lmid s ++ Lwords (s.f3.take z.toNat)) wr) ∧ Aside0 (wr.heap[gc]? = some (.cells #[.int .u8 s.f0, .int .i64 s.f1, .slice A2 s.f2.length c2, .slice A3 s.f3.length c3] 43 (0, 0))) ∧ Aside0 (Below w.heap.size w wr))
                    case atStart => exact ⟨0, rfl, by omega, by omega, by simpa [Lwords] using HBD, HX, HB⟩
                    case round =>
                      clear HBD HX HB hcz3
                      obtain ⟨z, rfl, hy0, hyj, HBD, HX, HB⟩ := hrel
                      have hl1 := Aside0.mk (show (b0 ++ Lmid s ++ Lwords (s.f3.take z.toNat)).length ≤ 700000 by
                        have h1 := Lmid_length s HF.out
                        have h2 := Lwords_length (s.f3.take z.toNat) (fun n hn => HF.out.hints n (List.mem_of_mem_take hn))
                        have h3 := List.length_take_le z.toNat s.f3
                        simp only [List.length_append]
                        omega)
                      by_cases hylt : z < (s.f3.length : Int)
                      · have hBn := Aside0.mk (rdi_nat s.f3 z hy0 hylt)
                        obtain ⟨ad2, e2, hx2⟩ := Kd.at_int HC3.out z hy0 hylt
                        cases e2
                        replace hx2 := (HB.out.cell (World.block_lt_of_cell? w _ hx2)).trans hx2
                        have hz0 := (HF.out.hints _ (rd_mem_of s.f3 z hy0 hylt)).1
                        have hz1 := (HF.out.hints _ (rd_mem_of s.f3 z hy0 hylt)).2
                        have hil := Aside0.mk (Lib.itoa_length_le (rd s.f3 z) (by omega) (by omega))
                        go_wp2_with (go_at_call 20; refine (word_calls w.heap.size gb (b0 ++ Lmid s ++ Lwords (s.f3.take z.toNat)) (rd s.f3 z) _ HBD.out (by omega) (by omega) (HTAB.out.on HB.out) (by have h1 := hl1.out; have h2 := hil.out; omega) (by have h2 := hil.out; omega)).mono ?_; rintro e w9 ⟨rfl, h7, hb, hk⟩; have HBD9 := Aside0.mk h7; have HB9 := Aside0.mk (HB.out.trans hb); have HX9 := Aside0.mk (hk.blk _ _ _ _ HX.out (by decide)); clear h7 hb hk)
                        obtain ⟨j, rfl⟩ : ∃ j, gk = j + 1 := ⟨gk - 1, by omega⟩
                        go_roundg j
                        case measure => omega
                        case rel => exact ⟨z + 1, rfl, by omega, by omega, ⟨by rw [hBn.out, Lwords_snoc, ← List.append_assoc]; exact HBD9.out⟩, HX9, HB9⟩
                      · have hall : s.f3.take z.toNat = s.f3 := List.take_of_length_le (by omega)
                        rw [hall] at HBD hl1
                        clear hall
                        go_wp2_with (go_at_call 21; refine (ws_calls w.heap.size gb (b0 ++ Lmid s ++ Lwords s.f3) ⟨#[32, 48, 10]⟩ _ HBD.out (by have h1 := hl1.out; show _ + 3 ≤ _; omega)).mono ?_; rintro e w9 ⟨rfl, h7, hb, hk⟩; have HBD9 := Aside0.mk h7; have HB9 := Aside0.mk (HB.out.trans hb); have HX9 := Aside0.mk (hk.blk _ _ _ _ HX.out (by decide)); clear h7 hb hk)
                        go_roundg (l0.length - (x + 1).toNat)
                        case measure => omega
                        case rel => exact ⟨x + 1, by rw [show wrap64 (x + 1) = x + 1 by have := HL.out; unfold wrap64; omega], by omega, by omega, ⟨by rw [HT.out, List.all_append, HALL.out]; simp [← Lmay_eq, HMAY.out]⟩, ⟨by rw [HT.out, Llines_snoc, ← HBE.out]; simpa [Lline, bytesOf] using HBD9.out⟩, HB9⟩
        · have hall : l0.take x.toNat = l0 := List.take_of_length_le (by omega)
          rw [hall] at HBD HALL
          clear hall
          obtain ⟨t, ht⟩ := Llines_bytes l0
          have HTT := Aside0.mk ht
          clear ht
          go_wp2_with (go_at_call 24; refine (st_calls w.heap.size gb _ t _ HBD.out HTT.out).mono ?_; rintro e w9 ⟨rfl, hb⟩; have HB9 := Aside0.mk (HB.out.trans hb); clear hb)
          go_ret2
          have hq := show Lwrite l0 = (Llines l0, 0) by unfold Lwrite; rw [HALL.out]; rfl
          exact ⟨t, by rw [hq]; rfl, by rw [hq]; exact HTT.out, HB9.out⟩
end Go.Proofs.YtfjnkbkcoakooaaDoor.PB
