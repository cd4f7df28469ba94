import Derived.Test.YtmknpchmpgkdbaaDoorHOset
import Derived.Outline
namespace Go.Proofs.YtmknpchmpgkdbaaDoor.PB
open Go.RowKit Go.Proofs.YtmknpchmpgkdbaaDoorW.PrintWords Go.Proofs.YtmknpchmpgkdbaaDoorW.PrintLast Go.Proofs.YtmknpchmpgkdbaaDoorW.PrintMore
set_option linter.unusedVariables false
set_option linter.unusedSimpArgs false
/-! ### Parse -/
theorem oParse_none {xs : List Int} {s : List UInt8} (h : oWord s = none) : oParse xs s = (xs, 2) := by unfold oParse; rw [h]
theorem oParse_some {xs : List Int} {s nm : List UInt8} {n : Int} (h : oWord s = some (nm, n)) : oParse xs s = ((oSet xs nm n).1, (oSet xs nm n).2.2) := by unfold oParse; rw [h]
theorem LT.gb {w w' : World} {g B : Nat} (h : LT B w) (hb : GB g w w') (hB : B ≤ g) (hw : B ≤ w.heap.size) : LT B w' := h.on (hb.below hB hw)
set_option maxHeartbeats 2000000 in
set_option maxRecDepth 100000 in
theorem parse_calls (g : Nat) (xs : List Int) (s : ByteArray) (w : World) {B : Nat} (hlt : LT B w) (hB : B ≤ g) (hO : OB w g xs) (hs : s.size < 4000000000) :
    Calls Tryd.prog 14 #[.pointer (some ⟨g, 0, none⟩), .string s] w fun e w' => e = .returned (.int .i64 (oParse xs s.data.toList).2) ∧ OB w' g (oParse xs s.data.toList).1 ∧ GB g w w' := by
  have hgw : g < w.heap.size := blk_lt hO.blk
  have hBw : B ≤ w.heap.size := by omega
  have HLT := Aside0.mk hlt
  have HO := Aside0.mk hO
  obtain ⟨m, hm⟩ := hlt.here.m
  have HM := Aside0.mk hm
  clear hlt hO hm
  obtain ⟨S, hS⟩ : ∃ S, S = s.data.toList := ⟨_, rfl⟩
  obtain ⟨d1, hd1⟩ : ∃ d, d = Lib.hasPrefix S [45, 45] := ⟨_, rfl⟩
  obtain ⟨t1, ht1⟩ : ∃ t : ByteArray, t = ⟨(Lib.trimPrefix S [45, 45]).toArray⟩ := ⟨_, rfl⟩
  have h1 := Aside0.mk (show ∀ w, Calls Tryd.prog 24 #[.string s, .string ⟨#[45, 45]⟩] w fun e w' => e = .returned (.tuple #[.string t1, .bool d1]) ∧ w = w' from fun w => by rw [ht1, hd1, hS]; exact (Tryd.strings_CutPrefix s ⟨#[45, 45]⟩ w).mono fun _ _ h => ⟨h.1, h.2.symm⟩)
  have hz1 : t1.size ≤ s.size := by
    have : t1.size = (Lib.trimPrefix S [45, 45]).length := by rw [ht1]; rfl
    rw [this]
    unfold Lib.trimPrefix
    have e : S.length = s.size := by rw [hS]; rfl
    split
    · rw [List.length_drop]; omega
    · omega
  obtain ⟨c, hc⟩ : ∃ c, c = Lib.cut t1.data.toList [61] := ⟨_, rfl⟩
  obtain ⟨a2, ha2⟩ : ∃ t : ByteArray, t = ⟨c.1.toArray⟩ := ⟨_, rfl⟩
  obtain ⟨b2, hb2⟩ : ∃ t : ByteArray, t = ⟨c.2.1.toArray⟩ := ⟨_, rfl⟩
  obtain ⟨d2, hd2⟩ : ∃ d, d = c.2.2 := ⟨_, rfl⟩
  have h2 := Aside0.mk (show ∀ w, w.cell? ⟨2, 0, none⟩ = some (.int .i64 m) → Calls Tryd.prog 25 #[.string t1, .string ⟨#[61]⟩] w fun e w' => e = .returned (.tuple #[.string a2, .string b2, .bool d2]) ∧ ∃ n, w' = w.drewN n from fun w hw => by rw [ha2, hb2, hd2, hc]; exact Tryd.strings_Cut t1 ⟨#[61]⟩ m w (by omega) hw)
  obtain ⟨d3, hd3⟩ : ∃ d, d = Lib.hasPrefix c.1 [110, 111, 45] := ⟨_, rfl⟩
  obtain ⟨t3, ht3⟩ : ∃ t : ByteArray, t = ⟨(Lib.trimPrefix c.1 [110, 111, 45]).toArray⟩ := ⟨_, rfl⟩
  have ea2 : a2.data.toList = c.1 := by rw [ha2]
  have h3 := Aside0.mk (show ∀ w, Calls Tryd.prog 24 #[.string a2, .string ⟨#[110, 111, 45]⟩] w fun e w' => e = .returned (.tuple #[.string t3, .bool d3]) ∧ w = w' by
    intro w
    rw [ht3, hd3, ← ea2]
    exact (Tryd.strings_CutPrefix a2 ⟨#[110, 111, 45]⟩ w).mono fun _ _ h => ⟨h.1, h.2.symm⟩)
  have hbz : b2.size ≤ s.size + 1 := by
    have : b2.size = c.2.1.length := by rw [hb2]; rfl
    rw [this, hc]
    have e : t1.data.toList.length = t1.size := rfl
    unfold Lib.cut
    split
    · show (List.drop _ _).length ≤ _
      rw [List.length_drop]; omega
    · show ([] : List UInt8).length ≤ _
      simp
  -- what the word is
  have hw0 : d1 = false → oWord S = none := fun e => by unfold oWord; rw [← hd1, e]; rfl
  have hT : d1 = true → t1.data.toList = S.drop 2 := fun e => by
    rw [ht1]
    show Lib.trimPrefix S [45, 45] = _
    unfold Lib.trimPrefix
    rw [← hd1, e]
    rfl
  have hw1 : d1 = true → d2 = true → d3 = true → oWord S = none := fun e1 e2 e3 => by
    unfold oWord
    rw [← hd1, e1, ← hT e1, ← hc]
    dsimp only
    rw [← hd2, e2, ← hd3, e3]
    rfl
  have hw2 : d1 = true → d2 = true → d3 = false → oWord S = (oNum b2.data.toList).map fun k => (a2.data.toList, k) := fun e1 e2 e3 => by
    unfold oWord
    rw [← hd1, e1, ← hT e1, ← hc]
    dsimp only
    rw [← hd2, e2, ← hd3, e3, ha2, hb2]
    rfl
  have hw3 : d1 = true → d2 = false → d3 = true → oWord S = some (t3.data.toList, 0) := fun e1 e2 e3 => by
    unfold oWord
    rw [← hd1, e1, ← hT e1, ← hc]
    dsimp only
    rw [← hd2, e2, ← hd3, e3, ht3]
    show some (c.1.drop 3, 0) = some (Lib.trimPrefix c.1 [110, 111, 45], 0)
    unfold Lib.trimPrefix
    rw [← hd3, e3]
    rfl
  have hw4 : d1 = true → d2 = false → d3 = false → oWord S = some (a2.data.toList, 1) := fun e1 e2 e3 => by
    unfold oWord
    rw [← hd1, e1, ← hT e1, ← hc]
    dsimp only
    rw [← hd2, e2, ← hd3, e3, ha2]
    rfl
  rw [← hS]
  have HW0 := Aside0.mk hw0
  have HW1 := Aside0.mk hw1
  have HW2 := Aside0.mk hw2
  have HW3 := Aside0.mk hw3
  have HW4 := Aside0.mk hw4
  clear hw0 hw1 hw2 hw3 hw4 hT hS hd1 ht1 hc ea2 ha2 hb2 hd2 hd3 ht3
  cases d1 with
  | false =>
    have hr := Aside0.mk (oParse_none (xs := xs) (HW0.out rfl))
    clear HW0 HW1 HW2 HW3 HW4
    go_enter Tryd.func14, Tryd.ntmps14
    go_wp2_with fail
    refine (h1.out _).mono ?_
    rintro e w2 ⟨rfl, rfl⟩
    go_wp2_with fail
    refine (h2.out _ HM.out).mono ?_
    rintro e w2 ⟨rfl, n2, rfl⟩
    go_wp2_with fail
    refine (h3.out _).mono ?_
    rintro e w2 ⟨rfl, rfl⟩
    go_wp2
    go_ret
    exact ⟨by rw [hr.out]; rfl, by rw [hr.out]; exact (HO.out).drewN _, GB.drewN (GB.refl g _) _⟩
  | true =>
    cases d2 with
    | false =>
      cases d3 with
      | false =>
        have hr := Aside0.mk (oParse_some (xs := xs) (HW4.out rfl rfl rfl))
        clear HW0 HW1 HW2 HW3 HW4
        go_enter Tryd.func14, Tryd.ntmps14
        go_wp2_with fail
        refine (h1.out _).mono ?_
        rintro e w2 ⟨rfl, rfl⟩
        go_wp2_with fail
        refine (h2.out _ HM.out).mono ?_
        rintro e w2 ⟨rfl, n2, rfl⟩
        go_wp2_with fail
        refine (h3.out _).mono ?_
        rintro e w2 ⟨rfl, rfl⟩
        go_wp2_with fail
        refine (set_calls g xs a2 1 _ (HLT.out.drewN n2) hB (HO.out.drewN n2)).mono ?_
        rintro e w9 ⟨rfl, hO9, hg9⟩
        have HO9 := Aside0.mk hO9
        have HG9 := Aside0.mk ((GB.drewN (GB.refl g w) n2).trans hg9)
        clear hO9 hg9
        go_wp2
        go_ret
        exact ⟨by rw [hr.out]; rfl, by rw [hr.out]; exact HO9.out, HG9.out⟩
      | true =>
        have hr := Aside0.mk (oParse_some (xs := xs) (HW3.out rfl rfl rfl))
        clear HW0 HW1 HW2 HW3 HW4
        go_enter Tryd.func14, Tryd.ntmps14
        go_wp2_with fail
        refine (h1.out _).mono ?_
        rintro e w2 ⟨rfl, rfl⟩
        go_wp2_with fail
        refine (h2.out _ HM.out).mono ?_
        rintro e w2 ⟨rfl, n2, rfl⟩
        go_wp2_with fail
        refine (h3.out _).mono ?_
        rintro e w2 ⟨rfl, rfl⟩
        go_wp2_with fail
        refine (set_calls g xs t3 0 _ (HLT.out.drewN n2) hB (HO.out.drewN n2)).mono ?_
        rintro e w9 ⟨rfl, hO9, hg9⟩
        have HO9 := Aside0.mk hO9
        have HG9 := Aside0.mk ((GB.drewN (GB.refl g w) n2).trans hg9)
        clear hO9 hg9
        go_wp2
        go_ret
        exact ⟨by rw [hr.out]; rfl, by rw [hr.out]; exact HO9.out, HG9.out⟩
    | true =>
      cases d3 with
      | true =>
        have hr := Aside0.mk (oParse_none (xs := xs) (HW1.out rfl rfl rfl))
        clear HW0 HW1 HW2 HW3 HW4
        go_enter Tryd.func14, Tryd.ntmps14
        go_wp2_with fail
        refine (h1.out _).mono ?_
        rintro e w2 ⟨rfl, rfl⟩
        go_wp2_with fail
        refine (h2.out _ HM.out).mono ?_
        rintro e w2 ⟨rfl, n2, rfl⟩
        go_wp2_with fail
        refine (h3.out _).mono ?_
        rintro e w2 ⟨rfl, rfl⟩
        go_wp2
        go_ret
        exact ⟨by rw [hr.out]; rfl, by rw [hr.out]; exact (HO.out).drewN _, GB.drewN (GB.refl g _) _⟩
      | false =>
        have hw := HW2.out rfl rfl rfl
        clear HW0 HW1 HW2 HW3 HW4
        cases hp : Lib.parseIntB 64 b2.data.toList
        · rename_i v
          have hv := Lib.parseIntB_bounds hp
          have hv0 : -9223372036854775808 ≤ v := by have := hv.1; omega
          have hv1 : v ≤ 9223372036854775807 := by have := hv.2; omega
          clear hv
          have HP := Aside0.mk hp
          cases hq : (Lib.itoa v == b2.data.toList) with
          | true =>
            have hw' : oWord S = some (a2.data.toList, v) := by rw [hw]; unfold oNum; rw [hp]; dsimp only; rw [if_pos (eq_of_beq hq)]; rfl
            have hr := Aside0.mk (oParse_some (xs := xs) hw')
            have hqt : (Lib.itoa v == b2.toList) = true := by rw [Lib.toList_data]; exact hq
            have hqn : (Lib.itoa v != b2.toList) = false := by rw [bne, hqt]; rfl
            clear hw hw' hp hq
            go_enter Tryd.func14, Tryd.ntmps14
            go_wp2_with fail
            refine (h1.out _).mono ?_
            rintro e w2 ⟨rfl, rfl⟩
            go_wp2_with fail
            refine (h2.out _ HM.out).mono ?_
            rintro e w2 ⟨rfl, n2, rfl⟩
            go_wp2_with fail
            refine (h3.out _).mono ?_
            rintro e w2 ⟨rfl, rfl⟩
            go_wp2_with fail
            refine (Tryd.strconv_ParseInt_10_at64_ok b2 (by omega) v HP.out _).mono ?_
            rintro e w4 ⟨rfl, hb⟩
            have HB4 := Aside0.mk (bel_parse hb)
            clear hb
            have HO4 := Aside0.mk ((HO.out.drewN n2).below (B := 0) HB4.out)
            have HG4 := Aside0.mk ((GB.drewN (GB.refl g w) n2).trans (GB.of HB4.out))
            have HL4 := Aside0.mk (HLT.out.gb HG4.out hB hBw)
            go_wp2_with fail
            refine (fi_calls v _ hv0 hv1 HL4.out.pow).mono ?_
            rintro e w5 ⟨rfl, hb⟩
            have HO5 := Aside0.mk (HO4.out.below (B := 0) hb)
            have HG5 := Aside0.mk (HG4.out.trans (GB.of hb))
            have HL5 := Aside0.mk (HLT.out.gb HG5.out hB hBw)
            clear hb
            go_wp2_with fail
            refine (set_calls g xs a2 v _ HL5.out hB HO5.out).mono ?_
            rintro e w9 ⟨rfl, hO9, hg9⟩
            have HO9 := Aside0.mk hO9
            have HG9 := Aside0.mk (HG5.out.trans hg9)
            clear hO9 hg9
            go_wp2
            go_ret
            exact ⟨by rw [hr.out]; rfl, by rw [hr.out]; exact HO9.out, HG9.out⟩
          | false =>
            have hw' : oWord S = none := by rw [hw]; unfold oNum; rw [hp]; dsimp only; rw [if_neg (by intro e; rw [e] at hq; simp at hq)]; rfl
            have hr := Aside0.mk (oParse_none (xs := xs) hw')
            have hqt : (Lib.itoa v == b2.toList) = false := by rw [Lib.toList_data]; exact hq
            have hqn : (Lib.itoa v != b2.toList) = true := by rw [bne, hqt]; rfl
            clear hw hw' hp hq
            go_enter Tryd.func14, Tryd.ntmps14
            go_wp2_with fail
            refine (h1.out _).mono ?_
            rintro e w2 ⟨rfl, rfl⟩
            go_wp2_with fail
            refine (h2.out _ HM.out).mono ?_
            rintro e w2 ⟨rfl, n2, rfl⟩
            go_wp2_with fail
            refine (h3.out _).mono ?_
            rintro e w2 ⟨rfl, rfl⟩
            go_wp2_with fail
            refine (Tryd.strconv_ParseInt_10_at64_ok b2 (by omega) v HP.out _).mono ?_
            rintro e w4 ⟨rfl, hb⟩
            have HB4 := Aside0.mk (bel_parse hb)
            clear hb
            have HO4 := Aside0.mk ((HO.out.drewN n2).below (B := 0) HB4.out)
            have HG4 := Aside0.mk ((GB.drewN (GB.refl g w) n2).trans (GB.of HB4.out))
            have HL4 := Aside0.mk (HLT.out.gb HG4.out hB hBw)
            go_wp2_with fail
            refine (fi_calls v _ hv0 hv1 HL4.out.pow).mono ?_
            rintro e w5 ⟨rfl, hb⟩
            have HO5 := Aside0.mk (HO4.out.below (B := 0) hb)
            have HG5 := Aside0.mk (HG4.out.trans (GB.of hb))
            clear hb
            go_wp2
            go_ret
            exact ⟨by rw [hr.out]; rfl, by rw [hr.out]; exact HO5.out, HG5.out⟩
        · have hw' : oWord S = none := by rw [hw]; unfold oNum; rw [hp]; rfl
          have hr := Aside0.mk (oParse_none (xs := xs) hw')
          have HP := Aside0.mk hp
          obtain ⟨te, pe, hE⟩ := HLT.out.here.es
          have HE := Aside0.mk hE
          clear hw hw' hp hE
          go_enter Tryd.func14, Tryd.ntmps14
          go_wp2_with fail
          refine (h1.out _).mono ?_
          rintro e w2 ⟨rfl, rfl⟩
          go_wp2_with fail
          refine (h2.out _ HM.out).mono ?_
          rintro e w2 ⟨rfl, n2, rfl⟩
          go_wp2_with fail
          refine (h3.out _).mono ?_
          rintro e w2 ⟨rfl, rfl⟩
          go_wp2_with fail
          refine (Tryd.strconv_ParseInt_10_at64_syntax b2 (by omega) HP.out _ _ (show (w.drewN n2).cell? _ = _ from HE.out) (.inr ⟨te, pe, rfl⟩)).mono ?_
          rintro e w4 ⟨N, rfl, _, _, hb⟩
          have HB4 := Aside0.mk hb
          clear hb
          have HO4 := Aside0.mk ((HO.out.drewN n2).below (B := 0) HB4.out)
          have HG4 := Aside0.mk ((GB.drewN (GB.refl g w) n2).trans (GB.of HB4.out))
          go_wp2
          go_ret
          exact ⟨by rw [hr.out]; rfl, by rw [hr.out]; exact HO4.out, HG4.out⟩
        · have hw' : oWord S = none := by rw [hw]; unfold oNum; rw [hp]; rfl
          have hr := Aside0.mk (oParse_none (xs := xs) hw')
          have HP := Aside0.mk hp
          obtain ⟨te, pe, hE⟩ := HLT.out.here.er
          have HE := Aside0.mk hE
          clear hw hw' hp hE
          go_enter Tryd.func14, Tryd.ntmps14
          go_wp2_with fail
          refine (h1.out _).mono ?_
          rintro e w2 ⟨rfl, rfl⟩
          go_wp2_with fail
          refine (h2.out _ HM.out).mono ?_
          rintro e w2 ⟨rfl, n2, rfl⟩
          go_wp2_with fail
          refine (h3.out _).mono ?_
          rintro e w2 ⟨rfl, rfl⟩
          go_wp2_with fail
          refine (Tryd.strconv_ParseInt_10_at64_range b2 (by omega) HP.out _ _ (show (w.drewN n2).cell? _ = _ from HE.out) (.inr ⟨te, pe, rfl⟩)).mono ?_
          rintro e w4 ⟨N, rfl, _, _, hb⟩
          have HB4 := Aside0.mk hb
          clear hb
          have HO4 := Aside0.mk ((HO.out.drewN n2).below (B := 0) HB4.out)
          have HG4 := Aside0.mk ((GB.drewN (GB.refl g w) n2).trans (GB.of HB4.out))
          go_wp2
          go_ret
          exact ⟨by rw [hr.out]; rfl, by rw [hr.out]; exact HO4.out, HG4.out⟩
end Go.Proofs.YtmknpchmpgkdbaaDoor.PB
