import Derived.Test.YtigloobbpcnnhaaDoorM9
section
namespace Go.Proofs.YtigloobbpcnnhaaDoor.PB
open Go.RowKit Go.Proofs.YtigloobbpcnnhaaDoorW.PrintWords Go.Proofs.YtigloobbpcnnhaaDoorW.PrintLast Go.Proofs.YtigloobbpcnnhaaDoorW.PrintMore
set_option linter.unusedVariables false
set_option linter.unusedSimpArgs false
/-! ### The law DimacsBlanks -/
set_option maxHeartbeats 1000000 in
set_option maxRecDepth 100000 in
theorem blanks_calls (s r : List UInt8) (w : World) (hlt : LT w.heap.size w) : Calls Tryd.prog 5 #[.string (baOf s), .string (baOf r)] w fun e w' => e = .returned (.bool true) ∧ Below w.heap.size w w' := by
  have HLT := Aside0.mk hlt
  have HB := Aside0.mk (Below.refl w.heap.size w)
  obtain ⟨sB, hsB⟩ : ∃ sB, sB = baOf s := ⟨_, rfl⟩
  obtain ⟨rB, hrB⟩ : ∃ rB, rB = baOf r := ⟨_, rfl⟩
  have hsz : sB.size = s.length := by rw [hsB]; rfl
  have hrz : rB.size = r.length := by rw [hrB]; rfl
  have HSB := Aside0.mk hsB
  have HRB := Aside0.mk hrB
  have HSZ := Aside0.mk hsz
  have HRZ := Aside0.mk hrz
  rw [← hsB, ← hrB]
  clear hlt hsB hrB
  by_cases h1 : 3000 < sB.size
  · have t1 : decide (3000 < sB.size) = true := decide_eq_true h1
    have t2 : decide (3000 < (sB.size : Int)) = true := decide_eq_true (by omega)
    go_enter Tryd.func5, Tryd.ntmps5
    go_wp2_with fail
    go_ret
    exact ⟨rfl, HB.out⟩
  have t1 : decide (3000 < sB.size) = false := decide_eq_false h1
  have t2 : decide (3000 < (sB.size : Int)) = false := decide_eq_false (by omega)
  by_cases h2 : 3000 < rB.size
  · have t3 : decide (3000 < rB.size) = true := decide_eq_true h2
    have t4 : decide (3000 < (rB.size : Int)) = true := decide_eq_true (by omega)
    go_enter Tryd.func5, Tryd.ntmps5
    go_wp2_with fail
    go_ret
    exact ⟨rfl, HB.out⟩
  have t3 : decide (3000 < rB.size) = false := decide_eq_false h2
  have t4 : decide (3000 < (rB.size : Int)) = false := decide_eq_false (by omega)
  have HS1 := Aside0.mk (show s.length ≤ 3000 by omega)
  obtain ⟨v0, cs0, e0, n0, hd⟩ : ∃ v0 cs0 e0 n0, dParse s = ((v0, cs0), e0, n0) := ⟨_, _, _, _, rfl⟩
  have HD := Aside0.mk hd
  have hcl := dParse_small s
  rw [hd] at hcl
  have HCL := Aside0.mk (show cs0.length ≤ 1000000000 ∧ ∀ q ∈ cs0, q.length ≤ 1000000000 from ⟨by have := hcl.1; simp only at this; omega, fun q hq => by have := hcl.2 q hq; omega⟩)
  have HNN := Aside0.mk (show 0 ≤ n0 ∧ n0 + 1 ≤ 4000 by
    rcases dParse_kinds s with ⟨e, n, h, _, hn1, hn2⟩ | ⟨v, cs, h, _⟩
    · rw [hd] at h; cases h; omega
    · rw [hd] at h; cases h; omega)
  clear hd hcl
  have HR1 := Aside0.mk (show r.length ≤ 3000 by omega)
  clear hsz hrz
  go_enter Tryd.func5, Tryd.ntmps5
  go_wp2_with fail
  clear t1 t2 t3 t4
  go_loopg [5] rB.size (fun gf v5 wr => ∃ k : Nat, v5 = .int .i64 (k : Int) ∧ k + gf = rB.size ∧ Aside0 (10 ∉ r.take k) ∧ Aside0 (Below w.heap.size w wr))
  case atStart => exact ⟨0, rfl, by omega, ⟨by simp⟩, HB⟩
  case round =>
    clear HB
    obtain ⟨k, rfl, hk, HN, HB⟩ := hrel
    by_cases hlt : k < rB.size
    · have t5 : decide ((k : Int) < (rB.size : Int)) = true := decide_eq_true (by omega)
      have t6 : decide (k < rB.size) = true := decide_eq_true hlt
      have hx := bt_at rB (k : Int)
      rw [Int.toNat_natCast] at hx
      have HX := Aside0.mk hx
      have hk1 : (k : Int) + 1 ≤ 3000 := by omega
      have hk0 : (0 : Int) ≤ (k : Int) := Int.natCast_nonneg _
      obtain ⟨bv, hbv⟩ : ∃ bv, bv = bt rB (k : Int) := ⟨_, rfl⟩
      have HBV := Aside0.mk (show bv = ((r[k]'(by have := HRZ.out; omega)).toNat : Int) by
        have := HX.out hlt
        rw [hbv, ← this]
        have e : rB[k]'hlt = r[k]'(by have := HRZ.out; omega) := by
          have := HRB.out
          subst this
          rfl
        rw [e])
      rw [← hbv] at hx
      clear HX hbv
      by_cases hb : bv = 10
      · have t7 : (bv == 10) = true := beq_iff_eq.mpr hb
        subst hb
        go_wp2_with (go_at_call 10; refine (works_c w wr HLT.out HB.out).mono ?_; rintro e w2 ⟨rfl, hb⟩; have HB2 := Aside0.mk hb; clear hb)
        go_ret
        exact ⟨rfl, HB2.out⟩
      · have t7 : (bv == 10) = false := beq_eq_false_iff_ne.mpr hb
        have HN1 := Aside0.mk (show 10 ∉ r.take (k + 1) by
          have hkr : k < r.length := by have := HRZ.out; omega
          rw [List.take_succ_eq_append_getElem hkr]
          intro hm
          rcases List.mem_append.1 hm with hm | hm
          · exact HN.out hm
          · rw [List.mem_singleton] at hm
            exact hb (by rw [HBV.out, ← hm]; rfl))
        go_wp2_with fail
        go_roundg (gk - 1)
        case measure => omega
        case rel => exact ⟨k + 1, by go_num, by omega, HN1, HB⟩
    · have t5 : decide ((k : Int) < (rB.size : Int)) = false := decide_eq_false (by omega)
      have t6 : decide (k < rB.size) = false := decide_eq_false hlt
      have HNR := Aside0.mk (show 10 ∉ r by
        have h := HN.out
        rwa [List.take_of_length_le (by have := HRZ.out; omega)] at h)
      clear HN hk
      have HLS := Aside0.mk (show s.length ≤ 9223372036854775807 by have := HS1.out; omega)
      have z0 : 1 + rB.size ≤ 9223372036854775807 := by have := HR1.out; have := HRZ.out; omega
      have z1 : decide (1 + rB.size ≤ 9223372036854775807) = true := decide_eq_true z0
      have z2 : (9223372036854775807 < 1 + rB.size) = False := eq_false (Nat.not_lt.2 z0)
      replace z0 := eq_true z0
      have y0 : 1 + rB.size + 1 ≤ 9223372036854775807 := by have := HR1.out; have := HRZ.out; omega
      have y1 : decide (1 + rB.size + 1 ≤ 9223372036854775807) = true := decide_eq_true y0
      have y2 : (9223372036854775807 < 1 + rB.size + 1) = False := eq_false (Nat.not_lt.2 y0)
      replace y0 := eq_true y0
      have x0 : ((⟨#[99]⟩ : ByteArray) ++ rB).size + 1 ≤ 9223372036854775807 := by have := HR1.out; have := HRZ.out; rw [ByteArray.size_append]; show 1 + rB.size + 1 ≤ _; omega
      have x1 : decide (((⟨#[99]⟩ : ByteArray) ++ rB).size + 1 ≤ 9223372036854775807) = true := decide_eq_true x0
      have x2 : (9223372036854775807 < ((⟨#[99]⟩ : ByteArray) ++ rB).size + 1) = False := eq_false (Nat.not_lt.2 x0)
      replace x0 := eq_true x0
      go_wp2_with (first | ((with_reducible refine gate_dst (N := 35) rfl ?_); refine text_event 9 22 (.tmp 34) rfl rfl s ?hx Tryd.underlying9 Tryd.underlying22 Tryd.underlying5 HLS.out ?_; (case hx => rw [← HSB.out]; rfl); intro g1 c1 w1 hC1 hc1 hb; have HC1 := Aside0.mk hC1; have Hc1 := Aside0.mk hc1; have HB1 := Aside0.mk (below_step HB.out hb); clear hC1 hc1 hb) | (go_at_call 7; have hp := parse_c w w1 ⟨g1, 0, none⟩ s c1 HC1.out Hc1.out (by have := HS1.out; omega) HLT.out HB1.out; rw [HD.out] at hp; refine hp.mono ?_; clear hp; rintro e w2 ⟨A2, c2, rfl, hC, hcc, hb, _⟩; have HC2 := Aside0.mk hC; have HE2 := Aside0.mk hcc; have HB2 := Aside0.mk hb; clear hC hcc hb))
      obtain ⟨W0, hW0⟩ : ∃ W0, W0 = (w2.alloc (.cells #[.int .i64 v0, .slice A2 cs0.length c2] 25)).alloc (.cells #[.string ⟨#[10]⟩, .string ⟨#[32, 9, 13, 10]⟩, .string ((⟨#[99]⟩ : ByteArray) ++ rB ++ (⟨#[10]⟩ : ByteArray))] 9) := ⟨_, rfl⟩
      have HG6 := Aside0.mk (show W0.heap[w2.heap.size]? = some (.cells #[.int .i64 v0, .slice A2 cs0.length c2] 25 (0, 0)) by rw [hW0]; exact blk_below (blk_new w2 _) (below_alloc (Below.refl _ _) _))
      have HGS := Aside0.mk (show W0.heap[w2.heap.size + 1]? = some (.cells #[.string ⟨#[10]⟩, .string ⟨#[32, 9, 13, 10]⟩, .string ((⟨#[99]⟩ : ByteArray) ++ rB ++ (⟨#[10]⟩ : ByteArray))] 9 (0, 0)) by rw [hW0]; have h := blk_new (w2.alloc (.cells #[.int .i64 v0, .slice A2 cs0.length c2] 25)) (.cells #[.string ⟨#[10]⟩, .string ⟨#[32, 9, 13, 10]⟩, .string ((⟨#[99]⟩ : ByteArray) ++ rB ++ (⟨#[10]⟩ : ByteArray))] 9); rw [World.size_alloc] at h; exact h)
      have HB3 := Aside0.mk (show Below w.heap.size w W0 by rw [hW0]; exact below_alloc (below_alloc HB2.out _) _)
      have HC3 := Aside0.mk (show kcs.C W0 A2 cs0.length cs0 by rw [hW0]; exact Kd.C_below HC2.out (below_alloc (below_alloc (Below.refl _ _) _) _))
      rw [← hW0]
      clear hW0
      obtain ⟨g6, hg6⟩ : ∃ g6, g6 = w2.heap.size := ⟨_, rfl⟩
      obtain ⟨ad, had⟩ : ∃ ad : Addr, ad = ⟨w2.heap.size + 1, 0, none⟩ := ⟨_, rfl⟩
      rw [← had]
      rw [← hg6] at HG6 ⊢
      clear hg6 HC1 Hc1 HB1 HB2 HB HC2 z0 z1 z2 y0 y1 y2 x0 x1 x2
      have HX := Aside0.mk (show ∀ (W : World) (k2 : Nat), Below W0.heap.size W0 W → k2 < 3 → ∃ x : List UInt8, W.cell? (ad.add k2) = some (.string (baOf x)) ∧ dParse (x ++ s) = ((v0, cs0), e0, if e0 = 0 then 0 else n0 + 1) ∧ x.length ≤ 3002 by
        intro W k2 hb hk
        have key : ∀ x : List UInt8, ((dParse (x ++ s)).1 = (dParse s).1 ∧ (dParse (x ++ s)).2.1 = (dParse s).2.1 ∧ (dParse (x ++ s)).2.2 = if (dParse s).2.1 = 0 then 0 else (dParse s).2.2 + 1) → dParse (x ++ s) = ((v0, cs0), e0, if e0 = 0 then 0 else n0 + 1) := by
          intro x h
          rw [HD.out] at h
          exact Prod.ext h.1 (Prod.ext h.2.1 h.2.2)
        have hg := blk_below HGS.out hb
        rw [had, add_plain, blk_cell hg]
        match k2, hk with
        | 0, _ => exact ⟨[10], rfl, key _ (blank_1 s), by decide⟩
        | 1, _ => exact ⟨[32, 9, 13, 10], rfl, key _ (blank_2 s), by decide⟩
        | 2, _ =>
          refine ⟨[99] ++ r ++ [10], ?_, key _ (blank_3 r s HNR.out), by have := HR1.out; simp; omega⟩
          rw [← baOf_append, ← baOf_append, ← HRB.out]
          rfl)
      clear HGS had HNR
      go_loopg [45] 3 (fun gf v45 wr2 => ∃ k2 : Nat, v45 = .int .i64 (k2 : Int) ∧ k2 + gf = 3 ∧ Aside0 (Below W0.heap.size W0 wr2))
      case atStart => exact ⟨0, rfl, rfl, ⟨Below.refl _ _⟩⟩
      case round =>
        obtain ⟨k2, rfl, hk, HBw⟩ := hrel
        by_cases hlt : k2 < 3
        · have t5 : decide ((k2 : Int) < 3) = true := decide_eq_true (by omega)
          have t6 : decide (k2 < 3) = true := decide_eq_true hlt
          have hk1 : (k2 : Int) + 1 ≤ 3000 := by omega
          have hk0 : (0 : Int) ≤ (k2 : Int) := Int.natCast_nonneg _
          obtain ⟨x, hx, hdx, hxl⟩ := HX.out wr k2 HBw.out hlt
          obtain ⟨xB, hxB⟩ : ∃ xB, xB = baOf x := ⟨_, rfl⟩
          rw [← hxB] at hx
          have HDX := Aside0.mk hdx
          have HXL := Aside0.mk hxl
          obtain ⟨y, hy⟩ : ∃ y, y = x ++ s := ⟨_, rfl⟩
          have HY := Aside0.mk hy
          have HYL := Aside0.mk (show y.length ≤ 6002 by rw [hy, List.length_append]; have := HS1.out; omega)
          rw [← hy] at HDX
          have hxz : xB.size = x.length := by rw [hxB]; rfl
          have HXB := Aside0.mk hxB
          have z0 : xB.size + sB.size ≤ 9223372036854775807 := by have := HS1.out; have := HSZ.out; omega
          have z1 : decide (xB.size + sB.size ≤ 9223372036854775807) = true := decide_eq_true z0
          have z2 : (9223372036854775807 < xB.size + sB.size) = False := eq_false (Nat.not_lt.2 z0)
          replace z0 := eq_true z0
          have hn0 := HNN.out.1
          have hn1 := HNN.out.2
          clear hdx hxl hxB hxz hy
          have HBA := Aside0.mk (HB3.out.trans (HBw.out.mono HB3.out.size))
          by_cases he : e0 = 0
          · subst he
            go_wp2_with (first | ((with_reducible refine gate_dst (N := 53) rfl ?_); refine text_event 9 22 (.tmp 52) rfl rfl y ?hx Tryd.underlying9 Tryd.underlying22 Tryd.underlying5 (by have := HYL.out; omega) ?_; (case hx => rw [HY.out, ← baOf_append, ← HSB.out, ← HXB.out]; rfl); intro g4 c4 w4 hC4 hc4 hb; have HC4 := Aside0.mk hC4; have Hc4 := Aside0.mk hc4; have HB4 := Aside0.mk (below_step HBA.out hb); have HW4 := Aside0.mk (below_step HBw.out hb); clear hC4 hc4 hb) | (go_at_call 7; have hp := parse_c w w4 ⟨g4, 0, none⟩ y c4 HC4.out Hc4.out (by have := HYL.out; omega) HLT.out HB4.out; rw [HDX.out] at hp; refine hp.mono ?_; clear hp; rintro e w5 ⟨A5, c5, rfl, hC, hcc, hb, hb4⟩; have HC5 := Aside0.mk hC; have HE5 := Aside0.mk hcc; have HB5 := Aside0.mk hb; have hw5 := below_step HW4.out hb4; have HW5 := Aside0.mk hw5; have hgg := blk_below HG6.out (below_alloc hw5 (.cells #[.int .i64 v0, .slice A5 cs0.length c5] 25)); have hcz0 := (blk_cell hgg 0).trans (show _ = some (Value.int .i64 v0) from rfl); have hcz1 := (blk_cell hgg 1).trans (show _ = some (Value.slice A2 cs0.length c2) from rfl); clear hC hcc hb hb4 hw5 hgg) | (go_at_call 9; refine (same_calls W0 _ v0 cs0 A2 A5 c2 c5 (Kd.C_below HC3.out (below_alloc HW5.out _)) HE2.out (Kd.C_below HC5.out (below_alloc (Below.refl _ _) _)) HE5.out HCL.out (below_alloc HW5.out _)).mono ?_; rintro e w6 ⟨rfl, hb⟩; have HW6 := Aside0.mk hb; clear hb))
            go_roundg (gk - 1)
            case measure => omega
            case rel => exact ⟨k2 + 1, by go_num, by omega, HW6⟩
          · have t7 : (e0 != 0) = true := by simpa using he
            have t8 : (e0 == 0) = false := by simpa using he
            rw [if_neg he] at HDX
            go_wp2_with (first | ((with_reducible refine gate_dst (N := 53) rfl ?_); refine text_event 9 22 (.tmp 52) rfl rfl y ?hx Tryd.underlying9 Tryd.underlying22 Tryd.underlying5 (by have := HYL.out; omega) ?_; (case hx => rw [HY.out, ← baOf_append, ← HSB.out, ← HXB.out]; rfl); intro g4 c4 w4 hC4 hc4 hb; have HC4 := Aside0.mk hC4; have Hc4 := Aside0.mk hc4; have HB4 := Aside0.mk (below_step HBA.out hb); have HW4 := Aside0.mk (below_step HBw.out hb); clear hC4 hc4 hb) | (go_at_call 7; have hp := parse_c w w4 ⟨g4, 0, none⟩ y c4 HC4.out Hc4.out (by have := HYL.out; omega) HLT.out HB4.out; rw [HDX.out] at hp; refine hp.mono ?_; clear hp; rintro e w5 ⟨A5, c5, rfl, hC, hcc, hb, hb4⟩; have HC5 := Aside0.mk hC; have HE5 := Aside0.mk hcc; have HB5 := Aside0.mk hb; have hw5 := below_step HW4.out hb4; have HW5 := Aside0.mk hw5; have hgg := blk_below HG6.out (below_alloc hw5 (.cells #[.int .i64 v0, .slice A5 cs0.length c5] 25)); have hcz0 := (blk_cell hgg 0).trans (show _ = some (Value.int .i64 v0) from rfl); have hcz1 := (blk_cell hgg 1).trans (show _ = some (Value.slice A2 cs0.length c2) from rfl); clear hC hcc hb hb4 hw5 hgg) | (go_at_call 9; refine (same_calls W0 _ v0 cs0 A2 A5 c2 c5 (Kd.C_below HC3.out (below_alloc HW5.out _)) HE2.out (Kd.C_below HC5.out (below_alloc (Below.refl _ _) _)) HE5.out HCL.out (below_alloc HW5.out _)).mono ?_; rintro e w6 ⟨rfl, hb⟩; have HW6 := Aside0.mk hb; clear hb))
            go_roundg (gk - 1)
            case measure => omega
            case rel => exact ⟨k2 + 1, by go_num, by omega, HW6⟩
        · have t5 : decide ((k2 : Int) < 3) = false := decide_eq_false (by omega)
          have t6 : decide (k2 < 3) = false := decide_eq_false hlt
          have HBA := Aside0.mk (HB3.out.trans (HBw.out.mono HB3.out.size))
          go_wp2_with (go_at_call 10; refine (works_c w wr HLT.out HBA.out).mono ?_; rintro e w2 ⟨rfl, hb⟩; have HB2 := Aside0.mk hb; clear hb)
          go_ret
          exact ⟨rfl, HB2.out⟩
theorem str_ba (s : ByteArray) : s = baOf s.data.toList := by cases s; simp [baOf]
theorem dimacsBlanks_walk (s : ByteArray) (_ : s.size ≤ maxLen) (r : ByteArray) (_ : r.size ≤ maxLen) (w : World) (hlt : LT w.heap.size w) :
    Calls Tryd.prog 5 #[.string s, .string r] w fun e w' => e = .returned (.bool true) ∧ Below w.heap.size w w' := by
  rw [str_ba s, str_ba r]
  exact blanks_calls _ _ w hlt
end Go.Proofs.YtigloobbpcnnhaaDoor.PB
end
