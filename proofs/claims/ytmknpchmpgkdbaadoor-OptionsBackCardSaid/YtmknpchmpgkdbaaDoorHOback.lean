import Derived.Test.YtmknpchmpgkdbaaDoorHOtable
import Derived.Outline
import Derived.StillTailTactics
import Derived.Test.YtmknpchmpgkdbaaDoorPOback
import Derived.Test.YtmknpchmpgkdbaaDoorHOorder
import Derived.Test.YtmknpchmpgkdbaaDoorHOGood
namespace Go.Proofs.YtmknpchmpgkdbaaDoor.PB
open Go.RowKit Go.Proofs.YtmknpchmpgkdbaaDoorW.PrintWords Go.Proofs.YtmknpchmpgkdbaaDoorW.PrintLast Go.Proofs.YtmknpchmpgkdbaaDoorW.PrintMore
set_option linter.unusedVariables false
set_option linter.unusedSimpArgs false
/-! ### OptionsBack -/
theorem reach_le : reachBytes ≤ 140737488355328 := by decide
theorem GB.Rt {w w' : World} {g base : Nat} {zs : List Int} {v : Value} {xs : List ByteArray} (h : GB g w w') (hr : Kd.R Kd.string 9 w base (fun _ => True) v xs) (hO : OB w g zs) : Kd.R Kd.string 9 w' base (fun _ => True) v xs :=
  Kd.R_mono (Kd.R_step (Kd.R_types hr hO.blk (by decide)) (fun k hk hlt => h.blk k hlt hk.2)) (fun _ _ => trivial)
theorem oText_size (k : Nat) (hk : k < 28) (x : Int) (h0 : -9223372036854775808 ≤ x) (h1 : x ≤ 9223372036854775807) : ∀ t ∈ oText (oAt k) x, t.length ≤ 60 := by
  intro t ht
  have hn := oAt_len k hk
  have hi := Lib.itoa_length_le x h0 h1
  unfold oText at ht
  split at ht
  · cases ht
  · split at ht
    · rw [List.mem_singleton.1 ht, List.length_append]
      show 5 + _ ≤ 60
      omega
    · rw [List.mem_singleton.1 ht, List.length_append, List.length_append, List.length_append]
      show 2 + _ + 1 + _ ≤ 60
      omega
theorem oWords_size {xs : List Int} (h : OIn xs) : ∀ t ∈ oWords xs, t.length ≤ 60 := by
  intro t ht
  unfold oWords oWordsTo at ht
  obtain ⟨k, hk, ht⟩ := List.mem_flatMap.1 ht
  have hk := List.mem_range.1 hk
  exact oText_size k hk _ (h.int k hk).1 (h.int k hk).2 t ht
theorem oRun_cons {zs xs : List Int} {t : List UInt8} {ts : List (List UInt8)} (h : oRun zs (t :: ts) = some xs) : (oParse zs t).2 = 0 ∧ oRun (oParse zs t).1 ts = some xs := by
  rw [oRun] at h
  split at h
  · rename_i h0; exact ⟨h0, h⟩
  · cases h
theorem oGet_at (xs : List Int) (k : Nat) (hk : k < 28) : oGet xs (oAt k).name = (xs.getD k 0, true) := by
  unfold oGet
  rw [oAt_find k hk]
/-- What the options have behind a setting. -/
theorem oSet_get {xs ys : List Int} {s : List UInt8} {n v f : Int} (hx : xs.length = 28) (h : oSet xs s n = (ys, v, f)) (k : Nat) (hk : k < 28) : ((oAt k).name = s → ys.getD k 0 = v ∧ f = 0) ∧ ((oAt k).name ≠ s → ys.getD k 0 = xs.getD k 0) := by
  unfold oSet at h
  constructor
  · intro e
    rw [← e, oAt_find k hk] at h
    simp only [Prod.mk.injEq] at h
    obtain ⟨rfl, rfl, rfl⟩ := h
    refine ⟨?_, rfl⟩
    rw [List.getD_eq_getElem?_getD, List.getElem?_set, if_pos rfl, if_pos (by rw [hx]; exact hk)]
    rfl
  · intro e
    cases hf : oFindN s with
    | none =>
      rw [hf] at h
      simp only [Prod.mk.injEq] at h
      rw [h.1]
    | some i =>
      rw [hf] at h
      simp only [Prod.mk.injEq] at h
      have hik : i ≠ k := fun q => e (by rw [← q]; exact (oFind_lt hf).2.1)
      rw [← h.1, List.getD_eq_getElem?_getD, List.getElem?_set, if_neg hik, ← List.getD_eq_getElem?_getD]
set_option maxHeartbeats 4000000 in
set_option maxRecDepth 100000 in
theorem back_calls (A0 : Option Addr) (c0 : Nat) (l0 : List S37) (b : ByteArray) (n : Int) (w : World) (hr0 : Kd.C k37 w A0 l0.length l0) (hc0 : l0.length ≤ c0) (hgd : GoodOps l0) (hlt : LT w.heap.size w) :
    Calls Tryd.prog 4 #[.slice A0 l0.length c0, .string b, .int .i64 n] w fun e w' => e = .returned (.bool true) ∧ Below w.heap.size w w' := by
  have HLT := Aside0.mk hlt
  have HR0 := Aside0.mk hr0
  have HC0 := Aside0.mk hc0
  obtain ⟨r, hrl, hr2⟩ := large_f l0 (by have := hgd.2.1; have := reach_le; omega) (fun s hs => by have := (hgd.2.2 s hs).1; have := reach_le; omega)
  have HRL := Aside0.mk hrl
  have HR2 := Aside0.mk hr2
  have HGD := Aside0.mk hgd
  clear hlt hr0 hc0 hrl hr2 hgd
  cases r with
  | true =>
    go_enter Tryd.func4, Tryd.ntmps4
    go_wp2_with fail
    refine (threshinglaw30_large.calls _ A0 c0 l0 true w HR0.out HC0.out HRL.out).mono ?_
    rintro e w1 ⟨rfl, nd, rfl⟩
    go_wp2_with fail
    refine (works_calls _ (HLT.out.drewN nd)).mono ?_
    rintro e w2 ⟨rfl, hb⟩
    have HB2 := Aside0.mk (below_step (pw_below_drewN (Below.refl w.heap.size w) nd) hb)
    clear hb
    go_wp2
    go_ret
    exact ⟨rfl, HB2.out⟩
  | false =>
    obtain ⟨hl200, hs4⟩ := HR2.out rfl
    have HS4 := Aside0.mk hs4
    clear HR2 hs4
    by_cases hbz : 4000 < b.size
    · have hb' : decide (4000 < b.size) = true := decide_eq_true hbz
      have hbi : decide ((4000 : Int) < (b.size : Int)) = true := decide_eq_true (by omega)
      go_enter Tryd.func4, Tryd.ntmps4
      go_wp2_with fail
      refine (threshinglaw30_large.calls _ A0 c0 l0 false w HR0.out HC0.out HRL.out).mono ?_
      rintro e w1 ⟨rfl, nd, rfl⟩
      go_wp2_with fail
      refine (works_calls _ (HLT.out.drewN nd)).mono ?_
      rintro e w2 ⟨rfl, hb⟩
      have HB2 := Aside0.mk (below_step (pw_below_drewN (Below.refl w.heap.size w) nd) hb)
      clear hb
      go_wp2
      go_ret
      exact ⟨rfl, HB2.out⟩
    have hb' : decide (4000 < b.size) = false := decide_eq_false hbz
    have hbi : decide ((4000 : Int) < (b.size : Int)) = false := decide_eq_false (by omega)
    clear hbz
    go_enter Tryd.func4, Tryd.ntmps4
    go_wp2_with fail
    refine (threshinglaw30_large.calls _ A0 c0 l0 false w HR0.out HC0.out HRL.out).mono ?_
    rintro e w1 ⟨rfl, nd, rfl⟩
    clear HRL
    have HB1 := Aside0.mk (pw_below_drewN (Below.refl w.heap.size w) nd)
    go_wp2_with fail
    refine (new_calls _ (HLT.out.drewN nd)).mono ?_
    rintro e w2 ⟨go, rfl, hg, hO, hb⟩
    have HB2 := Aside0.mk (below_step HB1.out hb)
    have HO2 := Aside0.mk hO
    have HGO := Aside0.mk (show w.heap.size ≤ go from hg)
    clear hb hO hg
    go_wp2_with fail
    refine (new_calls w2 ((HLT.out.on HB2.out).up HB2.out.size)).mono ?_
    rintro e w3 ⟨gp, rfl, hg, hO, hb⟩
    have HB3 := Aside0.mk (below_step HB2.out hb)
    have HP3 := Aside0.mk hO
    have HO3 := Aside0.mk (HO2.out.below (B := 0) hb)
    have HNP := Aside0.mk (show go ≠ gp from Nat.ne_of_lt (Nat.lt_of_lt_of_le (blk_lt HO2.out.blk) hg))
    have HGP := Aside0.mk (Nat.le_trans HB2.out.size hg)
    clear hb hO hg
    go_wp2_with fail
    refine (new_calls w3 ((HLT.out.on HB3.out).up HB3.out.size)).mono ?_
    rintro e w4 ⟨gq, rfl, hg, hO, hb⟩
    have HB4 := Aside0.mk (below_step HB3.out hb)
    have HQ4 := Aside0.mk hO
    have HO4 := Aside0.mk (HO3.out.below (B := 0) hb)
    have HP4 := Aside0.mk (HP3.out.below (B := 0) hb)
    have HOQ := Aside0.mk (show go ≠ gq from Nat.ne_of_lt (Nat.lt_of_lt_of_le (blk_lt HO3.out.blk) hg))
    have HPQ := Aside0.mk (show gp ≠ gq from Nat.ne_of_lt (Nat.lt_of_lt_of_le (blk_lt HP3.out.blk) hg))
    have HGQ := Aside0.mk (Nat.le_trans HB3.out.size hg)
    clear hb hO hg HO2 HP3 HO3 HB1 HB2 HB3
    go_wp2_with fail
    go_loopg [10] l0.length (fun j v10 wr => ∃ (i : Nat) (xs : List Int), v10 = .int .i64 (i : Int) ∧ i + j = l0.length ∧ Aside0 (OIn xs) ∧ Aside0 (OB wr go xs) ∧ Aside0 (OB wr gp oNew) ∧ Aside0 (OB wr gq xs) ∧ Aside0 (Below w.heap.size w wr))
    case atStart => exact ⟨0, oNew, rfl, by omega, ⟨OIn.new⟩, HO4, HP4, HQ4, HB4⟩
    case round =>
      clear HO4 HP4 HQ4 HB4
      obtain ⟨i, xs, rfl, hij, HI, HO, HP, HQ, HB⟩ := hrel
      by_cases hlt : i < l0.length
      · have hi0 : (0 : Int) ≤ (i : Int) := by omega
        have hil : (i : Int) < (l0.length : Int) := by omega
        obtain ⟨ad, e0, hx_0, hx_1, hx_2⟩ := at_T37 HR0.out (i : Int) hi0 hil
        cases e0
        rw [Int.toNat_natCast] at hx_0 hx_1 hx_2
        have HX0 := Aside0.mk hx_0
        have HX1 := Aside0.mk hx_1
        have HX2 := Aside0.mk hx_2
        obtain ⟨s, hs⟩ : ∃ s, s = rd_T37 l0 (i : Int) := ⟨_, rfl⟩
        have hsm : s ∈ l0 := by rw [hs, rdT37_get l0 i hlt]; exact List.getElem_mem hlt
        rw [← hs] at hx_0 hx_1 hx_2 HX0 HX1 HX2
        have hsz := HS4.out s hsm
        obtain ⟨hk0, hk1⟩ := (HGD.out.2.2 s hsm).2.1
        clear hs hsm
        replace hx_0 := (HB.out.cell (World.block_lt_of_cell? w _ hx_0)).trans hx_0
        replace hx_1 := (HB.out.cell (World.block_lt_of_cell? w _ hx_1)).trans hx_1
        replace hx_2 := (HB.out.cell (World.block_lt_of_cell? w _ hx_2)).trans hx_2
        have HBD := Aside0.mk (below_drew1 HB.out)
        have HOD := Aside0.mk (OB.drew HO.out)
        have HPD := Aside0.mk (OB.drew HP.out)
        have HQD := Aside0.mk (OB.drew HQ.out)
        by_cases h0 : s.f0 % 6 = 0
        · have q0 : (s.f0 % 6 == 0) = true := by simpa using h0
          clear h0
          go_wp2_with fail
          go_still_tail 11, (by kernel_rfl)
          go_wp2_with fail
          refine (set_calls go xs s.f1 s.f2 wr.drew (HLT.out.on HBD.out) HGO.out HOD.out).mono ?_
          rintro e w5 ⟨rfl, hO, hg⟩
          have HB5 := Aside0.mk (HBD.out.trans (hg.below HGO.out HBD.out.size))
          have HO5 := Aside0.mk hO
          have HP5 := Aside0.mk (hg.other HPD.out (Ne.symm HNP.out))
          have HQ5 := Aside0.mk (hg.other HQD.out (Ne.symm HOQ.out))
          have HI5 := Aside0.mk (HI.out.set s.f1.data.toList s.f2)
          clear hO hg hx_0 hx_1 hx_2
          have hx_1 := (HB5.out.cell (World.block_lt_of_cell? w _ HX1.out)).trans HX1.out
          have hx_2 := (HB5.out.cell (World.block_lt_of_cell? w _ HX2.out)).trans HX2.out
          go_wp2_with fail
          go_still_tail 11, (by kernel_rfl)
          go_wp2_with fail
          refine (set_calls gq xs s.f1 s.f2 w5.drew (HLT.out.on (below_drew1 HB5.out)) HGQ.out (OB.drew HQ5.out)).mono ?_
          rintro e w6 ⟨rfl, hO, hg⟩
          have HB6 := Aside0.mk ((below_drew1 HB5.out).trans (hg.below HGQ.out HB5.out.size))
          have HQ6 := Aside0.mk hO
          have HP6 := Aside0.mk (hg.other (OB.drew HP5.out) HPQ.out)
          have HO6 := Aside0.mk (hg.other (OB.drew HO5.out) HOQ.out)
          clear hO hg
          go_wp2
          go_roundg (gk - 1)
          case rel => exact ⟨i + 1, _, by go_num, by omega, HI5, HO6, HP6, HQ6, HB6⟩
          case measure => omega
        · have q0 : (s.f0 % 6 == 0) = false := by simpa using h0
          by_cases h1 : s.f0 % 6 = 1 ∨ s.f0 % 6 = 2
          · have parse : ∀ (q : ((s.f0 % 6 == 1) = true) ∨ ((s.f0 % 6 == 1) = false ∧ (s.f0 % 6 == 2) = true)), True := fun _ => trivial
            clear parse
            rcases h1 with h1 | h1
            · have q1 : (s.f0 % 6 == 1) = true := by simpa using h1
              clear h0 h1
              go_wp2_with fail
              refine (parse_calls go xs s.f1 wr (HLT.out.on HB.out) HGO.out HO.out (by omega)).mono ?_
              rintro e w5 ⟨rfl, hO, hg⟩
              have HB5 := Aside0.mk (HB.out.trans (hg.below HGO.out HB.out.size))
              have HO5 := Aside0.mk hO
              have HP5 := Aside0.mk (hg.other HP.out (Ne.symm HNP.out))
              have HQ5 := Aside0.mk (hg.other HQ.out (Ne.symm HOQ.out))
              have HI5 := Aside0.mk (HI.out.parse s.f1.data.toList)
              clear hO hg hx_0 hx_1 hx_2
              have hx_1 := (HB5.out.cell (World.block_lt_of_cell? w _ HX1.out)).trans HX1.out
              go_wp2_with fail
              refine (parse_calls gq xs s.f1 w5 (HLT.out.on HB5.out) HGQ.out HQ5.out (by omega)).mono ?_
              rintro e w6 ⟨rfl, hO, hg⟩
              have HB6 := Aside0.mk (HB5.out.trans (hg.below HGQ.out HB5.out.size))
              have HQ6 := Aside0.mk hO
              have HP6 := Aside0.mk (hg.other HP5.out HPQ.out)
              have HO6 := Aside0.mk (hg.other HO5.out HOQ.out)
              clear hO hg
              go_wp2
              go_roundg (gk - 1)
              case rel => exact ⟨i + 1, _, by go_num, by omega, HI5, HO6, HP6, HQ6, HB6⟩
              case measure => omega
            · have q1 : (s.f0 % 6 == 1) = false := by rw [h1]; rfl
              have q2 : (s.f0 % 6 == 2) = true := by simpa using h1
              clear h0 h1
              go_wp2_with fail
              refine (parse_calls go xs s.f1 wr (HLT.out.on HB.out) HGO.out HO.out (by omega)).mono ?_
              rintro e w5 ⟨rfl, hO, hg⟩
              have HB5 := Aside0.mk (HB.out.trans (hg.below HGO.out HB.out.size))
              have HO5 := Aside0.mk hO
              have HP5 := Aside0.mk (hg.other HP.out (Ne.symm HNP.out))
              have HQ5 := Aside0.mk (hg.other HQ.out (Ne.symm HOQ.out))
              have HI5 := Aside0.mk (HI.out.parse s.f1.data.toList)
              clear hO hg hx_0 hx_1 hx_2
              have hx_1 := (HB5.out.cell (World.block_lt_of_cell? w _ HX1.out)).trans HX1.out
              go_wp2_with fail
              refine (parse_calls gq xs s.f1 w5 (HLT.out.on HB5.out) HGQ.out HQ5.out (by omega)).mono ?_
              rintro e w6 ⟨rfl, hO, hg⟩
              have HB6 := Aside0.mk (HB5.out.trans (hg.below HGQ.out HB5.out.size))
              have HQ6 := Aside0.mk hO
              have HP6 := Aside0.mk (hg.other HP5.out HPQ.out)
              have HO6 := Aside0.mk (hg.other HO5.out HOQ.out)
              clear hO hg
              go_wp2
              go_roundg (gk - 1)
              case rel => exact ⟨i + 1, _, by go_num, by omega, HI5, HO6, HP6, HQ6, HB6⟩
              case measure => omega
          · have q1 : (s.f0 % 6 == 1) = false := by simpa using fun e => h1 (.inl e)
            have q2 : (s.f0 % 6 == 2) = false := by simpa using fun e => h1 (.inr e)
            clear h0 h1
            go_wp2
            go_roundg (gk - 1)
            case rel => exact ⟨i + 1, xs, by go_num, by omega, HI, HO, HP, HQ, HB⟩
            case measure => omega
      · obtain rfl : i = l0.length := by omega
        clear hij hlt
        obtain ⟨wo, rfl⟩ : ∃ wo : World, wo = wr := ⟨_, rfl⟩
        go_wp2_with fail
        refine (words_calls' go xs wo (HLT.out.on HB.out) HGO.out HO.out HI.out).mono ?_
        rintro e w5 ⟨v5, rfl, hR, hb⟩
        obtain ⟨L, hL⟩ : ∃ L, L = (oWords xs).map toBA := ⟨_, rfl⟩
        rw [← hL] at hR
        have HL := Aside0.mk hL
        clear hL
        obtain ⟨A5, c5, rfl⟩ := Kd.R_slice hR
        have hLl : L.length ≤ 28 := by rw [HL.out]; exact oWords_len xs
        have HB5 := Aside0.mk (below_step HB.out hb)
        have HO5 := Aside0.mk (HO.out.below (B := 0) hb)
        have HP5 := Aside0.mk (HP.out.below (B := 0) hb)
        have HQ5 := Aside0.mk (HQ.out.below (B := 0) hb)
        have HC5 := Aside0.mk hR
        clear hb hR HB HO HP HQ
        go_wp2_with fail
        go_loopg [12] L.length (fun j v12 wr => ∃ (i : Nat) (zs : List Int), v12 = .int .i64 (i : Int) ∧ i + j = L.length ∧ Aside0 (oRun zs ((oWords xs).drop i) = some xs) ∧ Aside0 (OB wr go xs) ∧ Aside0 (OB wr gp zs) ∧ Aside0 (OB wr gq xs) ∧ Aside0 (Kd.R Kd.string 9 wr wo.heap.size (fun _ => True) (.slice A5 L.length c5) L) ∧ Aside0 (Below w.heap.size w wr))
        case atStart => exact ⟨0, oNew, rfl, by omega, ⟨oRun_words HI.out⟩, HO5, HP5, HQ5, HC5, HB5⟩
        case round =>
          clear HO5 HP5 HQ5 HB5 HC5
          obtain ⟨i, zs, rfl, hij, HRUN, HO, HP, HQ, HC, HB⟩ := hrel
          by_cases hlt : i < L.length
          · have hi0 : (0 : Int) ≤ (i : Int) := by omega
            have hil : (i : Int) < (L.length : Int) := by omega
            obtain ⟨ad5, e5, hx_0⟩ := Kd.at_string (Kd.R_reads' HC.out).2.2 (i : Int) hi0 hil
            cases e5
            rw [Int.toNat_natCast] at hx_0
            have hiw : i < (oWords xs).length := by have := congrArg List.length HL.out; rw [List.length_map] at this; omega
            obtain ⟨t, htt⟩ : ∃ t, t = rdOf ByteArray.empty L (i : Int) := ⟨_, rfl⟩
            have htd : t.data.toList = (oWords xs)[i] := by
              rw [htt, rdOf_eq L i hlt]
              have e : L[i] = toBA (oWords xs)[i] := by
                have := HL.out
                subst this
                simp
              rw [e]
              rfl
            rw [← htt] at hx_0
            have hts : t.size ≤ 60 := by
              have : t.size = t.data.toList.length := rfl
              rw [this, htd]
              exact oWords_size HI.out _ (List.getElem_mem hiw)
            have hrun := HRUN.out
            rw [List.drop_eq_getElem_cons hiw, ← htd] at hrun
            obtain ⟨hok, hrun'⟩ := oRun_cons hrun
            have HRUN' := Aside0.mk hrun'
            have HOK := Aside0.mk hok
            clear hrun hrun' hok htt htd hiw
            go_wp2_with fail
            refine (parse_calls gp zs t wr (HLT.out.on HB.out) HGP.out HP.out (by omega)).mono ?_
            rw [HOK.out]
            rintro e w6 ⟨rfl, hO, hg⟩
            have HB6 := Aside0.mk (HB.out.trans (hg.below HGP.out HB.out.size))
            have HP6 := Aside0.mk hO
            have HO6 := Aside0.mk (hg.other HO.out HNP.out)
            have HQ6 := Aside0.mk (hg.other HQ.out (Ne.symm HPQ.out))
            have HC6 := Aside0.mk (hg.Rt HC.out HP.out)
            clear hO hg
            go_wp2
            go_roundg (gk - 1)
            case rel => exact ⟨i + 1, _, by go_num, by omega, HRUN', HO6, HP6, HQ6, HC6, HB6⟩
            case measure => omega
          · obtain rfl : i = L.length := by omega
            clear hij hlt
            obtain ⟨wo2, rfl⟩ : ∃ wo : World, wo = wr := ⟨_, rfl⟩
            have hzs : zs = xs := by
              have hlw : (oWords xs).length = L.length := by rw [HL.out, List.length_map]
              have := HRUN.out
              rw [List.drop_eq_nil_of_le (by omega)] at this
              exact Option.some.inj this
            subst hzs
            clear HRUN HC
            obtain ⟨ys, v, f, hset⟩ : ∃ ys v f, oSet zs b.data.toList n = (ys, v, f) := ⟨_, _, _, rfl⟩
            have HSET := Aside0.mk hset
            clear hset
            have HIY := Aside0.mk (show OIn ys by have := HI.out.set b.data.toList n; rw [HSET.out] at this; exact this)
            go_wp2_with fail
            refine (set_calls gq zs b n wo2 (HLT.out.on HB.out) HGQ.out HQ.out).mono ?_
            rw [HSET.out]
            rintro e w6 ⟨rfl, hO, hg⟩
            have HB6 := Aside0.mk (HB.out.trans (hg.below HGQ.out HB.out.size))
            have HQ6 := Aside0.mk (show OB w6 gq ys from hO)
            have HO6 := Aside0.mk (hg.other HO.out HOQ.out)
            have HP6 := Aside0.mk (hg.other HP.out HPQ.out)
            clear hO hg HB HO HP HQ
            go_wp2_with fail
            refine (table_calls w6 ((HLT.out.on HB6.out).up HB6.out.size)).mono ?_
            rintro e w7 ⟨gt, rfl, hg, hT, hb⟩
            have HB7 := Aside0.mk (below_step HB6.out hb)
            have HQ7 := Aside0.mk (HQ6.out.below (B := 0) hb)
            have HO7 := Aside0.mk (HO6.out.below (B := 0) hb)
            have HP7 := Aside0.mk (HP6.out.below (B := 0) hb)
            have HT7 := Aside0.mk hT
            clear hg hT hb HB6 HQ6 HO6 HP6
            go_wp2_with fail
            go_loopg [16] 28 (fun j v16 wr => ∃ k : Nat, v16 = .int .i64 (k : Int) ∧ k + j = 28 ∧ Aside0 (OB wr go zs) ∧ Aside0 (OB wr gp zs) ∧ Aside0 (OB wr gq ys) ∧ Aside0 (wr.heap[gt]? = some (.cells tabCells 55 (0, 0))) ∧ Aside0 (Below w.heap.size w wr))
            case atStart => exact ⟨0, rfl, rfl, HO7, HP7, HQ7, HT7, HB7⟩
            case round =>
              clear HO7 HP7 HQ7 HT7 HB7
              obtain ⟨k, rfl, hkj, HO, HP, HQ, HT, HB⟩ := hrel
              by_cases hlt : k < 28
              · have hk0 : (0 : Int) ≤ (k : Int) := by omega
                have hk28 : (k : Int) < 28 := by omega
                obtain ⟨e, he⟩ : ∃ e, e = oAt k := ⟨_, rfl⟩
                have HE := Aside0.mk he
                clear he
                obtain ⟨nm, hnm⟩ : ∃ nm : ByteArray, nm = ⟨e.name.toArray⟩ := ⟨_, rfl⟩
                have HNM := Aside0.mk (show nm.data.toList = (oAt k).name by rw [hnm, ← HE.out])
                obtain ⟨x, hxk⟩ : ∃ x, x = zs.getD k 0 := ⟨_, rfl⟩
                obtain ⟨y, hyk⟩ : ∃ y, y = ys.getD k 0 := ⟨_, rfl⟩
                have g1 := Aside0.mk (show oGet zs nm.data.toList = (x, true) by rw [HNM.out, oGet_at zs k hlt, hxk])
                have g2 := Aside0.mk (show oGet ys nm.data.toList = (y, true) by rw [HNM.out, oGet_at ys k hlt, hyk])
                have hb1 := HI.out.2 k hlt
                rw [← hxk, ← HE.out] at hb1
                obtain ⟨hlo, hhi⟩ := hb1
                have d1 : decide (x < e.lo) = false := decide_eq_false (by omega)
                have d2 : decide (e.hi < x) = false := decide_eq_false (by omega)
                have hsg := oSet_get HI.out.1 HSET.out k hlt
                rw [← hyk, ← hxk, ← HNM.out] at hsg
                obtain ⟨s1, s2⟩ := hsg
                have S1 := Aside0.mk s1
                have S2 := Aside0.mk s2
                have cells : ∀ (W : World), W.heap[gt]? = some (.cells tabCells 55 (0, 0)) → W.cell? ⟨gt, k * 4, none⟩ = some (.string nm) ∧ W.cell? ⟨gt, k * 4 + 2, none⟩ = some (.int .i64 e.lo) ∧ W.cell? ⟨gt, k * 4 + 3, none⟩ = some (.int .i64 e.hi) := by
                  intro W hW
                  refine ⟨?_, ?_, ?_⟩
                  · rw [hnm, HE.out]; exact tab_cell_at hW k hlt 0 (by omega)
                  · rw [HE.out]; exact tab_cell_at hW k hlt 2 (by omega)
                  · rw [HE.out]; exact tab_cell_at hW k hlt 3 (by omega)
                have CELLS := Aside0.mk cells
                clear cells hxk hyk s1 s2 hnm hlo hhi
                obtain ⟨hc0, hc2, hc3⟩ := CELLS.out wr HT.out
                have hq : (nm.toList == b.toList) = true ∨ (nm.toList == b.toList) = false := by cases (nm.toList == b.toList) <;> simp
                rcases hq with hq | hq
                all_goals have hqn : (nm.toList != b.toList) = !(nm.toList == b.toList) := rfl
                all_goals rw [hq] at hqn
                all_goals simp only [Bool.not_true, Bool.not_false] at hqn
                · have he1 : nm.data.toList = b.data.toList := by have := eq_of_beq hq; rw [Lib.toList_data, Lib.toList_data] at this; exact this
                  obtain ⟨hyv, hf0⟩ := S1.out he1
                  subst hyv
                  subst hf0
                  clear he1
                  go_wp2_with fail
                  refine (get_calls go zs nm wr (HLT.out.on HB.out) HGO.out HO.out).mono ?_
                  rw [g1.out]
                  rintro e1 w4 ⟨rfl, hb⟩
                  have HB4 := Aside0.mk (below_step HB.out hb)
                  have HO4 := Aside0.mk (HO.out.below (B := 0) hb)
                  have HP4 := Aside0.mk (HP.out.below (B := 0) hb)
                  have HQ4 := Aside0.mk (HQ.out.below (B := 0) hb)
                  have HT4 := Aside0.mk (blk_below HT.out hb)
                  clear hb hc0 hc2 hc3
                  obtain ⟨hc0, hc2, hc3⟩ := CELLS.out w4 HT4.out
                  go_wp2_with fail
                  refine (get_calls gp zs nm w4 (HLT.out.on HB4.out) HGP.out HP4.out).mono ?_
                  rw [g1.out]
                  rintro e1 w5 ⟨rfl, hb⟩
                  have HB5 := Aside0.mk (below_step HB4.out hb)
                  have HO5 := Aside0.mk (HO4.out.below (B := 0) hb)
                  have HP5 := Aside0.mk (HP4.out.below (B := 0) hb)
                  have HQ5 := Aside0.mk (HQ4.out.below (B := 0) hb)
                  have HT5 := Aside0.mk (blk_below HT4.out hb)
                  clear hb hc0 hc2 hc3
                  obtain ⟨hc0, hc2, hc3⟩ := CELLS.out w5 HT5.out
                  go_wp2_with fail
                  refine (get_calls gq ys nm w5 (HLT.out.on HB5.out) HGQ.out HQ5.out).mono ?_
                  rw [g2.out]
                  rintro e1 w6 ⟨rfl, hb⟩
                  have HB6 := Aside0.mk (below_step HB5.out hb)
                  have HO6 := Aside0.mk (HO5.out.below (B := 0) hb)
                  have HP6 := Aside0.mk (HP5.out.below (B := 0) hb)
                  have HQ6 := Aside0.mk (HQ5.out.below (B := 0) hb)
                  have HT6 := Aside0.mk (blk_below HT5.out hb)
                  clear hb hc0 hc2 hc3
                  obtain ⟨hc0, hc2, hc3⟩ := CELLS.out w6 HT6.out
                  go_wp2
                  go_roundg (gk - 1)
                  case rel => exact ⟨k + 1, by go_num, by omega, HO6, HP6, HQ6, HT6, HB6⟩
                  case measure => omega
                · have he1 : nm.data.toList ≠ b.data.toList := by intro h; have : nm.toList = b.toList := by rw [Lib.toList_data, Lib.toList_data]; exact h
                                                                  rw [this] at hq; simp at hq
                  have hyx := S2.out he1
                  subst hyx
                  clear he1
                  go_wp2_with fail
                  refine (get_calls go zs nm wr (HLT.out.on HB.out) HGO.out HO.out).mono ?_
                  rw [g1.out]
                  rintro e1 w4 ⟨rfl, hb⟩
                  have HB4 := Aside0.mk (below_step HB.out hb)
                  have HO4 := Aside0.mk (HO.out.below (B := 0) hb)
                  have HP4 := Aside0.mk (HP.out.below (B := 0) hb)
                  have HQ4 := Aside0.mk (HQ.out.below (B := 0) hb)
                  have HT4 := Aside0.mk (blk_below HT.out hb)
                  clear hb hc0 hc2 hc3
                  obtain ⟨hc0, hc2, hc3⟩ := CELLS.out w4 HT4.out
                  go_wp2_with fail
                  refine (get_calls gp zs nm w4 (HLT.out.on HB4.out) HGP.out HP4.out).mono ?_
                  rw [g1.out]
                  rintro e1 w5 ⟨rfl, hb⟩
                  have HB5 := Aside0.mk (below_step HB4.out hb)
                  have HO5 := Aside0.mk (HO4.out.below (B := 0) hb)
                  have HP5 := Aside0.mk (HP4.out.below (B := 0) hb)
                  have HQ5 := Aside0.mk (HQ4.out.below (B := 0) hb)
                  have HT5 := Aside0.mk (blk_below HT4.out hb)
                  clear hb hc0 hc2 hc3
                  obtain ⟨hc0, hc2, hc3⟩ := CELLS.out w5 HT5.out
                  go_wp2_with fail
                  refine (get_calls gq ys nm w5 (HLT.out.on HB5.out) HGQ.out HQ5.out).mono ?_
                  rw [g2.out]
                  rintro e1 w6 ⟨rfl, hb⟩
                  have HB6 := Aside0.mk (below_step HB5.out hb)
                  have HO6 := Aside0.mk (HO5.out.below (B := 0) hb)
                  have HP6 := Aside0.mk (HP5.out.below (B := 0) hb)
                  have HQ6 := Aside0.mk (HQ5.out.below (B := 0) hb)
                  have HT6 := Aside0.mk (blk_below HT5.out hb)
                  clear hb hc0 hc2 hc3
                  obtain ⟨hc0, hc2, hc3⟩ := CELLS.out w6 HT6.out
                  go_wp2
                  go_roundg (gk - 1)
                  case rel => exact ⟨k + 1, by go_num, by omega, HO6, HP6, HQ6, HT6, HB6⟩
                  case measure => omega
              · obtain rfl : k = 28 := by omega
                go_wp2_with fail
                refine (works_calls wr ((HLT.out.on HB.out).up HB.out.size)).mono ?_
                rintro e w4 ⟨rfl, hb⟩
                have HB8 := Aside0.mk (below_step HB.out hb)
                clear hb
                go_wp2
                go_ret
                exact ⟨rfl, HB8.out⟩
end Go.Proofs.YtmknpchmpgkdbaaDoor.PB
