import Derived.Test.YtmknpchmpgkdbaaDoorPOref
import Derived.Outline
namespace Go.Proofs.YtmknpchmpgkdbaaDoor.PB
open Go.RowKit Go.Proofs.YtmknpchmpgkdbaaDoorW.PrintWords Go.Proofs.YtmknpchmpgkdbaaDoorW.PrintLast Go.Proofs.YtmknpchmpgkdbaaDoorW.PrintMore
set_option linter.unusedVariables false
set_option linter.unusedSimpArgs false
/-! ### The reference's options in memory -/
def MB (w : World) (base gm c : Nat) (xs : List Int) : Prop := Kd.R k50 50 w base (fun k => k = gm) (.slice (some ⟨gm, 0, none⟩) 28 c) (mOf xs)
theorem k50_any {w w' : World} {base base' : Nat} {ok ok' : Nat → Prop} {x : S50} {cs : List Value} (h : k50.M w base ok x cs) : k50.M w' base' ok' x cs := by
  obtain rfl := k50_openM h
  exact k50_mkM w' base' ok' x
theorem MB.of_R {w : World} {base : Nat} {ok : Nat → Prop} {v : Value} {xs : List Int} (h : Kd.R k50 50 w base ok v (mOf xs)) : ∃ gm c, v = .slice (some ⟨gm, 0, none⟩) 28 c ∧ ok gm ∧ base ≤ gm ∧ MB w base gm c xs := by
  obtain ⟨h0, inner, hown, hr⟩ := h
  have hown' := hown
  rcases hown.2 with ⟨_, hx0⟩ | ⟨g, cap, cur, hv, hb, hh, hnc, hcm, hcs, _⟩
  · rw [mOf_len] at hx0
    omega
  · rw [mOf_len] at hv
    subst hv
    refine ⟨g, cap, rfl, h0 g rfl, hb, fun k hk => ?_, inner, hown', hr.imp_ (fun _ _ hq => k50_any hq)⟩
    have := Option.some.inj hk
    exact this.symm
theorem MB.C {w : World} {base gm c : Nat} {xs : List Int} (h : MB w base gm c xs) : Kd.C k50 w (some ⟨gm, 0, none⟩) (mOf xs).length (mOf xs) ∧ (mOf xs).length ≤ c := ⟨(Kd.R_reads' h).2.2, (Kd.R_reads' h).2.1⟩
theorem MB.blk {w : World} {base gm c : Nat} {xs : List Int} (h : MB w base gm c xs) : ∃ cur, w.heap[gm]? = some (.cells cur 50 (0, 0)) := by
  obtain ⟨_, inner, hown, _⟩ := h
  exact own_typed hown gm rfl
theorem MB.below {w w' : World} {base gm c : Nat} {xs : List Int} (h : MB w base gm c xs) (hb : Below w.heap.size w w') : MB w' base gm c xs := Kd.R_below h hb
theorem MB.gb {w w' : World} {base gm c g : Nat} {xs : List Int} (h : MB w base gm c xs) (hb : GB g w w') (hne : gm ≠ g) : MB w' base gm c xs :=
  Kd.R_step h (fun k hk hlt => hb.blk k hlt (by rw [hk]; exact hne))
theorem MB.drewN {w : World} {base gm c : Nat} {xs : List Int} (h : MB w base gm c xs) (n : Nat) : MB (w.drewN n) base gm c xs := Kd.R_drewN h n
theorem MB.drew {w : World} {base gm c : Nat} {xs : List Int} (h : MB w base gm c xs) : MB w.drew base gm c xs := Kd.R_drew h
theorem MB.ne {w : World} {base gm c g : Nat} {xs ys : List Int} (h : MB w base gm c xs) (hO : OB w g ys) : gm ≠ g := by
  obtain ⟨cur, hc⟩ := h.blk
  intro e
  subst e
  have := hO.blk
  rw [hc] at this
  injection this with this
  injection this with _ h2 _
  exact absurd h2 (by decide)
theorem GB.of_kept {w0 w w' : World} {B g : Nat} (h : Kept w w' (fun k => k = g)) (h0 : Below B w0 w) (h1 : Below B w0 w') : GB g w w' := ⟨h1.os.trans h0.os.symm, h1.tape.trans h0.tape.symm, h1.output.trans h0.output.symm, h.1, fun q hq hne => h.2 q hq hne⟩
theorem mset_calls (gm c : Nat) (xs : List Int) (s : ByteArray) (n : Int) (w0 w : World) (hB : Below w0.heap.size w0 w) (hM : MB w w0.heap.size gm c xs) (hx : xs.length = 28) :
    Calls Tryd.prog 27 #[.slice (some ⟨gm, 0, none⟩) 28 c, .string s, .int .i64 n] w fun e w' => e = .returned (.tuple #[.int .i64 (oSet xs s.data.toList n).2.1, .int .i64 (oSet xs s.data.toList n).2.2]) ∧ MB w' w0.heap.size gm c (oSet xs s.data.toList n).1 ∧ GB gm w w' := by
  obtain ⟨k, hk⟩ := (rset_ev hx s n).rounds
  refine (threshingref30_Set.calls k (fun k => k = gm) _ (mOf xs) s n _ _ _ w0 w hB hM hk).mono ?_
  rintro e w' ⟨rfl, hR, hb, hK⟩
  refine ⟨rfl, ?_, GB.of_kept hK hB hb⟩
  obtain ⟨gm', c', hv, _, _, hM'⟩ := MB.of_R hR
  injection hv with h1 _ h3
  injection h1 with h1
  injection h1 with h1
  subst h1; subst h3
  exact hM'
/-! ### The reference's Parse -/
theorem beq_flip (x y : UInt8) : (x == y) = (y == x) := Bool.eq_iff_iff.2 (by rw [beq_iff_eq, beq_iff_eq]; exact eq_comm)
theorem rP_no {xs : List Int} {T : List UInt8} (h : (61 : UInt8) ∉ T) : rP xs T true = ((oSet xs (T.drop 3) 0).2.2, (oSet xs (T.drop 3) 0).1) ∧ rP xs T false = ((oSet xs T 1).2.2, (oSet xs T 1).1) := by
  unfold rP
  rw [cut_no h]
  exact ⟨rfl, rfl⟩
theorem rP_at {xs : List Int} {T : List UInt8} {i : Nat} (hlt : i < T.length) (hn : (61 : UInt8) ∉ T.take i) (e : T[i] = 61) :
    (∀ no, (Rnum (T.drop (i + 1))).2 = false ∨ no = true → rP xs T no = (2, xs)) ∧
    ((Rnum (T.drop (i + 1))).2 = true → rP xs T false = ((oSet xs (T.take i) (Rnum (T.drop (i + 1))).1).2.2, (oSet xs (T.take i) (Rnum (T.drop (i + 1))).1).1)) := by
  have hsplit : T = T.take i ++ 61 :: T.drop (i + 1) := by
    have h1 := List.drop_eq_getElem_cons hlt
    rw [e] at h1
    conv => lhs; rw [← List.take_append_drop i T, h1]
  have hc : Lib.cut T [61] = (T.take i, T.drop (i + 1), true) := by
    have := cut_at (T.drop (i + 1)) hn
    rwa [← hsplit] at this
  constructor
  · intro no h
    unfold rP
    rw [hc]
    dsimp only
    rw [if_pos rfl]
    cases no with
    | true => rfl
    | false =>
      have h2 : (Rnum (T.drop (i + 1))).2 = false := by
        rcases h with h | h
        · exact h
        · cases h
      rw [oNum_Rnum, h2]
      rfl
  · intro h
    unfold rP
    rw [hc]
    dsimp only
    rw [if_pos rfl, oNum_Rnum, if_pos h]
    rfl
set_option maxHeartbeats 2000000 in
set_option maxRecDepth 100000 in
theorem mparse_calls (gm c : Nat) (xs : List Int) (s : ByteArray) (w0 w : World) (hB : Below w0.heap.size w0 w) (hM : MB w w0.heap.size gm c xs) (hx : xs.length = 28) (hs : s.size ≤ 100000) :
    Calls Tryd.prog 29 #[.slice (some ⟨gm, 0, none⟩) 28 c, .string s] w fun e w' => e = .returned (.int .i64 (oParse xs s.data.toList).2) ∧ MB w' w0.heap.size gm c (oParse xs s.data.toList).1 ∧ GB gm w w' := by
  have HB0 := Aside0.mk hB
  have HM := Aside0.mk hM
  have HX := Aside0.mk hx
  clear hB hM hx
  by_cases hp : Lib.hasPrefix s.data.toList [45, 45] = true
  · obtain ⟨T, hT⟩ : ∃ T, s.data.toList = 45 :: 45 :: T := by
      unfold Lib.hasPrefix at hp
      obtain ⟨T, hT⟩ := List.isPrefixOf_iff_prefix.1 hp
      exact ⟨T, hT.symm⟩
    have hsz : s.size = T.length + 2 := by
      have : s.size = s.data.toList.length := rfl
      rw [this, hT]
      rfl
    have hz0 : decide ((s.size : Int) < 2) = false := decide_eq_false (by omega)
    have hz1 : decide (s.size < 2) = false := decide_eq_false (by omega)
    have hs2 : (2 : Int) ≤ (s.size : Int) := by omega
    obtain ⟨t, ht⟩ : ∃ t : ByteArray, t = s.extract 2 s.size := ⟨_, rfl⟩
    have htT : t = toBA T := by
      have e0 : s = toBA (45 :: 45 :: T) := by rw [← hT]; rfl
      rw [ht]
      conv => lhs; rw [e0]
      rw [toBA_extract, toBA_size, List.take_length]
      rfl
    have e01 : s.extract 0 2 = (⟨#[45, 45]⟩ : ByteArray) := by
      have e0 : s = toBA (45 :: 45 :: T) := by rw [← hT]; rfl
      conv => lhs; rw [e0]
      rw [toBA_extract]
      rfl
    have nq : ((s.extract 0 2).toList != ([45, 45] : List UInt8)) = false := by rw [e01, Lib.toList_data]; rfl
    have nq2 : ((s.extract 0 2).toList == ([45, 45] : List UInt8)) = true := by rw [e01, Lib.toList_data]; rfl
    obtain ⟨no, hno⟩ : ∃ no, no = Lib.hasPrefix T [110, 111, 45] := ⟨_, rfl⟩
    have hres := Aside0.mk (show oParse xs s.data.toList = ((rP xs T no).2, (rP xs T no).1) by rw [hT, oParse_rP, hno])
    have htz : t.size = T.length := by rw [htT, toBA_size]
    have HTT := Aside0.mk htT
    have HTZ := Aside0.mk htz
    have ht' : s.extract 2 s.size = t := ht.symm
    have htzl : t.size ≤ 100000 := by omega
    have h3 : (3 ≤ t.size ∧ ((t.extract 0 3).toList == ([110, 111, 45] : List UInt8)) = no) ∨ (t.size < 3 ∧ no = false) := by
      by_cases h : 3 ≤ t.size
      · refine .inl ⟨h, ?_⟩
        rw [htT, toBA_extract, Lib.toList_data, toBA_data, List.drop_zero, hno]
        rw [htz] at h
        match T, h with
        | a :: b :: c :: r, _ =>
          have e1 : (a == 110) = (110 == a) := beq_flip _ _
          have e2 : (b == 111) = (111 == b) := beq_flip _ _
          have e3 : (c == 45) = (45 == c) := beq_flip _ _
          simp [Lib.hasPrefix, List.isPrefixOf, e1, e2, e3]
      · refine .inr ⟨by omega, ?_⟩
        rw [hno]
        rw [htz] at h
        match T, h with
        | [], _ => rfl
        | [a], _ => simp [Lib.hasPrefix, List.isPrefixOf]
        | [a, b], _ => simp [Lib.hasPrefix, List.isPrefixOf]
        | a :: b :: c :: r, h => exact absurd (show 3 ≤ (a :: b :: c :: r).length by simp) h
    have HNO := Aside0.mk hno
    clear hT hno ht htT htz e01 hp hsz
    go_enter Tryd.func29, Tryd.ntmps29
    go_upto_region 4 with fail
    go_cut [7] (fun v7 wc => v7 = .bool no ∧ wc = w)
    case first =>
      rcases h3 with ⟨z3, q3⟩ | ⟨z3, q3⟩
      · have zi : decide ((3 : Int) ≤ (t.size : Int)) = true := decide_eq_true (by omega)
        have zn : decide (3 ≤ t.size) = true := decide_eq_true z3
        go_wp2
        go_meet
        case rel => exact ⟨rfl, rfl⟩
      · have zi : decide ((3 : Int) ≤ (t.size : Int)) = false := decide_eq_false (by omega)
        have zn : decide (3 ≤ t.size) = false := decide_eq_false (by omega)
        subst q3
        go_wp2
        go_meet
        case rel => exact ⟨rfl, rfl⟩
    case rest =>
      obtain ⟨rfl, hwc⟩ := hcut
      obtain rfl : w = wc := hwc.symm
      clear ht' nq nq2 hz0 hz1 hs2
      go_wp2_with fail
      go_loopg [8] t.size (fun j v8 wr => ∃ i : Nat, v8 = .int .i64 (i : Int) ∧ i + j = t.size ∧ Aside0 ((61 : UInt8) ∉ T.take i) ∧ wr = w)
      case atStart => exact ⟨0, rfl, by omega, ⟨by simp⟩, rfl⟩
      case round =>
        obtain ⟨i, rfl, hij, HN, rfl⟩ := hrel
        by_cases hlt : i < t.size
        · have hi0 : (0 : Int) ≤ (i : Int) := by omega
          have hil : (i : Int) < (t.size : Int) := by omega
          have hlt2 : i < T.length := by rw [← HTZ.out]; exact hlt
          have hti : t[i] = T[i] := by
            have e := HTT.out
            subst e
            rfl
          by_cases e : T[i] = 61
          · have q1 : (((t[i]).toNat : Int) != 61) = false := by rw [hti, e]; rfl
            have q2 : (((t[i]).toNat : Int) == 61) = true := by rw [hti, e]; rfl
            obtain ⟨ra, rb⟩ := rP_at (xs := xs) hlt2 HN.out e
            obtain ⟨qs, hqs⟩ : ∃ qs, qs = toBA (T.drop (i + 1)) := ⟨_, rfl⟩
            obtain ⟨ps, hps⟩ : ∃ ps, ps = toBA (T.take i) := ⟨_, rfl⟩
            have x1 : t.extract (i + 1) t.size = qs := by rw [HTT.out, toBA_extract, toBA_size, List.take_length, hqs]
            have x2 : t.extract 0 i = ps := by rw [HTT.out, toBA_extract, List.drop_zero, hps]
            obtain ⟨kn, hkn⟩ := (rnum_ev (T.drop (i + 1)) (by rw [List.length_drop, ← HTZ.out]; omega)).rounds
            rw [← hqs] at hkn
            have HKN := Aside0.mk hkn
            obtain ⟨v, b, hvb⟩ : ∃ v b, Rnum (T.drop (i + 1)) = (v, b) := ⟨_, _, rfl⟩
            rw [hvb] at ra rb hkn
            have HKN := Aside0.mk hkn
            have HPS := Aside0.mk hps
            have hw1 : wrap64 ((i : Int) + 1) = (i : Int) + 1 := by unfold wrap64; omega
            have hi1 : ((i : Int) + 1).toNat = i + 1 := by omega
            have hi2 : (i : Int) + 1 ≤ (t.size : Int) := by omega
            have hi3 : (0 : Int) ≤ (i : Int) + 1 := by omega
            clear hqs hkn hps hvb hti e hlt2
            cases b with
            | false =>
              have hr := Aside0.mk (ra no (.inl rfl))
              clear ra rb
              go_wp2_with fail
              refine (threshingref30_number.calls kn qs v false wr HKN.out).mono ?_
              rintro e1 w2 ⟨rfl, nd, rfl⟩
              go_wp2
              go_ret
              exact ⟨by rw [hres.out, hr.out]; rfl, by rw [hres.out, hr.out]; exact HM.out.drewN _, GB.drewN (GB.refl _ _) _⟩
            | true =>
              cases no with
              | true =>
                have hr := Aside0.mk (ra true (.inr rfl))
                clear ra rb
                go_wp2_with fail
                refine (threshingref30_number.calls kn qs v true wr HKN.out).mono ?_
                rintro e1 w2 ⟨rfl, nd, rfl⟩
                go_wp2
                go_ret
                exact ⟨by rw [hres.out, hr.out]; rfl, by rw [hres.out, hr.out]; exact HM.out.drewN _, GB.drewN (GB.refl _ _) _⟩
              | false =>
                have hr := Aside0.mk (rb rfl)
                clear ra rb
                go_wp2_with fail
                refine (threshingref30_number.calls kn qs v true wr HKN.out).mono ?_
                rintro e1 w2 ⟨rfl, nd, rfl⟩
                go_wp2_with fail
                refine (mset_calls gm c xs ps v w0 _ (pw_below_drewN HB0.out nd) (HM.out.drewN nd) HX.out).mono ?_
                rintro e1 w3 ⟨rfl, hM3, hg⟩
                have HM3 := Aside0.mk hM3
                have HG3 := Aside0.mk ((GB.drewN (GB.refl gm wr) nd).trans hg)
                clear hM3 hg
                go_wp2
                go_ret
                have ep : ps.data.toList = T.take i := by rw [HPS.out]; rfl
                rw [ep] at HM3
                exact ⟨by rw [hres.out, hr.out, ep]; rfl, by rw [hres.out, hr.out]; exact HM3.out, HG3.out⟩
          · have q1 : (((t[i]).toNat : Int) != 61) = true := by
              rw [hti]
              simp only [bne_iff_ne]
              intro h
              exact e (UInt8.toNat_inj.1 (by show (T[i]).toNat = 61; omega))
            have q2 : (((t[i]).toNat : Int) == 61) = false := by
              have := q1
              rw [bne] at this
              simpa using this
            have HN' := Aside0.mk (show (61 : UInt8) ∉ T.take (i + 1) by
              rw [List.take_succ_eq_append_getElem hlt2]
              intro h
              rcases List.mem_append.1 h with h | h
              · exact HN.out h
              · exact e (List.mem_singleton.1 h).symm)
            clear hti e
            go_wp2
            go_roundg (gk - 1)
            case rel => exact ⟨i + 1, by go_num, by omega, HN', rfl⟩
            case measure => omega
        · obtain rfl : i = t.size := by omega
          have hn' : (61 : UInt8) ∉ T := by have := HN.out; rw [List.take_of_length_le (by rw [HTZ.out]; omega)] at this; exact this
          obtain ⟨r1, r2⟩ := rP_no (xs := xs) hn'
          cases no with
          | true =>
            have h3' : 3 ≤ t.size := by
              have := HNO.out.symm
              unfold Lib.hasPrefix at this
              have := List.IsPrefix.length_le (List.isPrefixOf_iff_prefix.1 this)
              rw [HTZ.out]
              simpa using this
            obtain ⟨qs, hqs⟩ : ∃ qs, qs = toBA (T.drop 3) := ⟨_, rfl⟩
            have x1 : t.extract 3 t.size = qs := by rw [HTT.out, toBA_extract, toBA_size, List.take_length, hqs]
            have HQS := Aside0.mk hqs
            have hr := Aside0.mk r1
            have hi3 : (3 : Int) ≤ (t.size : Int) := by omega
            clear r1 r2 hqs hn'
            go_wp2_with fail
            refine (mset_calls gm c xs qs 0 w0 wr HB0.out HM.out HX.out).mono ?_
            rintro e1 w3 ⟨rfl, hM3, hg⟩
            have HM3 := Aside0.mk hM3
            have HG3 := Aside0.mk hg
            clear hM3 hg
            go_wp2
            go_ret
            have ep : qs.data.toList = T.drop 3 := by rw [HQS.out]; rfl
            rw [ep] at HM3
            exact ⟨by rw [hres.out, hr.out, ep]; rfl, by rw [hres.out, hr.out]; exact HM3.out, HG3.out⟩
          | false =>
            have hr := Aside0.mk r2
            clear r1 r2 hn'
            go_wp2_with fail
            refine (mset_calls gm c xs t 1 w0 wr HB0.out HM.out HX.out).mono ?_
            rintro e1 w3 ⟨rfl, hM3, hg⟩
            have HM3 := Aside0.mk hM3
            have HG3 := Aside0.mk hg
            clear hM3 hg
            go_wp2
            go_ret
            have ep : t.data.toList = T := by rw [HTT.out]; rfl
            rw [ep] at HM3
            exact ⟨by rw [hres.out, hr.out, ep]; rfl, by rw [hres.out, hr.out]; exact HM3.out, HG3.out⟩
  · have hn : oWord s.data.toList = none := by unfold oWord; rw [if_pos (by simpa using hp)]
    have hr := Aside0.mk (oParse_none (xs := xs) hn)
    clear hn
    by_cases hz : s.size < 2
    · have hz0 : decide ((s.size : Int) < 2) = true := decide_eq_true (by omega)
      have hz1 : decide (s.size < 2) = true := decide_eq_true hz
      go_enter Tryd.func29, Tryd.ntmps29
      go_wp2
      go_ret
      exact ⟨by rw [hr.out]; rfl, by rw [hr.out]; exact HM.out, GB.refl _ _⟩
    · have hz0 : decide ((s.size : Int) < 2) = false := decide_eq_false (by omega)
      have hz1 : decide (s.size < 2) = false := decide_eq_false hz
      have hs2 : (2 : Int) ≤ (s.size : Int) := by omega
      have nq : ((s.extract 0 2).toList != ([45, 45] : List UInt8)) = true := by
        have e0 : s = toBA s.data.toList := rfl
        rw [bne_iff_ne]
        intro h
        rw [e0, toBA_extract, Lib.toList_data, toBA_data, List.drop_zero] at h
        apply hp
        unfold Lib.hasPrefix
        rw [List.isPrefixOf_iff_prefix, ← h]
        exact List.take_prefix _ _
      have nq2 : ((s.extract 0 2).toList == ([45, 45] : List UInt8)) = false := by rw [bne] at nq; simpa using nq
      go_enter Tryd.func29, Tryd.ntmps29
      go_wp2
      go_ret
      exact ⟨by rw [hr.out]; rfl, by rw [hr.out]; exact HM.out, GB.refl _ _⟩
end Go.Proofs.YtmknpchmpgkdbaaDoor.PB
