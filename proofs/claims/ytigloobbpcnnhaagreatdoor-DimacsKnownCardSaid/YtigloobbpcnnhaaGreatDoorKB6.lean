import Derived.Test.YtigloobbpcnnhaaGreatDoorKB5
import Derived.BigFrame
-- texts of this claim, packed, what nothing reaches struck (wip/tools/prune.py): HDmback HDreturns HDknown
section
namespace Go.Proofs.YtigloobbpcnnhaaGreatDoor.PB
open Go.RowKit
set_option linter.unusedVariables false
set_option linter.unusedSimpArgs false
theorem dF_split (b : List UInt8) : ∀ (a cur : List UInt8), dFields (a ++ 32 :: b) cur = dFields a cur ++ dFields b []
  | [], cur => by
    rw [List.nil_append, dFields.eq_def (32 :: b), dFields.eq_def []]
    simp only [show isBl 32 = true from rfl, if_true]
    split <;> simp
  | c :: a, cur => by
    rw [List.cons_append, dFields.eq_def (c :: (a ++ 32 :: b)), dFields.eq_def (c :: a)]
    simp only
    split
    · split
      · exact dF_split b a []
      · rw [dF_split b a [], List.cons_append]
    · exact dF_split b a _
/-- A word of a row of values. -/
structure VWd (w : List UInt8) : Prop where
  ne : w ≠ []
  bl : ∀ b ∈ w, isBl b = false
  nl : 10 ∉ w
theorem itoa_vwd (v : Int) : VWd (Lib.itoa v) := ⟨itoa_ne v, itoa_bl v, itoa_no v 10 (by decide) (by decide)⟩
theorem dVWord_vwd (n : Nat) (b : Bool) : VWd (dVWord n b) := by
  unfold dVWord
  cases b with
  | true => exact itoa_vwd n
  | false =>
    refine ⟨by simp, fun c hc => ?_, fun h => ?_⟩
    · rcases List.mem_cons.1 hc with rfl | hc
      · rfl
      · exact itoa_bl n c hc
    · rcases List.mem_cons.1 h with h | h
      · exact absurd h (by decide)
      · exact (itoa_vwd n).nl h
theorem dVW_vwd : ∀ (n : Nat) (m : List Bool), ∀ w ∈ dVW n m, VWd w
  | _, [], w, h => by cases h
  | n, b :: r, w, h => by
    rcases List.mem_cons.1 h with rfl | h
    · exact dVWord_vwd n b
    · exact dVW_vwd (n + 1) r w h
/-- What rows of values come to when they are read: the words so far. -/
structure RowsOf (vars : Int) (s : List UInt8 × List UInt8) (ws : List (List UInt8)) : Prop where
  ex : ∃ rows : List (List UInt8), s.1 = rows.flatMap (· ++ [10]) ∧ (∀ r ∈ rows, 10 ∉ r) ∧ 10 ∉ s.2 ∧ s.2.head? = some 118 ∧ ∀ m0, (rows.flatMap dWords ++ dWords s.2).foldl (dMark vars) m0 = ws.foldl (dMark vars) m0
theorem dMark_v (vars : Int) (m : List Bool) : dMark vars m [118] = m := by
  unfold dMark
  have : (dNum [118] true vars).2.1 = false := by
    rw [dNum_of [118] true vars [118] (by rw [hasPrefix_minus]; rfl), if_pos (.inr (.inl (by decide)))]
  rw [if_neg (fun h => by rw [this] at h; exact absurd h.1 (by decide))]
theorem dWords_v {l : List UInt8} (h : l.head? = some 118) : dWords l = dFields l [] := by
  unfold dWords
  rw [if_neg (by rw [h]; decide)]
theorem rows_put (vars : Int) (s : List UInt8 × List UInt8) (ws : List (List UInt8)) (w : List UInt8) (h : RowsOf vars s ws) (hw : VWd w) : RowsOf vars (dPut s w) (ws ++ [w]) := by
  obtain ⟨rows, h1, h2, h3, h4, h5⟩ := h.ex
  unfold dPut
  split
  · refine ⟨rows ++ [s.2], ?_, ?_, ?_, rfl, ?_⟩
    · simp [h1]
    · intro r hr
      rcases List.mem_append.1 hr with hr | hr
      · exact h2 r hr
      · rw [List.mem_singleton] at hr; rw [hr]; exact h3
    · intro hm
      rcases List.mem_append.1 hm with hm | hm
      · exact absurd hm (by decide)
      · exact hw.nl hm
    · intro m0
      have e : dWords ([118, 32] ++ w) = [118] :: [w] := by
        rw [dWords_v rfl, show [118, 32] ++ w = [118] ++ 32 :: w from rfl, dF_split, dF_end w hw.ne hw.bl]
        rfl
      rw [e, List.flatMap_append, List.flatMap_cons, List.flatMap_nil, List.append_nil, List.foldl_append, h5, List.foldl_append, List.foldl_cons, dMark_v]
  · refine ⟨rows, h1, h2, ?_, ?_, ?_⟩
    · intro hm
      rw [List.append_assoc] at hm
      rcases List.mem_append.1 hm with hm | hm
      · exact h3 hm
      · rcases List.mem_append.1 hm with hm | hm
        · exact absurd hm (by decide)
        · exact hw.nl hm
    · show (s.2 ++ [32] ++ w).head? = some 118
      cases hs : s.2 with
      | nil => rw [hs] at h4; cases h4
      | cons a r => rw [hs] at h4; exact h4
    · intro m0
      have hh : (s.2 ++ [32] ++ w).head? = some 118 := by
        cases hs : s.2 with
        | nil => rw [hs] at h4; cases h4
        | cons a r => rw [hs] at h4; exact h4
      have e : dWords (s.2 ++ [32] ++ w) = dWords s.2 ++ [w] := by
        rw [dWords_v hh, dWords_v h4, show s.2 ++ [32] ++ w = s.2 ++ 32 :: w by simp, dF_split, dF_end w hw.ne hw.bl]
      show (rows.flatMap dWords ++ dWords (s.2 ++ [32] ++ w)).foldl (dMark vars) m0 = _
      rw [e, ← List.append_assoc, List.foldl_append, h5, List.foldl_append]
theorem rows_all (vars : Int) : ∀ (ws : List (List UInt8)) (s : List UInt8 × List UInt8) (done : List (List UInt8)), RowsOf vars s done → (∀ w ∈ ws, VWd w) → RowsOf vars (ws.foldl dPut s) (done ++ ws) := by
  intro ws
  induction ws with
  | nil => intro s done h _; rw [List.append_nil]; exact h
  | cons w ws ih =>
    intro s done h hw
    have := ih (dPut s w) (done ++ [w]) (rows_put vars s done w h (hw w List.mem_cons_self)) (fun x hx => hw x (List.mem_cons_of_mem _ hx))
    rw [List.append_assoc] at this
    exact this
theorem rows_lines : ∀ (rows : List (List UInt8)) (t : List UInt8), (∀ r ∈ rows, 10 ∉ r) → dLines (rows.flatMap (· ++ [10]) ++ t) = rows ++ dLines t := by
  intro rows
  induction rows with
  | nil => intro t _; rfl
  | cons r rows ih =>
    intro t h
    rw [List.flatMap_cons, List.append_assoc, List.append_assoc, show ([10] : List UInt8) ++ (rows.flatMap (· ++ [10]) ++ t) = 10 :: (rows.flatMap (· ++ [10]) ++ t) from rfl, dLines_cut r _ (h r List.mem_cons_self), ih t (fun x hx => h x (List.mem_cons_of_mem _ hx))]
    rfl
theorem values_words (vars : Int) (m : List Bool) (m0 : List Bool) : ((dLines (dValues m)).flatMap dWords).foldl (dMark vars) m0 = (dVW 1 m ++ [[48]]).foldl (dMark vars) m0 := by
  have h := rows_all vars (dVW 1 m ++ [[48]]) ([], [118]) [] ⟨[], rfl, (fun r h => by cases h), by decide, rfl, fun m1 => by
    show (dWords [118]).foldl (dMark vars) m1 = m1
    rw [show dWords [118] = [[118]] from rfl, List.foldl_cons, dMark_v]
    rfl⟩ (fun w hw => by
      rcases List.mem_append.1 hw with hw | hw
      · exact dVW_vwd 1 m w hw
      · rw [List.mem_singleton] at hw
        subst hw
        exact ⟨by decide, by decide, by decide⟩)
  rw [List.nil_append] at h
  obtain ⟨rows, h1, h2, h3, h4, h5⟩ := h.ex
  unfold dValues
  change ((dLines ((dVState m).1 ++ (dVState m).2 ++ [10])).flatMap dWords).foldl (dMark vars) m0 = _
  have e : dLines ((dVState m).1 ++ (dVState m).2 ++ [10]) = rows ++ [(dVState m).2] := by
    rw [List.append_assoc, show (dVState m).1 = rows.flatMap (· ++ [10]) from h1, rows_lines rows _ h2, show (dVState m).2 ++ [10] = (dVState m).2 ++ 10 :: [] from rfl, dLines_cut (dVState m).2 [] h3]
    rfl
  rw [e, List.flatMap_append, List.flatMap_cons, List.flatMap_nil, List.append_nil]
  exact h5 m0
theorem dMark_word (vars : Int) (k : Nat) (b : Bool) (m : List Bool) (hk : ((k + 1 : Nat) : Int) ≤ vars) : dMark vars m (dVWord (k + 1) b) = if b = true then m.set k true else m := by
  have hi := dNum_itoa ((k + 1 : Nat) : Int) vars (by omega) hk
  cases b with
  | true =>
    unfold dMark dVWord
    rw [if_pos rfl, hi, if_pos ⟨rfl, rfl, by show (0 : Int) < ((k + 1 : Nat) : Int); omega⟩, if_pos rfl]
    congr 1
    show (((k + 1 : Nat) : Int) - 1).toNat = k
    omega
  | false =>
    have hn : (45 :: Lib.itoa ((k + 1 : Nat) : Int)) = 45 :: Lib.decDigits (k + 1) := by rw [Lib.itoa_nonneg]
    have hm := dNum_neg (k + 1) vars (by omega) hk
    unfold dMark dVWord
    rw [if_neg (show ¬ (false = true) by decide), hn, hm, if_neg ?_, if_neg (show ¬ (false = true) by decide)]
    rintro ⟨_, _, h⟩
    have : (0 : Int) < -((k + 1 : Nat) : Int) := h
    omega
theorem dMark_zero (vars : Int) (m : List Bool) (h0 : 0 ≤ vars) : dMark vars m [48] = m := by
  unfold dMark
  have hi := dNum_itoa 0 vars (by omega) h0
  rw [itoa_zero] at hi
  rw [hi, if_neg ?_]
  rintro ⟨_, _, h⟩
  exact absurd h (by decide)
theorem marks_back (vars : Int) : ∀ (bs pre : List Bool), ((pre.length + bs.length : Nat) : Int) ≤ vars → (dVW (pre.length + 1) bs).foldl (dMark vars) (pre ++ List.replicate bs.length false) = pre ++ bs := by
  intro bs
  induction bs with
  | nil => intro pre _; rfl
  | cons b bs ih =>
    intro pre h
    rw [List.length_cons] at h
    rw [dVW, List.foldl_cons, dMark_word vars pre.length b _ (by omega)]
    have e : (if b = true then (pre ++ List.replicate (b :: bs).length false).set pre.length true else pre ++ List.replicate (b :: bs).length false) = (pre ++ [b]) ++ List.replicate bs.length false := by
      rw [List.length_cons, List.replicate_succ]
      cases b with
      | true =>
        rw [if_pos rfl, List.set_append_right _ _ (Nat.le_refl _), Nat.sub_self, List.set_cons_zero, List.append_assoc]
        rfl
      | false =>
        rw [if_neg (by decide), List.append_assoc]
        rfl
    rw [e]
    have := ih (pre ++ [b]) (by rw [List.length_append, List.length_singleton]; omega)
    rw [List.length_append, List.length_singleton] at this
    rw [this, List.append_assoc]
    rfl
theorem model_back (m : List Bool) (hm : m.length ≤ 1048576) : dModel (dValues m) (m.length : Int) = (m, 0) := by
  have h : ((dLines (dValues m)).flatMap dWords).foldl (dMark (m.length : Int)) (List.replicate m.length false) = m := by
    rw [values_words, List.foldl_append]
    have := marks_back (m.length : Int) m [] (by simp)
    rw [List.nil_append, List.nil_append] at this
    rw [show (1 : Nat) = ([] : List Bool).length + 1 from rfl, this, List.foldl_cons, dMark_zero _ _ (Int.natCast_nonneg _)]
    rfl
  unfold dModel
  rw [if_neg (by omega), Int.toNat_natCast, h, if_pos rfl]
end Go.Proofs.YtigloobbpcnnhaaGreatDoor.PB
end
section
namespace Go.Proofs.YtigloobbpcnnhaaGreatDoor.PB
open Go.RowKit Go.Proofs.YtigloobbpcnnhaaGreatDoorW.PrintWords Go.Proofs.YtigloobbpcnnhaaGreatDoorW.PrintLast Go.Proofs.YtigloobbpcnnhaaGreatDoorW.PrintMore
set_option linter.unusedVariables false
set_option linter.unusedSimpArgs false
theorem dPut_tot (s : List UInt8 × List UInt8) (x : List UInt8) : (dPut s x).1.length + (dPut s x).2.length ≤ s.1.length + s.2.length + x.length + 3 := by
  unfold dPut
  split
  · simp only [List.length_append, List.length_cons, List.length_nil]
    omega
  · simp only [List.length_append, List.length_cons, List.length_nil]
    omega
theorem dVSt_tot (m : List Bool) (hm : m.length ≤ 1100000) : ∀ k, k ≤ m.length → (dVSt m k).1.length + (dVSt m k).2.length ≤ 1 + 25 * k
  | 0, _ => by
    have : dVSt m 0 = ([], [118]) := by unfold dVSt; rw [List.take_zero]; rfl
    rw [this]
    decide
  | k + 1, h => by
    have h1 := dVSt_tot m hm k (by omega)
    rw [dVSt_succ m k (by omega)]
    have h2 := dPut_tot (dVSt m k) (dVWord (k + 1) m[k])
    have h3 := dVWord_len (k + 1) m[k] (by omega)
    omega
theorem dValues_len (m : List Bool) (hm : m.length ≤ 3000) : (dValues m).length ≤ 100000 := by
  have h1 := dVSt_tot m (by omega) m.length (Nat.le_refl _)
  have h2 := dPut_tot (dVSt m m.length) [48]
  rw [← dVState_eq] at h2
  unfold dValues
  simp only [List.length_append, List.length_cons, List.length_nil] at h2 ⊢
  omega
theorem glit_i32 {v x : Int} (hv : v ≤ 1048576) (h : Glit v x) : I32 x := by
  unfold Glit at h
  unfold I32
  omega
set_option maxHeartbeats 4000000 in
set_option maxRecDepth 100000 in
theorem returns_calls (v : Int) (A : Option Addr) (c : Nat) (cs : List (List Int)) (s : List UInt8) (Am : Option Addr) (cm : Nat) (m : List Bool) (w : World) (hC : kcs.C w A cs.length cs) (hc : cs.length ≤ c) (hg : GoodF cs) (hv : -9223372036854775808 ≤ v ∧ v ≤ 9223372036854775807) (hM : Kd.bool.C w Am m.length m) (hmc : m.length ≤ cm) (hlt : LT w.heap.size w) :
    Calls Tryz.prog 10 #[.agg #[.int .i64 v, .slice A cs.length c], .string (baOf s), .slice Am m.length cm] w fun e w' => e = .returned (.bool true) ∧ Below w.heap.size w w' := by
  have HLT := Aside0.mk hlt
  have HCC := Aside0.mk hc
  have HMC := Aside0.mk hmc
  obtain ⟨sB, hsB⟩ : ∃ sB, sB = baOf s := ⟨_, rfl⟩
  have hsz : sB.size = s.length := by rw [hsB]; rfl
  have HSB := Aside0.mk hsB
  rw [← hsB]
  obtain ⟨sz, hse, hsm⟩ := size_ev v cs hg.1 (fun q hq => (hg.2 q hq).1)
  obtain ⟨ks, hks⟩ := hse.rounds
  have HKS := Aside0.mk hks
  have hml := hM.2.1
  obtain ⟨W1, hW1⟩ : ∃ W1, W1 = w.alloc (.cells #[.int .i64 v, .slice A cs.length c] 35) := ⟨_, rfl⟩
  have HG0 := Aside0.mk (show W1.heap[w.heap.size]? = some (.cells #[.int .i64 v, .slice A cs.length c] 35 (0, 0)) by rw [hW1]; exact blk_new w _)
  have HC0 := Aside0.mk (show kcs.C W1 A cs.length cs by rw [hW1]; exact Kd.C_below hC (below_alloc (Below.refl _ _) _))
  have HM0 := Aside0.mk (show Kd.bool.C W1 Am m.length m by rw [hW1]; exact Kd.C_below hM (below_alloc (Below.refl _ _) _))
  have HB0 := Aside0.mk (show Below w.heap.size w W1 by rw [hW1]; exact below_alloc (Below.refl _ _) _)
  clear hlt hC hc hM hmc hse hks hsB
  by_cases h1 : 3000 < sz
  · have t1 : decide (3000 < sz) = true := decide_eq_true h1
    go_enter Tryz.func10, Tryz.ntmps10
    go_wp2_with (go_at_call 24; rw [← hW1]; refine (threshingkit_Size.calls ks v A c cs 3000 sz W1 HC0.out HCC.out HKS.out).mono ?_; rintro e w2 ⟨rfl, hb⟩; have HB2 := Aside0.mk (below_step HB0.out hb); clear hb)
    go_ret
    exact ⟨rfl, HB2.out⟩
  have t1 : decide (3000 < sz) = false := decide_eq_false h1
  have hsum := hsm (by omega)
  by_cases h3 : 3000 < sB.size
  · have t5 : decide (3000 < sB.size) = true := decide_eq_true h3
    have t6 : decide (3000 < (sB.size : Int)) = true := decide_eq_true (by omega)
    go_enter Tryz.func10, Tryz.ntmps10
    go_wp2_with (go_at_call 24; rw [← hW1]; refine (threshingkit_Size.calls ks v A c cs 3000 sz W1 HC0.out HCC.out HKS.out).mono ?_; rintro e w2 ⟨rfl, hb⟩; have HB2 := Aside0.mk (below_step HB0.out hb); clear hb)
    go_ret
    exact ⟨rfl, HB2.out⟩
  have t5 : decide (3000 < sB.size) = false := decide_eq_false h3
  have t6 : decide (3000 < (sB.size : Int)) = false := decide_eq_false (by omega)
  by_cases h2 : 3000 < m.length
  · have t3 : decide (3000 < m.length) = true := decide_eq_true h2
    have t4 : decide (3000 < (m.length : Int)) = true := decide_eq_true (by omega)
    go_enter Tryz.func10, Tryz.ntmps10
    go_wp2_with (go_at_call 24; rw [← hW1]; refine (threshingkit_Size.calls ks v A c cs 3000 sz W1 HC0.out HCC.out HKS.out).mono ?_; rintro e w2 ⟨rfl, hb⟩; have HB2 := Aside0.mk (below_step HB0.out hb); clear hb)
    go_ret
    exact ⟨rfl, HB2.out⟩
  have t3 : decide (3000 < m.length) = false := decide_eq_false h2
  have t4 : decide (3000 < (m.length : Int)) = false := decide_eq_false (by omega)
  have hin : ∀ q ∈ cs, q.length ≤ 3000 := fun q hq => by have := sum_mem cs q hq; omega
  have HSL := Aside0.mk (show s.length ≤ 3000 by omega)
  obtain ⟨km, hkm⟩ := (sameM_ev m (by omega)).rounds
  have HKM := Aside0.mk hkm
  obtain ⟨vB, hvB⟩ : ∃ vB, vB = baOf (dValues m) := ⟨_, rfl⟩
  have HVB := Aside0.mk hvB
  have HML := Aside0.mk (show m.length ≤ 3000 by omega)
  have HVL := Aside0.mk (dValues_len m (by omega))
  have HMB := Aside0.mk (model_back m (by omega))
  have HPG := Aside0.mk (show (∀ q ∈ cs, q.length ≤ 140737488355328 ∧ ∀ x ∈ q, I32 x) ∧ cs.length ≤ 140737488355328 ∧ (cs.map List.length).sum + cs.length ≤ 1000000 from ⟨fun q hq => ⟨by have := hin q hq; omega, (hg.2 q hq).2⟩, by omega, by omega⟩)
  have HCL := Aside0.mk (show cs.length ≤ 1000000000 ∧ ∀ q ∈ cs, q.length ≤ 1000000000 from ⟨by omega, fun q hq => by have := hin q hq; omega⟩)
  have TP1 := Aside0.mk trivial
  have TP2 := Aside0.mk trivial
  have TA1 := Aside0.mk trivial
  have TA2 := Aside0.mk trivial
  have TA3 := Aside0.mk trivial
  have TS1 := Aside0.mk trivial
  have TS2 := Aside0.mk trivial
  obtain ⟨tx, htx⟩ : ∃ tx, tx = dText v cs := ⟨_, rfl⟩
  have HTX := Aside0.mk htx
  have h1t := hsum
  have HPK := Aside0.mk (dParse_kinds s)
  clear hvB hkm hsum hin hg hv hml hsm hsz htx
  by_cases hz : dRight v cs = 0
  · have HDR := Aside0.mk hz
    have hdr := (dRight_zero v cs).1 hz
    have HPT := Aside0.mk (show dParse tx = ((v, cs), 0, 0) by rw [HTX.out]; exact parse_text v cs hdr)
    have HTL := Aside0.mk (show tx.length ≤ 100000 by rw [HTX.out]; have := dText_len v cs hdr; omega)
    have HP2 := Aside0.mk (show (dPrint v cs).2 = 0 by unfold dPrint; rw [if_pos hz])
    clear hz hdr h1t
    rcases HPK.out with ⟨er, en, hps, he0, hn1, hn2⟩ | ⟨vx, cx, hps, hdx, hsx⟩
    · have HPS := Aside0.mk hps
      have t8 : (er == 0) = false := beq_eq_false_iff_ne.2 he0
      have t8n : (er != 0) = true := by rw [bne, t8]; rfl
      have t9 : decide (en < 1) = false := decide_eq_false (by omega)
      clear hps he0
      go_enter Tryz.func10, Tryz.ntmps10
      go_wp2_with (first | (go_at_call 24; rw [← hW1]; refine (threshingkit_Size.calls ks v A c cs 3000 sz W1 HC0.out HCC.out HKS.out).mono ?_; rintro e w2 ⟨rfl, hb⟩; have HB1 := Aside0.mk (below_step HB0.out hb); have HG1 := Aside0.mk (blk_below HG0.out hb); have HC1 := Aside0.mk (Kd.C_below HC0.out hb); have HM1 := Aside0.mk (Kd.C_below HM0.out hb); have hczHG0 := (blk_cell HG1.out 0).trans (show _ = some (Value.int .i64 v) from rfl); have hczHG1 := (blk_cell HG1.out 1).trans (show _ = some (Value.slice A cs.length c) from rfl); clear hb HB0 HG0 HC0 HM0; clear hW1) | (go_at_call 21; have := TP1; clear TP1 this; have hp := print_calls v A c cs w2 HC1.out HCC.out HPG.out.1 HPG.out.2.1 HPG.out.2.2 (HLT.out.pay HB1.out); rw [HP2.out] at hp; refine hp.mono ?_; clear hp; rintro e w3 ⟨rv, rfl, ⟨hem, _⟩, hb⟩; have hem1 := hem HDR.out; clear hem; rw [← HTX.out] at hem1; obtain ⟨ge, ce, rfl, _, _, hce⟩ := hem1.slice; have HEM := Aside0.mk hem1; have HCE := Aside0.mk hce; clear hem1 hce; clear hczHG0; clear hczHG1; have HB2 := Aside0.mk (below_step HB1.out hb); have HG2 := Aside0.mk (blk_below HG1.out hb); have HC2 := Aside0.mk (Kd.C_below HC1.out hb); have HM2 := Aside0.mk (Kd.C_below HM1.out hb); have hczHG0 := (blk_cell HG2.out 0).trans (show _ = some (Value.int .i64 v) from rfl); have hczHG1 := (blk_cell HG2.out 1).trans (show _ = some (Value.slice A cs.length c) from rfl); clear hb HB1 HG1 HC1 HM1) | (go_at_call 20; have := TA1; clear TA1 this; have hp := parse_c w w3 ⟨ge, 0, none⟩ tx ce HEM.out.C HCE.out HTL.out HLT.out HB2.out; rw [HPT.out] at hp; refine hp.mono ?_; clear hp; rintro e w4 ⟨A4, c4, rfl, hC, hcc, _, hb⟩; have HC4 := Aside0.mk (Kd.C_below hC (below_alloc (Below.refl _ _) (.cells #[.int .i64 v, .slice A4 cs.length c4] 35))); have HE4 := Aside0.mk hcc; replace hb := below_alloc hb (.cells #[.int .i64 v, .slice A4 cs.length c4] 35); clear hczHG0; clear hczHG1; have HB3 := Aside0.mk (below_step HB2.out hb); have HG3 := Aside0.mk (blk_below HG2.out hb); have HC3 := Aside0.mk (Kd.C_below HC2.out hb); have HM3 := Aside0.mk (Kd.C_below HM2.out hb); have hczHG0 := (blk_cell HG3.out 0).trans (show _ = some (Value.int .i64 v) from rfl); have hczHG1 := (blk_cell HG3.out 1).trans (show _ = some (Value.slice A cs.length c) from rfl); clear hb HB2 HG2 HC2 HM2; clear hC hcc) | (go_at_call 23; have := TS1; clear TS1 this; refine (same_calls (w4.alloc (.cells #[.int .i64 v, .slice A4 cs.length c4] 35)) (w4.alloc (.cells #[.int .i64 v, .slice A4 cs.length c4] 35)) v cs A A4 c c4 HC3.out HCC.out HC4.out HE4.out HCL.out (Below.refl _ _)).mono ?_; rintro e w5 ⟨rfl, hb⟩; clear hczHG0; clear hczHG1; have HB4 := Aside0.mk (below_step HB3.out hb); have HG4 := Aside0.mk (blk_below HG3.out hb); have HC4 := Aside0.mk (Kd.C_below HC3.out hb); have HM4 := Aside0.mk (Kd.C_below HM3.out hb); have hczHG0 := (blk_cell HG4.out 0).trans (show _ = some (Value.int .i64 v) from rfl); have hczHG1 := (blk_cell HG4.out 1).trans (show _ = some (Value.slice A cs.length c) from rfl); clear hb HB3 HG3 HC3 HM3) | ((with_reducible refine gate_dst (N := 61) rfl ?_); refine text_event 9 46 (.tmp 60) rfl rfl s ?hx Tryz.underlying9 Tryz.underlying46 Tryz.underlying5 (by have := HSL.out; omega) ?_; (case hx => rw [← HSB.out]; rfl); intro g6 c6 w6 hC6 hc6 hb; have HC6 := Aside0.mk hC6; have Hc6 := Aside0.mk hc6; clear hC6 hc6; clear hczHG0; clear hczHG1; have HB5 := Aside0.mk (below_step HB4.out hb); have HG5 := Aside0.mk (blk_below HG4.out hb); have HC5 := Aside0.mk (Kd.C_below HC4.out hb); have HM5 := Aside0.mk (Kd.C_below HM4.out hb); have hczHG0 := (blk_cell HG5.out 0).trans (show _ = some (Value.int .i64 v) from rfl); have hczHG1 := (blk_cell HG5.out 1).trans (show _ = some (Value.slice A cs.length c) from rfl); clear hb HB4 HG4 HC4 HM4) | (go_at_call 20; have := TA2; clear TA2 this; have hp := parse_c w w6 ⟨g6, 0, none⟩ s c6 HC6.out Hc6.out (by have := HSL.out; omega) HLT.out HB5.out; rw [HPS.out] at hp; refine hp.mono ?_; clear hp; rintro e w7 ⟨A7, c7, rfl, hC, hcc, _, hb⟩; have HC7 := Aside0.mk (Kd.C_below hC (below_alloc (Below.refl _ _) (.cells #[.int .i64 0, .slice A7 0 c7] 35))); have HE7 := Aside0.mk hcc; replace hb := below_alloc hb (.cells #[.int .i64 0, .slice A7 0 c7] 35); clear hczHG0; clear hczHG1; have HB6 := Aside0.mk (below_step HB5.out hb); have HG6 := Aside0.mk (blk_below HG5.out hb); have HC6 := Aside0.mk (Kd.C_below HC5.out hb); have HM6 := Aside0.mk (Kd.C_below HM5.out hb); have hczHG0 := (blk_cell HG6.out 0).trans (show _ = some (Value.int .i64 v) from rfl); have hczHG1 := (blk_cell HG6.out 1).trans (show _ = some (Value.slice A cs.length c) from rfl); clear hb HB5 HG5 HC5 HM5; clear hC hcc) | (go_at_call 12; have hp := values_calls Am cm m (w7.alloc (.cells #[.int .i64 0, .slice A7 0 c7] 35)) HM6.out HMC.out (by have := HML.out; omega) (HLT.out.pay HB6.out); rw [← HVB.out] at hp; refine hp.mono ?_; clear hp; rintro e w13 ⟨rfl, hb⟩; clear hczHG0; clear hczHG1; have HB7 := Aside0.mk (below_step HB6.out hb); have HG7 := Aside0.mk (blk_below HG6.out hb); have HC7 := Aside0.mk (Kd.C_below HC6.out hb); have HM7 := Aside0.mk (Kd.C_below HM6.out hb); have hczHG0 := (blk_cell HG7.out 0).trans (show _ = some (Value.int .i64 v) from rfl); have hczHG1 := (blk_cell HG7.out 1).trans (show _ = some (Value.slice A cs.length c) from rfl); clear hb HB6 HG6 HC6 HM6) | (go_at_call 5; have hp := model_calls (dValues m) (m.length : Int) w13 HVL.out (by have := HML.out; omega) (HLT.out.pay HB7.out); rw [← HVB.out, HMB.out] at hp; refine hp.mono ?_; clear hp; rintro e w14 ⟨A14, c14, rfl, hC, hcc, hb⟩; have HN14 := Aside0.mk hC; have HD14 := Aside0.mk hcc; clear hC hcc; clear hczHG0; clear hczHG1; have HB8 := Aside0.mk (below_step HB7.out hb); have HG8 := Aside0.mk (blk_below HG7.out hb); have HC8 := Aside0.mk (Kd.C_below HC7.out hb); have HM8 := Aside0.mk (Kd.C_below HM7.out hb); have hczHG0 := (blk_cell HG8.out 0).trans (show _ = some (Value.int .i64 v) from rfl); have hczHG1 := (blk_cell HG8.out 1).trans (show _ = some (Value.slice A cs.length c) from rfl); clear hb HB7 HG7 HC7 HM7) | (go_at_call 7; refine (threshingkit_SameModel.calls km A14 c14 m Am cm m true w14 HN14.out HD14.out HM8.out HMC.out HKM.out).mono ?_; rintro e w15 ⟨rfl, hdr⟩; have hb : Below w14.heap.size w14 w15 := (by obtain ⟨q, rfl⟩ := hdr; exact pw_below_drewN (Below.refl _ _) q); clear hdr; clear hczHG0; clear hczHG1; have HB9 := Aside0.mk (below_step HB8.out hb); have HG9 := Aside0.mk (blk_below HG8.out hb); have HC9 := Aside0.mk (Kd.C_below HC8.out hb); have HM9 := Aside0.mk (Kd.C_below HM8.out hb); have hczHG0 := (blk_cell HG9.out 0).trans (show _ = some (Value.int .i64 v) from rfl); have hczHG1 := (blk_cell HG9.out 1).trans (show _ = some (Value.slice A cs.length c) from rfl); clear hb HB8 HG8 HC8 HM8) | (go_at_call 8; refine (works_c w w15 HLT.out HB9.out).mono ?_; rintro e w16 ⟨rfl, hb⟩; have HB16 := Aside0.mk hb; clear hb))
      go_ret
      exact ⟨rfl, HB16.out⟩
    · have HPS := Aside0.mk hps
      obtain ⟨ty, hty⟩ : ∃ ty, ty = dText vx cx := ⟨_, rfl⟩
      have HTY := Aside0.mk hty
      have HDX := Aside0.mk ((dRight_zero vx cx).2 hdx)
      have HPY := Aside0.mk (show dParse ty = ((vx, cx), 0, 0) by rw [hty]; exact parse_text vx cx hdx)
      have HTYL := Aside0.mk (show ty.length ≤ 100000 by rw [hty]; have := dText_len vx cx hdx; have := HSL.out; omega)
      have hinx : ∀ q ∈ cx, q.length ≤ 3000 ∧ ∀ x ∈ q, I32 x := fun q hq => ⟨by have := sum_mem cx q hq; have := HSL.out; omega, fun x hx => glit_i32 hdx.v1 (hdx.g q hq x hx)⟩
      have HPX := Aside0.mk (show (∀ q ∈ cx, q.length ≤ 140737488355328 ∧ ∀ x ∈ q, I32 x) ∧ cx.length ≤ 140737488355328 ∧ (cx.map List.length).sum + cx.length ≤ 1000000 from ⟨fun q hq => ⟨by have := (hinx q hq).1; omega, (hinx q hq).2⟩, by have := HSL.out; omega, by have := HSL.out; omega⟩)
      have HPX2 := Aside0.mk (show (dPrint vx cx).2 = 0 by unfold dPrint; rw [if_pos HDX.out])
      have HCX := Aside0.mk (show cx.length ≤ 1000000000 ∧ ∀ q ∈ cx, q.length ≤ 1000000000 from ⟨by have := HSL.out; omega, fun q hq => by have := (hinx q hq).1; omega⟩)
      obtain ⟨kr, hkr⟩ := (cright_ev vx cx (by have := HSL.out; omega) (fun q hq => ⟨by have := (hinx q hq).1; omega, (hinx q hq).2⟩)).rounds
      rw [HDX.out] at hkr
      have HKR := Aside0.mk hkr
      clear hps hty hinx hkr hdx hsx
      go_enter Tryz.func10, Tryz.ntmps10
      go_wp2_with (first | (go_at_call 24; rw [← hW1]; refine (threshingkit_Size.calls ks v A c cs 3000 sz W1 HC0.out HCC.out HKS.out).mono ?_; rintro e w2 ⟨rfl, hb⟩; have HB1 := Aside0.mk (below_step HB0.out hb); have HG1 := Aside0.mk (blk_below HG0.out hb); have HC1 := Aside0.mk (Kd.C_below HC0.out hb); have HM1 := Aside0.mk (Kd.C_below HM0.out hb); have hczHG0 := (blk_cell HG1.out 0).trans (show _ = some (Value.int .i64 v) from rfl); have hczHG1 := (blk_cell HG1.out 1).trans (show _ = some (Value.slice A cs.length c) from rfl); clear hb HB0 HG0 HC0 HM0; clear hW1) | (go_at_call 21; have := TP1; clear TP1 this; have hp := print_calls v A c cs w2 HC1.out HCC.out HPG.out.1 HPG.out.2.1 HPG.out.2.2 (HLT.out.pay HB1.out); rw [HP2.out] at hp; refine hp.mono ?_; clear hp; rintro e w3 ⟨rv, rfl, ⟨hem, _⟩, hb⟩; have hem1 := hem HDR.out; clear hem; rw [← HTX.out] at hem1; obtain ⟨ge, ce, rfl, _, _, hce⟩ := hem1.slice; have HEM := Aside0.mk hem1; have HCE := Aside0.mk hce; clear hem1 hce; clear hczHG0; clear hczHG1; have HB2 := Aside0.mk (below_step HB1.out hb); have HG2 := Aside0.mk (blk_below HG1.out hb); have HC2 := Aside0.mk (Kd.C_below HC1.out hb); have HM2 := Aside0.mk (Kd.C_below HM1.out hb); have hczHG0 := (blk_cell HG2.out 0).trans (show _ = some (Value.int .i64 v) from rfl); have hczHG1 := (blk_cell HG2.out 1).trans (show _ = some (Value.slice A cs.length c) from rfl); clear hb HB1 HG1 HC1 HM1) | (go_at_call 20; have := TA1; clear TA1 this; have hp := parse_c w w3 ⟨ge, 0, none⟩ tx ce HEM.out.C HCE.out HTL.out HLT.out HB2.out; rw [HPT.out] at hp; refine hp.mono ?_; clear hp; rintro e w4 ⟨A4, c4, rfl, hC, hcc, _, hb⟩; have HC4 := Aside0.mk (Kd.C_below hC (below_alloc (Below.refl _ _) (.cells #[.int .i64 v, .slice A4 cs.length c4] 35))); have HE4 := Aside0.mk hcc; replace hb := below_alloc hb (.cells #[.int .i64 v, .slice A4 cs.length c4] 35); clear hczHG0; clear hczHG1; have HB3 := Aside0.mk (below_step HB2.out hb); have HG3 := Aside0.mk (blk_below HG2.out hb); have HC3 := Aside0.mk (Kd.C_below HC2.out hb); have HM3 := Aside0.mk (Kd.C_below HM2.out hb); have hczHG0 := (blk_cell HG3.out 0).trans (show _ = some (Value.int .i64 v) from rfl); have hczHG1 := (blk_cell HG3.out 1).trans (show _ = some (Value.slice A cs.length c) from rfl); clear hb HB2 HG2 HC2 HM2; clear hC hcc) | (go_at_call 23; have := TS1; clear TS1 this; refine (same_calls (w4.alloc (.cells #[.int .i64 v, .slice A4 cs.length c4] 35)) (w4.alloc (.cells #[.int .i64 v, .slice A4 cs.length c4] 35)) v cs A A4 c c4 HC3.out HCC.out HC4.out HE4.out HCL.out (Below.refl _ _)).mono ?_; rintro e w5 ⟨rfl, hb⟩; clear hczHG0; clear hczHG1; have HB4 := Aside0.mk (below_step HB3.out hb); have HG4 := Aside0.mk (blk_below HG3.out hb); have HC4 := Aside0.mk (Kd.C_below HC3.out hb); have HM4 := Aside0.mk (Kd.C_below HM3.out hb); have hczHG0 := (blk_cell HG4.out 0).trans (show _ = some (Value.int .i64 v) from rfl); have hczHG1 := (blk_cell HG4.out 1).trans (show _ = some (Value.slice A cs.length c) from rfl); clear hb HB3 HG3 HC3 HM3) | ((with_reducible refine gate_dst (N := 61) rfl ?_); refine text_event 9 46 (.tmp 60) rfl rfl s ?hx Tryz.underlying9 Tryz.underlying46 Tryz.underlying5 (by have := HSL.out; omega) ?_; (case hx => rw [← HSB.out]; rfl); intro g6 c6 w6 hC6 hc6 hb; have HC6 := Aside0.mk hC6; have Hc6 := Aside0.mk hc6; clear hC6 hc6; clear hczHG0; clear hczHG1; have HB5 := Aside0.mk (below_step HB4.out hb); have HG5 := Aside0.mk (blk_below HG4.out hb); have HC5 := Aside0.mk (Kd.C_below HC4.out hb); have HM5 := Aside0.mk (Kd.C_below HM4.out hb); have hczHG0 := (blk_cell HG5.out 0).trans (show _ = some (Value.int .i64 v) from rfl); have hczHG1 := (blk_cell HG5.out 1).trans (show _ = some (Value.slice A cs.length c) from rfl); clear hb HB4 HG4 HC4 HM4) | (go_at_call 20; have := TA2; clear TA2 this; have hp := parse_c w w6 ⟨g6, 0, none⟩ s c6 HC6.out Hc6.out (by have := HSL.out; omega) HLT.out HB5.out; rw [HPS.out] at hp; refine hp.mono ?_; clear hp; rintro e w7 ⟨A7, c7, rfl, hC, hcc, _, hb⟩; have HC7 := Aside0.mk (Kd.C_below hC (below_alloc (Below.refl _ _) (.cells #[.int .i64 vx, .slice A7 cx.length c7] 35))); have HE7 := Aside0.mk hcc; replace hb := below_alloc hb (.cells #[.int .i64 vx, .slice A7 cx.length c7] 35); clear hczHG0; clear hczHG1; have HB6 := Aside0.mk (below_step HB5.out hb); have HG6 := Aside0.mk (blk_below HG5.out hb); have HC6 := Aside0.mk (Kd.C_below HC5.out hb); have HM6 := Aside0.mk (Kd.C_below HM5.out hb); have hczHG0 := (blk_cell HG6.out 0).trans (show _ = some (Value.int .i64 v) from rfl); have hczHG1 := (blk_cell HG6.out 1).trans (show _ = some (Value.slice A cs.length c) from rfl); clear hb HB5 HG5 HC5 HM5; clear hC hcc; have HX6 := Aside0.mk (blk_new w7 (.cells #[.int .i64 vx, .slice A7 cx.length c7] 35)); have HY6 := HC7) | (go_at_call 21; have := TP2; clear TP2 this; have hp := print_calls vx A7 c7 cx (w7.alloc (.cells #[.int .i64 vx, .slice A7 cx.length c7] 35)) HY6.out HE7.out HPX.out.1 HPX.out.2.1 HPX.out.2.2 (HLT.out.pay HB6.out); rw [HPX2.out] at hp; refine hp.mono ?_; clear hp; rintro e w9 ⟨rv, rfl, ⟨hem, _⟩, hb⟩; have hem1 := hem HDX.out; clear hem; rw [← HTY.out] at hem1; obtain ⟨gy, cy, rfl, _, _, hcy⟩ := hem1.slice; have HEY := Aside0.mk hem1; have HCY := Aside0.mk hcy; clear hem1 hcy; clear hczHG0; clear hczHG1; have HB7 := Aside0.mk (below_step HB6.out hb); have HG7 := Aside0.mk (blk_below HG6.out hb); have HC7 := Aside0.mk (Kd.C_below HC6.out hb); have HM7 := Aside0.mk (Kd.C_below HM6.out hb); have HX7 := Aside0.mk (blk_below HX6.out hb); have HY7 := Aside0.mk (Kd.C_below HY6.out hb); have hczHG0 := (blk_cell HG7.out 0).trans (show _ = some (Value.int .i64 v) from rfl); have hczHG1 := (blk_cell HG7.out 1).trans (show _ = some (Value.slice A cs.length c) from rfl); have hczHX0 := (blk_cell HX7.out 0).trans (show _ = some (Value.int .i64 vx) from rfl); have hczHX1 := (blk_cell HX7.out 1).trans (show _ = some (Value.slice A7 cx.length c7) from rfl); clear hb HB6 HG6 HC6 HM6 HX6 HY6) | (go_at_call 20; have := TA3; clear TA3 this; have hp := parse_c w w9 ⟨gy, 0, none⟩ ty cy HEY.out.C HCY.out HTYL.out HLT.out HB7.out; rw [HPY.out] at hp; refine hp.mono ?_; clear hp; rintro e w10 ⟨A9, c9, rfl, hC, hcc, _, hb⟩; have HC9 := Aside0.mk (Kd.C_below hC (below_alloc (Below.refl _ _) (.cells #[.int .i64 vx, .slice A9 cx.length c9] 35))); have HE9 := Aside0.mk hcc; replace hb := below_alloc hb (.cells #[.int .i64 vx, .slice A9 cx.length c9] 35); clear hczHG0; clear hczHG1; clear hczHX0; clear hczHX1; have HB8 := Aside0.mk (below_step HB7.out hb); have HG8 := Aside0.mk (blk_below HG7.out hb); have HC8 := Aside0.mk (Kd.C_below HC7.out hb); have HM8 := Aside0.mk (Kd.C_below HM7.out hb); have HX8 := Aside0.mk (blk_below HX7.out hb); have HY8 := Aside0.mk (Kd.C_below HY7.out hb); have hczHG0 := (blk_cell HG8.out 0).trans (show _ = some (Value.int .i64 v) from rfl); have hczHG1 := (blk_cell HG8.out 1).trans (show _ = some (Value.slice A cs.length c) from rfl); have hczHX0 := (blk_cell HX8.out 0).trans (show _ = some (Value.int .i64 vx) from rfl); have hczHX1 := (blk_cell HX8.out 1).trans (show _ = some (Value.slice A7 cx.length c7) from rfl); clear hb HB7 HG7 HC7 HM7 HX7 HY7; clear hC hcc; have HZ8 := Aside0.mk (blk_new w10 (.cells #[.int .i64 vx, .slice A9 cx.length c9] 35)); have HW8 := HC9) | (go_at_call 25; refine (cnf_Right.calls kr vx A7 c7 cx 0 (w10.alloc (.cells #[.int .i64 vx, .slice A9 cx.length c9] 35)) HY8.out HE7.out HKR.out).mono ?_; rintro e w11 ⟨rfl, hb⟩; clear hczHG0; clear hczHG1; clear hczHX0; clear hczHX1; have HB9 := Aside0.mk (below_step HB8.out hb); have HG9 := Aside0.mk (blk_below HG8.out hb); have HC9 := Aside0.mk (Kd.C_below HC8.out hb); have HM9 := Aside0.mk (Kd.C_below HM8.out hb); have HX9 := Aside0.mk (blk_below HX8.out hb); have HY9 := Aside0.mk (Kd.C_below HY8.out hb); have HZ9 := Aside0.mk (blk_below HZ8.out hb); have HW9 := Aside0.mk (Kd.C_below HW8.out hb); have hczHG0 := (blk_cell HG9.out 0).trans (show _ = some (Value.int .i64 v) from rfl); have hczHG1 := (blk_cell HG9.out 1).trans (show _ = some (Value.slice A cs.length c) from rfl); have hczHX0 := (blk_cell HX9.out 0).trans (show _ = some (Value.int .i64 vx) from rfl); have hczHX1 := (blk_cell HX9.out 1).trans (show _ = some (Value.slice A7 cx.length c7) from rfl); have hczHZ0 := (blk_cell HZ9.out 0).trans (show _ = some (Value.int .i64 vx) from rfl); have hczHZ1 := (blk_cell HZ9.out 1).trans (show _ = some (Value.slice A9 cx.length c9) from rfl); clear hb HB8 HG8 HC8 HM8 HX8 HY8 HZ8 HW8) | (go_at_call 23; have := TS2; clear TS2 this; refine (same_calls w11 w11 vx cx A7 A9 c7 c9 HY9.out HE7.out HW9.out HE9.out HCX.out (Below.refl _ _)).mono ?_; rintro e w12 ⟨rfl, hb⟩; clear hczHG0; clear hczHG1; clear hczHX0; clear hczHX1; clear hczHZ0; clear hczHZ1; have HB10 := Aside0.mk (below_step HB9.out hb); have HG10 := Aside0.mk (blk_below HG9.out hb); have HC10 := Aside0.mk (Kd.C_below HC9.out hb); have HM10 := Aside0.mk (Kd.C_below HM9.out hb); have HX10 := Aside0.mk (blk_below HX9.out hb); have HY10 := Aside0.mk (Kd.C_below HY9.out hb); have HZ10 := Aside0.mk (blk_below HZ9.out hb); have HW10 := Aside0.mk (Kd.C_below HW9.out hb); have hczHG0 := (blk_cell HG10.out 0).trans (show _ = some (Value.int .i64 v) from rfl); have hczHG1 := (blk_cell HG10.out 1).trans (show _ = some (Value.slice A cs.length c) from rfl); have hczHX0 := (blk_cell HX10.out 0).trans (show _ = some (Value.int .i64 vx) from rfl); have hczHX1 := (blk_cell HX10.out 1).trans (show _ = some (Value.slice A7 cx.length c7) from rfl); have hczHZ0 := (blk_cell HZ10.out 0).trans (show _ = some (Value.int .i64 vx) from rfl); have hczHZ1 := (blk_cell HZ10.out 1).trans (show _ = some (Value.slice A9 cx.length c9) from rfl); clear hb HB9 HG9 HC9 HM9 HX9 HY9 HZ9 HW9) | (go_at_call 12; have hp := values_calls Am cm m w12 HM10.out HMC.out (by have := HML.out; omega) (HLT.out.pay HB10.out); rw [← HVB.out] at hp; refine hp.mono ?_; clear hp; rintro e w13 ⟨rfl, hb⟩; clear hczHG0; clear hczHG1; clear hczHX0; clear hczHX1; clear hczHZ0; clear hczHZ1; have HB11 := Aside0.mk (below_step HB10.out hb); have HG11 := Aside0.mk (blk_below HG10.out hb); have HC11 := Aside0.mk (Kd.C_below HC10.out hb); have HM11 := Aside0.mk (Kd.C_below HM10.out hb); have HX11 := Aside0.mk (blk_below HX10.out hb); have HY11 := Aside0.mk (Kd.C_below HY10.out hb); have HZ11 := Aside0.mk (blk_below HZ10.out hb); have HW11 := Aside0.mk (Kd.C_below HW10.out hb); have hczHG0 := (blk_cell HG11.out 0).trans (show _ = some (Value.int .i64 v) from rfl); have hczHG1 := (blk_cell HG11.out 1).trans (show _ = some (Value.slice A cs.length c) from rfl); have hczHX0 := (blk_cell HX11.out 0).trans (show _ = some (Value.int .i64 vx) from rfl); have hczHX1 := (blk_cell HX11.out 1).trans (show _ = some (Value.slice A7 cx.length c7) from rfl); have hczHZ0 := (blk_cell HZ11.out 0).trans (show _ = some (Value.int .i64 vx) from rfl); have hczHZ1 := (blk_cell HZ11.out 1).trans (show _ = some (Value.slice A9 cx.length c9) from rfl); clear hb HB10 HG10 HC10 HM10 HX10 HY10 HZ10 HW10) | (go_at_call 5; have hp := model_calls (dValues m) (m.length : Int) w13 HVL.out (by have := HML.out; omega) (HLT.out.pay HB11.out); rw [← HVB.out, HMB.out] at hp; refine hp.mono ?_; clear hp; rintro e w14 ⟨A14, c14, rfl, hC, hcc, hb⟩; have HN14 := Aside0.mk hC; have HD14 := Aside0.mk hcc; clear hC hcc; clear hczHG0; clear hczHG1; clear hczHX0; clear hczHX1; clear hczHZ0; clear hczHZ1; have HB12 := Aside0.mk (below_step HB11.out hb); have HG12 := Aside0.mk (blk_below HG11.out hb); have HC12 := Aside0.mk (Kd.C_below HC11.out hb); have HM12 := Aside0.mk (Kd.C_below HM11.out hb); have HX12 := Aside0.mk (blk_below HX11.out hb); have HY12 := Aside0.mk (Kd.C_below HY11.out hb); have HZ12 := Aside0.mk (blk_below HZ11.out hb); have HW12 := Aside0.mk (Kd.C_below HW11.out hb); have hczHG0 := (blk_cell HG12.out 0).trans (show _ = some (Value.int .i64 v) from rfl); have hczHG1 := (blk_cell HG12.out 1).trans (show _ = some (Value.slice A cs.length c) from rfl); have hczHX0 := (blk_cell HX12.out 0).trans (show _ = some (Value.int .i64 vx) from rfl); have hczHX1 := (blk_cell HX12.out 1).trans (show _ = some (Value.slice A7 cx.length c7) from rfl); have hczHZ0 := (blk_cell HZ12.out 0).trans (show _ = some (Value.int .i64 vx) from rfl); have hczHZ1 := (blk_cell HZ12.out 1).trans (show _ = some (Value.slice A9 cx.length c9) from rfl); clear hb HB11 HG11 HC11 HM11 HX11 HY11 HZ11 HW11) | (go_at_call 7; refine (threshingkit_SameModel.calls km A14 c14 m Am cm m true w14 HN14.out HD14.out HM12.out HMC.out HKM.out).mono ?_; rintro e w15 ⟨rfl, hdr⟩; have hb : Below w14.heap.size w14 w15 := (by obtain ⟨q, rfl⟩ := hdr; exact pw_below_drewN (Below.refl _ _) q); clear hdr; clear hczHG0; clear hczHG1; clear hczHX0; clear hczHX1; clear hczHZ0; clear hczHZ1; have HB13 := Aside0.mk (below_step HB12.out hb); have HG13 := Aside0.mk (blk_below HG12.out hb); have HC13 := Aside0.mk (Kd.C_below HC12.out hb); have HM13 := Aside0.mk (Kd.C_below HM12.out hb); have HX13 := Aside0.mk (blk_below HX12.out hb); have HY13 := Aside0.mk (Kd.C_below HY12.out hb); have HZ13 := Aside0.mk (blk_below HZ12.out hb); have HW13 := Aside0.mk (Kd.C_below HW12.out hb); have hczHG0 := (blk_cell HG13.out 0).trans (show _ = some (Value.int .i64 v) from rfl); have hczHG1 := (blk_cell HG13.out 1).trans (show _ = some (Value.slice A cs.length c) from rfl); have hczHX0 := (blk_cell HX13.out 0).trans (show _ = some (Value.int .i64 vx) from rfl); have hczHX1 := (blk_cell HX13.out 1).trans (show _ = some (Value.slice A7 cx.length c7) from rfl); have hczHZ0 := (blk_cell HZ13.out 0).trans (show _ = some (Value.int .i64 vx) from rfl); have hczHZ1 := (blk_cell HZ13.out 1).trans (show _ = some (Value.slice A9 cx.length c9) from rfl); clear hb HB12 HG12 HC12 HM12 HX12 HY12 HZ12 HW12) | (go_at_call 8; refine (works_c w w15 HLT.out HB13.out).mono ?_; rintro e w16 ⟨rfl, hb⟩; have HB16 := Aside0.mk hb; clear hb))
      go_ret
      exact ⟨rfl, HB16.out⟩
  · have HDR := Aside0.mk hz
    obtain ⟨pe, hpe⟩ : ∃ pe, pe = dRight v cs := ⟨_, rfl⟩
    have HP2 := Aside0.mk (show (dPrint v cs).2 = pe by unfold dPrint; rw [if_neg hz, hpe])
    have t7 : (pe == 0) = false := beq_eq_false_iff_ne.2 (by rw [hpe]; exact hz)
    clear hz hpe h1t
    rcases HPK.out with ⟨er, en, hps, he0, hn1, hn2⟩ | ⟨vx, cx, hps, hdx, hsx⟩
    · have HPS := Aside0.mk hps
      have t8 : (er == 0) = false := beq_eq_false_iff_ne.2 he0
      have t8n : (er != 0) = true := by rw [bne, t8]; rfl
      have t9 : decide (en < 1) = false := decide_eq_false (by omega)
      clear hps he0
      go_enter Tryz.func10, Tryz.ntmps10
      go_wp2_with (first | (go_at_call 24; rw [← hW1]; refine (threshingkit_Size.calls ks v A c cs 3000 sz W1 HC0.out HCC.out HKS.out).mono ?_; rintro e w2 ⟨rfl, hb⟩; have HB1 := Aside0.mk (below_step HB0.out hb); have HG1 := Aside0.mk (blk_below HG0.out hb); have HC1 := Aside0.mk (Kd.C_below HC0.out hb); have HM1 := Aside0.mk (Kd.C_below HM0.out hb); have hczHG0 := (blk_cell HG1.out 0).trans (show _ = some (Value.int .i64 v) from rfl); have hczHG1 := (blk_cell HG1.out 1).trans (show _ = some (Value.slice A cs.length c) from rfl); clear hb HB0 HG0 HC0 HM0; clear hW1) | (go_at_call 21; have := TP1; clear TP1 this; have hp := print_calls v A c cs w2 HC1.out HCC.out HPG.out.1 HPG.out.2.1 HPG.out.2.2 (HLT.out.pay HB1.out); rw [HP2.out] at hp; refine hp.mono ?_; clear hp; rintro e w5 ⟨rv, rfl, ⟨_, hnil⟩, hb⟩; obtain rfl := hnil HDR.out; clear hnil; clear hczHG0; clear hczHG1; have HB2 := Aside0.mk (below_step HB1.out hb); have HG2 := Aside0.mk (blk_below HG1.out hb); have HC2 := Aside0.mk (Kd.C_below HC1.out hb); have HM2 := Aside0.mk (Kd.C_below HM1.out hb); have hczHG0 := (blk_cell HG2.out 0).trans (show _ = some (Value.int .i64 v) from rfl); have hczHG1 := (blk_cell HG2.out 1).trans (show _ = some (Value.slice A cs.length c) from rfl); clear hb HB1 HG1 HC1 HM1) | ((with_reducible refine gate_dst (N := 61) rfl ?_); refine text_event 9 46 (.tmp 60) rfl rfl s ?hx Tryz.underlying9 Tryz.underlying46 Tryz.underlying5 (by have := HSL.out; omega) ?_; (case hx => rw [← HSB.out]; rfl); intro g6 c6 w6 hC6 hc6 hb; have HC6 := Aside0.mk hC6; have Hc6 := Aside0.mk hc6; clear hC6 hc6; clear hczHG0; clear hczHG1; have HB3 := Aside0.mk (below_step HB2.out hb); have HG3 := Aside0.mk (blk_below HG2.out hb); have HC3 := Aside0.mk (Kd.C_below HC2.out hb); have HM3 := Aside0.mk (Kd.C_below HM2.out hb); have hczHG0 := (blk_cell HG3.out 0).trans (show _ = some (Value.int .i64 v) from rfl); have hczHG1 := (blk_cell HG3.out 1).trans (show _ = some (Value.slice A cs.length c) from rfl); clear hb HB2 HG2 HC2 HM2) | (go_at_call 20; have := TA2; clear TA2 this; have hp := parse_c w w6 ⟨g6, 0, none⟩ s c6 HC6.out Hc6.out (by have := HSL.out; omega) HLT.out HB3.out; rw [HPS.out] at hp; refine hp.mono ?_; clear hp; rintro e w7 ⟨A7, c7, rfl, hC, hcc, _, hb⟩; have HC7 := Aside0.mk (Kd.C_below hC (below_alloc (Below.refl _ _) (.cells #[.int .i64 0, .slice A7 0 c7] 35))); have HE7 := Aside0.mk hcc; replace hb := below_alloc hb (.cells #[.int .i64 0, .slice A7 0 c7] 35); clear hczHG0; clear hczHG1; have HB4 := Aside0.mk (below_step HB3.out hb); have HG4 := Aside0.mk (blk_below HG3.out hb); have HC4 := Aside0.mk (Kd.C_below HC3.out hb); have HM4 := Aside0.mk (Kd.C_below HM3.out hb); have hczHG0 := (blk_cell HG4.out 0).trans (show _ = some (Value.int .i64 v) from rfl); have hczHG1 := (blk_cell HG4.out 1).trans (show _ = some (Value.slice A cs.length c) from rfl); clear hb HB3 HG3 HC3 HM3; clear hC hcc) | (go_at_call 12; have hp := values_calls Am cm m (w7.alloc (.cells #[.int .i64 0, .slice A7 0 c7] 35)) HM4.out HMC.out (by have := HML.out; omega) (HLT.out.pay HB4.out); rw [← HVB.out] at hp; refine hp.mono ?_; clear hp; rintro e w13 ⟨rfl, hb⟩; clear hczHG0; clear hczHG1; have HB5 := Aside0.mk (below_step HB4.out hb); have HG5 := Aside0.mk (blk_below HG4.out hb); have HC5 := Aside0.mk (Kd.C_below HC4.out hb); have HM5 := Aside0.mk (Kd.C_below HM4.out hb); have hczHG0 := (blk_cell HG5.out 0).trans (show _ = some (Value.int .i64 v) from rfl); have hczHG1 := (blk_cell HG5.out 1).trans (show _ = some (Value.slice A cs.length c) from rfl); clear hb HB4 HG4 HC4 HM4) | (go_at_call 5; have hp := model_calls (dValues m) (m.length : Int) w13 HVL.out (by have := HML.out; omega) (HLT.out.pay HB5.out); rw [← HVB.out, HMB.out] at hp; refine hp.mono ?_; clear hp; rintro e w14 ⟨A14, c14, rfl, hC, hcc, hb⟩; have HN14 := Aside0.mk hC; have HD14 := Aside0.mk hcc; clear hC hcc; clear hczHG0; clear hczHG1; have HB6 := Aside0.mk (below_step HB5.out hb); have HG6 := Aside0.mk (blk_below HG5.out hb); have HC6 := Aside0.mk (Kd.C_below HC5.out hb); have HM6 := Aside0.mk (Kd.C_below HM5.out hb); have hczHG0 := (blk_cell HG6.out 0).trans (show _ = some (Value.int .i64 v) from rfl); have hczHG1 := (blk_cell HG6.out 1).trans (show _ = some (Value.slice A cs.length c) from rfl); clear hb HB5 HG5 HC5 HM5) | (go_at_call 7; refine (threshingkit_SameModel.calls km A14 c14 m Am cm m true w14 HN14.out HD14.out HM6.out HMC.out HKM.out).mono ?_; rintro e w15 ⟨rfl, hdr⟩; have hb : Below w14.heap.size w14 w15 := (by obtain ⟨q, rfl⟩ := hdr; exact pw_below_drewN (Below.refl _ _) q); clear hdr; clear hczHG0; clear hczHG1; have HB7 := Aside0.mk (below_step HB6.out hb); have HG7 := Aside0.mk (blk_below HG6.out hb); have HC7 := Aside0.mk (Kd.C_below HC6.out hb); have HM7 := Aside0.mk (Kd.C_below HM6.out hb); have hczHG0 := (blk_cell HG7.out 0).trans (show _ = some (Value.int .i64 v) from rfl); have hczHG1 := (blk_cell HG7.out 1).trans (show _ = some (Value.slice A cs.length c) from rfl); clear hb HB6 HG6 HC6 HM6) | (go_at_call 8; refine (works_c w w15 HLT.out HB7.out).mono ?_; rintro e w16 ⟨rfl, hb⟩; have HB16 := Aside0.mk hb; clear hb))
      go_ret
      exact ⟨rfl, HB16.out⟩
    · have HPS := Aside0.mk hps
      obtain ⟨ty, hty⟩ : ∃ ty, ty = dText vx cx := ⟨_, rfl⟩
      have HTY := Aside0.mk hty
      have HDX := Aside0.mk ((dRight_zero vx cx).2 hdx)
      have HPY := Aside0.mk (show dParse ty = ((vx, cx), 0, 0) by rw [hty]; exact parse_text vx cx hdx)
      have HTYL := Aside0.mk (show ty.length ≤ 100000 by rw [hty]; have := dText_len vx cx hdx; have := HSL.out; omega)
      have hinx : ∀ q ∈ cx, q.length ≤ 3000 ∧ ∀ x ∈ q, I32 x := fun q hq => ⟨by have := sum_mem cx q hq; have := HSL.out; omega, fun x hx => glit_i32 hdx.v1 (hdx.g q hq x hx)⟩
      have HPX := Aside0.mk (show (∀ q ∈ cx, q.length ≤ 140737488355328 ∧ ∀ x ∈ q, I32 x) ∧ cx.length ≤ 140737488355328 ∧ (cx.map List.length).sum + cx.length ≤ 1000000 from ⟨fun q hq => ⟨by have := (hinx q hq).1; omega, (hinx q hq).2⟩, by have := HSL.out; omega, by have := HSL.out; omega⟩)
      have HPX2 := Aside0.mk (show (dPrint vx cx).2 = 0 by unfold dPrint; rw [if_pos HDX.out])
      have HCX := Aside0.mk (show cx.length ≤ 1000000000 ∧ ∀ q ∈ cx, q.length ≤ 1000000000 from ⟨by have := HSL.out; omega, fun q hq => by have := (hinx q hq).1; omega⟩)
      obtain ⟨kr, hkr⟩ := (cright_ev vx cx (by have := HSL.out; omega) (fun q hq => ⟨by have := (hinx q hq).1; omega, (hinx q hq).2⟩)).rounds
      rw [HDX.out] at hkr
      have HKR := Aside0.mk hkr
      clear hps hty hinx hkr hdx hsx
      go_enter Tryz.func10, Tryz.ntmps10
      go_wp2_with (first | (go_at_call 24; rw [← hW1]; refine (threshingkit_Size.calls ks v A c cs 3000 sz W1 HC0.out HCC.out HKS.out).mono ?_; rintro e w2 ⟨rfl, hb⟩; have HB1 := Aside0.mk (below_step HB0.out hb); have HG1 := Aside0.mk (blk_below HG0.out hb); have HC1 := Aside0.mk (Kd.C_below HC0.out hb); have HM1 := Aside0.mk (Kd.C_below HM0.out hb); have hczHG0 := (blk_cell HG1.out 0).trans (show _ = some (Value.int .i64 v) from rfl); have hczHG1 := (blk_cell HG1.out 1).trans (show _ = some (Value.slice A cs.length c) from rfl); clear hb HB0 HG0 HC0 HM0; clear hW1) | (go_at_call 21; have := TP1; clear TP1 this; have hp := print_calls v A c cs w2 HC1.out HCC.out HPG.out.1 HPG.out.2.1 HPG.out.2.2 (HLT.out.pay HB1.out); rw [HP2.out] at hp; refine hp.mono ?_; clear hp; rintro e w5 ⟨rv, rfl, ⟨_, hnil⟩, hb⟩; obtain rfl := hnil HDR.out; clear hnil; clear hczHG0; clear hczHG1; have HB2 := Aside0.mk (below_step HB1.out hb); have HG2 := Aside0.mk (blk_below HG1.out hb); have HC2 := Aside0.mk (Kd.C_below HC1.out hb); have HM2 := Aside0.mk (Kd.C_below HM1.out hb); have hczHG0 := (blk_cell HG2.out 0).trans (show _ = some (Value.int .i64 v) from rfl); have hczHG1 := (blk_cell HG2.out 1).trans (show _ = some (Value.slice A cs.length c) from rfl); clear hb HB1 HG1 HC1 HM1) | ((with_reducible refine gate_dst (N := 61) rfl ?_); refine text_event 9 46 (.tmp 60) rfl rfl s ?hx Tryz.underlying9 Tryz.underlying46 Tryz.underlying5 (by have := HSL.out; omega) ?_; (case hx => rw [← HSB.out]; rfl); intro g6 c6 w6 hC6 hc6 hb; have HC6 := Aside0.mk hC6; have Hc6 := Aside0.mk hc6; clear hC6 hc6; clear hczHG0; clear hczHG1; have HB3 := Aside0.mk (below_step HB2.out hb); have HG3 := Aside0.mk (blk_below HG2.out hb); have HC3 := Aside0.mk (Kd.C_below HC2.out hb); have HM3 := Aside0.mk (Kd.C_below HM2.out hb); have hczHG0 := (blk_cell HG3.out 0).trans (show _ = some (Value.int .i64 v) from rfl); have hczHG1 := (blk_cell HG3.out 1).trans (show _ = some (Value.slice A cs.length c) from rfl); clear hb HB2 HG2 HC2 HM2) | (go_at_call 20; have := TA2; clear TA2 this; have hp := parse_c w w6 ⟨g6, 0, none⟩ s c6 HC6.out Hc6.out (by have := HSL.out; omega) HLT.out HB3.out; rw [HPS.out] at hp; refine hp.mono ?_; clear hp; rintro e w7 ⟨A7, c7, rfl, hC, hcc, _, hb⟩; have HC7 := Aside0.mk (Kd.C_below hC (below_alloc (Below.refl _ _) (.cells #[.int .i64 vx, .slice A7 cx.length c7] 35))); have HE7 := Aside0.mk hcc; replace hb := below_alloc hb (.cells #[.int .i64 vx, .slice A7 cx.length c7] 35); clear hczHG0; clear hczHG1; have HB4 := Aside0.mk (below_step HB3.out hb); have HG4 := Aside0.mk (blk_below HG3.out hb); have HC4 := Aside0.mk (Kd.C_below HC3.out hb); have HM4 := Aside0.mk (Kd.C_below HM3.out hb); have hczHG0 := (blk_cell HG4.out 0).trans (show _ = some (Value.int .i64 v) from rfl); have hczHG1 := (blk_cell HG4.out 1).trans (show _ = some (Value.slice A cs.length c) from rfl); clear hb HB3 HG3 HC3 HM3; clear hC hcc; have HX4 := Aside0.mk (blk_new w7 (.cells #[.int .i64 vx, .slice A7 cx.length c7] 35)); have HY4 := HC7) | (go_at_call 21; have := TP2; clear TP2 this; have hp := print_calls vx A7 c7 cx (w7.alloc (.cells #[.int .i64 vx, .slice A7 cx.length c7] 35)) HY4.out HE7.out HPX.out.1 HPX.out.2.1 HPX.out.2.2 (HLT.out.pay HB4.out); rw [HPX2.out] at hp; refine hp.mono ?_; clear hp; rintro e w9 ⟨rv, rfl, ⟨hem, _⟩, hb⟩; have hem1 := hem HDX.out; clear hem; rw [← HTY.out] at hem1; obtain ⟨gy, cy, rfl, _, _, hcy⟩ := hem1.slice; have HEY := Aside0.mk hem1; have HCY := Aside0.mk hcy; clear hem1 hcy; clear hczHG0; clear hczHG1; have HB5 := Aside0.mk (below_step HB4.out hb); have HG5 := Aside0.mk (blk_below HG4.out hb); have HC5 := Aside0.mk (Kd.C_below HC4.out hb); have HM5 := Aside0.mk (Kd.C_below HM4.out hb); have HX5 := Aside0.mk (blk_below HX4.out hb); have HY5 := Aside0.mk (Kd.C_below HY4.out hb); have hczHG0 := (blk_cell HG5.out 0).trans (show _ = some (Value.int .i64 v) from rfl); have hczHG1 := (blk_cell HG5.out 1).trans (show _ = some (Value.slice A cs.length c) from rfl); have hczHX0 := (blk_cell HX5.out 0).trans (show _ = some (Value.int .i64 vx) from rfl); have hczHX1 := (blk_cell HX5.out 1).trans (show _ = some (Value.slice A7 cx.length c7) from rfl); clear hb HB4 HG4 HC4 HM4 HX4 HY4) | (go_at_call 20; have := TA3; clear TA3 this; have hp := parse_c w w9 ⟨gy, 0, none⟩ ty cy HEY.out.C HCY.out HTYL.out HLT.out HB5.out; rw [HPY.out] at hp; refine hp.mono ?_; clear hp; rintro e w10 ⟨A9, c9, rfl, hC, hcc, _, hb⟩; have HC9 := Aside0.mk (Kd.C_below hC (below_alloc (Below.refl _ _) (.cells #[.int .i64 vx, .slice A9 cx.length c9] 35))); have HE9 := Aside0.mk hcc; replace hb := below_alloc hb (.cells #[.int .i64 vx, .slice A9 cx.length c9] 35); clear hczHG0; clear hczHG1; clear hczHX0; clear hczHX1; have HB6 := Aside0.mk (below_step HB5.out hb); have HG6 := Aside0.mk (blk_below HG5.out hb); have HC6 := Aside0.mk (Kd.C_below HC5.out hb); have HM6 := Aside0.mk (Kd.C_below HM5.out hb); have HX6 := Aside0.mk (blk_below HX5.out hb); have HY6 := Aside0.mk (Kd.C_below HY5.out hb); have hczHG0 := (blk_cell HG6.out 0).trans (show _ = some (Value.int .i64 v) from rfl); have hczHG1 := (blk_cell HG6.out 1).trans (show _ = some (Value.slice A cs.length c) from rfl); have hczHX0 := (blk_cell HX6.out 0).trans (show _ = some (Value.int .i64 vx) from rfl); have hczHX1 := (blk_cell HX6.out 1).trans (show _ = some (Value.slice A7 cx.length c7) from rfl); clear hb HB5 HG5 HC5 HM5 HX5 HY5; clear hC hcc; have HZ6 := Aside0.mk (blk_new w10 (.cells #[.int .i64 vx, .slice A9 cx.length c9] 35)); have HW6 := HC9) | (go_at_call 25; refine (cnf_Right.calls kr vx A7 c7 cx 0 (w10.alloc (.cells #[.int .i64 vx, .slice A9 cx.length c9] 35)) HY6.out HE7.out HKR.out).mono ?_; rintro e w11 ⟨rfl, hb⟩; clear hczHG0; clear hczHG1; clear hczHX0; clear hczHX1; have HB7 := Aside0.mk (below_step HB6.out hb); have HG7 := Aside0.mk (blk_below HG6.out hb); have HC7 := Aside0.mk (Kd.C_below HC6.out hb); have HM7 := Aside0.mk (Kd.C_below HM6.out hb); have HX7 := Aside0.mk (blk_below HX6.out hb); have HY7 := Aside0.mk (Kd.C_below HY6.out hb); have HZ7 := Aside0.mk (blk_below HZ6.out hb); have HW7 := Aside0.mk (Kd.C_below HW6.out hb); have hczHG0 := (blk_cell HG7.out 0).trans (show _ = some (Value.int .i64 v) from rfl); have hczHG1 := (blk_cell HG7.out 1).trans (show _ = some (Value.slice A cs.length c) from rfl); have hczHX0 := (blk_cell HX7.out 0).trans (show _ = some (Value.int .i64 vx) from rfl); have hczHX1 := (blk_cell HX7.out 1).trans (show _ = some (Value.slice A7 cx.length c7) from rfl); have hczHZ0 := (blk_cell HZ7.out 0).trans (show _ = some (Value.int .i64 vx) from rfl); have hczHZ1 := (blk_cell HZ7.out 1).trans (show _ = some (Value.slice A9 cx.length c9) from rfl); clear hb HB6 HG6 HC6 HM6 HX6 HY6 HZ6 HW6) | (go_at_call 23; have := TS2; clear TS2 this; refine (same_calls w11 w11 vx cx A7 A9 c7 c9 HY7.out HE7.out HW7.out HE9.out HCX.out (Below.refl _ _)).mono ?_; rintro e w12 ⟨rfl, hb⟩; clear hczHG0; clear hczHG1; clear hczHX0; clear hczHX1; clear hczHZ0; clear hczHZ1; have HB8 := Aside0.mk (below_step HB7.out hb); have HG8 := Aside0.mk (blk_below HG7.out hb); have HC8 := Aside0.mk (Kd.C_below HC7.out hb); have HM8 := Aside0.mk (Kd.C_below HM7.out hb); have HX8 := Aside0.mk (blk_below HX7.out hb); have HY8 := Aside0.mk (Kd.C_below HY7.out hb); have HZ8 := Aside0.mk (blk_below HZ7.out hb); have HW8 := Aside0.mk (Kd.C_below HW7.out hb); have hczHG0 := (blk_cell HG8.out 0).trans (show _ = some (Value.int .i64 v) from rfl); have hczHG1 := (blk_cell HG8.out 1).trans (show _ = some (Value.slice A cs.length c) from rfl); have hczHX0 := (blk_cell HX8.out 0).trans (show _ = some (Value.int .i64 vx) from rfl); have hczHX1 := (blk_cell HX8.out 1).trans (show _ = some (Value.slice A7 cx.length c7) from rfl); have hczHZ0 := (blk_cell HZ8.out 0).trans (show _ = some (Value.int .i64 vx) from rfl); have hczHZ1 := (blk_cell HZ8.out 1).trans (show _ = some (Value.slice A9 cx.length c9) from rfl); clear hb HB7 HG7 HC7 HM7 HX7 HY7 HZ7 HW7) | (go_at_call 12; have hp := values_calls Am cm m w12 HM8.out HMC.out (by have := HML.out; omega) (HLT.out.pay HB8.out); rw [← HVB.out] at hp; refine hp.mono ?_; clear hp; rintro e w13 ⟨rfl, hb⟩; clear hczHG0; clear hczHG1; clear hczHX0; clear hczHX1; clear hczHZ0; clear hczHZ1; have HB9 := Aside0.mk (below_step HB8.out hb); have HG9 := Aside0.mk (blk_below HG8.out hb); have HC9 := Aside0.mk (Kd.C_below HC8.out hb); have HM9 := Aside0.mk (Kd.C_below HM8.out hb); have HX9 := Aside0.mk (blk_below HX8.out hb); have HY9 := Aside0.mk (Kd.C_below HY8.out hb); have HZ9 := Aside0.mk (blk_below HZ8.out hb); have HW9 := Aside0.mk (Kd.C_below HW8.out hb); have hczHG0 := (blk_cell HG9.out 0).trans (show _ = some (Value.int .i64 v) from rfl); have hczHG1 := (blk_cell HG9.out 1).trans (show _ = some (Value.slice A cs.length c) from rfl); have hczHX0 := (blk_cell HX9.out 0).trans (show _ = some (Value.int .i64 vx) from rfl); have hczHX1 := (blk_cell HX9.out 1).trans (show _ = some (Value.slice A7 cx.length c7) from rfl); have hczHZ0 := (blk_cell HZ9.out 0).trans (show _ = some (Value.int .i64 vx) from rfl); have hczHZ1 := (blk_cell HZ9.out 1).trans (show _ = some (Value.slice A9 cx.length c9) from rfl); clear hb HB8 HG8 HC8 HM8 HX8 HY8 HZ8 HW8) | (go_at_call 5; have hp := model_calls (dValues m) (m.length : Int) w13 HVL.out (by have := HML.out; omega) (HLT.out.pay HB9.out); rw [← HVB.out, HMB.out] at hp; refine hp.mono ?_; clear hp; rintro e w14 ⟨A14, c14, rfl, hC, hcc, hb⟩; have HN14 := Aside0.mk hC; have HD14 := Aside0.mk hcc; clear hC hcc; clear hczHG0; clear hczHG1; clear hczHX0; clear hczHX1; clear hczHZ0; clear hczHZ1; have HB10 := Aside0.mk (below_step HB9.out hb); have HG10 := Aside0.mk (blk_below HG9.out hb); have HC10 := Aside0.mk (Kd.C_below HC9.out hb); have HM10 := Aside0.mk (Kd.C_below HM9.out hb); have HX10 := Aside0.mk (blk_below HX9.out hb); have HY10 := Aside0.mk (Kd.C_below HY9.out hb); have HZ10 := Aside0.mk (blk_below HZ9.out hb); have HW10 := Aside0.mk (Kd.C_below HW9.out hb); have hczHG0 := (blk_cell HG10.out 0).trans (show _ = some (Value.int .i64 v) from rfl); have hczHG1 := (blk_cell HG10.out 1).trans (show _ = some (Value.slice A cs.length c) from rfl); have hczHX0 := (blk_cell HX10.out 0).trans (show _ = some (Value.int .i64 vx) from rfl); have hczHX1 := (blk_cell HX10.out 1).trans (show _ = some (Value.slice A7 cx.length c7) from rfl); have hczHZ0 := (blk_cell HZ10.out 0).trans (show _ = some (Value.int .i64 vx) from rfl); have hczHZ1 := (blk_cell HZ10.out 1).trans (show _ = some (Value.slice A9 cx.length c9) from rfl); clear hb HB9 HG9 HC9 HM9 HX9 HY9 HZ9 HW9) | (go_at_call 7; refine (threshingkit_SameModel.calls km A14 c14 m Am cm m true w14 HN14.out HD14.out HM10.out HMC.out HKM.out).mono ?_; rintro e w15 ⟨rfl, hdr⟩; have hb : Below w14.heap.size w14 w15 := (by obtain ⟨q, rfl⟩ := hdr; exact pw_below_drewN (Below.refl _ _) q); clear hdr; clear hczHG0; clear hczHG1; clear hczHX0; clear hczHX1; clear hczHZ0; clear hczHZ1; have HB11 := Aside0.mk (below_step HB10.out hb); have HG11 := Aside0.mk (blk_below HG10.out hb); have HC11 := Aside0.mk (Kd.C_below HC10.out hb); have HM11 := Aside0.mk (Kd.C_below HM10.out hb); have HX11 := Aside0.mk (blk_below HX10.out hb); have HY11 := Aside0.mk (Kd.C_below HY10.out hb); have HZ11 := Aside0.mk (blk_below HZ10.out hb); have HW11 := Aside0.mk (Kd.C_below HW10.out hb); have hczHG0 := (blk_cell HG11.out 0).trans (show _ = some (Value.int .i64 v) from rfl); have hczHG1 := (blk_cell HG11.out 1).trans (show _ = some (Value.slice A cs.length c) from rfl); have hczHX0 := (blk_cell HX11.out 0).trans (show _ = some (Value.int .i64 vx) from rfl); have hczHX1 := (blk_cell HX11.out 1).trans (show _ = some (Value.slice A7 cx.length c7) from rfl); have hczHZ0 := (blk_cell HZ11.out 0).trans (show _ = some (Value.int .i64 vx) from rfl); have hczHZ1 := (blk_cell HZ11.out 1).trans (show _ = some (Value.slice A9 cx.length c9) from rfl); clear hb HB10 HG10 HC10 HM10 HX10 HY10 HZ10 HW10) | (go_at_call 8; refine (works_c w w15 HLT.out HB11.out).mono ?_; rintro e w16 ⟨rfl, hb⟩; have HB16 := Aside0.mk hb; clear hb))
      go_ret
      exact ⟨rfl, HB16.out⟩
end Go.Proofs.YtigloobbpcnnhaaGreatDoor.PB
end
section
namespace Go.Proofs.YtigloobbpcnnhaaGreatDoor.PB
open Go.RowKit Go.Proofs.YtigloobbpcnnhaaGreatDoorW.PrintWords Go.Proofs.YtigloobbpcnnhaaGreatDoorW.PrintLast Go.Proofs.YtigloobbpcnnhaaGreatDoorW.PrintMore
set_option linter.unusedVariables false
set_option linter.unusedSimpArgs false
def kS1 : List ByteArray := [(⟨#[]⟩ : ByteArray), (⟨#[99]⟩ : ByteArray), (⟨#[99, 10]⟩ : ByteArray), (⟨#[10, 10]⟩ : ByteArray), (⟨#[112]⟩ : ByteArray), (⟨#[112, 32, 99, 110, 102]⟩ : ByteArray), (⟨#[112, 32, 99, 110, 102, 32, 49]⟩ : ByteArray), (⟨#[112, 32, 99, 110, 102, 32, 49, 32, 49]⟩ : ByteArray), (⟨#[112, 32, 99, 110, 102, 32, 49, 32, 49, 32, 49]⟩ : ByteArray), (⟨#[112, 32, 99, 110, 102, 32, 45, 49, 32, 49]⟩ : ByteArray), (⟨#[112, 32, 99, 110, 102, 32, 48, 49, 32, 49]⟩ : ByteArray), (⟨#[112, 32, 99, 110, 102, 32, 48, 32, 48]⟩ : ByteArray), (⟨#[112, 32, 99, 110, 102, 32, 48, 32, 48, 10, 48]⟩ : ByteArray), (⟨#[112, 32, 100, 110, 102, 32, 49, 32, 49]⟩ : ByteArray), (⟨#[80, 32, 99, 110, 102, 32, 49, 32, 49]⟩ : ByteArray), (⟨#[32, 112, 32, 99, 110, 102, 32, 50, 32, 49, 10, 49, 32, 48]⟩ : ByteArray), (⟨#[9, 112, 9, 99, 110, 102, 9, 50, 13, 49, 13, 10, 49, 13, 48, 10]⟩ : ByteArray), (⟨#[112, 32, 99, 110, 102, 32, 50, 32, 49, 10, 49]⟩ : ByteArray), (⟨#[112, 32, 99, 110, 102, 32, 50, 32, 49, 10, 49, 10]⟩ : ByteArray), (⟨#[112, 32, 99, 110, 102, 32, 50, 32, 50, 10, 49, 32, 48, 10]⟩ : ByteArray), (⟨#[112, 32, 99, 110, 102, 32, 50, 32, 49, 10, 51, 32, 48]⟩ : ByteArray), (⟨#[112, 32, 99, 110, 102, 32, 50, 32, 49, 10, 45, 51, 32, 48]⟩ : ByteArray), (⟨#[112, 32, 99, 110, 102, 32, 50, 32, 49, 10, 49, 32, 48, 32, 50, 32, 48]⟩ : ByteArray), (⟨#[112, 32, 99, 110, 102, 32, 50, 32, 49, 10, 49, 32, 48, 10, 10, 50]⟩ : ByteArray), (⟨#[112, 32, 99, 110, 102, 32, 50, 32, 49, 10, 48, 49, 32, 48]⟩ : ByteArray), (⟨#[112, 32, 99, 110, 102, 32, 50, 32, 49, 10, 45, 48, 32, 48]⟩ : ByteArray), (⟨#[112, 32, 99, 110, 102, 32, 50, 32, 49, 10, 45, 32, 48]⟩ : ByteArray), (⟨#[112, 32, 99, 110, 102, 32, 50, 32, 49, 10, 45, 45, 49, 32, 48]⟩ : ByteArray), (⟨#[112, 32, 99, 110, 102, 32, 50, 32, 49, 10, 43, 49, 32, 48]⟩ : ByteArray), (⟨#[112, 32, 99, 110, 102, 32, 50, 32, 49, 10, 49, 32, 48, 32, 120]⟩ : ByteArray), (⟨#[112, 32, 99, 110, 102, 32, 50, 32, 49, 10, 49, 32, 48, 120]⟩ : ByteArray), (⟨#[112, 32, 99, 110, 102, 32, 50, 32, 50, 10, 49, 32, 45, 50, 32, 48, 32, 50, 10, 48]⟩ : ByteArray), (⟨#[112, 32, 99, 110, 102, 32, 50, 32, 49, 10, 99, 32, 57, 10, 32, 49, 32, 48]⟩ : ByteArray), (⟨#[112, 32, 99, 110, 102, 32, 50, 32, 49, 10, 32, 99, 32, 57, 10, 49, 32, 48]⟩ : ByteArray), (⟨#[112, 32, 99, 110, 102, 32, 50, 32, 49, 32, 99, 10, 49, 32, 48]⟩ : ByteArray), (⟨#[112, 32, 99, 110, 102, 32, 49, 48, 52, 56, 53, 55, 54, 32, 49, 10, 45, 49, 48, 52, 56, 53, 55, 54, 32, 48]⟩ : ByteArray), (⟨#[112, 32, 99, 110, 102, 32, 49, 48, 52, 56, 53, 55, 55, 32, 49, 10, 49, 32, 48]⟩ : ByteArray), (⟨#[112, 32, 99, 110, 102, 32, 49, 32, 49, 48, 52, 56, 53, 55, 55, 10, 49, 32, 48]⟩ : ByteArray), (⟨#[112, 32, 99, 110, 102, 32, 57, 57, 57, 57, 57, 57, 57, 57, 57, 57, 57, 57, 57, 57, 57, 57, 57, 57, 57, 57, 32, 49, 10]⟩ : ByteArray), (⟨#[112, 32, 99, 110, 102, 32, 49, 32, 57, 57, 57, 57, 57, 57, 57, 57, 57, 57, 57, 57, 57, 57, 57, 57, 57, 57, 57, 57, 10]⟩ : ByteArray), (⟨#[112, 32, 99, 110, 102, 32, 50, 32, 49, 10, 57, 57, 57, 57, 57, 57, 57, 57, 57, 57, 57, 57, 57, 57, 57, 57, 57, 57, 57, 57, 32, 48]⟩ : ByteArray), (⟨#[112, 32, 99, 110, 102, 32, 50, 32, 49, 10, 45, 57, 57, 57, 57, 57, 57, 57, 57, 57, 57, 57, 57, 57, 57, 57, 57, 57, 57, 57, 57, 32, 48]⟩ : ByteArray), (⟨#[112, 32, 99, 110, 102, 32, 50, 32, 48, 10, 10, 32, 99, 10]⟩ : ByteArray), (⟨#[112, 32, 99, 110, 102, 32, 50, 32, 48, 10, 49]⟩ : ByteArray), (⟨#[112, 32, 99, 110, 102, 32, 50, 32, 51, 10, 48, 32, 48, 32, 48]⟩ : ByteArray), (⟨#[112, 32, 99, 110, 102, 32, 50, 32, 49, 10, 49, 11, 48]⟩ : ByteArray), (⟨#[112, 32, 99, 110, 102, 32, 50, 32, 49, 10, 49, 32, 255, 32, 48]⟩ : ByteArray), (⟨#[112, 32, 99, 110, 102, 10, 50, 32, 49, 10, 49, 32, 48]⟩ : ByteArray), (⟨#[112, 32, 99, 110, 102, 32, 50, 32, 49, 10, 112, 32, 99, 110, 102, 32, 50, 32, 49, 10]⟩ : ByteArray)]
def kS2 : List ByteArray := [(⟨#[]⟩ : ByteArray), (⟨#[118, 32, 48, 10]⟩ : ByteArray), (⟨#[118, 32, 49, 32, 45, 50, 32, 48, 10]⟩ : ByteArray), (⟨#[118, 32, 49, 32, 45, 50, 10, 118, 32, 48, 10]⟩ : ByteArray), (⟨#[118, 32, 45, 50, 32, 49, 32, 48, 10]⟩ : ByteArray), (⟨#[118, 32, 49, 32, 50, 32, 48]⟩ : ByteArray), (⟨#[118, 32, 32, 49, 32, 50, 32, 48, 10]⟩ : ByteArray)]
def kN1 : List Int := [0, 1, 9, 25, 26, 27, 28, 99, 200]
def kN2 : List Int := [(-1), 0, 2, 1048577]
theorem lit_strs {W : World} {g : Nat} {xs : List ByteArray} {ad : Addr} (h : W.heap[g]? = some (.cells (xs.map Value.string).toArray 9 (0, 0))) (had : ad = ⟨g, 0, none⟩) (i : Nat) (hi : i < xs.length) : ∃ x, W.cell? (ad.add i) = some (.string x) := by
  rw [had, add_plain, blk_cell h i]
  exact ⟨xs[i], by simp [List.getElem?_eq_getElem hi]⟩
theorem lit_nums {W : World} {g : Nat} {xs : List Int} {ad : Addr} (h : W.heap[g]? = some (.cells (xs.map (Value.int .i64)).toArray 3 (0, 0))) (had : ad = ⟨g, 0, none⟩) (i : Nat) (hi : i < xs.length) : W.cell? (ad.add i) = some (.int .i64 xs[i]) := by
  rw [had, add_plain, blk_cell h i]
  simp [List.getElem?_eq_getElem hi]
theorem kN1_nat : ∀ i (h : i < kN1.length), ∃ n : Nat, kN1[i] = (n : Int) ∧ n ≤ 200 := by
  intro i h
  match i, h with
  | 0, _ => exact ⟨0, rfl, by decide⟩
  | 1, _ => exact ⟨1, rfl, by decide⟩
  | 2, _ => exact ⟨9, rfl, by decide⟩
  | 3, _ => exact ⟨25, rfl, by decide⟩
  | 4, _ => exact ⟨26, rfl, by decide⟩
  | 5, _ => exact ⟨27, rfl, by decide⟩
  | 6, _ => exact ⟨28, rfl, by decide⟩
  | 7, _ => exact ⟨99, rfl, by decide⟩
  | 8, _ => exact ⟨200, rfl, by decide⟩
theorem kN2_int : ∀ i (h : i < kN2.length), -1000000000 ≤ kN2[i] ∧ kN2[i] ≤ 1000000000 := by decide
section
variable {P : Program} {ops : Array Oper} {rest : List Oper} {o : Oper} {a : Act} {W : World} {Q : Exit → Act → World → Prop}
theorem lit_event (hgd : o.guard = none) {N : Tmp} (_hd : o.dst = some N) {cs : Array Value} {e : TypeId} {n : Nat}
    (hrun : (execOp a.eval o).run P W = .ok (.value (.slice (some ⟨W.heap.size, 0, none⟩) n n)) (W.alloc (.cells cs e)))
    (h : ∀ g, g = W.heap.size → ∀ w1, w1.heap[g]? = some (.cells cs e (0, 0)) → Below W.heap.size W w1 → wpList P ops Q rest (a.put o.dst (.slice (some ⟨g, 0, none⟩) n n)) w1) : wpList P ops Q (o :: rest) a W :=
  Kd.event_run hgd hrun (h _ rfl _ (blk_new W _) (below_alloc (Below.refl _ _) _))
theorem want_run {w1 : World} {v : Value} (hw : Region.wanted o (yielded ops a.tmps) = true) (hrun : (execOp a.eval o).run P W = .ok (.value v) w1) (h : wpList P ops Q rest (a.put o.dst v) w1) : wpList P ops Q (o :: rest) a W := by
  refine BigFrame.wpList_want hw fun K hK => ?_
  unfold Oper.wp
  rw [hrun]
  exact hK _ _ h
theorem lit_want (hw : Region.wanted o (yielded ops a.tmps) = true) {N : Tmp} (_hd : o.dst = some N) {cs : Array Value} {e : TypeId} {n : Nat}
    (hrun : (execOp a.eval o).run P W = .ok (.value (.slice (some ⟨W.heap.size, 0, none⟩) n n)) (W.alloc (.cells cs e)))
    (h : ∀ g, g = W.heap.size → ∀ w1, w1.heap[g]? = some (.cells cs e (0, 0)) → Below W.heap.size W w1 → wpList P ops Q rest (a.put o.dst (.slice (some ⟨g, 0, none⟩) n n)) w1) : wpList P ops Q (o :: rest) a W :=
  want_run hw hrun (h _ rfl _ (blk_new W _) (below_alloc (Below.refl _ _) _))
end
section
variable {ops : Array Oper} {rest : List Oper} {o : Oper} {a : Act} {W : World} {Q : Exit → Act → World → Prop}
theorem build_want (hw : Region.wanted o (yielded ops a.tmps) = true) (parts : Array (Nat × Operand)) (ho : o.op = .build 35 parts) (cs : Array Value) (hb : Tryz.prog.built 35 (parts.map fun (i, x) => (i, a.eval x)).toList = some cs) (h : wpList Tryz.prog ops Q rest (a.put o.dst (.agg cs)) W) : wpList Tryz.prog ops Q (o :: rest) a W := by
  refine want_run hw (v := .agg cs) (w1 := W) ?_ h
  unfold execOp
  simp only [ho, Sem.run_bind, run_build W 35 _ cs hb, Result.andThen_ok]
  rfl
end
theorem built2 (n : Nat) (g k c : Nat) : Tryz.prog.built 35 [(0, .int .i64 (n : Int)), (1, .slice (some ⟨g, 0, none⟩) k c)] = some #[.int .i64 (n : Int), .slice (some ⟨g, 0, none⟩) k c] := by kernel_rfl
theorem C_ints32 (l : List Int) (w : World) (g : Nat) (cs : Array Value) (hcs : cs.toList = l.map (Value.int .i32)) (h : w.heap[g]? = some (.cells cs 40 (0, 0))) (hl : l.length ≤ 9223372036854775807) : (Kd.int .i32).C w (some ⟨g, 0, none⟩) l.length l := by
  refine Kd.C_of_reads (d := 0) (h1 := fun _ => rfl) ⟨rfl, hl, fun hp => ⟨_, rfl, fun j hj => ?_⟩⟩
  rw [add_plain, blk_cell h j, ← Array.getElem?_toList, hcs]
  rw [List.getElem?_map, List.getElem?_eq_getElem hj, List.getD_eq_getElem?_getD, List.getElem?_eq_getElem hj]
  rfl
theorem C_cls3 (w : World) (g g1 g2 g3 : Nat) (n : Nat) (h1 : w.heap[g1]? = some (.cells #[.int .i32 (n : Int)] 40 (0, 0))) (h2 : w.heap[g2]? = some (.cells #[] 40 (0, 0))) (h3 : w.heap[g3]? = some (.cells #[.int .i32 (-1), .int .i32 1] 40 (0, 0)))
    (h : w.heap[g]? = some (.cells #[.slice (some ⟨g1, 0, none⟩) 1 1, .slice (some ⟨g2, 0, none⟩) 0 0, .slice (some ⟨g3, 0, none⟩) 2 2] 42 (0, 0))) : kcs.C w (some ⟨g, 0, none⟩) 3 [[(n : Int)], [], [-1, 1]] := by
  refine ⟨rfl, by omega, fun _ => ⟨_, rfl, fun j p hj => ?_⟩⟩
  match j, hj with
  | 0, hj =>
    cases hj
    refine ⟨[.slice (some ⟨g1, 0, none⟩) 1 1], rfl, ⟨_, _, rfl, Nat.le_refl 1, C_ints32 [(n : Int)] w g1 _ rfl h1 (by simp)⟩, fun i u hu => ?_⟩
    match i, hu with
    | 0, hu => cases hu; rw [add_plain]; exact (blk_cell h _).trans rfl
  | 1, hj =>
    cases hj
    refine ⟨[.slice (some ⟨g2, 0, none⟩) 0 0], rfl, ⟨_, _, rfl, Nat.le_refl 0, C_ints32 [] w g2 _ rfl h2 (by decide)⟩, fun i u hu => ?_⟩
    match i, hu with
    | 0, hu => cases hu; rw [add_plain]; exact (blk_cell h _).trans rfl
  | 2, hj =>
    cases hj
    refine ⟨[.slice (some ⟨g3, 0, none⟩) 2 2], rfl, ⟨_, _, rfl, Nat.le_refl 2, C_ints32 [-1, 1] w g3 _ rfl h3 (by decide)⟩, fun i u hu => ?_⟩
    match i, hu with
    | 0, hu => cases hu; rw [add_plain]; exact (blk_cell h _).trans rfl
theorem C_cls2 (w : World) (g : Nat) (h : w.heap[g]? = some (.cells #[.slice none 0 0, .slice none 0 0] 42 (0, 0))) : kcs.C w (some ⟨g, 0, none⟩) 2 [[], []] := by
  refine ⟨rfl, by omega, fun _ => ⟨_, rfl, fun j p hj => ?_⟩⟩
  match j, hj with
  | 0, hj =>
    cases hj
    refine ⟨[.slice none 0 0], rfl, ⟨_, _, rfl, Nat.le_refl 0, Kd.C_nil _ _⟩, fun i u hu => ?_⟩
    match i, hu with
    | 0, hu => cases hu; rw [add_plain]; exact (blk_cell h _).trans rfl
  | 1, hj =>
    cases hj
    refine ⟨[.slice none 0 0], rfl, ⟨_, _, rfl, Nat.le_refl 0, Kd.C_nil _ _⟩, fun i u hu => ?_⟩
    match i, hu with
    | 0, hu => cases hu; rw [add_plain]; exact (blk_cell h _).trans rfl
theorem C_boolsN (m : List Bool) (w : World) (g n : Nat) (h : w.heap[g]? = some (.cells (boolsA m) 4 (0, 0))) (hl : m.length = n) (hn : n ≤ 200) : Kd.bool.C w (some ⟨g, 0, none⟩) m.length m := C_bools m w g (boolsA m) (by simp [boolsA]) h (by omega)
theorem good_nil : GoodF [] := ⟨by decide, fun q hq => by cases hq⟩
theorem good_2 : GoodF [[], []] := ⟨by decide, fun q hq => by
  simp only [List.mem_cons, List.not_mem_nil, or_false, or_self] at hq
  subst hq
  exact ⟨by decide, fun x hx => by cases hx⟩⟩
theorem good_3 (n : Nat) (hn : n ≤ 200) : GoodF [[(n : Int)], [], [-1, 1]] := ⟨by simp, fun q hq => by
  simp only [List.mem_cons, List.not_mem_nil, or_false] at hq
  rcases hq with rfl | rfl | rfl
  · exact ⟨by simp, fun x hx => by rw [List.mem_singleton] at hx; subst hx; unfold I32; omega⟩
  · exact ⟨by decide, fun x hx => by cases hx⟩
  · refine ⟨by decide, fun x hx => ?_⟩
    simp only [List.mem_cons, List.not_mem_nil, or_false] at hx
    rcases hx with rfl | rfl <;> (unfold I32; omega)⟩
theorem bools_setB (m : List Bool) (q : Nat) (b : Bool) : (boolsA m).setIfInBounds q (.bool b) = boolsA (m.set q b) := by
  unfold boolsA
  apply Array.ext'
  simp [List.map_set]
theorem ba_eq (s : ByteArray) : baOf s.data.toList = s := by cases s; simp [baOf]
abbrev TrueB (w0 w : World) (e : Ending) (w' : World) : Prop := e = .returned (.bool true) ∧ Below w0.heap.size w0 w' ∧ Below w.heap.size w w'
theorem parses_b (w0 w : World) (s : ByteArray) (hlt : LT w0.heap.size w0) (hB : Below w0.heap.size w0 w) : Calls Tryz.prog 9 #[.string s] w (TrueB w0 w) := by
  have h := parses_calls s.data.toList w (hlt.pay hB)
  rw [ba_eq] at h
  exact h.mono (fun e w2 ⟨h1, h2⟩ => ⟨h1, below_step hB h2, h2⟩)
theorem blanks_b (w0 w : World) (s r : ByteArray) (hlt : LT w0.heap.size w0) (hB : Below w0.heap.size w0 w) : Calls Tryz.prog 11 #[.string s, .string r] w (TrueB w0 w) := by
  have h := blanks_calls s.data.toList r.data.toList w (hlt.pay hB)
  rw [ba_eq, ba_eq] at h
  exact h.mono (fun e w2 ⟨h1, h2⟩ => ⟨h1, below_step hB h2, h2⟩)
theorem models_b (w0 w : World) (s : ByteArray) (n : Int) (hlt : LT w0.heap.size w0) (hB : Below w0.heap.size w0 w) (hn : -9223372036854775808 ≤ n ∧ n ≤ 9223372036854775807) : Calls Tryz.prog 3 #[.string s, .int .i64 n] w (TrueB w0 w) := by
  have h := models_calls s.data.toList n w hn (hlt.pay hB)
  rw [ba_eq] at h
  exact h.mono (fun e w2 ⟨h1, h2⟩ => ⟨h1, below_step hB h2, h2⟩)
theorem returns_b (w0 w : World) (v : Int) (A : Option Addr) (c : Nat) (cs : List (List Int)) (s : ByteArray) (Am : Option Addr) (cm : Nat) (m : List Bool) (hlt : LT w0.heap.size w0) (hB : Below w0.heap.size w0 w) (hC : kcs.C w A cs.length cs) (hc : cs.length ≤ c) (hg : GoodF cs) (hv : -9223372036854775808 ≤ v ∧ v ≤ 9223372036854775807) (hM : Kd.bool.C w Am m.length m) (hmc : m.length ≤ cm) :
    Calls Tryz.prog 10 #[.agg #[.int .i64 v, .slice A cs.length c], .string s, .slice Am m.length cm] w (TrueB w0 w) := by
  have h := returns_calls v A c cs s.data.toList Am cm m w hC hc hg hv hM hmc (hlt.pay hB)
  rw [ba_eq] at h
  exact h.mono (fun e w2 ⟨h1, h2⟩ => ⟨h1, below_step hB h2, h2⟩)
theorem prints_b (w0 w : World) (v : Int) (A : Option Addr) (c : Nat) (cs : List (List Int)) (Am : Option Addr) (cm : Nat) (m : List Bool) (hlt : LT w0.heap.size w0) (hB : Below w0.heap.size w0 w) (hC : kcs.C w A cs.length cs) (hc : cs.length ≤ c) (hg : GoodF cs) (hv : -9223372036854775808 ≤ v ∧ v ≤ 9223372036854775807) (hM : Kd.bool.C w Am m.length m) (hmc : m.length ≤ cm) :
    Calls Tryz.prog 13 #[.agg #[.int .i64 v, .slice A cs.length c], .slice Am m.length cm] w (TrueB w0 w) :=
  (prints_calls v A c cs Am cm m w hC hc hg hv hM hmc (hlt.pay hB)).mono (fun e w2 ⟨h1, h2⟩ => ⟨h1, below_step hB h2, h2⟩)
theorem prints_3 (w0 w : World) (n g g1 g2 g3 gm : Nat) (m : List Bool) (hml : m.length = n) (hn : n ≤ 200) (hlt : LT w0.heap.size w0) (hB : Below w0.heap.size w0 w) (h1 : w.heap[g1]? = some (.cells #[.int .i32 (n : Int)] 40 (0, 0))) (h2 : w.heap[g2]? = some (.cells #[] 40 (0, 0))) (h3 : w.heap[g3]? = some (.cells #[.int .i32 (-1), .int .i32 1] 40 (0, 0)))
    (h : w.heap[g]? = some (.cells #[.slice (some ⟨g1, 0, none⟩) 1 1, .slice (some ⟨g2, 0, none⟩) 0 0, .slice (some ⟨g3, 0, none⟩) 2 2] 42 (0, 0))) (hm : w.heap[gm]? = some (.cells (boolsA m) 4 (0, 0))) :
    Calls Tryz.prog 13 #[.agg #[.int .i64 (n : Int), .slice (some ⟨g, 0, none⟩) 3 3], .slice (some ⟨gm, 0, none⟩) n n] w (TrueB w0 w) := by
  have hp := prints_b w0 w (n : Int) (some ⟨g, 0, none⟩) 3 [[(n : Int)], [], [-1, 1]] (some ⟨gm, 0, none⟩) n m hlt hB (C_cls3 w g g1 g2 g3 n h1 h2 h3 h) (Nat.le_refl _) (good_3 n hn) (by omega) (C_boolsN m w gm n hm hml hn) (Nat.le_of_eq hml)
  rw [hml] at hp
  exact hp
theorem returns_0 (w0 w : World) (s : ByteArray) (hlt : LT w0.heap.size w0) (hB : Below w0.heap.size w0 w) : Calls Tryz.prog 10 #[.agg #[.int .i64 0, .slice none 0 0], .string s, .slice none 0 0] w (TrueB w0 w) :=
  returns_b w0 w 0 none 0 [] s none 0 [] hlt hB (Kd.C_nil _ _) (Nat.le_refl _) good_nil (by decide) (Kd.C_nil _ _) (Nat.le_refl _)
theorem returns_2 (w0 w : World) (n g gm : Nat) (s : ByteArray) (m : List Bool) (hml : m.length = n) (hn : n ≤ 200) (hlt : LT w0.heap.size w0) (hB : Below w0.heap.size w0 w) (h : w.heap[g]? = some (.cells #[.slice none 0 0, .slice none 0 0] 42 (0, 0))) (hm : w.heap[gm]? = some (.cells (boolsA m) 4 (0, 0))) :
    Calls Tryz.prog 10 #[.agg #[.int .i64 (n : Int), .slice (some ⟨g, 0, none⟩) 2 2], .string s, .slice (some ⟨gm, 0, none⟩) n n] w (TrueB w0 w) := by
  have hp := returns_b w0 w (n : Int) (some ⟨g, 0, none⟩) 2 [[], []] s (some ⟨gm, 0, none⟩) n m hlt hB (C_cls2 w g h) (Nat.le_refl _) good_2 (by omega) (C_boolsN m w gm n hm hml hn) (Nat.le_of_eq hml)
  rw [hml] at hp
  exact hp
theorem values_n (w0 w : World) (n gm : Nat) (m : List Bool) (hml : m.length = n) (hn : n ≤ 200) (hlt : LT w0.heap.size w0) (hB : Below w0.heap.size w0 w) (hm : w.heap[gm]? = some (.cells (boolsA m) 4 (0, 0))) :
    Calls Tryz.prog 12 #[.slice (some ⟨gm, 0, none⟩) n n] w fun e w' => e = .returned (.string (baOf (dValues m))) ∧ Below w0.heap.size w0 w' ∧ Below w.heap.size w w' := by
  have hp := values_calls (some ⟨gm, 0, none⟩) n m w (C_boolsN m w gm n hm hml hn) (Nat.le_of_eq hml) (by omega) (hlt.pay hB)
  rw [hml] at hp
  exact hp.mono (fun e w2 ⟨h1, h2⟩ => ⟨h1, below_step hB h2, h2⟩)
set_option maxHeartbeats 4000000 in
set_option maxRecDepth 100000 in
theorem known_calls (w : World) (hlt : LT w.heap.size w) : Calls Tryz.prog 4 #[] w fun e w' => e = .returned (.bool true) ∧ Below w.heap.size w w' := by
  have HLT := Aside0.mk hlt
  clear hlt
  go_enter Tryz.func4, Tryz.ntmps4
  go_wp2_with ((with_reducible refine gate_dst (N := 12) rfl ?_); refine lit_event ?hg (N := 12) ?hd (cs := #[.string ⟨#[]⟩, .string ⟨#[99]⟩, .string ⟨#[99, 10]⟩, .string ⟨#[10, 10]⟩, .string ⟨#[112]⟩, .string ⟨#[112, 32, 99, 110, 102]⟩, .string ⟨#[112, 32, 99, 110, 102, 32, 49]⟩, .string ⟨#[112, 32, 99, 110, 102, 32, 49, 32, 49]⟩, .string ⟨#[112, 32, 99, 110, 102, 32, 49, 32, 49, 32, 49]⟩, .string ⟨#[112, 32, 99, 110, 102, 32, 45, 49, 32, 49]⟩, .string ⟨#[112, 32, 99, 110, 102, 32, 48, 49, 32, 49]⟩, .string ⟨#[112, 32, 99, 110, 102, 32, 48, 32, 48]⟩, .string ⟨#[112, 32, 99, 110, 102, 32, 48, 32, 48, 10, 48]⟩, .string ⟨#[112, 32, 100, 110, 102, 32, 49, 32, 49]⟩, .string ⟨#[80, 32, 99, 110, 102, 32, 49, 32, 49]⟩, .string ⟨#[32, 112, 32, 99, 110, 102, 32, 50, 32, 49, 10, 49, 32, 48]⟩, .string ⟨#[9, 112, 9, 99, 110, 102, 9, 50, 13, 49, 13, 10, 49, 13, 48, 10]⟩, .string ⟨#[112, 32, 99, 110, 102, 32, 50, 32, 49, 10, 49]⟩, .string ⟨#[112, 32, 99, 110, 102, 32, 50, 32, 49, 10, 49, 10]⟩, .string ⟨#[112, 32, 99, 110, 102, 32, 50, 32, 50, 10, 49, 32, 48, 10]⟩, .string ⟨#[112, 32, 99, 110, 102, 32, 50, 32, 49, 10, 51, 32, 48]⟩, .string ⟨#[112, 32, 99, 110, 102, 32, 50, 32, 49, 10, 45, 51, 32, 48]⟩, .string ⟨#[112, 32, 99, 110, 102, 32, 50, 32, 49, 10, 49, 32, 48, 32, 50, 32, 48]⟩, .string ⟨#[112, 32, 99, 110, 102, 32, 50, 32, 49, 10, 49, 32, 48, 10, 10, 50]⟩, .string ⟨#[112, 32, 99, 110, 102, 32, 50, 32, 49, 10, 48, 49, 32, 48]⟩, .string ⟨#[112, 32, 99, 110, 102, 32, 50, 32, 49, 10, 45, 48, 32, 48]⟩, .string ⟨#[112, 32, 99, 110, 102, 32, 50, 32, 49, 10, 45, 32, 48]⟩, .string ⟨#[112, 32, 99, 110, 102, 32, 50, 32, 49, 10, 45, 45, 49, 32, 48]⟩, .string ⟨#[112, 32, 99, 110, 102, 32, 50, 32, 49, 10, 43, 49, 32, 48]⟩, .string ⟨#[112, 32, 99, 110, 102, 32, 50, 32, 49, 10, 49, 32, 48, 32, 120]⟩, .string ⟨#[112, 32, 99, 110, 102, 32, 50, 32, 49, 10, 49, 32, 48, 120]⟩, .string ⟨#[112, 32, 99, 110, 102, 32, 50, 32, 50, 10, 49, 32, 45, 50, 32, 48, 32, 50, 10, 48]⟩, .string ⟨#[112, 32, 99, 110, 102, 32, 50, 32, 49, 10, 99, 32, 57, 10, 32, 49, 32, 48]⟩, .string ⟨#[112, 32, 99, 110, 102, 32, 50, 32, 49, 10, 32, 99, 32, 57, 10, 49, 32, 48]⟩, .string ⟨#[112, 32, 99, 110, 102, 32, 50, 32, 49, 32, 99, 10, 49, 32, 48]⟩, .string ⟨#[112, 32, 99, 110, 102, 32, 49, 48, 52, 56, 53, 55, 54, 32, 49, 10, 45, 49, 48, 52, 56, 53, 55, 54, 32, 48]⟩, .string ⟨#[112, 32, 99, 110, 102, 32, 49, 48, 52, 56, 53, 55, 55, 32, 49, 10, 49, 32, 48]⟩, .string ⟨#[112, 32, 99, 110, 102, 32, 49, 32, 49, 48, 52, 56, 53, 55, 55, 10, 49, 32, 48]⟩, .string ⟨#[112, 32, 99, 110, 102, 32, 57, 57, 57, 57, 57, 57, 57, 57, 57, 57, 57, 57, 57, 57, 57, 57, 57, 57, 57, 57, 32, 49, 10]⟩, .string ⟨#[112, 32, 99, 110, 102, 32, 49, 32, 57, 57, 57, 57, 57, 57, 57, 57, 57, 57, 57, 57, 57, 57, 57, 57, 57, 57, 57, 57, 10]⟩, .string ⟨#[112, 32, 99, 110, 102, 32, 50, 32, 49, 10, 57, 57, 57, 57, 57, 57, 57, 57, 57, 57, 57, 57, 57, 57, 57, 57, 57, 57, 57, 57, 32, 48]⟩, .string ⟨#[112, 32, 99, 110, 102, 32, 50, 32, 49, 10, 45, 57, 57, 57, 57, 57, 57, 57, 57, 57, 57, 57, 57, 57, 57, 57, 57, 57, 57, 57, 57, 32, 48]⟩, .string ⟨#[112, 32, 99, 110, 102, 32, 50, 32, 48, 10, 10, 32, 99, 10]⟩, .string ⟨#[112, 32, 99, 110, 102, 32, 50, 32, 48, 10, 49]⟩, .string ⟨#[112, 32, 99, 110, 102, 32, 50, 32, 51, 10, 48, 32, 48, 32, 48]⟩, .string ⟨#[112, 32, 99, 110, 102, 32, 50, 32, 49, 10, 49, 11, 48]⟩, .string ⟨#[112, 32, 99, 110, 102, 32, 50, 32, 49, 10, 49, 32, 255, 32, 48]⟩, .string ⟨#[112, 32, 99, 110, 102, 10, 50, 32, 49, 10, 49, 32, 48]⟩, .string ⟨#[112, 32, 99, 110, 102, 32, 50, 32, 49, 10, 112, 32, 99, 110, 102, 32, 50, 32, 49, 10]⟩]) (e := 9) (n := 49) ?hr ?_; (case hd => rfl); (case hg => rfl); (case hr => first | (go_simp; done) | (go_simp; rfl)); intro gl hgb wl hbox hb; have HL := Aside0.mk (show wl.heap[gl]? = some (.cells (kS1.map Value.string).toArray 9 (0, 0)) from hbox); have HBL := Aside0.mk hb; clear hbox hb hgb)
  obtain ⟨ad, had⟩ : ∃ ad : Addr, ad = ⟨gl, 0, none⟩ := ⟨_, rfl⟩
  rw [← had]
  have HAD := Aside0.mk had
  clear had
  go_loopg [2] 49 (fun gf v2 wr => ∃ (i : Nat), v2 = .int .i64 (i : Int) ∧ i + gf = 49 ∧ Aside0 (wr.heap[gl]? = some (.cells (kS1.map Value.string).toArray 9 (0, 0))) ∧ Aside0 (Below w.heap.size w wr))
  case atStart => exact ⟨0, rfl, rfl, HL, HBL⟩
  case round =>
    clear HL HBL
    obtain ⟨i, rfl, hi, HLr, HBr⟩ := hrel
    by_cases hlt : i < 49
    · have t5 : decide ((i : Int) < 49) = true := decide_eq_true (by omega)
      have t6 : decide (i < 49) = true := decide_eq_true hlt
      have hi0 : (0 : Int) ≤ (i : Int) := Int.natCast_nonneg _
      have hi1 : (i : Int) < 49 := by omega
      have hi2 : (i : Int) + 1 ≤ 100 := by omega
      obtain ⟨x, hx⟩ := lit_strs HLr.out HAD.out i hlt
      go_wp2_with (first | (go_at_call 9; refine (parses_b w wr x HLT.out HBr.out).mono ?_; rintro e w1 ⟨rfl, hb, hb2⟩; have HB1 := Aside0.mk hb; have hx1 := pw_cell_below hb2 hx; have HL1 := Aside0.mk (blk_below HLr.out hb2); clear hb hb2 hx) | ((with_reducible refine gate_dst (N := 26) rfl ?_); refine build_want (by rfl) #[] rfl _ built0 ?_) | (go_at_call 10; refine (returns_0 w w1 x HLT.out HB1.out).mono ?_; rintro e w2 ⟨rfl, hb, hb2⟩; have HB2 := Aside0.mk hb; have hx2 := pw_cell_below hb2 hx1; have HL2 := Aside0.mk (blk_below HL1.out hb2); clear hb hb2 hx1) | (go_at_call 11; refine (blanks_b w w2 x _ HLT.out HB2.out).mono ?_; rintro e w3 ⟨rfl, hb, hb2⟩; have HB3 := Aside0.mk hb; have HL3 := Aside0.mk (blk_below HL2.out hb2); clear hb hb2 hx2))
      go_roundg (gk - 1)
      case measure => omega
      case rel => exact ⟨i + 1, by go_num, by omega, HL3, HB3⟩
    · have t5 : decide ((i : Int) < 49) = false := decide_eq_false (by omega)
      have t6 : decide (i < 49) = false := decide_eq_false hlt
      clear HLr HAD hi hlt
      go_wp2_with ((with_reducible refine gate_dst (N := 42) rfl ?_); refine lit_event ?hg (N := 42) ?hd (cs := #[.int .i64 0, .int .i64 1, .int .i64 9, .int .i64 25, .int .i64 26, .int .i64 27, .int .i64 28, .int .i64 99, .int .i64 200]) (e := 3) (n := 9) ?hr ?_; (case hd => rfl); (case hg => rfl); (case hr => first | (go_simp; done) | (go_simp; rfl)); intro gn hgb wn hbox hb; have HN := Aside0.mk (show wn.heap[gn]? = some (.cells (kN1.map (Value.int .i64)).toArray 3 (0, 0)) from hbox); have HBN := Aside0.mk (below_step HBr.out hb); clear hbox hb hgb)
      obtain ⟨ad, had⟩ : ∃ ad : Addr, ad = ⟨gn, 0, none⟩ := ⟨_, rfl⟩
      rw [← had]
      have HAD := Aside0.mk had
      clear had HBr
      go_loopg [44] 9 (fun gf v44 wr => ∃ (i : Nat), v44 = .int .i64 (i : Int) ∧ i + gf = 9 ∧ Aside0 (wr.heap[gn]? = some (.cells (kN1.map (Value.int .i64)).toArray 3 (0, 0))) ∧ Aside0 (Below w.heap.size w wr))
      case atStart => exact ⟨0, rfl, rfl, HN, HBN⟩
      case round =>
        clear HN HBN
        obtain ⟨i, rfl, hi, HNr, HBr⟩ := hrel
        by_cases hlt : i < 9
        · have t5 : decide ((i : Int) < 9) = true := decide_eq_true (by omega)
          have t6 : decide (i < 9) = true := decide_eq_true hlt
          have hi0 : (0 : Int) ≤ (i : Int) := Int.natCast_nonneg _
          have hi1 : (i : Int) < 9 := by omega
          have hi2 : (i : Int) + 1 ≤ 100 := by omega
          obtain ⟨n, hn, hnk⟩ := kN1_nat i hlt
          have hx := lit_nums HNr.out HAD.out i hlt
          rw [hn] at hx
          have HNK := Aside0.mk hnk
          clear hn hnk
          go_wp2_with ((with_reducible refine gate_dst (N := 49) rfl ?_); refine make_event rfl 23 (.tmp 48) rfl Tryz.underlying23 n (by have := HNK.out; omega) rfl ?_; intro gm wm hgb hbox hb; have HM0 := Aside0.mk hbox; have HNm := Aside0.mk (blk_below HNr.out hb); have HBm := Aside0.mk (below_step HBr.out hb); have HGL := Aside0.mk (show w.heap.size ≤ gm by rw [hgb]; exact HBr.out.size); have HNE := Aside0.mk (show gn ≠ gm from blk_ne HNm.out hbox (by decide)); clear hbox hb hgb hx)
          obtain ⟨gko, hgko⟩ : ∃ gko, gko = gk := ⟨_, rfl⟩
          rw [← hgko] at hi
          have HGKO := Aside0.mk hgko
          clear hgko
          obtain ⟨wo, rfl⟩ : ∃ wo : World, wo = wr := ⟨_, rfl⟩
          go_loopg [6] n (fun gf v6 wr => ∃ (j : Nat) (m : List Bool), v6 = .int .i64 (j : Int) ∧ j + gf = n ∧ Aside0 (m.length = n) ∧ Aside0 (wr.heap[gm]? = some (.cells (boolsA m) 4 (0, 0))) ∧ Aside0 (wr.heap[gn]? = some (.cells (kN1.map (Value.int .i64)).toArray 3 (0, 0))) ∧ Aside0 (Below w.heap.size w wr))
          case atStart => exact ⟨0, List.replicate n false, rfl, by omega, ⟨List.length_replicate⟩, HM0, HNm, HBm⟩
          case round =>
            clear HM0 HNm HBm HNr HBr
            obtain ⟨j, m, rfl, hj, HML, HMr2, HNr2, HBr2⟩ := hrel
            by_cases hjt : j < n
            · have t7 : decide ((j : Int) < (n : Int)) = true := decide_eq_true (by omega)
              have t8 : decide (j < n) = true := decide_eq_true hjt
              have hj0 : (0 : Int) ≤ (j : Int) := Int.natCast_nonneg _
              have hj1 : (j : Int) < (n : Int) := by omega
              have hj2 : (j : Int) + 1 ≤ 1000 := by have := HNK.out; omega
              go_wp2_with ((with_reducible refine gate_store (t := 4) (p := 60) rfl ?_); refine store_one 4 60 (.tmp 59) rfl rfl rfl (off := j) (.bool _) (boolsA (m.set j _)) rfl rfl HMr2.out rfl nsz4 (show j + 1 ≤ (boolsA m).size by rw [boolsA_size, HML.out]; exact hjt) rfl (bools_setB m j _) ?_; intro V2 hw hsb; have HV2 := Aside0.mk hw; have HNV := Aside0.mk (hsb.other HNr2.out HNE.out); have HBV := Aside0.mk (hsb.below HBr2.out HGL.out); clear hw hsb)
              go_roundg (gk - 1)
              case measure => omega
              case rel => exact ⟨j + 1, _, by go_num, by omega, ⟨by rw [List.length_set]; exact HML.out⟩, HV2, HNV, HBV⟩
            · have t7 : decide ((j : Int) < (n : Int)) = false := decide_eq_false (by omega)
              have t8 : decide (j < n) = false := decide_eq_false hjt
              obtain ⟨vB, hvB⟩ : ∃ vB, vB = baOf (dValues m) := ⟨_, rfl⟩
              have HVB := Aside0.mk hvB
              have hvz : vB.size ≤ 100000 := by rw [hvB]; exact dValues_len m (by have := HML.out; have := HNK.out; omega)
              have z0 : vB.size + 1 ≤ 9223372036854775807 := by omega
              have z1 : decide (vB.size + 1 ≤ 9223372036854775807) = true := decide_eq_true z0
              have z2 : (9223372036854775807 < vB.size + 1) = False := eq_false (Nat.not_lt.2 z0)
              replace z0 := eq_true z0
              have hn0 : (0 : Int) ≤ (n : Int) := Int.natCast_nonneg _
              have hn1 : (n : Int) + 1 ≤ 1000 := by have := HNK.out; omega
              have hwr := wrap32_lit (v := 1048576) (x := (n : Int)) (by decide) (by decide) (by omega) (by omega)
              have TA := Aside0.mk trivial
              have TB := Aside0.mk trivial
              have TC := Aside0.mk trivial
              clear hvB hvz hj hjt
              go_wp2_with (first | (go_at_call 12; have hp := values_n w wr n gm m HML.out HNK.out HLT.out HBr2.out HMr2.out; rw [← HVB.out] at hp; refine hp.mono ?_; clear hp; rintro e w1 ⟨rfl, hb, hb2⟩; have HM1 := Aside0.mk (blk_below HMr2.out hb2); have HN1 := Aside0.mk (blk_below HNr2.out hb2); have HB1 := Aside0.mk hb; clear hb hb2) | ((with_reducible refine gate_dst (N := 66) rfl ?_); refine lit_event ?hg (N := 66) ?hd (cs := #[.int .i32 (n : Int)]) (e := 40) (n := 1) ?hr ?_; (case hd => rfl); (case hg => rfl); (case hr => first | (go_simp; done) | (go_simp; rfl)); intro g1 hgb w2 hbox hb; have HQ2 := Aside0.mk hbox; have HM2 := Aside0.mk (blk_below HM1.out hb); have HN2 := Aside0.mk (blk_below HN1.out hb); have HB2 := Aside0.mk (below_step HB1.out hb); clear hbox hb hgb) | ((with_reducible refine gate_dst (N := 67) rfl ?_); refine lit_event ?hg (N := 67) ?hd (cs := #[]) (e := 40) (n := 0) ?hr ?_; (case hd => rfl); (case hg => rfl); (case hr => first | (go_simp; done) | (go_simp; rfl)); intro g2 hgb w3 hbox hb; have HR3 := Aside0.mk hbox; have HM3 := Aside0.mk (blk_below HM2.out hb); have HN3 := Aside0.mk (blk_below HN2.out hb); have HQ3 := Aside0.mk (blk_below HQ2.out hb); have HB3 := Aside0.mk (below_step HB2.out hb); clear hbox hb hgb) | ((with_reducible refine gate_dst (N := 68) rfl ?_); refine lit_event ?hg (N := 68) ?hd (cs := #[.int .i32 (-1), .int .i32 1]) (e := 40) (n := 2) ?hr ?_; (case hd => rfl); (case hg => rfl); (case hr => first | (go_simp; done) | (go_simp; rfl)); intro g3 hgb w4 hbox hb; have HT4 := Aside0.mk hbox; have HM4 := Aside0.mk (blk_below HM3.out hb); have HN4 := Aside0.mk (blk_below HN3.out hb); have HQ4 := Aside0.mk (blk_below HQ3.out hb); have HR4 := Aside0.mk (blk_below HR3.out hb); have HB4 := Aside0.mk (below_step HB3.out hb); clear hbox hb hgb) | ((with_reducible refine gate_dst (N := 69) rfl ?_); refine lit_event ?hg (N := 69) ?hd (cs := #[.slice (some ⟨g1, 0, none⟩) 1 1, .slice (some ⟨g2, 0, none⟩) 0 0, .slice (some ⟨g3, 0, none⟩) 2 2]) (e := 42) (n := 3) ?hr ?_; (case hd => rfl); (case hg => rfl); (case hr => first | (go_simp; done) | (go_simp; rfl)); intro g4 hgb w5 hbox hb; have HU5 := Aside0.mk hbox; have HM5 := Aside0.mk (blk_below HM4.out hb); have HN5 := Aside0.mk (blk_below HN4.out hb); have HQ5 := Aside0.mk (blk_below HQ4.out hb); have HR5 := Aside0.mk (blk_below HR4.out hb); have HT5 := Aside0.mk (blk_below HT4.out hb); have HB5 := Aside0.mk (below_step HB4.out hb); clear hbox hb hgb) | ((with_reducible refine gate_dst (N := 70) rfl ?_); refine build_want (by rfl) #[(0, .tmp 63), (1, .tmp 69)] rfl _ (built2 n g4 3 3) ?_) | (go_at_call 13; refine (prints_3 w w5 n g4 g1 g2 g3 gm m HML.out HNK.out HLT.out HB5.out HQ5.out HR5.out HT5.out HU5.out HM5.out).mono ?_; rintro e w6 ⟨rfl, hb, hb2⟩; have HB6 := Aside0.mk hb; have HM6 := Aside0.mk (blk_below HM5.out hb2); have HN6 := Aside0.mk (blk_below HN5.out hb2); clear hb hb2) | (go_at_call 3; have := TA; clear TA this; refine (models_b w w6 vB (n : Int) HLT.out HB6.out (by have := HNK.out; omega)).mono ?_; rintro e w7 ⟨rfl, hb, hb2⟩; have HB7 := Aside0.mk hb; have HM7 := Aside0.mk (blk_below HM6.out hb2); have HN7 := Aside0.mk (blk_below HN6.out hb2); clear hb hb2) | (go_at_call 3; have := TB; clear TB this; refine (models_b w w7 vB ((n : Int) + 1) HLT.out HB7.out (by have := HNK.out; omega)).mono ?_; rintro e w8 ⟨rfl, hb, hb2⟩; have HB8 := Aside0.mk hb; have HM8 := Aside0.mk (blk_below HM7.out hb2); have HN8 := Aside0.mk (blk_below HN7.out hb2); clear hb hb2) | (go_at_call 3; have := TC; clear TC this; refine (models_b w w8 (vB ++ (⟨#[10]⟩ : ByteArray)) (n : Int) HLT.out HB8.out (by have := HNK.out; omega)).mono ?_; rintro e w9 ⟨rfl, hb, hb2⟩; have HB9 := Aside0.mk hb; have HM9 := Aside0.mk (blk_below HM8.out hb2); have HN9 := Aside0.mk (blk_below HN8.out hb2); clear hb hb2) | ((with_reducible refine gate_dst (N := 96) rfl ?_); refine lit_want (by rfl) (N := 96) ?hd (cs := #[.slice none 0 0, .slice none 0 0]) (e := 42) (n := 2) ?hr ?_; (case hd => rfl); (case hr => first | (go_simp; done) | (go_simp; rfl)); intro g5 hgb w10 hbox hb; have HX10 := Aside0.mk hbox; have HM10 := Aside0.mk (blk_below HM9.out hb); have HN10 := Aside0.mk (blk_below HN9.out hb); have HB10 := Aside0.mk (below_step HB9.out hb); clear hbox hb hgb) | ((with_reducible refine gate_dst (N := 97) rfl ?_); refine build_want (by rfl) #[(0, .tmp 95), (1, .tmp 96)] rfl _ (built2 n g5 2 2) ?_) | (go_at_call 10; refine (returns_2 w w10 n g5 gm vB m HML.out HNK.out HLT.out HB10.out HX10.out HM10.out).mono ?_; rintro e w11 ⟨rfl, hb, hb2⟩; have HB11 := Aside0.mk hb; have HN11 := Aside0.mk (blk_below HN10.out hb2); clear hb hb2))
              have hgko := HGKO.out
              go_roundg (gko - 1)
              case measure => omega
              case rel => exact ⟨i + 1, by go_num, by omega, HN11, HB11⟩
        · have t5 : decide ((i : Int) < 9) = false := decide_eq_false (by omega)
          have t6 : decide (i < 9) = false := decide_eq_false hlt
          clear HNr HAD hi hlt
          go_wp2_with ((with_reducible refine gate_dst (N := 104) rfl ?_); refine lit_event ?hg (N := 104) ?hd (cs := #[.int .i64 (-1), .int .i64 0, .int .i64 2, .int .i64 1048577]) (e := 3) (n := 4) ?hr ?_; (case hd => rfl); (case hg => rfl); (case hr => first | (go_simp; done) | (go_simp; rfl)); intro gn hgb wn hbox hb; have HN := Aside0.mk (show wn.heap[gn]? = some (.cells (kN2.map (Value.int .i64)).toArray 3 (0, 0)) from hbox); have HBN := Aside0.mk (below_step HBr.out hb); clear hbox hb hgb)
          obtain ⟨ad, had⟩ : ∃ ad : Addr, ad = ⟨gn, 0, none⟩ := ⟨_, rfl⟩
          rw [← had]
          have HAD := Aside0.mk had
          clear had HBr
          go_loopg [106] 4 (fun gf v106 wr => ∃ (i : Nat), v106 = .int .i64 (i : Int) ∧ i + gf = 4 ∧ Aside0 (wr.heap[gn]? = some (.cells (kN2.map (Value.int .i64)).toArray 3 (0, 0))) ∧ Aside0 (Below w.heap.size w wr))
          case atStart => exact ⟨0, rfl, rfl, HN, HBN⟩
          case round =>
            clear HN HBN
            obtain ⟨i, rfl, hi, HNr, HBr⟩ := hrel
            by_cases hlt : i < 4
            · have t5 : decide ((i : Int) < 4) = true := decide_eq_true (by omega)
              have t6 : decide (i < 4) = true := decide_eq_true hlt
              have hi0 : (0 : Int) ≤ (i : Int) := Int.natCast_nonneg _
              have hi1 : (i : Int) < 4 := by omega
              have hi2 : (i : Int) + 1 ≤ 100 := by omega
              have hx := lit_nums HNr.out HAD.out i hlt
              have hnz := kN2_int i hlt
              obtain ⟨nz, hz⟩ : ∃ nz, nz = kN2[i] := ⟨_, rfl⟩
              rw [← hz] at hx hnz
              have HNZ := Aside0.mk (show -9223372036854775808 ≤ nz ∧ nz ≤ 9223372036854775807 by omega)
              clear hz hnz
              go_wp2_with ((with_reducible refine gate_dst (N := 110) rfl ?_); refine lit_event ?hg (N := 110) ?hd (cs := #[.string ⟨#[]⟩, .string ⟨#[118, 32, 48, 10]⟩, .string ⟨#[118, 32, 49, 32, 45, 50, 32, 48, 10]⟩, .string ⟨#[118, 32, 49, 32, 45, 50, 10, 118, 32, 48, 10]⟩, .string ⟨#[118, 32, 45, 50, 32, 49, 32, 48, 10]⟩, .string ⟨#[118, 32, 49, 32, 50, 32, 48]⟩, .string ⟨#[118, 32, 32, 49, 32, 50, 32, 48, 10]⟩]) (e := 9) (n := 7) ?hr ?_; (case hd => rfl); (case hg => rfl); (case hr => first | (go_simp; done) | (go_simp; rfl)); intro gl hgb wl hbox hb; have HL := Aside0.mk (show wl.heap[gl]? = some (.cells (kS2.map Value.string).toArray 9 (0, 0)) from hbox); have HNl := Aside0.mk (blk_below HNr.out hb); have HBl := Aside0.mk (below_step HBr.out hb); clear hx hbox hb hgb)
              obtain ⟨adl, had⟩ : ∃ ad : Addr, ad = ⟨gl, 0, none⟩ := ⟨_, rfl⟩
              rw [← had]
              have HADL := Aside0.mk had
              clear had
              obtain ⟨gko, hgko⟩ : ∃ gko, gko = gk := ⟨_, rfl⟩
              rw [← hgko] at hi
              have HGKO := Aside0.mk hgko
              clear hgko
              obtain ⟨wo, rfl⟩ : ∃ wo : World, wo = wr := ⟨_, rfl⟩
              go_loopg [112] 7 (fun gf v112 wr => ∃ (j : Nat), v112 = .int .i64 (j : Int) ∧ j + gf = 7 ∧ Aside0 (wr.heap[gl]? = some (.cells (kS2.map Value.string).toArray 9 (0, 0))) ∧ Aside0 (wr.heap[gn]? = some (.cells (kN2.map (Value.int .i64)).toArray 3 (0, 0))) ∧ Aside0 (Below w.heap.size w wr))
              case atStart => exact ⟨0, rfl, rfl, HL, HNl, HBl⟩
              case round =>
                clear HL HNl HBl HNr HBr
                obtain ⟨j, rfl, hj, HLr2, HNr2, HBr2⟩ := hrel
                by_cases hjt : j < 7
                · have t7 : decide ((j : Int) < 7) = true := decide_eq_true (by omega)
                  have t8 : decide (j < 7) = true := decide_eq_true hjt
                  have hj0 : (0 : Int) ≤ (j : Int) := Int.natCast_nonneg _
                  have hj1 : (j : Int) < 7 := by omega
                  have hj2 : (j : Int) + 1 ≤ 1000 := by omega
                  obtain ⟨x, hx⟩ := lit_strs HLr2.out HADL.out j hjt
                  go_wp2_with (go_at_call 3; refine (models_b w wr x nz HLT.out HBr2.out HNZ.out).mono ?_; rintro e w1 ⟨rfl, hb, hb2⟩; have HB1 := Aside0.mk hb; have HL1 := Aside0.mk (blk_below HLr2.out hb2); have HN1 := Aside0.mk (blk_below HNr2.out hb2); clear hb hb2 hx)
                  go_roundg (gk - 1)
                  case measure => omega
                  case rel => exact ⟨j + 1, by go_num, by omega, HL1, HN1, HB1⟩
                · have t7 : decide ((j : Int) < 7) = false := decide_eq_false (by omega)
                  have t8 : decide (j < 7) = false := decide_eq_false hjt
                  go_wp2_with fail
                  have hgko := HGKO.out
                  go_roundg (gko - 1)
                  case measure => omega
                  case rel => exact ⟨i + 1, by go_num, by omega, HNr2, HBr2⟩
            · have t5 : decide ((i : Int) < 4) = false := decide_eq_false (by omega)
              have t6 : decide (i < 4) = false := decide_eq_false hlt
              clear hi hlt
              go_wp2_with (go_at_call 8; refine (works_c w wr HLT.out HBr.out).mono ?_; rintro e w4 ⟨rfl, hb⟩; have HB4 := Aside0.mk hb; clear hb)
              go_ret
              exact ⟨rfl, HB4.out⟩
theorem dimacsKnown_walk (w : World) (hlt : LT w.heap.size w) :
    Calls Tryz.prog 4 #[] w fun e w' => e = .returned (.bool true) ∧ Below w.heap.size w w' := known_calls w hlt
end Go.Proofs.YtigloobbpcnnhaaGreatDoor.PB
end
