import Derived.Test.YtfjnkbkcoakooaaDoorPure2
import Derived.Test.YtfjnkbkcoakooaaDoorFThreshinglaw04LratRows
namespace Go.Proofs.YtfjnkbkcoakooaaDoor.PB
open Go.RowKit Go.Proofs.YtfjnkbkcoakooaaDoorW.PrintWords Go.Proofs.YtfjnkbkcoakooaaDoorW.PrintLast Go.Proofs.YtfjnkbkcoakooaaDoorW.PrintMore
set_option linter.unusedVariables false
set_option linter.unusedSimpArgs false
theorem works_f (k : Nat) : threshinglaw04_works.f k = some true := by kernel_rfl
theorem parse_f (k : Nat) (s : ByteArray) (h : s.size ≤ 400000) : lrat_Parse.f k s = some (Lparse s) := by unfold lrat_Parse.f; rw [if_pos h]
theorem Lparse_few (s : ByteArray) (m : List S43) (h : Lparse s = (m, 0, 0)) : m.length ≤ s.size + 1 ∧ Btot m ≤ 2 * (s.size + 1) := by
  have hsum := Lrows_sum s.size s
  unfold Lparse at h
  rcases Lp_kinds (Lrows s.size s) [] with ⟨_, h2⟩ | ⟨_, p, h2, _⟩
  · rw [h2, List.nil_append] at h
    have e := (Prod.mk.inj h).1
    have ht := Lsteps_tot (Lrows s.size s)
    have hl : (Lsteps (Lrows s.size s)).length = (Lrows s.size s).length := by simp [Lsteps]
    rw [← e]
    omega
  · rw [h2] at h
    cases h
theorem u64_wrap (n : Int) : IntKind.u64.wrap n = n % 18446744073709551616 := by simp [IntKind.wrap, IntKind.bits, IntKind.signed]
theorem cut_place (a1 : Int) (n : Nat) (hn : n ≤ 6000) : ∃ k : Nat, k ≤ n ∧ wrap64 (Int.tmod (IntKind.u64.wrap a1) (IntKind.u64.wrap (wrap64 ((n : Int) + 1)))) = (k : Int) ∧ IntKind.u64.wrap (wrap64 ((n : Int) + 1)) ≠ 0 := by
  have e1 : wrap64 ((n : Int) + 1) = (n : Int) + 1 := by unfold wrap64; omega
  have e2 : IntKind.u64.wrap ((n : Int) + 1) = (n : Int) + 1 := by rw [u64_wrap]; omega
  have h0 : 0 ≤ IntKind.u64.wrap a1 := by rw [u64_wrap]; omega
  rw [e1, e2]
  have e3 : Int.tmod (IntKind.u64.wrap a1) ((n : Int) + 1) = IntKind.u64.wrap a1 % ((n : Int) + 1) := Int.tmod_eq_emod_of_nonneg h0
  rw [e3]
  have h1 := Int.emod_nonneg (IntKind.u64.wrap a1) (show (n : Int) + 1 ≠ 0 by omega)
  have h2 := Int.emod_lt_of_pos (IntKind.u64.wrap a1) (show (0 : Int) < (n : Int) + 1 by omega)
  refine ⟨(IntKind.u64.wrap a1 % ((n : Int) + 1)).toNat, by omega, ?_, by omega⟩
  unfold wrap64
  omega
theorem bt_nat (s : ByteArray) (i : Nat) (h : i < s.size) : bt s (i : Int) = ((s.data.toList[i]'h).toNat : Int) := by
  unfold bt
  rw [dif_pos (by simpa using h)]
  rfl
theorem bt_ten (s : ByteArray) (i : Nat) (h : i < s.size) (c : UInt8) : bt s (i : Int) = (c.toNat : Int) ↔ s.data.toList[i]'h = c := by
  rw [bt_nat s i h]
  constructor
  · intro e; exact UInt8.toNat_inj.1 (by omega)
  · intro e; rw [e]
theorem rows_count (s : ByteArray) (hs : s.size ≤ 6000) (c : Nat) (hc : c ≤ s.size) : ∀ (d i k : Nat), i + d = c →
    threshinglaw04_LratRows.l0 (k + d) s (c : Int) (((s.data.toList.take i).count 10 : Nat) : Int) (i : Int) = threshinglaw04_LratRows.l0 k s (c : Int) (((s.data.toList.take c).count 10 : Nat) : Int) (c : Int) := by
  intro d
  induction d with
  | zero => intro i k h; rw [show i = c by omega]; rfl
  | succ d ih =>
    intro i k h
    have hi : i < s.size := by omega
    have hw : wrap64 ((i : Int) + 1) = ((i + 1 : Nat) : Int) := wrap_cast (by omega)
    have hcl : (s.data.toList.take i).count 10 ≤ i := Nat.le_trans List.count_le_length (List.length_take_le _ _)
    have hw2 : wrap64 (((s.data.toList.take i).count 10 : Nat) + 1 : Int) = (((s.data.toList.take i).count 10 + 1 : Nat) : Int) := wrap_cast (by omega)
    have ht : s.data.toList.take (i + 1) = s.data.toList.take i ++ [s.data.toList[i]'hi] := List.take_succ_eq_append_getElem hi
    rw [show k + (d + 1) = (k + d) + 1 by omega]
    simp only [threshinglaw04_LratRows.l0]
    rw [if_pos (by omega), if_pos (by omega), if_pos (by omega), hw, hw2]
    have hih := ih (i + 1) k (by omega)
    by_cases hb : bt s (i : Int) = 10
    · rw [if_pos hb]
      have e := (bt_ten s i hi 10).1 hb
      rw [ht, e, List.count_append] at hih
      exact hih
    · rw [if_neg hb]
      have e : s.data.toList[i]'hi ≠ 10 := fun e => hb ((bt_ten s i hi 10).2 e)
      rw [ht, List.count_append, List.count_singleton, beq_false_of_ne e] at hih
      exact hih
theorem count_joined (R : List (List UInt8)) (hR : ∀ r ∈ R, 10 ∉ r) : (joined R).count 10 = R.length := by
  induction R with
  | nil => rfl
  | cons r R ih =>
    rw [joined_cons, List.count_append, List.count_cons, ih (fun x hx => hR x (List.mem_cons_of_mem _ hx)), List.count_eq_zero.2 (hR r List.mem_cons_self)]
    simp
theorem ends_nl (R : List (List UInt8)) (v : List UInt8) (hv : 10 ∉ v) (n : Nat) (hn : (joined R ++ v).length = n + 1) (h : (joined R ++ v)[n]? = some 10) : v = [] := by
  by_cases hv0 : v = []
  · exact hv0
  · exfalso
    have hl : (joined R ++ v).getLast? = some 10 := by
      rw [List.getLast?_eq_getElem?, hn]
      exact h
    rw [List.getLast?_append] at hl
    cases hq : v.getLast? with
    | none => exact hv0 (List.getLast?_eq_none_iff.1 hq)
    | some x =>
      rw [hq] at hl
      simp at hl
      exact hv (by rw [← hl]; exact List.mem_of_getLast? hq)
theorem ends_joined (R : List (List UInt8)) (n : Nat) (hn : (joined R).length = n + 1) : (joined R)[n]? = some 10 := by
  have hne : R ≠ [] := by rintro rfl; simp [joined] at hn
  have e : joined R = joined R.dropLast ++ (R.getLast hne ++ [10]) := by
    conv => lhs; rw [← List.dropLast_concat_getLast hne, joined_append]
    simp [joined]
  have hl : (joined R).getLast? = some 10 := by rw [e, ← List.append_assoc]; simp
  rw [List.getLast?_eq_getElem?, hn] at hl
  exact hl
/-- A right text that is cut. -/
theorem Lparse_cut (R : List (List UInt8)) (hR : ∀ r ∈ R, 10 ∉ r) (hok : ∀ r ∈ R, okRow r) (c : Nat) (hc : c ≤ (joined R).length) :
    ∃ R0 v, (joined R).take c = joined R0 ++ v ∧ ((joined R).take c).count 10 = R0.length ∧ 10 ∉ v ∧ (v = [] → ∃ m, Lparse (ofL ((joined R).take c)) = (m, 0, 0)) ∧ (v ≠ [] → Lparse (ofL ((joined R).take c)) = ([], 40, (R0.length : Int) + 1)) := by
  obtain ⟨R0, v, e, hR0, hv⟩ := split_nl ((joined R).take c)
  obtain ⟨R1, v1, e1, hR1, hv1⟩ := split_nl (v ++ (joined R).drop c)
  have hall : joined R ++ [] = joined (R0 ++ R1) ++ v1 := by
    rw [List.append_nil, joined_append, List.append_assoc, ← e1, ← List.append_assoc, ← e, List.take_append_drop]
  have hRR := (joined_inj hR (fun r hr => (List.mem_append.1 hr).elim (hR0 r) (hR1 r)) (by simp) hv1 hall).1
  have hok0 : ∀ r ∈ R0, okRow r := fun r hr => hok r (by rw [hRR]; exact List.mem_append_left _ hr)
  refine ⟨R0, v, e, ?_, hv, ?_, ?_⟩
  · rw [e, List.count_append, count_joined R0 hR0, List.count_eq_zero.2 hv]; rfl
  · rintro rfl
    rw [e, List.append_nil]
    exact ⟨_, Lparse_right R0 hR0 hok0⟩
  · intro hv0
    rw [e, Lparse_join R0 v hR0 hv]
    have er : rowsOf R0 v = rowsOf R0 [] ++ [(ofL v, false)] := by simp [rowsOf, hv0]
    rw [er]
    have := Lp_all (rowsOf R0 []) (fun x hx => by
      simp only [rowsOf, if_true, List.append_nil, List.mem_map] at hx
      obtain ⟨r, hr, rfl⟩ := hx
      exact ⟨rfl, hok0 r hr⟩) [(ofL v, false)] []
    rw [this, List.nil_append, Lsteps_rows, Lp, if_neg (by simp)]
    simp
theorem ofL_append (a b : ByteArray) : a ++ b = ofL (a.data.toList ++ b.data.toList) := by
  apply ByteArray.ext
  simp [ofL]
theorem rows_tail (k : Nat) (a0 : ByteArray) (a2 : Int) (h6 : a0.size ≤ 6000) (R : List (List UInt8)) (e : a0 = ofL (joined R)) (hR : ∀ r ∈ R, 10 ∉ r) (hok : ∀ r ∈ R, okRow r) :
    threshinglaw04_LratRows.j1 (k + 6003) a0 a2 false = some true := by
  obtain ⟨c, hc, ec, hne⟩ := cut_place a2 a0.size h6
  obtain ⟨d, hd⟩ : ∃ d, c + d = 6002 := ⟨6002 - c, by omega⟩
  rw [show k + 6003 = ((k + d) + c) + 1 by omega]
  simp only [threshinglaw04_LratRows.j1]
  rw [if_neg (by simp), if_neg hne, ec]
  have hcnt := rows_count a0 h6 c hc c 0 (k + d) (by omega)
  rw [show ((a0.data.toList.take 0).count 10 : Nat) = 0 from rfl] at hcnt
  rw [show ((0 : Nat) : Int) = 0 from rfl] at hcnt
  rw [hcnt]
  have hde : a0.data.toList = joined R := by rw [e]; rfl
  have hlen : (joined R).length = a0.size := by rw [e]; rfl
  obtain ⟨R0, v, ev, hcn, hv, h0, h1⟩ := Lparse_cut R hR hok c (by omega)
  rw [hde, hcn]
  have hl0 : R0.length ≤ c := by rw [← hcn]; exact Nat.le_trans List.count_le_length (List.length_take_le _ _)
  obtain ⟨k1, hk1⟩ : ∃ k1, k + d = k1 + 2 := ⟨k + d - 2, by omega⟩
  rw [hk1]
  simp only [threshinglaw04_LratRows.l0]
  have hex : a0.extract 0 c = ofL ((joined R).take c) := by
    apply ByteArray.ext
    rw [e]
    simp [ofL]
  rw [if_neg (by omega), if_pos (by omega), if_pos (by omega), Int.toNat_natCast, hex, parse_f _ _ (by rw [ofL_size, List.length_take]; omega), Option.bind_some]
  have hw : wrap64 ((R0.length : Int) + 1) = (R0.length : Int) + 1 := wrap_id (by omega) (by omega)
  have key : ∀ b : Bool, (b = true ↔ v = []) → threshinglaw04_LratRows.j3 (k1 + 1) (R0.length : Int) (Lparse (ofL ((joined R).take c))).2.1 (Lparse (ofL ((joined R).take c))).2.2 b = some true := by
    intro b hb
    simp only [threshinglaw04_LratRows.j3]
    by_cases hv0 : v = []
    · obtain ⟨m, hm⟩ := h0 hv0
      rw [if_pos (hb.2 hv0), hm]
      simp only [if_true]
      rw [works_f]
      rfl
    · rw [if_neg (fun h => hv0 (hb.1 h)), h1 hv0]
      simp only [if_true]
      rw [hw, if_pos rfl, works_f]
      rfl
  by_cases hc0 : (c : Int) = 0
  · rw [if_pos hc0]
    refine key true ⟨fun _ => ?_, fun _ => rfl⟩
    have : c = 0 := by omega
    subst this
    rw [List.take_zero] at ev
    exact (List.append_eq_nil_iff.1 ev.symm).2
  · obtain ⟨n, rfl⟩ : ∃ n, c = n + 1 := ⟨c - 1, by omega⟩
    have hwn : wrap64 (((n + 1 : Nat) : Int) - 1) = (n : Int) := by rw [wrap_id (by omega) (by omega)]; omega
    rw [if_neg hc0, hwn, if_pos (by omega), if_pos (by omega)]
    refine key _ ?_
    have hn : n < a0.size := by omega
    have hgt : ((joined R).take (n + 1))[n]? = (a0.data.toList)[n]? := by rw [hde, List.getElem?_take_of_lt (by omega)]
    have hlt : ((joined R).take (n + 1)).length = n + 1 := by rw [List.length_take]; omega
    rw [beq_iff_eq, show (10 : Int) = (((10 : UInt8).toNat : Nat) : Int) from rfl, bt_ten a0 n hn 10]
    rw [show (a0.data.toList[n]'hn = 10) ↔ (a0.data.toList[n]? = some 10) by rw [List.getElem?_eq_getElem hn]; simp, ← hgt, ev]
    rw [ev] at hlt
    constructor
    · exact ends_nl R0 v hv n hlt
    · rintro rfl
      rw [List.append_nil] at hlt ⊢
      exact ends_joined R0 n hlt
theorem LratRows_all (a0 a1 : ByteArray) (a2 : Int) : ∃ k, threshinglaw04_LratRows.f k a0 a1 a2 = some true := by
  refine ⟨70000, ?_⟩
  unfold threshinglaw04_LratRows.f
  by_cases h0 : (a0.size : Int) > 6000
  · rw [if_pos h0]
    simp only [threshinglaw04_LratRows.j0, if_true]
    rw [works_f]; rfl
  rw [if_neg h0]
  by_cases h1 : (a1.size : Int) > 6000
  · rw [decide_eq_true h1]
    simp only [threshinglaw04_LratRows.j0, if_true]
    rw [works_f]; rfl
  rw [decide_eq_false h1]
  simp only [threshinglaw04_LratRows.j0, Bool.false_eq_true, if_false]
  have hsz : (a0 ++ a1).size = a0.size + a1.size := ByteArray.size_append
  rw [parse_f _ a0 (by omega), Option.bind_some, parse_f _ a1 (by omega), Option.bind_some]
  obtain ⟨R, v, e, hR, hv⟩ := split_nl a0.data.toList
  obtain ⟨T, u, eT, hT, hu⟩ := split_nl a1.data.toList
  have ea : a0 = ofL (joined R ++ v) := by rw [← e]; rfl
  have eb : a1 = ofL (joined T ++ u) := by rw [← eT]; rfl
  have hRT : ∀ r ∈ R ++ T, 10 ∉ r := fun r hr => (List.mem_append.1 hr).elim (hR r) (hT r)
  have hjoin : v = [] → Lparse (a0 ++ a1) = Lp (rowsOf R [] ++ rowsOf T u) [] := by
    rintro rfl
    rw [List.append_nil] at e
    rw [ofL_append, e, eT, ← List.append_assoc, ← joined_append, Lparse_join (R ++ T) u hRT hu]
    simp [rowsOf]
  by_cases hz : (Lparse a0).2.1 = 0
  · rw [if_pos hz, if_pos (by omega), parse_f _ (a0 ++ a1) (by omega), Option.bind_some]
    obtain ⟨R', e', hR', hok, hp⟩ := Lparse_zero a0 hz
    have hh : joined R' ++ [] = joined R ++ v := by rw [List.append_nil, ← e, e']; rfl
    obtain ⟨rfl, rfl⟩ := joined_inj hR' hR (by simp) hv hh
    have hjoin := hjoin rfl
    have hab : Lparse (a0 ++ a1) = Lp (rowsOf T u) (R'.map stepOf) := by
      rw [hjoin]
      have := Lp_all (rowsOf R' []) (fun x hx => by
        simp only [rowsOf, if_true, List.append_nil, List.mem_map] at hx
        obtain ⟨r, hr, rfl⟩ := hx
        exact ⟨rfl, hok r hr⟩) (rowsOf T u) []
      rw [this, List.nil_append, Lsteps_rows]
    have hb : Lparse a1 = Lp (rowsOf T u) [] := by rw [eb, Lparse_join T u hT hu]
    have hshift := Lp_shift (R'.map stepOf) (rowsOf T u) []
    rw [List.append_nil, ← hb, ← hab] at hshift
    have hf0 := Lparse_few a0 _ hp
    rw [hp]
    simp only
    rcases Lparse_kinds a1 with ⟨m, hm⟩ | ⟨p, hm⟩
    · rw [hm] at hshift ⊢
      simp only [if_true] at hshift
      have hfab := Lparse_few (a0 ++ a1) _ hshift
      have hf1 := Lparse_few a1 _ hm
      rw [hshift]
      simp only [if_true]
      rw [if_pos (by omega), if_pos (by rw [List.length_append]; omega), Int.toNat_natCast, List.take_left', List.drop_left']
      · rw [same_f _ (by omega) (by omega) _ (by omega), Option.bind_some, if_pos rfl, same_f _ (by omega) (by omega) _ (by omega), Option.bind_some, if_pos rfl]
        exact rows_tail 63996 a0 a2 (by omega) R' e' hR' hok
      · rfl
      · rfl
    · rw [hm] at hshift ⊢
      simp only [show ¬ ((40 : Int) = 0) by omega, if_false] at hshift
      rw [hshift]
      simp only [if_true, show ¬ ((40 : Int) = 0) by omega, if_false]
      have hp2 : p + 1 ≤ 6001 := by
        have hk := Lp_kinds (rowsOf T u) []
        rw [← hb, hm] at hk
        rcases hk with ⟨_, h2⟩ | ⟨_, p', h2, h3⟩
        · exact absurd (Prod.mk.inj (Prod.mk.inj h2).2).1 (by decide)
        · have := (Prod.mk.inj (Prod.mk.inj h2).2).2
          have hl : (rowsOf T u).length ≤ a1.size := by
            have : (rowsOf T u).length ≤ T.length + u.length := by
              unfold rowsOf
              rw [List.length_append, List.length_map]
              split
              · simp
              · rename_i hne
                have := List.length_pos_iff.2 hne
                simp only [List.length_cons, List.length_nil]
                omega
            have hT2 : T.length ≤ (joined T).length := by rw [← count_joined T hT]; exact List.count_le_length
            have : a1.size = (joined T).length + u.length := by rw [eb, ofL_size, List.length_append]
            omega
          simp only [List.length_nil] at this
          omega
      rw [List.length_map] at hf0 ⊢
      have hw : wrap64 (((p + 1 : Nat) : Int) + (R'.length : Int)) = (R'.length : Int) + ((p + 1 : Nat) : Int) := by rw [wrap_id (by omega) (by omega)]; omega
      rw [hw, bne_self_eq_false]
      exact rows_tail 63996 a0 a2 (by omega) R' e' hR' hok
  · rw [if_neg hz, if_pos (by omega), parse_f _ (a0 ++ a1) (by omega), Option.bind_some]
    by_cases hs0 : (a0.size : Int) > 0
    · obtain ⟨n, hn⟩ : ∃ n, a0.size = n + 1 := ⟨a0.size - 1, by omega⟩
      have hwn : wrap64 ((a0.size : Int) - 1) = (n : Int) := by rw [wrap_id (by omega) (by omega)]; omega
      rw [if_pos hs0, hwn, if_pos (by omega), if_pos (by omega)]
      by_cases hten : bt a0 (n : Int) = 10
      · rw [if_pos hten]
        have hlt : n < a0.size := by omega
        have h10 := (bt_ten a0 n hlt 10).1 hten
        have hv0 : v = [] := by
          refine ends_nl R v hv n ?_ ?_
          · rw [← e]; exact hn
          · rw [← e, List.getElem?_eq_getElem hlt, h10]
        have hpa : Lparse a0 = Lp (rowsOf R []) [] := by rw [ea, Lparse_join R v hR hv, hv0]
        have hsame : Lparse (a0 ++ a1) = Lparse a0 := by
          rw [hjoin hv0, hpa]
          exact Lp_fail _ _ _ (by rw [← hpa]; exact hz)
        rw [hsame, if_pos rfl, if_pos rfl, works_f]
        rfl
      · rw [if_neg hten, works_f]
        rfl
    · exfalso
      have h00 : a0.size = 0 := by omega
      apply hz
      unfold Lparse
      rw [h00]
      rfl
theorem lratRows_walk (a0 : ByteArray) (_ : a0.size ≤ maxLen) (a1 : ByteArray) (_ : a1.size ≤ maxLen) (a2 : Int) (_ : (Lit.int .i64 a2).wf = true) (w : World) (hlt : LT w.heap.size w) :
    Calls Tryd.prog 6 #[.string a0, .string a1, .int .i64 a2] w fun e w' => e = .returned (.bool true) ∧ Below w.heap.size w w' := by
  obtain ⟨k, h⟩ := LratRows_all a0 a1 a2
  exact threshinglaw04_LratRows.calls k a0 a1 a2 true w h hlt
end Go.Proofs.YtfjnkbkcoakooaaDoor.PB
