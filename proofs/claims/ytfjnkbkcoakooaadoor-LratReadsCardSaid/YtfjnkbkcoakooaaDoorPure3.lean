import Derived.Test.YtfjnkbkcoakooaaDoorPure2
namespace Go.Proofs.YtfjnkbkcoakooaaDoor.PB
open Go.RowKit Go.Proofs.YtfjnkbkcoakooaaDoorW.PrintWords Go.Proofs.YtfjnkbkcoakooaaDoorW.PrintLast Go.Proofs.YtfjnkbkcoakooaaDoorW.PrintMore
set_option linter.unusedVariables false
set_option linter.unusedSimpArgs false
/-! ### Numbers, there and back -/
theorem dec_byte (d : Nat) (h : d < 10) : (UInt8.ofNat (48 + d)).toNat = 48 + d := by
  rw [UInt8.toNat_ofNat']
  omega
theorem dec_parse (u : Nat) (hu : u < 18446744073709551616) (r : List UInt8) : Lib.parseUint10 0 (Lib.decDigits u ++ r) = Lib.parseUint10 u r := by
  induction u using Nat.strongRecOn generalizing r with
  | _ u ih =>
    by_cases h : u < 10
    · rw [Lib.decDigits_one h]
      have e := dec_byte u h
      simp only [List.cons_append, List.nil_append, Lib.parseUint10, e]
      rw [if_pos (by omega), if_neg (by omega), if_neg (by omega)]
      congr 1
      omega
    · rw [Lib.decDigits, dif_neg h, List.append_assoc, ih (u / 10) (by omega) (by omega)]
      have e := dec_byte (u % 10) (by omega)
      simp only [List.cons_append, List.nil_append, Lib.parseUint10, e]
      rw [if_pos (by omega), if_neg (by omega), if_neg (by omega)]
      congr 1
      omega
theorem dec_digits (u : Nat) : ∀ b ∈ Lib.decDigits u, 48 ≤ b.toNat ∧ b.toNat ≤ 57 := by
  induction u using Nat.strongRecOn with
  | _ u ih =>
    by_cases h : u < 10
    · rw [Lib.decDigits_one h]
      intro b hb
      rw [List.mem_singleton.1 hb, dec_byte u h]
      omega
    · rw [Lib.decDigits, dif_neg h]
      intro b hb
      rcases List.mem_append.1 hb with hb | hb
      · exact ih (u / 10) (by omega) b hb
      · rw [List.mem_singleton.1 hb, dec_byte (u % 10) (by omega)]
        omega
theorem dec_ne (u : Nat) : Lib.decDigits u ≠ [] := by
  have := Lib.nDigits_pos u
  rw [← Lib.decDigits_length] at this
  intro h
  rw [h] at this
  exact absurd this (by decide)
theorem dec_mag (u : Nat) (hu : u < 18446744073709551616) : Lib.parseMag (Lib.decDigits u) = .ok u := by
  unfold Lib.parseMag
  rw [if_neg (dec_ne u)]
  have := dec_parse u hu []
  rw [List.append_nil] at this
  exact this
theorem itoa_parse (v : Int) (h0 : -9223372036854775808 ≤ v) (h1 : v ≤ 9223372036854775807) : Lib.parseIntB 64 (Lib.itoa v) = .ok v := by
  rw [Lib.parseIntB_64]
  unfold Lib.itoa
  by_cases h : v < 0
  · rw [if_pos h, Lib.atoiAll_minus, dec_mag _ (by omega)]
    simp only [Lib.signed]
    rw [if_neg (by omega)]
    congr 1
    omega
  · rw [if_neg h]
    cases hd : Lib.decDigits v.toNat with
    | nil => exact absurd hd (dec_ne _)
    | cons c r =>
      have hc := dec_digits v.toNat c (by rw [hd]; exact List.mem_cons_self)
      rw [Lib.atoiAll_plain c r (by omega) (by omega), ← hd, dec_mag _ (by omega)]
      simp only [Lib.signless]
      rw [if_neg (by omega)]
      congr 1
      omega
def Isint (v : Int) : Prop := -9223372036854775808 ≤ v ∧ v ≤ 9223372036854775807
theorem Lnumber_itoa (v : Int) (h : Isint v) : Lnumber (ofL (Lib.itoa v)) = (v, true) := by
  unfold Lnumber
  rw [ofL_data, itoa_parse v h.1 h.2]
  simp
theorem Lnumber_right (x : ByteArray) (h : (Lnumber x).2 = true) : x = ofL (Lib.itoa (Lnumber x).1) ∧ Isint (Lnumber x).1 := by
  unfold Lnumber at *
  split at h
  · rename_i v hp
    have hb := Lib.parseIntB_bounds hp
    have e := of_decide_eq_true h
    refine ⟨?_, ⟨by have := hb.1; simp at this; show -9223372036854775808 ≤ v; omega, by have := hb.2; simp at this; show v ≤ 9223372036854775807; omega⟩⟩
    simp only
    rw [e]
    rfl
  · cases h
  · cases h
theorem itoa_bytes (v : Int) : ∀ b ∈ Lib.itoa v, b = 45 ∨ (48 ≤ b.toNat ∧ b.toNat ≤ 57) := by
  unfold Lib.itoa
  split
  · intro b hb
    rcases List.mem_cons.1 hb with rfl | hb
    · exact .inl rfl
    · exact .inr (dec_digits _ b hb)
  · intro b hb
    exact .inr (dec_digits _ b hb)
theorem itoa_no (v : Int) (c : UInt8) (hc : c ≠ 45) (hc2 : c.toNat < 48 ∨ 57 < c.toNat) : c ∉ Lib.itoa v := by
  intro h
  rcases itoa_bytes v c h with h | h
  · exact hc h
  · omega
theorem itoa_zero : Lib.itoa 0 = [48] := by
  unfold Lib.itoa
  rw [if_neg (by omega), show (0 : Int).toNat = 0 from rfl, Lib.decDigits_one (by omega)]
  rfl
theorem itoa_pos (v : Int) : 1 ≤ (Lib.itoa v).length := by
  unfold Lib.itoa
  split
  · simp
  · exact List.length_pos_iff.2 (dec_ne _)
/-! ### Words -/
def spaced : List (List UInt8) → List UInt8
  | [] => []
  | x :: r => x ++ r.flatMap fun y => 32 :: y
theorem spaced_cons (x y : List UInt8) (r : List (List UInt8)) : spaced (x :: y :: r) = x ++ 32 :: spaced (y :: r) := by
  simp [spaced]
theorem indexB_at (a b : List UInt8) (ha : 32 ∉ a) : Lib.indexB (ofL (a ++ 32 :: b)) ⟨#[32]⟩ = (a.length : Int) := index_at a b 32 ha
theorem indexB_no (a : List UInt8) (ha : 32 ∉ a) : Lib.indexB (ofL a) ⟨#[32]⟩ = -1 := index_no a 32 ha
theorem ofL_extract (l : List UInt8) (a b : Nat) : (ofL l).extract a b = ofL ((l.take b).drop a) := by
  apply ByteArray.ext
  simp [ofL, List.extract_eq_take_drop]
  try rw [List.drop_take]
theorem Lwordsof_spaced : ∀ (r : List (List UInt8)) (x : List UInt8), (∀ y ∈ x :: r, 32 ∉ y) → Lwordsof (ofL (spaced (x :: r))) = (x :: r).map ofL := by
  intro r
  induction r with
  | nil =>
    intro x h
    have e : spaced [x] = x := by simp [spaced]
    have hm := indexB_no x (h x List.mem_cons_self)
    unfold Lwordsof
    rw [e, Lib.countB_miss _ _ hm]
    rfl
  | cons y r ih =>
    intro x h
    have hm := indexB_at x (spaced (y :: r)) (h x List.mem_cons_self)
    have hih := ih y (fun z hz => h z (List.mem_cons_of_mem _ hz))
    unfold Lwordsof at hih ⊢
    rw [spaced_cons, Lib.countB_hit _ _ x.length (by decide) hm, Nat.add_comm, Lib.splitB_hit _ _ _ _ x.length hm]
    have e1 : (ofL (x ++ 32 :: spaced (y :: r))).extract 0 (x.length + 0) = ofL x := by rw [ofL_extract]; simp
    have e2 : (ofL (x ++ 32 :: spaced (y :: r))).extract (x.length + (⟨#[32]⟩ : ByteArray).size) (ofL (x ++ 32 :: spaced (y :: r))).size = ofL (spaced (y :: r)) := by
      rw [ofL_extract, ofL_size, List.take_length]
      congr 1
      show List.drop (x.length + 1) _ = _
      rw [List.drop_append]
      simp
    rw [e1, e2, hih]
    rfl
theorem split_sp : ∀ (t : List UInt8), ∃ x r, t = spaced (x :: r) ∧ ∀ y ∈ x :: r, 32 ∉ y := by
  intro t
  induction t with
  | nil => exact ⟨[], [], rfl, by simp⟩
  | cons c t ih =>
    obtain ⟨x, r, e, h⟩ := ih
    by_cases hc : c = 32
    · refine ⟨[], x :: r, ?_, ?_⟩
      · rw [spaced_cons, e, hc]; rfl
      · intro y hy
        rcases List.mem_cons.1 hy with rfl | hy
        · simp
        · exact h y hy
    · refine ⟨c :: x, r, ?_, ?_⟩
      · rw [e]; simp [spaced]
      · intro y hy
        rcases List.mem_cons.1 hy with rfl | hy
        · simp only [List.mem_cons, not_or]; exact ⟨fun e => hc e.symm, h x List.mem_cons_self⟩
        · exact h y (List.mem_cons_of_mem _ hy)
/-! ### A line -/
def lineW (s : S43) : List (List UInt8) := (if s.f0 = 2 then [[100]] else []) ++ (s.f2.map Lib.itoa ++ ((if s.f0 = 1 then [[48]] else []) ++ (s.f3.map Lib.itoa ++ [[48]])))
def lineB (s : S43) : List UInt8 := spaced (Lib.itoa s.f1 :: lineW s)
theorem lineW_mem (s : S43) : ∀ y ∈ Lib.itoa s.f1 :: lineW s, y = [100] ∨ ∃ v, y = Lib.itoa v := by
  intro y hy
  rcases List.mem_cons.1 hy with rfl | hy
  · exact .inr ⟨_, rfl⟩
  unfold lineW at hy
  simp only [List.mem_append, List.mem_map, List.mem_singleton] at hy
  rcases hy with hy | ⟨v, _, rfl⟩ | hy | ⟨v, _, rfl⟩ | rfl
  · split at hy
    · exact .inl (List.mem_singleton.1 hy)
    · cases hy
  · exact .inr ⟨_, rfl⟩
  · split at hy
    · exact .inr ⟨0, by rw [itoa_zero]; exact List.mem_singleton.1 hy⟩
    · cases hy
  · exact .inr ⟨_, rfl⟩
  · exact .inr ⟨0, itoa_zero.symm⟩
theorem lineW_no (s : S43) (c : UInt8) (hc : c = 32 ∨ c = 10) : ∀ y ∈ Lib.itoa s.f1 :: lineW s, c ∉ y := by
  intro y hy
  rcases lineW_mem s y hy with rfl | ⟨v, rfl⟩
  · rcases hc with rfl | rfl <;> decide
  · rcases hc with rfl | rfl
    · exact itoa_no v 32 (by decide) (.inl (by decide))
    · exact itoa_no v 10 (by decide) (.inl (by decide))
theorem spaced_no10 (x : List UInt8) (r : List (List UInt8)) (h : ∀ y ∈ x :: r, 10 ∉ y) : 10 ∉ spaced (x :: r) := by
  intro hm
  unfold spaced at hm
  rcases List.mem_append.1 hm with hm | hm
  · exact h x List.mem_cons_self hm
  · obtain ⟨y, hy, hm⟩ := List.mem_flatMap.1 hm
    rcases List.mem_cons.1 hm with e | hm
    · exact absurd e (by decide)
    · exact h y (List.mem_cons_of_mem _ hy) hm
theorem lineB_no10 (s : S43) : 10 ∉ lineB s := spaced_no10 _ _ (lineW_no s 10 (.inr rfl))
def Glit (x : Int) : Prop := x ≠ 0 ∧ -1048576 ≤ x ∧ x ≤ 1048576
def Ghint (x : Int) : Prop := x ≠ 0 ∧ Isint x
theorem wrap32_id {x : Int} (h0 : -1048576 ≤ x) (h1 : x ≤ 1048576) : wrap32 x = x := by unfold wrap32; omega
theorem takeL_right (all rest : List ByteArray) : ∀ (l : List Int) (st : S43), (∀ x ∈ l, Glit x) → LutakeL all (l.map (fun v => ofL (Lib.itoa v)) ++ ofL [48] :: rest) st = (true, rest, ⟨st.f0, st.f1, st.f2 ++ l, st.f3⟩) := by
  intro l
  induction l with
  | nil =>
    intro st _
    have e := Lnumber_itoa 0 ⟨by decide, by decide⟩
    rw [itoa_zero] at e
    simp [LutakeL, e]
  | cons x l ih =>
    intro st h
    have hx := h x List.mem_cons_self
    have e := Lnumber_itoa x ⟨by have := hx.2.1; omega, by have := hx.2.2; omega⟩
    have hin : inL x = true := by unfold inL; rw [decide_eq_true hx.2.1, decide_eq_true hx.2.2]; rfl
    rw [List.map_cons, List.cons_append]
    simp only [LutakeL, e, hin, if_true, Bool.true_eq_false, if_false, if_neg hx.1]
    rw [ih _ (fun y hy => h y (List.mem_cons_of_mem _ hy))]
    simp [addL, wrap32_id hx.2.1 hx.2.2]
theorem takeH_right (all rest : List ByteArray) : ∀ (l : List Int) (st : S43), (∀ x ∈ l, Ghint x) → LutakeH all (l.map (fun v => ofL (Lib.itoa v)) ++ ofL [48] :: rest) st = (true, rest, ⟨st.f0, st.f1, st.f2, st.f3 ++ l⟩) := by
  intro l
  induction l with
  | nil =>
    intro st _
    have e := Lnumber_itoa 0 ⟨by decide, by decide⟩
    rw [itoa_zero] at e
    simp [LutakeH, e]
  | cons x l ih =>
    intro st h
    have hx := h x List.mem_cons_self
    have e := Lnumber_itoa x hx.2
    rw [List.map_cons, List.cons_append]
    simp only [LutakeH, e, Bool.true_eq_false, if_false, if_neg hx.1]
    rw [ih _ (fun y hy => h y (List.mem_cons_of_mem _ hy))]
    simp [addH]
theorem zero_word (x : ByteArray) (h2 : (Lnumber x).2 = true) (h1 : (Lnumber x).1 = 0) : x = ofL [48] := by
  have := (Lnumber_right x h2).1
  rw [h1, itoa_zero] at this
  exact this
theorem takeL_left (all : List ByteArray) : ∀ (ws : List ByteArray) (st : S43), (LutakeL all ws st).1 = true →
    ∃ l : List Int, (∀ x ∈ l, Glit x) ∧ ws = l.map (fun v => ofL (Lib.itoa v)) ++ ofL [48] :: (LutakeL all ws st).2.1 ∧ (LutakeL all ws st).2.2 = ⟨st.f0, st.f1, st.f2 ++ l, st.f3⟩ := by
  intro ws
  induction ws with
  | nil => intro st h; cases h
  | cons x r ih =>
    intro st h
    rw [LutakeL] at h ⊢
    split at h
    · cases h
    · rename_i h2
      have h2 : (Lnumber x).2 = true := by simpa using h2
      rw [if_neg (by simp [h2])]
      split at h
      · rename_i h1
        rw [if_pos h1]
        exact ⟨[], by simp, by rw [← zero_word x h2 h1]; rfl, by simp⟩
      · rename_i h1
        rw [if_neg h1]
        split at h
        · rename_i hin
          rw [if_pos hin]
          have hin2 : -1048576 ≤ (Lnumber x).1 ∧ (Lnumber x).1 ≤ 1048576 := by simpa [inL] using hin
          obtain ⟨l, hl, e, e2⟩ := ih _ h
          refine ⟨(Lnumber x).1 :: l, ?_, ?_, ?_⟩
          · intro y hy
            rcases List.mem_cons.1 hy with rfl | hy
            · exact ⟨h1, hin2⟩
            · exact hl y hy
          · rw [List.map_cons, List.cons_append, ← (Lnumber_right x h2).1, ← e]
          · rw [e2]
            simp [addL, wrap32_id hin2.1 hin2.2]
        · cases h
theorem takeH_left (all : List ByteArray) : ∀ (ws : List ByteArray) (st : S43), (LutakeH all ws st).1 = true →
    ∃ l : List Int, (∀ x ∈ l, Ghint x) ∧ ws = l.map (fun v => ofL (Lib.itoa v)) ++ ofL [48] :: (LutakeH all ws st).2.1 ∧ (LutakeH all ws st).2.2 = ⟨st.f0, st.f1, st.f2, st.f3 ++ l⟩ := by
  intro ws
  induction ws with
  | nil => intro st h; cases h
  | cons x r ih =>
    intro st h
    rw [LutakeH] at h ⊢
    split at h
    · cases h
    · rename_i h2
      have h2 : (Lnumber x).2 = true := by simpa using h2
      rw [if_neg (by simp [h2])]
      split at h
      · rename_i h1
        rw [if_pos h1]
        exact ⟨[], by simp, by rw [← zero_word x h2 h1]; rfl, by simp⟩
      · rename_i h1
        rw [if_neg h1]
        obtain ⟨l, hl, e, e2⟩ := ih _ h
        refine ⟨(Lnumber x).1 :: l, ?_, ?_, ?_⟩
        · intro y hy
          rcases List.mem_cons.1 hy with rfl | hy
          · exact ⟨h1, (Lnumber_right x h2).2⟩
          · exact hl y hy
        · rw [List.map_cons, List.cons_append, ← (Lnumber_right x h2).1, ← e]
        · rw [e2]
          simp [addH]
theorem may_parts (s : S43) (h : Bmay s = true) : (s.f0 = 1 ∨ s.f0 = 2 ∧ s.f2 = []) ∧ Isint s.f1 ∧ (∀ x ∈ s.f2, Glit x) ∧ (∀ x ∈ s.f3, Ghint x) := by
  unfold Bmay at h
  simp only [Bool.and_eq_true, Bool.or_eq_true, decide_eq_true_eq, List.all_eq_true, Bool.not_eq_true', decide_eq_false_iff_not, List.length_eq_zero_iff] at h
  obtain ⟨⟨⟨h1, h2⟩, h3⟩, h4⟩ := h
  refine ⟨?_, ⟨by omega, by omega⟩, fun x hx => ?_, fun x hx => ?_⟩
  · rcases h1 with h1 | h1
    · exact .inl h1.1
    · exact .inr ⟨h1.1.1, h1.2⟩
  · have := h3 x hx
    exact ⟨this.1.1, this.1.2, this.2⟩
  · have := h4 x hx
    exact ⟨this.1.1.1, by have := this.1.1.2; omega, by have := this.1.2; omega⟩
/-- A line of a step that may be is read as that step. -/
theorem line_right (s : S43) (h : Bmay s = true) : Lparse1 (ofL (lineB s)) = (s, true) := by
  obtain ⟨hk, hid, h2, h3⟩ := may_parts s h
  obtain ⟨k, id, f2, f3⟩ := s
  unfold Lparse1 lineB
  rw [Lwordsof_spaced _ _ (lineW_no _ 32 (.inl rfl))]
  simp only [List.map_cons]
  rw [Lnumber_itoa id hid]
  simp only
  rcases hk with hk | ⟨hk, hf⟩
  · simp only at hk
    subst hk
    have ew : (lineW ⟨1, id, f2, f3⟩).map ofL = f2.map (fun v => ofL (Lib.itoa v)) ++ ofL [48] :: (f3.map (fun v => ofL (Lib.itoa v)) ++ [ofL [48]]) := by
      simp [lineW, Function.comp_def]
    rw [ew]
    unfold Lread
    have hdel : Ldel (f2.map (fun v => ofL (Lib.itoa v)) ++ ofL [48] :: (f3.map (fun v => ofL (Lib.itoa v)) ++ [ofL [48]])) = false := by
      have key : ∀ v, Lib.itoa v ≠ [100] := fun v e => itoa_no v 100 (by decide) (.inr (by decide)) (by rw [e]; exact List.mem_cons_self)
      cases f2 with
      | nil => rfl
      | cons x l => exact decide_eq_false (key x)
    rw [if_neg (by rw [hdel]; simp)]
    simp only [Lgo, if_true]
    rw [takeL_right _ _ f2 _ h2]
    simp only [if_true, Bool.false_eq_true, if_false]
    rw [takeH_right _ _ f3 _ h3]
    simp [Lfin, h]
  · simp only at hk hf
    subst hk
    subst hf
    have ew : (lineW ⟨2, id, [], f3⟩).map ofL = ofL [100] :: (f3.map (fun v => ofL (Lib.itoa v)) ++ [ofL [48]]) := by
      simp [lineW, Function.comp_def]
    rw [ew]
    unfold Lread
    rw [if_pos (by rfl)]
    simp only [Lgo, if_true, Bool.false_eq_true, if_false, List.drop_succ_cons, List.drop_zero]
    rw [takeH_right _ _ f3 _ h3]
    simp [Lfin, h]
/-- .. and what is read is the line of a step that may be. -/
theorem line_left (r : List UInt8) (h : okRow r) : Bmay (stepOf r) = true ∧ r = lineB (stepOf r) := by
  obtain ⟨x, t, e, hno⟩ := split_sp r
  have hw := Lwordsof_spaced t x hno
  rw [← e] at hw
  unfold okRow stepOf at *
  unfold Lparse1 at h ⊢
  rw [hw] at h ⊢
  simp only [List.map_cons] at h ⊢
  unfold Lfin at h ⊢
  simp only [Bool.and_eq_true, decide_eq_true_eq, List.length_eq_zero_iff] at h ⊢
  obtain ⟨h1, h0, hm⟩ := h
  refine ⟨hm, ?_⟩
  have inj : ∀ (l : List (List UInt8)) (m : List (List UInt8)), l.map ofL = m.map ofL → l = m := fun l m hlm => by
    have := congrArg (fun z => z.map fun s : ByteArray => s.data.toList) hlm
    simpa [Function.comp_def, ofL] using this
  have hok : (Lnumber (ofL x)).2 = true := by
    cases hq : (Lnumber (ofL x)).2 with
    | true => rfl
    | false =>
      rw [hq] at h1
      unfold Lread at h1
      split at h1 <;> simp [Lgo] at h1
  obtain ⟨ex, _⟩ := Lnumber_right _ hok
  have ex := ofL_inj ex
  rw [hok] at h1 h0 hm ⊢
  unfold Lread at h1 h0 hm ⊢
  by_cases hd : Ldel (t.map ofL) = true
  · rw [if_pos hd] at h1 h0 ⊢
    cases t with
    | nil => cases hd
    | cons y t =>
      have hy : y = [100] := of_decide_eq_true hd
      subst hy
      simp only [Lgo, if_true, Bool.false_eq_true, if_false, List.map_cons, List.drop_succ_cons, List.drop_zero] at h1 h0 ⊢
      obtain ⟨l, hl, el, es⟩ := takeH_left _ _ _ h1
      rw [es]
      rw [h0] at el
      have et : t = l.map Lib.itoa ++ [[48]] := inj _ _ (by rw [el]; simp [Function.comp_def])
      rw [e, et]
      unfold lineB
      rw [← ex]
      simp [lineW]
  · rw [if_neg hd] at h1 h0 ⊢
    simp only [Lgo, if_true, Bool.false_eq_true, if_false] at h1 h0 ⊢
    have hL : (LutakeL (t.map ofL) (t.map ofL) ⟨1, (Lnumber (ofL x)).1, [], []⟩).1 = true := by
      cases hq : (LutakeL (t.map ofL) (t.map ofL) ⟨1, (Lnumber (ofL x)).1, [], []⟩).1 with
      | true => rfl
      | false => rw [hq] at h1; simp at h1
    rw [if_pos hL] at h1 h0 ⊢
    obtain ⟨l, hl, el, es⟩ := takeL_left _ _ _ hL
    obtain ⟨m, hm', em, es'⟩ := takeH_left _ _ _ h1
    rw [es', es]
    rw [h0] at em
    have et : t = l.map Lib.itoa ++ [48] :: (m.map Lib.itoa ++ [[48]]) := inj _ _ (by rw [el, em]; simp [Function.comp_def])
    rw [e, et]
    unfold lineB
    rw [← ex]
    simp [lineW]
theorem line_ok (s : S43) (h : Bmay s = true) : okRow (lineB s) ∧ stepOf (lineB s) = s := by
  unfold okRow stepOf
  rw [line_right s h]
  exact ⟨rfl, rfl⟩
/-! ### Whole texts -/
theorem bytesOf_ofL (l : List UInt8) : bytesOf (ofL l) = l.map fun b => (b.toNat : Int) := rfl
def textB (l : List S43) : List UInt8 := joined (l.map lineB)
theorem Lline_text (s : S43) (h : s.f0 = 1 ∨ s.f0 = 2) : Lline s = bytesOf (ofL (lineB s ++ [10])) := by
  have hw : ∀ l : List Int, Lwords l = bytesOf (ofL ((l.map Lib.itoa).flatMap fun y => 32 :: y)) := by
    intro l
    induction l with
    | nil => rfl
    | cons x l ih =>
      have e : Lwords (x :: l) = Lword x ++ Lwords l := by simp [Lwords]
      rw [e, ih, Lword_eq]
      simp [Lnum, bytesOf, ofL]
  unfold Lline Lmid Lhead lineB
  rw [hw, hw]
  have hz : Lword 0 = bytesOf (ofL [32, 48]) := by rw [Lword_eq]; unfold Lnum; rw [itoa_zero]; rfl
  rw [hz]
  have hn : Lnum s.f1 = bytesOf (ofL (Lib.itoa s.f1)) := rfl
  rw [hn]
  rcases h with h | h
  · simp [h, lineW, spaced, bytesOf_ofL, List.flatMap_append]
  · simp [h, lineW, spaced, bytesOf_ofL, List.flatMap_append]
theorem Llines_text (l : List S43) (h : ∀ s ∈ l, Bmay s = true) : Llines l = bytesOf (ofL (textB l)) := by
  induction l with
  | nil => rfl
  | cons s l ih =>
    have e : Llines (s :: l) = Lline s ++ Llines l := by simp [Llines]
    rw [e, ih (fun x hx => h x (List.mem_cons_of_mem _ hx)), Lline_text s (by rcases (may_parts s (h s List.mem_cons_self)).1 with h | h; exact .inl h; exact .inr h.1)]
    simp [textB, joined, bytesOf_ofL]
theorem write_text (l : List S43) (h : ∀ s ∈ l, Bmay s = true) : strOfNums (Llines l) = ofL (textB l) := by
  rw [Llines_text l h, strOf_bytes]
theorem textB_rows (l : List S43) : ∀ r ∈ l.map lineB, 10 ∉ r := by
  intro r hr
  obtain ⟨s, _, rfl⟩ := List.mem_map.1 hr
  exact lineB_no10 s
theorem parse_text (l : List S43) (h : ∀ s ∈ l, Bmay s = true) : Lparse (ofL (textB l)) = (l, 0, 0) := by
  have := Lparse_right (l.map lineB) (textB_rows l) (fun r hr => by
    obtain ⟨s, hs, rfl⟩ := List.mem_map.1 hr
    exact (line_ok s (h s hs)).1)
  unfold textB
  rw [this, List.map_map]
  congr 1
  conv => rhs; rw [← List.map_id l]
  exact List.map_congr_left fun s hs => (line_ok s (h s hs)).2
theorem text_parse (s : ByteArray) (h : (Lparse s).2.1 = 0) : ∃ m, Lparse s = (m, 0, 0) ∧ (∀ x ∈ m, Bmay x = true) ∧ s = ofL (textB m) := by
  obtain ⟨R, e, hR, hok, hp⟩ := Lparse_zero s h
  refine ⟨_, hp, fun x hx => ?_, ?_⟩
  · obtain ⟨r, hr, rfl⟩ := List.mem_map.1 hx
    exact (line_left r (hok r hr)).1
  · rw [e]
    unfold textB
    rw [List.map_map]
    congr 2
    conv => lhs; rw [← List.map_id R]
    exact List.map_congr_left fun r hr => (line_left r (hok r hr)).2
theorem spaced_len (x : List UInt8) (r : List (List UInt8)) : r.length ≤ (spaced (x :: r)).length := by
  unfold spaced
  have : r.length ≤ (r.flatMap fun y => 32 :: y).length := by
    induction r with
    | nil => simp
    | cons y r ih => simp only [List.flatMap_cons, List.length_append, List.length_cons] at ih ⊢; omega
  rw [List.length_append]
  omega
theorem text_size (l : List S43) : l.length + Btot l ≤ (textB l).length := by
  induction l with
  | nil => simp [Btot]
  | cons s l ih =>
    have e : textB (s :: l) = lineB s ++ 10 :: textB l := by simp [textB, joined]
    have h1 := spaced_len (Lib.itoa s.f1) (lineW s)
    have h2 : s.f2.length + s.f3.length ≤ (lineW s).length := by unfold lineW; simp only [List.length_append, List.length_map]; omega
    rw [e, List.length_append, List.length_cons]
    unfold lineB
    simp only [List.length_cons, Btot]
    omega
end Go.Proofs.YtfjnkbkcoakooaaDoor.PB
