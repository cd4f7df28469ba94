import Derived.Test.YtfjnkbkcoakooaaDoorPure3
import Derived.Test.YtfjnkbkcoakooaaDoorHGood
import Derived.Test.YtfjnkbkcoakooaaDoorFThreshinglaw04LratLines
namespace Go.Proofs.YtfjnkbkcoakooaaDoor.PB
open Go.RowKit Go.Proofs.YtfjnkbkcoakooaaDoorW.PrintWords Go.Proofs.YtfjnkbkcoakooaaDoorW.PrintLast Go.Proofs.YtfjnkbkcoakooaaDoorW.PrintMore
set_option linter.unusedVariables false
set_option linter.unusedSimpArgs false
theorem works_l (k : Nat) : threshinglaw04_works.f k = some true := by kernel_rfl
theorem write_l (k : Nat) (l : List S43) (h : l.length + Btot l ≤ 6000) : lrat_Write.f k l = some (strOfNums (Lwrite l).1, (Lwrite l).2) := by unfold lrat_Write.f; rw [if_pos h]
theorem parse_l (k : Nat) (s : ByteArray) (h : s.size ≤ 400000) : lrat_Parse.f k s = some (Lparse s) := by unfold lrat_Parse.f; rw [if_pos h]
theorem bt_at_l (t : List UInt8) (i : Nat) (h : i < t.length) : bt (ofL t) (i : Int) = ((t[i]).toNat : Int) := by
  unfold bt
  rw [dif_pos (by rw [Int.toNat_natCast]; exact h)]
  rfl
theorem not_ten (c : UInt8) (h : c ≠ 10) : ¬ ((c.toNat : Nat) : Int) = 10 := by
  intro e
  exact h (UInt8.toNat_inj.1 (by show c.toNat = 10; omega))
theorem text_le_l (l : List S43) (h : ∀ s ∈ l, Bmay s = true) : (textB l).length ≤ 48 * l.length + 22 * Btot l := by
  have e := congrArg List.length (Llines_text l h)
  rw [bytesOf_length, ofL_size] at e
  rw [← e]
  clear e
  induction l with
  | nil => simp [Llines]
  | cons s l ih =>
    have h1 := Lline_length s (Lfit_of s (h s List.mem_cons_self))
    have h2 := ih (fun x hx => h x (List.mem_cons_of_mem _ hx))
    have e : Llines (s :: l) = Lline s ++ Llines l := by simp [Llines]
    rw [e, List.length_append]
    simp only [List.length_cons, Btot]
    omega
/-- Bytes of a line are passed. -/
theorem lines_pass (all : List S43) (t : List UInt8) (ht : t.length ≤ 400000) (j b : Int) : ∀ (d k i : Nat), i + d ≤ t.length → (∀ n, (hn : n < t.length) → i ≤ n → n < i + d → t[n] ≠ 10) →
    threshinglaw04_LratLines.l0 (k + d) all (ofL t) j b (i : Int) = threshinglaw04_LratLines.l0 k all (ofL t) j b ((i + d : Nat) : Int) := by
  intro d
  induction d with
  | zero => intro k i _ _; rfl
  | succ d ih =>
    intro k i hd hno
    have hi : i < t.length := by omega
    have hw : wrap64 ((i : Int) + 1) = ((i + 1 : Nat) : Int) := wrap_cast (by omega)
    rw [show k + (d + 1) = (k + d) + 1 by omega]
    simp only [threshinglaw04_LratLines.l0]
    rw [if_pos (by rw [ofL_size]; omega), if_pos (by omega), if_neg (by rw [bt_at_l t i hi]; exact not_ten _ (hno i hi (by omega) (by omega))), hw]
    have := ih k (i + 1) (by omega) (fun n hn h1 h2 => hno n hn (by omega) (by omega))
    rw [this, show i + 1 + d = i + (d + 1) by omega]
theorem lines_run (all : List S43) (hall : ∀ s ∈ all, Bmay s = true) (hlen : (textB all).length ≤ 400000) (h6 : all.length + Btot all ≤ 6000) : ∀ (rest done : List S43), all = done ++ rest → ∀ k, 
    threshinglaw04_LratLines.l0 (k + 20001 + (textB rest).length) all (ofL (textB all)) (done.length : Int) ((textB done).length : Int) ((textB done).length : Int) = some true := by
  intro rest
  induction rest with
  | nil =>
    intro done hd k
    rw [List.append_nil] at hd
    subst hd
    obtain ⟨q, hq⟩ : ∃ q, k + 20001 + (textB []).length = q + 1 := ⟨k + 20000, rfl⟩
    rw [hq]
    simp only [threshinglaw04_LratLines.l0]
    rw [if_neg (by rw [ofL_size]; omega), if_pos trivial, if_pos (by rw [ofL_size]), works_l]
    rfl
  | cons s rest ih =>
    intro done hd k
    have hs : Bmay s = true := hall s (by rw [hd]; simp)
    have ets : textB (s :: rest) = lineB s ++ 10 :: textB rest := by simp [textB, joined]
    have eta : textB all = textB done ++ (lineB s ++ 10 :: textB rest) := by rw [hd, ← ets]; simp [textB, joined]
    have etd : textB (done ++ [s]) = textB done ++ (lineB s ++ [10]) := by simp [textB, joined]
    have hla := congrArg List.length eta
    simp only [List.length_append, List.length_cons] at hla
    -- to the line's end
    have hpass := lines_pass all (textB all) hlen (done.length : Int) ((textB done).length : Int) (lineB s).length (k + 20002 + (textB rest).length) (textB done).length (by omega) (fun n hn h1 h2 => by
      have : (textB all)[n] = (lineB s)[n - (textB done).length]'(by omega) := by
        have e : (textB all)[n]? = (lineB s)[n - (textB done).length]? := by
          rw [eta, List.getElem?_append_right h1, List.getElem?_append_left (by omega)]
        rw [List.getElem?_eq_getElem hn, List.getElem?_eq_getElem (show n - (textB done).length < (lineB s).length by omega)] at e
        exact Option.some.inj e
      rw [this]
      intro e
      exact lineB_no10 s (by rw [← e]; exact List.getElem_mem _))
    have ek : k + 20001 + (textB (s :: rest)).length = k + 20002 + (textB rest).length + (lineB s).length := by rw [ets]; simp only [List.length_append, List.length_cons]; omega
    rw [ek, hpass]
    -- the line's end
    rw [show k + 20002 + (textB rest).length = (k + 20001 + (textB rest).length) + 1 by omega]
    simp only [threshinglaw04_LratLines.l0]
    have hi : (textB done).length + (lineB s).length < (textB all).length := by omega
    have hten : bt (ofL (textB all)) (((textB done).length + (lineB s).length : Nat) : Int) = 10 := by
      rw [bt_at_l _ _ hi]
      have e : (textB all)[(textB done).length + (lineB s).length]? = some 10 := by
        rw [eta, List.getElem?_append_right (by omega), List.getElem?_append_right (by omega)]
        simp
      rw [List.getElem?_eq_getElem hi] at e
      rw [Option.some.inj e]
      rfl
    have hw : wrap64 ((((textB done).length + (lineB s).length : Nat) : Int) + 1) = (((textB done).length + (lineB s).length + 1 : Nat) : Int) := wrap_cast (by omega)
    have hw2 : wrap64 ((done.length : Int) + 1) = ((done.length + 1 : Nat) : Int) := wrap_cast (by rw [hd] at h6; simp only [List.length_append] at h6; omega)
    have hex : (ofL (textB all)).extract (textB done).length ((textB done).length + (lineB s).length + 1) = ofL (textB [s]) := by
      rw [ofL_extract, eta]
      congr 1
      have e1 : textB [s] = lineB s ++ [10] := by simp [textB, joined]
      rw [e1, List.take_append, List.take_of_length_le (by omega), show (textB done).length + (lineB s).length + 1 - (textB done).length = (lineB s).length + 1 by omega, List.take_append, List.take_of_length_le (show (lineB s).length ≤ (lineB s).length + 1 by omega), show (lineB s).length + 1 - (lineB s).length = 1 by omega]
      simp
    have h1s : (textB [s]).length ≤ 400000 := by
      have e1 : textB [s] = lineB s ++ [10] := by simp [textB, joined]
      rw [e1, List.length_append, List.length_cons, List.length_nil]
      omega
    rw [if_pos (by rw [ofL_size]; omega), if_pos (by omega), if_pos hten, if_pos (by omega), hw, if_pos (by omega), if_pos (by rw [ofL_size]; omega), Int.toNat_natCast, Int.toNat_natCast, hex, parse_l _ _ (by rw [ofL_size]; exact h1s), Option.bind_some, parse_text [s] (fun x hx => by rw [List.mem_singleton.1 hx]; exact hs)]
    simp only [if_true]
    have hdl : (done.length : Int) < (all.length : Int) := by rw [hd, List.length_append, List.length_cons]; omega
    have hrd : rd_T43 all (done.length : Int) = s := by
      have := rd43_nat all (done.length : Int) (by omega) hdl
      have e1 : ((done.length : Int) + 1).toNat = done.length + 1 := by omega
      rw [e1, Int.toNat_natCast] at this
      have ea : all.take (done.length + 1) = done ++ [s] := by rw [hd, show done ++ s :: rest = (done ++ [s]) ++ rest by simp]; exact List.take_left' (by simp)
      have eb : all.take done.length = done := by rw [hd]; exact List.take_left' rfl
      rw [ea, eb] at this
      exact (List.cons.inj (List.append_cancel_left this)).1.symm
    have hr0 : rd_T43 [s] 0 = s := rfl
    have hm := Btot_mem all s (by rw [hd]; simp)
    rw [if_neg (by omega), if_pos (by rfl), if_pos (by simp), if_pos (by omega), if_pos hdl, hrd, hr0, sameStep_f s (by omega) (by omega) _ (by omega), Option.bind_some, if_pos rfl, hw2]
    have := ih (done ++ [s]) (by rw [hd]; simp) k
    rw [etd] at this
    simpa [Nat.add_assoc] using this
theorem LratLines_all (l : List S43) (hl : l.length ≤ 9223372036854775807) : ∃ k, threshinglaw04_LratLines.f k l = some true := by
  obtain ⟨m, hm, hsm⟩ := size_ev l hl
  have : Ev (fun k => threshinglaw04_LratLines.f k l) true := by
    unfold threshinglaw04_LratLines.f
    refine Ev.bind hm ?_
    by_cases h6 : m > 6000
    · simp only [if_pos h6, works_l]
      exact Ev.now _
    · simp only [if_neg h6]
      have hl6 := hsm (by omega)
      simp only [write_l _ l hl6, Option.bind_some]
      unfold Lwrite
      by_cases ha : l.all Bmay = true
      · have hall := List.all_eq_true.1 ha
        have hsz := text_le_l l hall
        simp only [if_pos ha, if_true, write_text l hall]
        refine ⟨20001 + (textB l).length, fun k hk => ?_⟩
        obtain ⟨q, rfl⟩ : ∃ q, k = q + 20001 + (textB l).length := ⟨k - (20001 + (textB l).length), by omega⟩
        exact lines_run l hall (by omega) hl6 l [] rfl q
      · simp only [if_neg ha, show ¬ ((40 : Int) = 0) by omega, if_false, works_l]
        exact Ev.now _
  exact this.rounds
theorem lratLines_walk {w : World} (A0 : Option Addr) (c0 : Nat) (l0 : List S43) (hr0 : Kd.C k43 w A0 l0.length l0) (hc0 : l0.length ≤ c0) (hg : GoodSteps l0) (w' : World) (hlt : LT w'.heap.size w') (hw : w' = w := by rfl) :
    Calls Tryd.prog 7 #[.slice A0 l0.length c0] w' fun e w'' => e = .returned (.bool true) ∧ Below w'.heap.size w' w'' := by
  subst hw
  obtain ⟨k, h⟩ := LratLines_all l0 (by have := hg.1; unfold maxLen at this; omega)
  exact threshinglaw04_LratLines.calls k A0 c0 l0 true _ hr0 hc0 h hlt
end Go.Proofs.YtfjnkbkcoakooaaDoor.PB
