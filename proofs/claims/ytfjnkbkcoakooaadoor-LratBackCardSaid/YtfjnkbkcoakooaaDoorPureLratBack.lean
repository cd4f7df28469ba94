import Derived.Test.YtfjnkbkcoakooaaDoorPure3
import Derived.Test.YtfjnkbkcoakooaaDoorHGood
import Derived.Test.YtfjnkbkcoakooaaDoorFThreshinglaw04LratBack
namespace Go.Proofs.YtfjnkbkcoakooaaDoor.PB
open Go.RowKit Go.Proofs.YtfjnkbkcoakooaaDoorW.PrintWords Go.Proofs.YtfjnkbkcoakooaaDoorW.PrintLast Go.Proofs.YtfjnkbkcoakooaaDoorW.PrintMore
set_option linter.unusedVariables false
set_option linter.unusedSimpArgs false
theorem works_b (k : Nat) : threshinglaw04_works.f k = some true := by kernel_rfl
theorem parse_b (k : Nat) (s : ByteArray) (h : s.size ≤ 400000) : lrat_Parse.f k s = some (Lparse s) := by unfold lrat_Parse.f; rw [if_pos h]
theorem write_b (k : Nat) (l : List S43) (h : l.length + Btot l ≤ 6000) : lrat_Write.f k l = some (strOfNums (Lwrite l).1, (Lwrite l).2) := by unfold lrat_Write.f; rw [if_pos h]
theorem text_le (l : List S43) (h : ∀ s ∈ l, Bmay s = true) (hl : l.length + Btot l ≤ 6000) : (textB l).length ≤ 400000 := by
  have e := congrArg List.length (Llines_text l h)
  rw [bytesOf_length, ofL_size] at e
  have key : ∀ l : List S43, (∀ s ∈ l, Bmay s = true) → (Llines l).length ≤ 48 * l.length + 22 * Btot l := by
    intro l
    induction l with
    | nil => intro _; simp [Llines]
    | cons s l ih =>
      intro h
      have h1 := Lline_length s (Lfit_of s (h s List.mem_cons_self))
      have h2 := ih (fun x hx => h x (List.mem_cons_of_mem _ hx))
      have e : Llines (s :: l) = Lline s ++ Llines l := by simp [Llines]
      rw [e, List.length_append]
      simp only [List.length_cons, Btot]
      omega
  have := key l h
  omega
theorem back_j1 (k : Nat) (a1 : ByteArray) (h1 : a1.size ≤ 6000) : threshinglaw04_LratBack.j1 (k + 1) a1 = some true := by
  simp only [threshinglaw04_LratBack.j1]
  rw [parse_b _ _ (by omega), Option.bind_some]
  rcases Lparse_kinds a1 with ⟨m, hm⟩ | ⟨p, hm⟩
  · obtain ⟨m', hm', hmay, es⟩ := text_parse a1 (by rw [hm])
    rw [hm'] 
    simp only [if_true]
    have hsz := text_size m'
    have hsz2 : a1.size = (textB m').length := by rw [es]; rfl
    rw [write_b _ _ (by omega), Option.bind_some]
    have hw : Lwrite m' = (Llines m', 0) := by unfold Lwrite; rw [if_pos (List.all_eq_true.2 hmay)]
    rw [hw]
    simp only [if_true]
    rw [write_text m' hmay, ← es, if_pos rfl, works_b]
    rfl
  · rw [hm]
    simp only [show ¬ ((40 : Int) = 0) by omega, if_false]
    rw [if_pos (by rfl), if_pos (by omega), works_b]
    rfl
theorem back_j0 (k : Nat) (l : List S43) (a1 : ByteArray) (hl : l.length + Btot l ≤ 6000) (h1 : a1.size ≤ 6000) : threshinglaw04_LratBack.j0 (k + 20001) l a1 false = some true := by
  simp only [threshinglaw04_LratBack.j0, Bool.false_eq_true, if_false]
  rw [write_b _ _ hl, Option.bind_some]
  have hj := back_j1 (k + 19999) a1 h1
  unfold Lwrite
  by_cases hm : l.all Bmay = true
  · rw [if_pos hm]
    have hmay := List.all_eq_true.1 hm
    simp only [if_true]
    have ht := text_le l hmay hl
    rw [write_text l hmay, parse_b _ _ (by rw [ofL_size]; exact ht), Option.bind_some, parse_text l hmay]
    simp only [if_true]
    rw [same_f l (by omega) (by omega) _ (by omega), Option.bind_some, if_pos rfl]
    exact hj
  · rw [if_neg hm]
    simp only [show ¬ ((40 : Int) = 0) by omega, if_false]
    rw [if_pos (by rw [Lib.toList_data]; rfl)]
    exact hj
theorem LratBack_all (l : List S43) (hl : l.length ≤ 9223372036854775807) (a1 : ByteArray) : ∃ k, threshinglaw04_LratBack.f k l a1 = some true := by
  obtain ⟨m, ⟨K, hK⟩, hm⟩ := size_ev l hl
  refine ⟨K + 20001, ?_⟩
  unfold threshinglaw04_LratBack.f
  have hK' : threshingref04_Size.f (K + 20001) l 6000 = some m := hK _ (by omega)
  rw [hK', Option.bind_some]
  by_cases h6 : m > 6000
  · rw [if_pos h6]
    simp only [threshinglaw04_LratBack.j0, if_true]
    rw [works_b]
    rfl
  · rw [if_neg h6]
    have hl6 := hm (by omega)
    by_cases h1 : (a1.size : Int) > 6000
    · rw [decide_eq_true h1]
      simp only [threshinglaw04_LratBack.j0, if_true]
      rw [works_b]
      rfl
    · rw [decide_eq_false h1]
      exact back_j0 K l a1 hl6 (by omega)
theorem lratBack_walk {w : World} (A0 : Option Addr) (c0 : Nat) (l0 : List S43) (hr0 : Kd.C k43 w A0 l0.length l0) (hc0 : l0.length ≤ c0) (hg : GoodSteps l0) (a1 : ByteArray) (_ : a1.size ≤ maxLen) (w' : World) (hlt : LT w'.heap.size w') (hw : w' = w := by rfl) :
    Calls Tryd.prog 5 #[.slice A0 l0.length c0, .string a1] w' fun e w'' => e = .returned (.bool true) ∧ Below w'.heap.size w' w'' := by
  subst hw
  obtain ⟨k, h⟩ := LratBack_all l0 (by have := hg.1; unfold maxLen at this; omega) a1
  exact threshinglaw04_LratBack.calls k A0 c0 l0 a1 true _ hr0 hc0 h hlt
end Go.Proofs.YtfjnkbkcoakooaaDoor.PB
