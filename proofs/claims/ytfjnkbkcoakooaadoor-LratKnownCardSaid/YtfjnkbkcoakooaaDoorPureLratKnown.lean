import Derived.Test.YtfjnkbkcoakooaaDoorFThreshinglaw04LratKnown
namespace Go.Proofs.YtfjnkbkcoakooaaDoor.PB
open Go.RowKit Go.Proofs.YtfjnkbkcoakooaaDoorW.PrintWords Go.Proofs.YtfjnkbkcoakooaaDoorW.PrintLast Go.Proofs.YtfjnkbkcoakooaaDoorW.PrintMore
set_option linter.unusedVariables false
set_option linter.unusedSimpArgs false
theorem works_f (k : Nat) : threshinglaw04_works.f k = some true := by kernel_rfl
theorem known_big' (k n : Nat) (h1 : 4194304 < n) : lrat_Write.f k (List.replicate n z43) = some (⟨#[]⟩, 3) := by
  have hl : (List.replicate n z43).length = n := List.length_replicate
  have h : Lover (List.replicate n z43) = true := by
    unfold Lover
    rw [hl, decide_eq_true h1, Bool.true_or, Bool.and_true, List.all_eq_true]
    intro s hs
    rw [List.eq_of_mem_replicate hs]
    rfl
  unfold lrat_Write.f
  rw [if_neg (by rw [hl]; omega), if_pos h]
theorem known_big (k : Nat) : lrat_Write.f k (List.replicate 4194305 z43) = some (⟨#[]⟩, 3) := known_big' k 4194305 (by omega)
theorem known_row' (k n : Nat) (h1 : 16777216 < n) (h2 : n ≤ 70368744177664) : lrat_Write.f k ([(⟨0, 0, ([] : List Int), (List.replicate n 0)⟩ : S43)] : List S43) = some (⟨#[]⟩, 3) := by
  have hb : Btot ([(⟨0, 0, ([] : List Int), (List.replicate n 0)⟩ : S43)] : List S43) = n := by simp only [Btot, List.length_replicate, List.length_nil]; omega
  have h : Lover ([(⟨0, 0, ([] : List Int), (List.replicate n 0)⟩ : S43)] : List S43) = true := by
    unfold Lover
    rw [hb, decide_eq_true h1, Bool.or_true, Bool.and_true, List.all_eq_true]
    intro s hs
    rw [List.mem_singleton.1 hs]
    simp only [List.length_replicate, List.length_nil, Bool.and_eq_true, decide_eq_true_eq]
    exact ⟨by omega, h2⟩
  unfold lrat_Write.f
  rw [if_neg (by rw [hb]; omega), if_pos h]
theorem known_row (k : Nat) : lrat_Write.f k ([(⟨0, 0, ([] : List Int), (List.replicate 16777217 0)⟩ : S43)] : List S43) = some (⟨#[]⟩, 3) := known_row' k 16777217 (by omega) (by omega)
theorem known_nil (k : Nat) : lrat_Parse.f k (⟨#[]⟩ : ByteArray) = some ([], 0, 0) := by kernel_rfl
theorem known_l1_end (k : Nat) (x13 : List ByteArray) (x14 : Int) (h : ¬ x14 < (x13.length : Int)) : threshinglaw04_LratKnown.l1 (k + 1) x13 x14 = some true := by
  rw [threshinglaw04_LratKnown.l1, if_neg h, known_nil, Option.bind_some, if_pos (by omega), known_big, Option.bind_some, if_pos (by omega), known_row, Option.bind_some]
  simp only [works_f, Option.bind_some]
  rfl
def kWrong : List ByteArray := [(⟨#[57, 32, 49, 32, 48, 32, 51, 32, 48]⟩ : ByteArray), (⟨#[57, 32, 49, 32, 48, 32, 51, 10]⟩ : ByteArray), (⟨#[48, 57, 32, 49, 32, 48, 32, 48, 10]⟩ : ByteArray), (⟨#[57, 32, 48, 49, 32, 48, 32, 48, 10]⟩ : ByteArray), (⟨#[57, 32, 32, 49, 32, 48, 32, 48, 10]⟩ : ByteArray), (⟨#[57, 32, 49, 32, 48, 32, 48, 32, 48, 10]⟩ : ByteArray), (⟨#[10]⟩ : ByteArray), (⟨#[32, 10]⟩ : ByteArray), (⟨#[57, 10]⟩ : ByteArray), (⟨#[57, 32, 48, 10]⟩ : ByteArray), (⟨#[57, 32, 100, 10]⟩ : ByteArray), (⟨#[57, 32, 100, 32, 48, 32, 48, 10]⟩ : ByteArray), (⟨#[57, 32, 100, 32, 49, 10]⟩ : ByteArray), (⟨#[57, 32, 100, 32, 45, 49, 32, 48, 10]⟩ : ByteArray), (⟨#[45, 57, 32, 48, 32, 48, 10]⟩ : ByteArray), (⟨#[48, 32, 48, 32, 48, 10]⟩ : ByteArray), (⟨#[57, 32, 45, 48, 32, 48, 32, 48, 10]⟩ : ByteArray), (⟨#[57, 32, 43, 49, 32, 48, 32, 48, 10]⟩ : ByteArray), (⟨#[57, 32, 49, 48, 52, 56, 53, 55, 55, 32, 48, 32, 48, 10]⟩ : ByteArray), (⟨#[57, 32, 48, 32, 52, 54, 49, 49, 54, 56, 54, 48, 49, 56, 52, 50, 55, 51, 56, 55, 57, 48, 52, 32, 48, 10]⟩ : ByteArray), (⟨#[57, 32, 48, 32, 57, 57, 57, 57, 57, 57, 57, 57, 57, 57, 57, 57, 57, 57, 57, 57, 57, 57, 57, 57, 32, 48, 10]⟩ : ByteArray), (⟨#[57, 32, 49, 32, 48, 32, 49, 32, 48, 32, 10]⟩ : ByteArray), (⟨#[32, 57, 32, 48, 32, 48, 10]⟩ : ByteArray), (⟨#[57, 32, 48, 32, 48, 13, 10]⟩ : ByteArray), (⟨#[99, 32, 120, 10]⟩ : ByteArray), (⟨#[57, 32, 100, 32, 100, 32, 48, 10]⟩ : ByteArray), (⟨#[57, 32, 49, 32, 100, 32, 48, 10]⟩ : ByteArray)]
def kAll (i : Nat) : ByteArray := (⟨#[57, 32, 100, 32, 51, 32, 48, 10]⟩ : ByteArray) ++ (rdOf ByteArray.empty kWrong (i : Int))
theorem kWrong_bad : (List.range 27).all (fun i => decide ((Lparse (kAll i)).1.length = 0) && decide ((Lparse (kAll i)).2.1 = 40) && decide ((Lparse (kAll i)).2.2 = 2) && decide ((rdOf ByteArray.empty kWrong (i : Int)).size ≤ 40)) = true := by kernel_rfl
theorem known_l1_step (k i : Nat) (h : i < 27) : threshinglaw04_LratKnown.l1 (k + 1) kWrong (i : Int) = threshinglaw04_LratKnown.l1 k kWrong ((i + 1 : Nat) : Int) := by
  have hb := List.all_eq_true.1 kWrong_bad i (List.mem_range.2 h)
  simp only [Bool.and_eq_true, decide_eq_true_eq] at hb
  obtain ⟨⟨⟨hp1, hp2⟩, hp3⟩, hl⟩ := hb
  have h16 : kWrong.length = 27 := rfl
  have hw : wrap64 ((i : Int) + 1) = ((i + 1 : Nat) : Int) := by unfold wrap64; omega
  rw [threshinglaw04_LratKnown.l1, if_pos (by rw [h16]; omega), if_pos (by omega), if_pos (by omega)]
  have hpf : lrat_Parse.f k ((⟨#[57, 32, 100, 32, 51, 32, 48, 10]⟩ : ByteArray) ++ (rdOf ByteArray.empty kWrong (i : Int))) = some (Lparse (kAll i)) := by
    unfold lrat_Parse.f
    rw [if_pos (by rw [ByteArray.size_append]; show 8 + _ ≤ _; omega)]
    rfl
  rw [hpf, Option.bind_some, if_pos (by rw [hp1]; rfl), if_pos hp2, if_pos hp3, hw]
theorem known_l1 (k : Nat) : ∀ d i : Nat, i + d = 27 → threshinglaw04_LratKnown.l1 (k + d + 1) kWrong (i : Int) = some true := by
  intro d
  induction d with
  | zero => intro i h; exact known_l1_end k kWrong _ (by show ¬ _ < ((27 : Nat) : Int); omega)
  | succ d ih =>
    intro i h
    rw [show k + (d + 1) + 1 = (k + d + 1) + 1 by omega, known_l1_step _ i (by omega)]
    exact ih (i + 1) (by omega)
def kGood : List S43 := [(⟨1, 10, ([] : List Int), (([9, (-4), 7] : List Int))⟩ : S43), (⟨2, 0, ([] : List Int), ([] : List Int)⟩ : S43), (⟨1, 4611686018427387903, (([1048576, (-1048576)] : List Int)), (([4611686018427387903, (-4611686018427387903)] : List Int))⟩ : S43), (⟨2, 4611686018427387903, ([] : List Int), (([1] : List Int))⟩ : S43)]
def kBad : List S43 := [(⟨0, 0, ([] : List Int), ([] : List Int)⟩ : S43), (⟨3, 1, ([] : List Int), ([] : List Int)⟩ : S43), (⟨1, 0, ([] : List Int), ([] : List Int)⟩ : S43), (⟨1, (-1), ([] : List Int), ([] : List Int)⟩ : S43), (⟨1, 4611686018427387904, ([] : List Int), ([] : List Int)⟩ : S43), (⟨1, 1, (([0] : List Int)), ([] : List Int)⟩ : S43), (⟨1, 1, (([1048577] : List Int)), ([] : List Int)⟩ : S43), (⟨1, 1, (([(-2147483648)] : List Int)), ([] : List Int)⟩ : S43), (⟨1, 1, ([] : List Int), (([0] : List Int))⟩ : S43), (⟨1, 1, ([] : List Int), (([(-9223372036854775808)] : List Int))⟩ : S43), (⟨2, (-1), ([] : List Int), ([] : List Int)⟩ : S43), (⟨2, 0, (([1] : List Int)), ([] : List Int)⟩ : S43), (⟨2, 0, ([] : List Int), (([(-1)] : List Int))⟩ : S43)]
def kTwo (i : Nat) : List S43 := [(⟨(rd_T43 kGood 0).f0, (rd_T43 kGood 0).f1, (rd_T43 kGood 0).f2, (rd_T43 kGood 0).f3⟩ : S43), (⟨(rd_T43 kBad (i : Int)).f0, (rd_T43 kBad (i : Int)).f1, (rd_T43 kBad (i : Int)).f2, (rd_T43 kBad (i : Int)).f3⟩ : S43)]
theorem kBad_bad : (List.range 13).all (fun i => decide (Lwrite (kTwo i) = ([], 40)) && decide ((kTwo i).length + Btot (kTwo i) ≤ 6000)) = true := by kernel_rfl
theorem known_l0_step (k i : Nat) (h : i < 13) : threshinglaw04_LratKnown.l0 (k + 1) kGood kBad (i : Int) = threshinglaw04_LratKnown.l0 k kGood kBad ((i + 1 : Nat) : Int) := by
  have hb := List.all_eq_true.1 kBad_bad i (List.mem_range.2 h)
  simp only [Bool.and_eq_true, decide_eq_true_eq] at hb
  obtain ⟨hp, hl⟩ := hb
  have h11 : kBad.length = 13 := rfl
  have h4 : kGood.length = 4 := rfl
  have hw : wrap64 ((i : Int) + 1) = ((i + 1 : Nat) : Int) := by unfold wrap64; omega
  have hpf : lrat_Write.f k [(⟨(rd_T43 kGood 0).f0, (rd_T43 kGood 0).f1, (rd_T43 kGood 0).f2, (rd_T43 kGood 0).f3⟩ : S43), (⟨(rd_T43 kBad (i : Int)).f0, (rd_T43 kBad (i : Int)).f1, (rd_T43 kBad (i : Int)).f2, (rd_T43 kBad (i : Int)).f3⟩ : S43)] = some (⟨#[]⟩, 40) := by
    show lrat_Write.f k (kTwo i) = _
    unfold lrat_Write.f
    rw [if_pos hl, hp]
    rfl
  rw [threshinglaw04_LratKnown.l0, if_pos (by rw [h11]; omega), if_pos (by rw [h4]; omega), if_pos (by omega), hpf, Option.bind_some, hw]
  simp only [if_true]
  rw [if_pos (by rw [Lib.toList_data])]
theorem known_l0 (k : Nat) : ∀ d i : Nat, i + d = 13 → threshinglaw04_LratKnown.l0 (k + 28 + d + 1) kGood kBad (i : Int) = some true := by
  intro d
  induction d with
  | zero =>
    intro i h
    rw [Nat.add_zero, threshinglaw04_LratKnown.l0, if_neg (by show ¬ _ < ((13 : Nat) : Int); omega)]
    exact known_l1 k 27 0 rfl
  | succ d ih =>
    intro i h
    rw [show k + 28 + (d + 1) + 1 = (k + 28 + d + 1) + 1 by omega, known_l0_step _ i (by omega)]
    exact ih (i + 1) (by omega)
theorem known_j0 (k : Nat) : threshinglaw04_LratKnown.j0 (k + 28 + 13 + 2) kGood false = some true := by
  rw [threshinglaw04_LratKnown.j0, if_neg (by simp)]
  exact known_l0 k 13 0 rfl
theorem known_text : ((strOfNums (Lwrite kGood).1).toList != ([49, 48, 32, 48, 32, 57, 32, 45, 52, 32, 55, 32, 48, 10, 48, 32, 100, 32, 48, 10, 52, 54, 49, 49, 54, 56, 54, 48, 49, 56, 52, 50, 55, 51, 56, 55, 57, 48, 51, 32, 49, 48, 52, 56, 53, 55, 54, 32, 45, 49, 48, 52, 56, 53, 55, 54, 32, 48, 32, 52, 54, 49, 49, 54, 56, 54, 48, 49, 56, 52, 50, 55, 51, 56, 55, 57, 48, 51, 32, 45, 52, 54, 49, 49, 54, 56, 54, 48, 49, 56, 52, 50, 55, 51, 56, 55, 57, 48, 51, 32, 48, 10, 52, 54, 49, 49, 54, 56, 54, 48, 49, 56, 52, 50, 55, 51, 56, 55, 57, 48, 51, 32, 100, 32, 49, 32, 48, 10] : List UInt8)) = false := by kernel_rfl
theorem known_w (k : Nat) : lrat_Write.f k kGood = some (strOfNums (Lwrite kGood).1, 0) := by
  unfold lrat_Write.f
  rw [if_pos (by decide)]
  exact congrArg some (Prod.ext rfl (show (Lwrite kGood).2 = 0 by kernel_rfl))
theorem known_pure : threshinglaw04_LratKnown.f (28 + 13 + 2) = some true := by
  unfold threshinglaw04_LratKnown.f
  rw [Option.bind_some]
  change ((lrat_Write.f _ kGood).bind _) = _
  rw [known_w, Option.bind_some]
  simp only [if_true]
  rw [known_text]
  have := known_j0 0
  rw [Nat.zero_add] at this
  exact this
theorem lratKnown_walk (w : World) (hlt : LT w.heap.size w) :
    Calls Tryd.prog 8 #[] w fun e w' => e = .returned (.bool true) ∧ Below w.heap.size w w' :=
  threshinglaw04_LratKnown.calls _ true w rfl known_pure hlt
end Go.Proofs.YtfjnkbkcoakooaaDoor.PB
