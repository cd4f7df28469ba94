import Derived.Test.YtlimaebaagabaaaDoorHBinaryParse
namespace Go.Proofs.YtlimaebaagabaaaDoor.PB
open Go.RowKit Go.Proofs.YtlimaebaagabaaaDoorW.PrintWords Go.Proofs.YtlimaebaagabaaaDoorW.PrintLast Go.Proofs.YtlimaebaagabaaaDoorW.PrintMore
set_option linter.unusedVariables false
set_option linter.unusedSimpArgs false

/-! ### bits -/
theorem u64_id (n : Int) (h0 : 0 ≤ n) (h1 : n < 2 ^ 64) : IntKind.u64.wrap n = n := by rw [u64_wrap]; omega
theorem and127 (b : Int) (h0 : 0 ≤ b) (h1 : b ≤ 255) : Go.bits .and .u8 b 127 = b % 128 :=
  bits_mask .u8 8 (by decide) wraps_u8 7 (by decide) b h0 (by omega)
theorem or128 (b : Int) (h0 : 0 ≤ b) (h1 : b ≤ 255) : Go.bits .or .u8 b 128 = b % 128 + 128 := by
  have h : ∀ x : Fin 256, Go.bits .or .u8 (x.val : Int) 128 = (x.val : Int) % 128 + 128 := by decide +kernel
  have := h ⟨b.toNat, by omega⟩
  simpa [Int.toNat_of_nonneg h0] using this
theorem or1 (n : Int) (h0 : 0 ≤ n) (h1 : n < 2 ^ 63) : Go.bits .or .u64 (n * 2) 1 = n * 2 + 1 :=
  bits_join .u64 64 (by decide) u64_id 1 (n * 2) 1 (by omega) (by omega) (by omega) (by omega) (by omega) (by omega)
theorem and1 (c : Int) (h0 : 0 ≤ c) (h1 : c < 2 ^ 64) : Go.bits .and .u64 c 1 = c % 2 := bits_mask .u64 64 (by decide) u64_id 1 (by decide) c h0 h1
theorem or_add (i : Nat) (hi : i ≤ 56) (x y : Int) (hx0 : 0 ≤ x) (hx1 : x < 128) (hy0 : 0 ≤ y) (hy : y < 2 ^ i) : Go.bits .or .u64 y (x * 2 ^ i) = y + x * 2 ^ i := by
  have hp : (2 : Int) ^ i ≤ 2 ^ 56 := by exact_mod_cast Nat.pow_le_pow_right (by decide) hi
  have hp0 : (0 : Int) < 2 ^ i := by exact_mod_cast Nat.two_pow_pos i
  have hm : x * 2 ^ i ≤ 127 * 2 ^ 56 := Int.mul_le_mul (by omega) hp (by omega) (by omega)
  have hm0 : 0 ≤ x * 2 ^ i := Int.mul_nonneg hx0 (by omega)
  have hcomm : Go.bits .or .u64 y (x * 2 ^ i) = Go.bits .or .u64 (x * 2 ^ i) y := by
    obtain ⟨a, ha⟩ := Int.eq_ofNat_of_zero_le hy0
    obtain ⟨b, hb⟩ := Int.eq_ofNat_of_zero_le hm0
    rw [ha, hb, (bits_nat .u64 64 (by decide) u64_id a b (by omega) (by omega)).2, (bits_nat .u64 64 (by decide) u64_id b a (by omega) (by omega)).2, Nat.or_comm]
  rw [hcomm, bits_join .u64 64 (by decide) u64_id i (x * 2 ^ i) y hm0 (Int.mul_emod_left _ _) (by omega) hy0 hy (by omega)]
  omega

/-! ### numbers -/
def Gid (n : Int) : Prop := -4611686018427387903 ≤ n ∧ n ≤ 4611686018427387903
theorem Bcode_pos (n : Int) (h : 0 ≤ n) (h1 : n ≤ 4611686018427387903) : Bcode n = n * 2 := by
  unfold Bcode
  rw [if_neg (by omega), u64_id n (by omega) (by omega), u64_id _ (by omega) (by omega)]
theorem Bcode_neg (n : Int) (h : n < 0) (h1 : -4611686018427387903 ≤ n) : Bcode n = (-n) * 2 + 1 := by
  unfold Bcode
  rw [if_pos h]
  have e : wrap64 (-n) = -n := by unfold wrap64; omega
  rw [e, u64_id (-n) (by omega) (by omega), u64_id _ (by omega) (by omega), or1 _ (by omega) (by omega)]
theorem Bval_code (n : Int) (h : Gid n) : Bval (Bcode n) = n ∧ 0 ≤ Bcode n ∧ Bcode n < 9223372036854775808 ∧ Bcode n ≠ 1 ∧ Bcode n / 2 ≤ 4611686018427387903 := by
  obtain ⟨h1, h2⟩ := h
  rcases Int.lt_or_le n 0 with hn | hn
  · rw [Bcode_neg n hn h1]
    refine ⟨?_, by omega, by omega, by omega, by omega⟩
    unfold Bval
    rw [and1 _ (by omega) (by omega), if_pos (by omega)]
    have e : (-n * 2 + 1) / 2 = -n := by omega
    rw [e]
    unfold wrap64
    omega
  · rw [Bcode_pos n hn h2]
    refine ⟨?_, by omega, by omega, by omega, by omega⟩
    unfold Bval
    rw [and1 _ (by omega) (by omega), if_neg (by omega)]
    have e : (n * 2) / 2 = n := by omega
    rw [e]
    unfold wrap64
    omega
theorem code_of_Bval (T : Int) (h0 : 0 ≤ T) (h1 : T ≠ 1) (h2 : T / 2 ≤ 4611686018427387903) : Gid (Bval T) ∧ Bcode (Bval T) = T := by
  unfold Bval
  rw [and1 _ (by omega) (by omega)]
  by_cases h : T % 2 = 1
  · rw [if_pos h]
    have e : wrap64 (-(wrap64 (T / 2))) = -(T / 2) := by unfold wrap64; omega
    rw [e]
    refine ⟨⟨by omega, by omega⟩, ?_⟩
    rw [Bcode_neg _ (by omega) (by omega)]
    omega
  · rw [if_neg h]
    have e : wrap64 (T / 2) = T / 2 := by unfold wrap64; omega
    rw [e]
    refine ⟨⟨by omega, by omega⟩, ?_⟩
    rw [Bcode_pos _ (by omega) (by omega)]
    omega
def Byte (b : Int) : Prop := 0 ≤ b ∧ b ≤ 255
theorem Bacc_eq (x : Nat) (hx : x ≤ 8) (code b : Int) (hb : Byte b) (h0 : 0 ≤ code) (h1 : code < 128 ^ x) : Bacc x code b = code + (b % 128) * 128 ^ x := by
  unfold Bacc
  have e : (7 * (x : Int)).toNat = 7 * x := by omega
  have e2 : (2 : Int) ^ (7 * x) = 128 ^ x := by rw [Int.pow_mul]; rfl
  have hp : (2 : Int) ^ (7 * x) ≤ 2 ^ 56 := by exact_mod_cast Nat.pow_le_pow_right (by decide) (by omega)
  have hp0 : (0 : Int) < 2 ^ (7 * x) := by exact_mod_cast Nat.two_pow_pos _
  have hm : (b % 128) * 2 ^ (7 * x) ≤ 127 * 2 ^ 56 := Int.mul_le_mul (by omega) hp (by omega) (by omega)
  have hm0 : 0 ≤ (b % 128) * 2 ^ (7 * x) := Int.mul_nonneg (by omega) (by omega)
  rw [and127 b hb.1 hb.2, e, u64_id (b % 128) (by omega) (by omega), u64_id _ hm0 (by omega), or_add (7 * x) (by omega) (b % 128) code (by omega) (by omega) h0 (by rw [e2]; exact h1), e2]
theorem Bvar_fuel : ∀ (j : Nat) (c : Int), 0 ≤ c → c < 128 ^ (j + 1) → Bvar (j + 1) c = Bvar j c := by
  intro j
  induction j with
  | zero => intro c h0 h1; rw [show Bvar (0 + 1) c = (if 127 < c then Go.bits .or .u8 (c % 256) 128 :: Bvar 0 (c / 128) else [c % 256]) from rfl, if_neg (by omega)]; rfl
  | succ j ih =>
    intro c h0 h1
    rw [show Bvar (j + 1 + 1) c = (if 127 < c then Go.bits .or .u8 (c % 256) 128 :: Bvar (j + 1) (c / 128) else [c % 256]) from rfl, ih (c / 128) (by omega) (by rw [Int.pow_succ] at h1; omega)]
    rfl
/-- A number is read as it was written. -/
theorem Bnum_var : ∀ (j x : Nat) (code c : Int) (r : List Int), x + j ≤ 8 → 0 ≤ c → c < 128 ^ (j + 1) → 0 ≤ code → code < 128 ^ x →
    Bnum x code (Bvar j c ++ r) = some (Bval (code + c * 128 ^ x), ((c == 0) && decide (0 < (x : Int))) || (((code + c * 128 ^ x) == 1) || decide (4611686018427387903 < (code + c * 128 ^ x) / 2)), r) := by
  intro j
  induction j with
  | zero =>
    intro x code c r hx h0 h1 hc0 hc1
    have h1' : c < 128 := by simpa using h1
    have hm : c % 256 = c := by omega
    rw [Bvar, List.singleton_append, Bnum, if_neg (by omega), hm, if_neg (by omega), Bacc_eq x (by omega) code c ⟨h0, by omega⟩ hc0 hc1]
    have e : c % 128 = c := by omega
    rw [e]
    rfl
  | succ j ih =>
    intro x code c r hx h0 h1 hc0 hc1
    by_cases hc : 127 < c
    · have hb : Go.bits .or .u8 (c % 256) 128 = c % 128 + 128 := by rw [or128 _ (by omega) (by omega)]; omega
      rw [Bvar, if_pos hc, hb, List.cons_append, Bnum, if_neg (by omega), if_pos (by omega), Bacc_eq x (by omega) code _ ⟨by omega, by omega⟩ hc0 hc1]
      have e1 : (c % 128 + 128) % 128 = c % 128 := by omega
      rw [e1]
      have hpos : (0 : Int) < 128 ^ x := Int.pow_pos (by decide)
      have hlt : c % 128 * 128 ^ x ≤ 127 * 128 ^ x := Int.mul_le_mul_of_nonneg_right (by omega) (by omega)
      have hge : 0 ≤ c % 128 * 128 ^ x := Int.mul_nonneg (by omega) (by omega)
      have ep : (128 : Int) ^ (x + 1) = 128 ^ x * 128 := Int.pow_succ _ _
      have hi := ih (x + 1) (code + c % 128 * 128 ^ x) (c / 128) r (by omega) (by omega) (by rw [Int.pow_succ] at h1; omega) (by omega) (by rw [ep]; omega)
      have ev : code + c % 128 * 128 ^ x + c / 128 * 128 ^ (x + 1) = code + c * 128 ^ x := by
        have hcd : c = c / 128 * 128 + c % 128 := by omega
        have : c * 128 ^ x = (c / 128 * 128 + c % 128) * 128 ^ x := by rw [← hcd]
        rw [this, ep, Int.add_mul]
        have : c / 128 * (128 ^ x * 128) = c / 128 * 128 * 128 ^ x := by rw [Int.mul_comm (128 ^ x) 128, Int.mul_assoc]
        omega
      rw [ev] at hi
      have ex : ((x + 1 : Nat) : Int) = (x : Int) + 1 := by omega
      rw [ex] at hi
      rw [hi]
      have z1 : (c / 128 == 0) = false := beq_eq_false_iff_ne.mpr (by omega)
      have z2 : (c == 0) = false := beq_eq_false_iff_ne.mpr (by omega)
      rw [z1, z2]
      rfl
    · have := ih x code c r (by omega) h0 (by
        have : (128 : Int) ^ (0 + 1) ≤ 128 ^ (j + 1) := by exact_mod_cast Nat.pow_le_pow_right (by decide) (by omega)
        omega) hc0 hc1
      rw [Bvar_fuel j c h0 (by
        have : (128 : Int) ^ (0 + 1) ≤ 128 ^ (j + 1) := by exact_mod_cast Nat.pow_le_pow_right (by decide) (by omega)
        omega)]
      exact this
theorem Bput_8 (n : Int) (h : Gid n) : Bput n = Bvar 8 (Bcode n) := by
  obtain ⟨_, h0, h1, _⟩ := Bval_code n h
  unfold Bput
  rw [Bvar_fuel 9 _ h0 (by omega), Bvar_fuel 8 _ h0 (by omega)]
theorem Bnumber_put (n : Int) (h : Gid n) (r : List Int) : Bnumber (Bput n ++ r) = (n, false, r) := by
  obtain ⟨hv, h0, h1, h2, h3⟩ := Bval_code n h
  have := Bnum_var 8 0 0 (Bcode n) r (by omega) h0 (by omega) (by omega) (by omega)
  unfold Bnumber
  rw [Bput_8 n h]
  rw [show ((0 : Nat) : Int) = 0 from rfl] at this
  rw [this]
  have e : (0 : Int) + Bcode n * 128 ^ 0 = Bcode n := by omega
  have z : (Bcode n == 1) = false := beq_eq_false_iff_ne.mpr h2
  have z2 : decide (4611686018427387903 < Bcode n / 2) = false := decide_eq_false (by omega)
  rw [e, hv, z, z2]
  simp
/-- What is read as a number was written so. -/
theorem Bnum_inv : ∀ (bs : List Int) (x : Nat) (code : Int) (v : Int) (r : List Int), (∀ b ∈ bs, Byte b) → x ≤ 9 → 0 ≤ code → code < 128 ^ x → Bnum x code bs = some (v, false, r) →
    ∃ (j : Nat) (c : Int), x + j = 8 ∧ 0 ≤ c ∧ c < 128 ^ (j + 1) ∧ bs = Bvar j c ++ r ∧ v = Bval (code + c * 128 ^ x) ∧ (0 < x → c ≠ 0) ∧ code + c * 128 ^ x ≠ 1 ∧ (code + c * 128 ^ x) / 2 ≤ 4611686018427387903 := by
  intro bs
  induction bs with
  | nil => intro x code v r _ _ _ _ h; simp [Bnum] at h
  | cons b bs ih =>
    intro x code v r hB hx h0 h1 h
    have hb := hB b List.mem_cons_self
    rw [Bnum] at h
    by_cases h9 : (x : Int) = 9
    · rw [if_pos h9] at h; cases h
    rw [if_neg h9] at h
    have hx8 : x ≤ 8 := by omega
    rw [Bacc_eq x hx8 code b hb h0 h1] at h
    have hpos : (0 : Int) < 128 ^ x := Int.pow_pos (by decide)
    have hlt : b % 128 * 128 ^ x ≤ 127 * 128 ^ x := Int.mul_le_mul_of_nonneg_right (by omega) (by omega)
    have hge : 0 ≤ b % 128 * 128 ^ x := Int.mul_nonneg (by omega) (by omega)
    have ep : (128 : Int) ^ (x + 1) = 128 ^ x * 128 := Int.pow_succ _ _
    obtain ⟨hb0, hb1⟩ := hb
    by_cases hc : b / 128 = 1
    · rw [if_pos hc] at h
      have ex : (x : Int) + 1 = ((x + 1 : Nat) : Int) := by omega
      rw [ex] at h
      obtain ⟨j, c, e1, e2, e3, e4, e5, e6, e7, e8⟩ := ih (x + 1) (code + b % 128 * 128 ^ x) v r (fun z hz => hB z (List.mem_cons_of_mem _ hz)) (by omega) (by omega) (by rw [ep]; omega) h
      have hne := e6 (by omega)
      have ev : code + b % 128 * 128 ^ x + c * 128 ^ (x + 1) = code + (b % 128 + 128 * c) * 128 ^ x := by
        rw [ep, Int.add_mul]
        have : c * (128 ^ x * 128) = 128 * c * 128 ^ x := by rw [Int.mul_comm (128 ^ x) 128, ← Int.mul_assoc, Int.mul_comm c 128]
        omega
      rw [ev] at e5 e7 e8
      refine ⟨j + 1, b % 128 + 128 * c, by omega, by omega, by rw [Int.pow_succ]; omega, ?_, e5, fun _ => by omega, e7, e8⟩
      rw [Bvar, if_pos (by omega), or128 _ (by omega) (by omega), e4]
      have q1 : (b % 128 + 128 * c) % 256 % 128 + 128 = b := by omega
      have q2 : (b % 128 + 128 * c) / 128 = c := by omega
      rw [q1, q2]
      rfl
    · rw [if_neg hc] at h
      have h := Option.some.inj h
      simp only [Prod.mk.injEq] at h
      obtain ⟨hv, hbad, hr⟩ := h
      have hlt128 : b < 128 := by omega
      have em : b % 128 = b := by omega
      rw [em] at hv hbad
      unfold Bbad at hbad
      simp only [Bool.or_eq_false_iff, Bool.and_eq_false_iff, beq_eq_false_iff_ne, decide_eq_false_iff_not] at hbad
      obtain ⟨z1, z2, z3⟩ := hbad
      obtain ⟨j, hj⟩ : ∃ j, x + j = 8 := ⟨8 - x, by omega⟩
      refine ⟨j, b, hj, hb0, ?_, ?_, hv.symm, fun hp => ?_, z2, by omega⟩
      · have : (128 : Int) ^ (0 + 1) ≤ 128 ^ (j + 1) := by exact_mod_cast Nat.pow_le_pow_right (by decide) (by omega)
        omega
      · have e256 : b % 256 = b := by omega
        cases j with
        | zero => rw [Bvar, e256, hr]; rfl
        | succ j => rw [Bvar, if_neg (by omega), e256, hr]; rfl
      · rcases z1 with z1 | z1
        · exact z1
        · exact absurd (by omega) z1
theorem Bnumber_inv (bs : List Int) (hB : ∀ b ∈ bs, Byte b) (v : Int) (r : List Int) (h : Bnumber bs = (v, false, r)) : Gid v ∧ bs = Bput v ++ r := by
  unfold Bnumber at h
  cases hq : Bnum 0 0 bs with
  | none => rw [hq] at h; simp at h
  | some q =>
    rw [hq] at h
    have h : q = (v, false, r) := h
    subst h
    obtain ⟨j, c, e1, e2, e3, e4, e5, e6, e7, e8⟩ := Bnum_inv bs 0 0 v r hB (by omega) (by omega) (by omega) hq
    have ee : (0 : Int) + c * 128 ^ 0 = c := by omega
    rw [ee] at e5 e7 e8
    obtain rfl : j = 8 := by omega
    obtain ⟨g1, g2⟩ := code_of_Bval c e2 e7 e8
    rw [← e5] at g1 g2
    exact ⟨g1, by rw [Bput_8 v g1, g2]; exact e4⟩
end Go.Proofs.YtlimaebaagabaaaDoor.PB
