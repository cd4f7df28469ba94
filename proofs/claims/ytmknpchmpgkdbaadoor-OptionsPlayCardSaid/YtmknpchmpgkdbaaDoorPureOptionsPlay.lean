import Derived.Test.YtmknpchmpgkdbaaDoorHOmb
import Derived.Test.YtmknpchmpgkdbaaDoorHOorder
import Derived.Test.YtmknpchmpgkdbaaDoorFThreshinglaw30Copied
import Derived.Outline
import Derived.Test.YtmknpchmpgkdbaaDoorHOtable
import Derived.Test.YtmknpchmpgkdbaaDoorHOGood
import Derived.Deep.MidRow
section
namespace Go.Proofs.YtmknpchmpgkdbaaDoor.PB
open Go.RowKit Go.Proofs.YtmknpchmpgkdbaaDoorW.PrintWords Go.Proofs.YtmknpchmpgkdbaaDoorW.PrintLast Go.Proofs.YtmknpchmpgkdbaaDoorW.PrintMore
set_option linter.unusedVariables false
set_option linter.unusedSimpArgs false
/-! ### The reference's words -/
theorem str_one (d : Nat) (h : d < 10) (x : Int) (hx : x = 48 + d) : strOfNums [x] = toBA [UInt8.ofNat (48 + d)] := by
  unfold strOfNums toBA
  have : x.toNat = 48 + d := by omega
  simp [this]
theorem rdig_ev : ∀ n : Nat, n ≤ 9223372036854775807 → Ev (fun k => threshingref30_digits.f k (n : Int)) (toBA (Lib.decDigits n)) := by
  intro n
  induction n using Nat.strongRecOn with
  | _ n ih =>
    intro hn
    refine Ev_succ ?_
    by_cases h : n < 10
    · simp only [threshingref30_digits.f, if_pos (show (n : Int) < 10 by omega)]
      rw [str_one n h _ (by omega), Lib.decDigits_one h]
      exact Ev.now _
    · simp only [threshingref30_digits.f, if_neg (show ¬ ((n : Int) < 10) by omega)]
      have e1 : wrap64 (Int.tdiv (n : Int) 10) = ((n / 10 : Nat) : Int) := by
        rw [Int.tdiv_eq_ediv_of_nonneg (by omega)]
        unfold wrap64
        omega
      have e2 : Int.tmod (n : Int) 10 = ((n % 10 : Nat) : Int) := by
        rw [Int.tmod_eq_emod_of_nonneg (by omega)]
        omega
      simp only [e1, e2]
      refine Ev.bind (ih (n / 10) (by omega) (by omega)) ?_
      simp only [Option.bind_some]
      have e3 := str_one (n % 10) (by omega) ((48 + (((n % 10 : Nat) : Int)) % 256) % 256) (by omega)
      rw [e3]
      have hl : (Lib.decDigits (n / 10)).length ≤ 25 := by
        have := Lib.itoa_length_le ((n / 10 : Nat) : Int) (by omega) (by omega)
        have e : Lib.itoa ((n / 10 : Nat) : Int) = Lib.decDigits (n / 10) := by unfold Lib.itoa; rw [if_neg (by omega)]; rfl
        rw [e] at this
        omega
      simp only [if_pos (show (toBA (Lib.decDigits (n / 10))).size + (toBA [UInt8.ofNat (48 + n % 10)]).size ≤ 9223372036854775807 by rw [toBA_size, toBA_size, List.length_singleton]; omega)]
      rw [← toBA_append]
      have e4 : Lib.decDigits n = Lib.decDigits (n / 10) ++ [UInt8.ofNat (48 + n % 10)] := by conv => lhs; rw [Lib.decDigits, dif_neg h]
      rw [e4]
      exact Ev.now _
theorem rdig_itoa (x : Int) (h0 : 0 ≤ x) (h1 : x ≤ 9223372036854775807) : Ev (fun k => threshingref30_digits.f k x) (toBA (Lib.itoa x)) := by
  obtain ⟨n, rfl⟩ := Int.eq_ofNat_of_zero_le h0
  have e : Lib.itoa (n : Int) = Lib.decDigits n := by unfold Lib.itoa; rw [if_neg (by omega)]; rfl
  rw [e]
  exact rdig_ev n (by omega)
theorem rwords_l0 {xs : List Int} (hx : OIn xs) (d : Nat) : ∀ i, i + d = 28 → Ev (fun k => threshingref30_Words.l0 k (mOf xs) ((oWordsTo xs i).map toBA) (i : Int)) ((oWords xs).map toBA) := by
  induction d with
  | zero =>
    intro i hi
    obtain rfl : i = 28 := by omega
    refine Ev_succ ?_
    simp only [threshingref30_Words.l0, if_neg (show ¬ (((28 : Nat) : Int) < ((mOf xs).length : Int)) by rw [mOf_len]; omega)]
    exact Ev.now _
  | succ d ih =>
    intro i hi
    have hi28 : i < 28 := by omega
    have hin := hx.2 i hi28
    have hbd := oAt_bd i hi28
    have hnl := oAt_len i hi28
    obtain ⟨x, hxx⟩ : ∃ x, x = xs.getD i 0 := ⟨_, rfl⟩
    have hih := ih (i + 1) (by omega)
    rw [oWordsTo_succ, ← hxx, List.map_append] at hih
    have hacc : ((oWordsTo xs i).map toBA).length < 8796093022208 := by rw [List.length_map]; have := oWordsTo_len xs i; omega
    rw [← hxx] at hin
    refine Ev_succ ?_
    simp only [threshingref30_Words.l0, if_pos (show (i : Int) < ((mOf xs).length : Int) by rw [mOf_len]; omega), if_pos (show 0 ≤ (i : Int) by omega), mOf_rd xs i hi28, wrap_cast (show i ≤ 9223372036854775806 by omega), ← hxx]
    have f0 : (mEnt i x).f0 = toBA (oAt i).name := rfl
    have f1 : (mEnt i x).f1 = (oAt i).d := rfl
    have f2 : (mEnt i x).f2 = (oAt i).lo := rfl
    have f3 : (mEnt i x).f3 = (oAt i).hi := rfl
    have f4 : (mEnt i x).f4 = x := rfl
    simp only [f0, f1, f2, f3, f4]
    have long : oText (oAt i) x = [[45, 45] ++ (oAt i).name ++ [61] ++ Lib.itoa x] →
        Ev (fun k => if 2 + (toBA (oAt i).name).size ≤ 9223372036854775807 then (if ((⟨#[45, 45]⟩ : ByteArray) ++ (toBA (oAt i).name)).size + 1 ≤ 9223372036854775807 then ((threshingref30_digits.f k x).bind fun t187 => (if (((⟨#[45, 45]⟩ : ByteArray) ++ (toBA (oAt i).name)) ++ (⟨#[61]⟩ : ByteArray)).size + t187.size ≤ 9223372036854775807 then (if ((oWordsTo xs i).map toBA).length < 8796093022208 then (threshingref30_Words.l0 k (mOf xs) (((oWordsTo xs i).map toBA) ++ [(((⟨#[45, 45]⟩ : ByteArray) ++ (toBA (oAt i).name)) ++ (⟨#[61]⟩ : ByteArray)) ++ t187]) ((i + 1 : Nat) : Int)) else (none)) else (none))) else (none)) else (none)) ((oWords xs).map toBA) := by
      intro he
      rw [he] at hih
      have z1 : (⟨#[45, 45]⟩ : ByteArray) = toBA [45, 45] := rfl
      have z2 : (⟨#[61]⟩ : ByteArray) = toBA [61] := rfl
      simp only [z1, z2, ← toBA_append]
      have hit := Lib.itoa_length_le x (by omega) (by omega)
      simp only [if_pos (show 2 + (toBA (oAt i).name).size ≤ 9223372036854775807 by rw [toBA_size]; omega), if_pos (show (toBA ([45, 45] ++ (oAt i).name)).size + 1 ≤ 9223372036854775807 by rw [toBA_size, List.length_append]; show 2 + _ + 1 ≤ _; omega)]
      refine Ev.bind (rdig_itoa x (by omega) (by omega)) ?_
      simp only [if_pos (show (toBA ([45, 45] ++ (oAt i).name ++ [61])).size + (toBA (Lib.itoa x)).size ≤ 9223372036854775807 by rw [toBA_size, toBA_size, List.length_append, List.length_append]; show 2 + _ + 1 + _ ≤ _; omega), if_pos hacc, ← toBA_append]
      exact hih
    by_cases h1 : x = (oAt i).d
    · simp only [if_pos h1]
      rw [show oText (oAt i) x = [] by unfold oText; rw [if_pos h1], List.map_nil, List.append_nil] at hih
      exact hih
    · simp only [if_neg h1]
      by_cases h2 : (oAt i).lo = 0
      · simp only [if_pos h2]
        by_cases h3 : (oAt i).hi = 1
        · simp only [if_pos h3]
          by_cases h4 : x = 0
          · simp only [if_pos h4]
            rw [show oText (oAt i) x = [[45, 45, 110, 111, 45] ++ (oAt i).name] by unfold oText; rw [if_neg h1, if_pos ⟨h2, h3, h4⟩]] at hih
            have z1 : (⟨#[45, 45, 110, 111, 45]⟩ : ByteArray) = toBA [45, 45, 110, 111, 45] := rfl
            simp only [z1, ← toBA_append, if_pos (show 5 + (toBA (oAt i).name).size ≤ 9223372036854775807 by rw [toBA_size]; omega), if_pos hacc]
            exact hih
          · simp only [if_neg h4]
            exact long (by unfold oText; rw [if_neg h1, if_neg (fun h => h4 h.2.2)])
        · simp only [if_neg h3]
          exact long (by unfold oText; rw [if_neg h1, if_neg (fun h => h3 h.2.1)])
      · simp only [if_neg h2]
        exact long (by unfold oText; rw [if_neg h1, if_neg (fun h => h2 h.1)])
theorem rwords_ev {xs : List Int} (hx : OIn xs) : Ev (fun k => threshingref30_Words.f k (mOf xs)) ((oWords xs).map toBA) := rwords_l0 hx 28 0 rfl
theorem mwords_calls (gm c : Nat) (xs : List Int) (base : Nat) (w : World) (hM : MB w base gm c xs) (hx : OIn xs) :
    Calls Tryd.prog 30 #[.slice (some ⟨gm, 0, none⟩) 28 c] w fun e w' => ∃ v, e = .returned v ∧ Kd.R Kd.string 9 w' w.heap.size (fun _ => True) v ((oWords xs).map toBA) ∧ Below w.heap.size w w' := by
  obtain ⟨k, hk⟩ := (rwords_ev hx).rounds
  exact threshingref30_Words.calls k (some ⟨gm, 0, none⟩) c (mOf xs) _ w hM.C.1 hM.C.2 hk
theorem mfind_calls (gm c : Nat) (xs : List Int) (s : ByteArray) (base : Nat) (w : World) (hM : MB w base gm c xs) :
    Calls Tryd.prog 28 #[.slice (some ⟨gm, 0, none⟩) 28 c, .string s] w fun e w' => e = .returned (.int .i64 (oFind s.data.toList)) ∧ Drawn0 w w' := by
  obtain ⟨k, hk⟩ := (rfind_ev xs s).rounds
  exact threshingref30_Find.calls k (some ⟨gm, 0, none⟩) c (mOf xs) s _ w hM.C.1 hM.C.2 hk
theorem mnew_calls (w : World) : Calls Tryd.prog 16 #[] w fun e w' => ∃ gm c, e = .returned (.slice (some ⟨gm, 0, none⟩) 28 c) ∧ w.heap.size ≤ gm ∧ MB w' w.heap.size gm c oNew ∧ Below w.heap.size w w' := by
  refine (threshingref30_New.calls 30 (mOf oNew) w rnew_f).mono ?_
  rintro e w' ⟨v, rfl, hR, hb⟩
  obtain ⟨gm, c, rfl, _, hg, hM⟩ := MB.of_R hR
  exact ⟨gm, c, rfl, hg, hM, hb⟩
theorem mcopied_calls (gm c : Nat) (xs : List Int) (base : Nat) (w : World) (hM : MB w base gm c xs) : Calls Tryd.prog 18 #[.slice (some ⟨gm, 0, none⟩) 28 c] w fun e w' => ∃ g2 c2, e = .returned (.slice (some ⟨g2, 0, none⟩) 28 c2) ∧ w.heap.size ≤ g2 ∧ MB w' w.heap.size g2 c2 xs ∧ Below w.heap.size w w' := by
  refine (threshinglaw30_copied.calls (some ⟨gm, 0, none⟩) c (mOf xs) (mOf xs) w hM.C.1 hM.C.2 (by unfold threshinglaw30_copied.f; rw [if_pos (by rw [mOf_len]; decide), List.nil_append])).mono ?_
  rintro e w' ⟨v, rfl, hR, hb⟩
  obtain ⟨g2, c2, rfl, _, hg, hM⟩ := MB.of_R hR
  exact ⟨g2, c2, rfl, hg, hM, hb⟩
end Go.Proofs.YtmknpchmpgkdbaaDoor.PB
end

section
namespace Go.Proofs.YtmknpchmpgkdbaaDoor.PB
open Go.RowKit Go.Proofs.YtmknpchmpgkdbaaDoorW.PrintWords Go.Proofs.YtmknpchmpgkdbaaDoorW.PrintLast Go.Proofs.YtmknpchmpgkdbaaDoorW.PrintMore
set_option linter.unusedVariables false
set_option linter.unusedSimpArgs false
/-! ### Options and the reference's, side by side -/
structure PR (w : World) (B go gm c : Nat) (xs : List Int) : Prop where
  ob : OB w go xs
  mb : MB w B gm c xs
  oin : OIn xs
  ge : B ≤ go
theorem oGet_at2 (xs : List Int) (k : Nat) (hk : k < 28) : oGet xs (oAt k).name = (xs.getD k 0, true) := by
  unfold oGet
  rw [oAt_find k hk]
theorem addr_zero (g k : Nat) : Addr.add ⟨g, 0, none⟩ k = ⟨g, k, none⟩ := by
  unfold Addr.add
  split
  · rename_i h; subst h; rfl
  · simp
theorem MB.ge {w : World} {base gm c : Nat} {xs : List Int} (h : MB w base gm c xs) : base ≤ gm := Kd.R_base h gm rfl
theorem MB.lower {w : World} {base base' gm c : Nat} {xs : List Int} (h : MB w base gm c xs) (hb : base' ≤ base) : MB w base' gm c xs := Kd.R_lower h hb
theorem PR.below {w w' : World} {B go gm c : Nat} {xs : List Int} (h : PR w B go gm c xs) (hb : Below w.heap.size w w') : PR w' B go gm c xs := ⟨h.ob.below (B := 0) hb, h.mb.below hb, h.oin, h.ge⟩
theorem PR.drew {w : World} {B go gm c : Nat} {xs : List Int} (h : PR w B go gm c xs) : PR w.drew B go gm c xs := ⟨h.ob.drew, h.mb.drew, h.oin, h.ge⟩
theorem PR.drewN {w : World} {B go gm c : Nat} {xs : List Int} (h : PR w B go gm c xs) (n : Nat) : PR (w.drewN n) B go gm c xs := ⟨h.ob.drewN n, h.mb.drewN n, h.oin, h.ge⟩
set_option maxHeartbeats 2000000 in
set_option maxRecDepth 100000 in
theorem tells_calls (B go gm c : Nat) (xs : List Int) (w : World) (hlt : LT B w) (hP : PR w B go gm c xs) :
    Calls Tryd.prog 20 #[.pointer (some ⟨go, 0, none⟩), .slice (some ⟨gm, 0, none⟩) 28 c] w fun e w' => e = .returned (.bool true) ∧ Below w.heap.size w w' := by
  have HLT := Aside0.mk hlt
  have HP := Aside0.mk hP
  clear hlt hP
  go_enter Tryd.func20, Tryd.ntmps20
  go_wp2_with fail
  refine (words_calls' go xs w HLT.out HP.out.ge HP.out.ob HP.out.oin).mono ?_
  rintro e w5 ⟨v5, rfl, hR, hb⟩
  obtain ⟨L, hL⟩ : ∃ L, L = (oWords xs).map toBA := ⟨_, rfl⟩
  have HL := Aside0.mk hL
  rw [← hL] at hR
  clear hL
  obtain ⟨A5, c5, rfl⟩ := Kd.R_slice hR
  have hLl : L.length ≤ 28 := by rw [HL.out]; exact oWords_len xs
  have HB5 := Aside0.mk hb
  have HR5 := Aside0.mk hR
  have HP5 := Aside0.mk (HP.out.below hb)
  clear hb hR
  go_wp2_with fail
  refine (mwords_calls gm c xs B w5 HP5.out.mb HP5.out.oin).mono ?_
  rintro e w6 ⟨v6, rfl, hR, hb⟩
  rw [← HL.out] at hR
  have HB6 := Aside0.mk (below_step HB5.out hb)
  have HR6 := Aside0.mk (Kd.R_below HR5.out hb)
  have HS6 := Aside0.mk hR
  clear hb hR HR5 HP5 HB5
  go_wp2_with fail
  refine (same_words HR6.out HS6.out (by omega)).mono ?_
  rintro e w7 ⟨rfl, nd, rfl⟩
  have HB7 := Aside0.mk (pw_below_drewN HB6.out nd)
  have HR7 := Aside0.mk (Kd.R_drewN HR6.out nd)
  clear HS6 HR6 HB6
  generalize w6.drewN nd = w7 at HB7 HR7 ⊢
  go_wp2_with fail
  go_loopg [6] L.length (fun j v6 wr => ∃ (i : Nat) (Z : List ByteArray), v6 = .int .i64 (i : Int) ∧ i + j = L.length ∧ Z.length = L.length ∧ Aside0 (Kd.R Kd.string 9 wr w.heap.size (fun _ => True) (.slice A5 L.length c5) Z) ∧ Aside0 (Below w.heap.size w wr))
  case atStart => exact ⟨0, L, rfl, by omega, rfl, HR7, HB7⟩
  case round =>
    clear HR7 HB7
    obtain ⟨i, Z, rfl, hij, hZ, HR, HB⟩ := hrel
    by_cases hlt : i < L.length
    · have hi0 : (0 : Int) ≤ (i : Int) := by omega
      have hil : (i : Int) < (L.length : Int) := by omega
      obtain ⟨g, cap, hv, hg, _, _⟩ := Kd.R_form HR.out (by omega)
      injection hv with e1 e2 e3
      subst e1
      obtain ⟨hc, hf⟩ := Kd.R_celln ByteArray.empty HR.out (i : Int) hi0 hil
      rw [Int.toNat_natCast] at hc hf
      have HG := Aside0.mk hg
      have HR' := Aside0.mk (Kd.R_putn HR.out (i : Int) (⟨#[111, 118, 101, 114]⟩ : ByteArray))
      rw [Int.toNat_natCast] at HR'
      clear hg e2 e3
      go_wp2
      go_roundg (gk - 1)
      case rel =>
        refine ⟨i + 1, Z.set i (⟨#[111, 118, 101, 114]⟩ : ByteArray), by go_num, by omega, by rw [List.length_set]; exact hZ, ⟨HR'.out⟩, ⟨?_⟩⟩
        exact Below.setCell HB.out HG.out _
      case measure => omega
    · obtain rfl : i = L.length := by omega
      clear hij hlt hZ
      obtain ⟨wo, rfl⟩ : ∃ wo : World, wo = wr := ⟨_, rfl⟩
      go_wp2_with fail
      go_loopg [7] 28 (fun j v7 wr => ∃ (i : Nat), v7 = .int .i64 (i : Int) ∧ i + j = 28 ∧ Aside0 (Below w.heap.size w wr))
      case atStart => exact ⟨0, rfl, by omega, HB⟩
      case round =>
        clear HB HR
        obtain ⟨i, rfl, hij, HB⟩ := hrel
        by_cases hlt : i < 28
        · have hi0 : (0 : Int) ≤ (i : Int) := by omega
          have hil : (i : Int) < ((mOf xs).length : Int) := by rw [mOf_len]; omega
          have hil28 : (i : Int) < 28 := by omega
          obtain ⟨x, hx⟩ : ∃ x, x = xs.getD i 0 := ⟨_, rfl⟩
          obtain ⟨nm, hnm⟩ : ∃ nm, nm = toBA (oAt i).name := ⟨_, rfl⟩
          have cells : ∀ W : World, MB W B gm c xs → W.cell? ⟨gm, i * 5, none⟩ = some (.string nm) ∧ W.cell? ⟨gm, i * 5 + 4, none⟩ = some (.int .i64 x) := by
            intro W hM
            obtain ⟨ad, e0, h0, _, _, _, h4⟩ := at_T50 hM.C.1 (i : Int) hi0 hil
            cases e0
            rw [mOf_rd xs i hlt, ← hx, Int.toNat_natCast] at h0 h4
            have f0 : (mEnt i x).f0 = nm := hnm.symm
            have f4 : (mEnt i x).f4 = x := rfl
            rw [f0] at h0
            rw [f4] at h4
            refine ⟨?_, ?_⟩
            · rw [addr_zero] at h0; exact h0
            · rw [addr_zero] at h4; exact h4
          have CELLS := Aside0.mk cells
          have GET := Aside0.mk (show oGet xs nm.data.toList = (x, true) by rw [hnm, hx]; exact oGet_at2 xs i hlt)
          have HP1 := Aside0.mk (HP.out.below HB.out)
          obtain ⟨hc0, hc4⟩ := CELLS.out wr HP1.out.mb
          clear cells hx hnm hil
          go_wp2_with fail
          refine (get_calls go xs nm wr (HLT.out.on (HB.out.mono ?hBW)) HP1.out.ge HP1.out.ob).mono ?_
          case hBW => exact Nat.le_of_lt (Nat.lt_of_le_of_lt HP.out.ge (blk_lt HP.out.ob.blk))
          rw [GET.out]
          rintro e1 w4 ⟨rfl, hb⟩
          have HB4 := Aside0.mk (below_step HB.out hb)
          have HP4 := Aside0.mk (HP1.out.below hb)
          clear hb hc0 hc4
          obtain ⟨hc0, hc4⟩ := CELLS.out w4 HP4.out.mb
          go_wp2
          go_roundg (gk - 1)
          case rel => exact ⟨i + 1, by go_num, by omega, HB4⟩
          case measure => omega
        · obtain rfl : i = 28 := by omega
          go_wp2
          go_ret
          exact ⟨rfl, HB.out⟩
end Go.Proofs.YtmknpchmpgkdbaaDoor.PB
end

section
namespace Go.Proofs.YtmknpchmpgkdbaaDoor.PB
open Go.RowKit Go.Proofs.YtmknpchmpgkdbaaDoorW.PrintWords Go.Proofs.YtmknpchmpgkdbaaDoorW.PrintLast Go.Proofs.YtmknpchmpgkdbaaDoorW.PrintMore
set_option linter.unusedVariables false
set_option linter.unusedSimpArgs false
/-! ### plays -/
def plays.T10 : Bool × List (List Nat × List Nat) := (true, [([], []), ([], []), ([1], [1]), ([0, 2], [0, 2]), ([], []), ([], []), ([5], [5]), ([4, 6, 3], [4, 6]), ([3, 7], [3, 7]), ([8, 7, 0, 1, 2, 3, 4, 5, 6, 7, 8], [8])])
def plays.B10 : List Nat := [0, 0, 2, 7, 0, 0, 32, 127, 255, 511]
theorem plays.tab10 : rtab .any (opsOf Tryd.f19 10) = plays.T10 := by kernel_rfl
theorem plays.bits10 : waitsOk plays.T10.2 plays.B10 = true := by kernel_rfl
/-- Nothing but blocks g and m of what was there has been written. -/
structure GB2 (g m : Nat) (w w' : World) : Prop where
  os : w'.os = w.os
  tape : w'.tape = w.tape
  output : w'.output = w.output
  size : w.heap.size ≤ w'.heap.size
  blk : ∀ q, q < w.heap.size → q ≠ g → q ≠ m → w'.heap[q]? = w.heap[q]?
theorem GB2.fst {g : Nat} (m : Nat) {w w' : World} (h : GB g w w') : GB2 g m w w' := ⟨h.os, h.tape, h.output, h.size, fun q hq hg _ => h.blk q hq hg⟩
theorem GB2.snd (g : Nat) {m : Nat} {w w' : World} (h : GB m w w') : GB2 g m w w' := ⟨h.os, h.tape, h.output, h.size, fun q hq _ hm => h.blk q hq hm⟩
theorem GB2.of {g m : Nat} {w w' : World} (h : Below w.heap.size w w') : GB2 g m w w' := ⟨h.os, h.tape, h.output, h.size, fun q hq _ _ => h.block q hq⟩
theorem GB2.trans {g m : Nat} {a b c : World} (h : GB2 g m a b) (k : GB2 g m b c) : GB2 g m a c :=
  ⟨k.os.trans h.os, k.tape.trans h.tape, k.output.trans h.output, Nat.le_trans h.size k.size, fun q hq h1 h2 => (k.blk q (Nat.lt_of_lt_of_le hq h.size) h1 h2).trans (h.blk q hq h1 h2)⟩
theorem GB2.drewN {g m : Nat} {w w' : World} (h : GB2 g m w w') (n : Nat) : GB2 g m w (w'.drewN n) := ⟨h.os, h.tape, h.output, h.size, h.blk⟩
theorem GB2.below {g m B : Nat} {w w' : World} (h : GB2 g m w w') (hB : B ≤ g) (hm : B ≤ m) (hw : B ≤ w.heap.size) : Below B w w' := ⟨h.os, h.tape, h.output, h.size, fun q hq => h.blk q (by omega) (by omega) (by omega)⟩
theorem MB.lt {w : World} {base gm c : Nat} {xs : List Int} (h : MB w base gm c xs) : gm < w.heap.size := by
  obtain ⟨cur, hb⟩ := h.blk
  exact blk_lt hb
theorem PR.other {w w' : World} {B g m g2 m2 c c2 : Nat} {xs ys : List Int} (h : PR w B g2 m2 c2 ys) (h1 : PR w B g m c xs) (hg : GB2 g m w w') (n1 : g2 ≠ g) (n2 : m2 ≠ m) : PR w' B g2 m2 c2 ys :=
  ⟨⟨(hg.blk g2 (blk_lt h.ob.blk) n1 (Ne.symm (h1.mb.ne h.ob))).trans h.ob.blk, h.ob.len⟩, Kd.R_step h.mb (fun k hk hlt => hg.blk k hlt (by rw [hk]; exact h.mb.ne h1.ob) (by rw [hk]; exact n2)), h.oin, h.ge⟩
set_option maxHeartbeats 2000000 in
set_option maxRecDepth 100000 in
theorem plays_calls (go gm c : Nat) (xs : List Int) (k : Int) (s : ByteArray) (n : Int) (w0 w : World) (hlt : LT w0.heap.size w) (hB0 : Below w0.heap.size w0 w) (hP : PR w w0.heap.size go gm c xs) (hk0 : 0 ≤ k) (hk1 : k ≤ 255) (hs : s.size ≤ 4000) :
    Calls Tryd.prog 19 #[.pointer (some ⟨go, 0, none⟩), .slice (some ⟨gm, 0, none⟩) 28 c, .agg #[.int .u8 k, .string s, .int .i64 n]] w fun e w' => e = .returned (.bool true) ∧ ∃ ys, PR w' w0.heap.size go gm c ys ∧ GB2 go gm w w' := by
  have HB0 := Aside0.mk hB0
  have HLT := Aside0.mk hlt
  have HP := Aside0.mk hP
  have HBW := Aside0.mk (hB0.size)
  clear hlt hP hB0
  by_cases h0 : k % 6 = 0
  · have q0 : (k % 6 == 0) = true := by simpa using h0
    clear h0
    go_enter Tryd.func19, Tryd.ntmps19
    go_upto_region 1 with ((with_reducible refine gate_dst (N := 5) rfl ?_); refine box_event ?hg (N := 5) ?hd (cs := #[.int .u8 k, .string s, .int .i64 n]) (t := 37) ?hr ?_; (case hd => rfl); (case hg => rfl); (case hr => first | (go_simp; done) | (go_simp; rfl)); intro gx hgb w1 hbox hb; have HX := Aside0.mk hbox; have HB1 := Aside0.mk hb; have HP1 := Aside0.mk (HP.out.below hb); have HGX := Aside0.mk (show w.heap.size ≤ gx by rw [hgb]; exact Nat.le_refl _); have HXO := Aside0.mk (show gx ≠ go from Nat.ne_of_gt (Nat.lt_of_lt_of_le (blk_lt HP.out.ob.blk) (by rw [hgb]; exact Nat.le_refl _))); have HXM := Aside0.mk (show gx ≠ gm from Nat.ne_of_gt (Nat.lt_of_lt_of_le HP.out.mb.lt (by rw [hgb]; exact Nat.le_refl _))); clear hbox hb hgb)
    have hx_0 := (blk_cell HX.out 0).trans (show _ = some (Value.int .u8 k) from rfl)
    have hx_1 := (blk_cell HX.out 1).trans (show _ = some (Value.string s) from rfl)
    have hx_2 := (blk_cell HX.out 2).trans (show _ = some (Value.int .i64 n) from rfl)
    go_wp2_with fail
    refine (set_calls go xs s n w1 (HLT.out.on (HB1.out.mono HBW.out)) HP1.out.ge HP1.out.ob).mono ?_
    rintro e3 w3 ⟨rfl, hO, hg⟩
    have HG3 := Aside0.mk (GB2.fst gm hg)
    have HO3 := Aside0.mk hO
    have HM3 := Aside0.mk (HP1.out.mb.gb hg (HP1.out.mb.ne HP1.out.ob))
    have HX3 := Aside0.mk ((hg.blk gx (blk_lt HX.out) HXO.out).trans HX.out)
    have HB3 := Aside0.mk (show Below w0.heap.size w0 w3 from (HB0.out.trans (HB1.out.mono HBW.out)).trans (hg.below HP1.out.ge (Nat.le_trans HBW.out HB1.out.size)))
    clear hO hg hx_0 hx_1 hx_2
    have hx_1 := (blk_cell HX3.out 1).trans (show _ = some (Value.string s) from rfl)
    have hx_2 := (blk_cell HX3.out 2).trans (show _ = some (Value.int .i64 n) from rfl)
    go_wp2_with fail
    refine (mset_calls gm c xs s n w0 w3 HB3.out HM3.out HP1.out.oin.1).mono ?_
    rintro e4 w4 ⟨rfl, hM, hg⟩
    have HG4 := Aside0.mk (HG3.out.trans (GB2.snd go hg))
    have HP4 := Aside0.mk (show PR w4 w0.heap.size go gm c (oSet xs s.data.toList n).1 from ⟨hg.other HO3.out (Ne.symm (HP1.out.mb.ne HP1.out.ob)), hM, HP1.out.oin.set _ _, HP1.out.ge⟩)
    clear hM hg hx_1 hx_2
    go_wp2
    go_ret
    exact ⟨rfl, _, HP4.out, (GB2.of HB1.out).trans HG4.out⟩
  · have q0 : (k % 6 == 0) = false := by simpa using h0
    clear h0
    by_cases h3 : k % 6 = 3
    · have q3 : (k % 6 == 3) = true := by simpa using h3
      clear h3
      go_enter Tryd.func19, Tryd.ntmps19
      go_upto_region 1 with ((with_reducible refine gate_dst (N := 5) rfl ?_); refine box_event ?hg (N := 5) ?hd (cs := #[.int .u8 k, .string s, .int .i64 n]) (t := 37) ?hr ?_; (case hd => rfl); (case hg => rfl); (case hr => first | (go_simp; done) | (go_simp; rfl)); intro gx hgb w1 hbox hb; have HX := Aside0.mk hbox; have HB1 := Aside0.mk hb; have HP1 := Aside0.mk (HP.out.below hb); have HGX := Aside0.mk (show w.heap.size ≤ gx by rw [hgb]; exact Nat.le_refl _); have HXO := Aside0.mk (show gx ≠ go from Nat.ne_of_gt (Nat.lt_of_lt_of_le (blk_lt HP.out.ob.blk) (by rw [hgb]; exact Nat.le_refl _))); have HXM := Aside0.mk (show gx ≠ gm from Nat.ne_of_gt (Nat.lt_of_lt_of_le HP.out.mb.lt (by rw [hgb]; exact Nat.le_refl _))); clear hbox hb hgb)
      have hx_0 := (blk_cell HX.out 0).trans (show _ = some (Value.int .u8 k) from rfl)
      have hx_1 := (blk_cell HX.out 1).trans (show _ = some (Value.string s) from rfl)
      cases hf : oFindN s.data.toList with
      | none =>
        have G1 := Aside0.mk (show oGet xs s.data.toList = (0, false) by unfold oGet; rw [hf])
        have G2 := Aside0.mk (show oFind s.data.toList = -1 by unfold oFind; rw [hf])
        clear hf
        go_wp2_with fail
        refine (get_calls go xs s w1 (HLT.out.on (HB1.out.mono HBW.out)) HP1.out.ge HP1.out.ob).mono ?_
        rw [G1.out]
        rintro e3 w3 ⟨rfl, hb⟩
        have HP3 := Aside0.mk (HP1.out.below hb)
        have HB3 := Aside0.mk (below_step HB1.out hb)
        have HX3 := Aside0.mk (blk_below HX.out hb)
        clear hb hx_0 hx_1
        have hx_1 := (blk_cell HX3.out 1).trans (show _ = some (Value.string s) from rfl)
        go_wp2_with fail
        refine (mfind_calls gm c xs s w0.heap.size w3 HP3.out.mb).mono ?_
        rw [G2.out]
        rintro e4 w4 ⟨rfl, nd, rfl⟩
        have HP4 := Aside0.mk (HP3.out.drewN nd)
        have HB4 := Aside0.mk (pw_below_drewN HB3.out nd)
        clear hx_1
        go_wp2
        go_ret
        exact ⟨rfl, _, HP4.out, GB2.of HB4.out⟩
      | some i =>
        have hi : i < 28 := (oFind_lt hf).1
        obtain ⟨x, hx⟩ : ∃ x, x = xs.getD i 0 := ⟨_, rfl⟩
        have G1 := Aside0.mk (show oGet xs s.data.toList = (x, true) by unfold oGet; rw [hf, hx])
        have G2 := Aside0.mk (show oFind s.data.toList = (i : Int) by unfold oFind; rw [hf])
        have hi0 : (0 : Int) ≤ (i : Int) := by omega
        have hin : decide ((i : Int) < 0) = false := decide_eq_false (by omega)
        have hil : (i : Int) < 28 := by omega
        have cells : ∀ W : World, MB W w0.heap.size gm c xs → W.cell? ⟨gm, i * 5 + 4, none⟩ = some (.int .i64 x) := by
          intro W hM
          obtain ⟨ad, e0, _, _, _, _, h4⟩ := at_T50 hM.C.1 (i : Int) hi0 (by rw [mOf_len]; omega)
          cases e0
          rw [mOf_rd xs i hi, ← hx, Int.toNat_natCast, addr_zero] at h4
          exact h4
        have CELLS := Aside0.mk cells
        clear hf hx cells
        go_wp2_with fail
        refine (get_calls go xs s w1 (HLT.out.on (HB1.out.mono HBW.out)) HP1.out.ge HP1.out.ob).mono ?_
        rw [G1.out]
        rintro e3 w3 ⟨rfl, hb⟩
        have HP3 := Aside0.mk (HP1.out.below hb)
        have HB3 := Aside0.mk (below_step HB1.out hb)
        have HX3 := Aside0.mk (blk_below HX.out hb)
        clear hb hx_0 hx_1
        have hx_1 := (blk_cell HX3.out 1).trans (show _ = some (Value.string s) from rfl)
        go_wp2_with fail
        refine (mfind_calls gm c xs s w0.heap.size w3 HP3.out.mb).mono ?_
        rw [G2.out]
        rintro e4 w4 ⟨rfl, nd, rfl⟩
        have HP4 := Aside0.mk (HP3.out.drewN nd)
        have HB4 := Aside0.mk (pw_below_drewN HB3.out nd)
        clear hx_1
        have hc4 := CELLS.out _ HP4.out.mb
        go_wp2
        go_ret
        exact ⟨rfl, _, HP4.out, GB2.of HB4.out⟩
    · have q3 : (k % 6 == 3) = false := by simpa using h3
      clear h3
      go_enter Tryd.func19, Tryd.ntmps19
      go_upto_region 1 with ((with_reducible refine gate_dst (N := 5) rfl ?_); refine box_event ?hg (N := 5) ?hd (cs := #[.int .u8 k, .string s, .int .i64 n]) (t := 37) ?hr ?_; (case hd => rfl); (case hg => rfl); (case hr => first | (go_simp; done) | (go_simp; rfl)); intro gx hgb w1 hbox hb; have HX := Aside0.mk hbox; have HB1 := Aside0.mk hb; have HP1 := Aside0.mk (HP.out.below hb); have HGX := Aside0.mk (show w.heap.size ≤ gx by rw [hgb]; exact Nat.le_refl _); have HXO := Aside0.mk (show gx ≠ go from Nat.ne_of_gt (Nat.lt_of_lt_of_le (blk_lt HP.out.ob.blk) (by rw [hgb]; exact Nat.le_refl _))); have HXM := Aside0.mk (show gx ≠ gm from Nat.ne_of_gt (Nat.lt_of_lt_of_le HP.out.mb.lt (by rw [hgb]; exact Nat.le_refl _))); clear hbox hb hgb)
      have hx_0 := (blk_cell HX.out 0).trans (show _ = some (Value.int .u8 k) from rfl)
      go_upto_region 10 with fail
      clear hx_0
      refine start_ (n := 10) (S := fun w' => w'.heap[gx]? = some (.cells #[.int .u8 k, .string s, .int .i64 n] 37 (0, 0))) (ds := []) #[false, false, false, false, false, false, false, false, false, false] (by kernel_rfl) rfl rfl (blk_drew HX.out) (fun hHeld => ?_); refine with_tabW plays.tab10 plays.bits10 (fun HT_ HW_ => ?_)
      have HB2 := Aside0.mk (below_drew1 HB1.out)
      have HP2 := Aside0.mk HP1.out.drew
      have HX2 := Aside0.mk (blk_drew HX.out)
      generalize w1.drew = w2 at HB2 HP2 HX2 hHeld ⊢
      refine pure_ (i := 0) (N := some 83) (v := ?_) (a' := ?_) #[true, false, false, false, false, false, false, false, false, false] rfl rfl (any_of HT_.out (by kernel_rfl)) (fun _ _ _ h => h) (Or.inl ⟨by rfl, ?_⟩) ?_ ?_
      rotate_left
      · intro w'
        go_simp
        with_reducible rfl
      rotate_left
      · simp only [Act.put, List.setIfInBounds_toArray, List.set_cons_zero, List.set_cons_succ, i64_w, i32_w]
        rfl
      refine pure_ (i := 1) (N := some 84) (v := ?_) (a' := ?_) #[true, true, false, false, false, false, false, false, false, false] rfl rfl (any_of HT_.out (by kernel_rfl)) (fun _ _ _ h => h) (Or.inl ⟨by rfl, ?_⟩) ?_ ?_
      rotate_left
      · intro w'
        go_simp
        with_reducible rfl
      rotate_left
      · simp only [Act.put, List.setIfInBounds_toArray, List.set_cons_zero, List.set_cons_succ, i64_w, i32_w]
        rfl
      refine pure_ (i := 4) (N := some 87) (v := ?_) (a' := ?_) #[true, true, false, false, true, false, false, false, false, false] rfl rfl (any_of HT_.out (by kernel_rfl)) (fun _ _ _ h => h) (Or.inl ⟨by rfl, ?_⟩) ?_ ?_
      rotate_left
      · intro w'
        go_simp
        with_reducible rfl
      rotate_left
      · simp only [Act.put, List.setIfInBounds_toArray, List.set_cons_zero, List.set_cons_succ, i64_w, i32_w]
        rfl
      refine pure_ (i := 5) (N := some 88) (v := ?_) (a' := ?_) #[true, true, false, false, true, true, false, false, false, false] rfl rfl (any_of HT_.out (by kernel_rfl)) (fun _ _ _ h => h) (Or.inl ⟨by rfl, ?_⟩) ?_ ?_
      rotate_left
      · intro w'
        go_simp
        with_reducible rfl
      rotate_left
      · simp only [Act.put, List.setIfInBounds_toArray, List.set_cons_zero, List.set_cons_succ, i64_w, i32_w]
        rfl
      refine take_ (i := 2) (N := some 85) (v := ?_) (a' := ?_) #[true, true, true, false, true, true, false, false, false, false] rfl rfl (take_ofW HT_.out HW_.out (by kernel_rfl)) (fun _ _ _ h => h) (Or.inl ⟨by rfl, ?_⟩) hHeld ?_ ?_
      rotate_left
      · rintro w' hS
        have hcz1 := (blk_cell hS 1).trans (show _ = some (Value.string s) from rfl)
        go_simp
        with_reducible rfl
      rotate_left
      · simp only [Act.put, List.setIfInBounds_toArray, List.set_cons_zero, List.set_cons_succ, i64_w, i32_w]
        rfl
      refine take_ (i := 6) (N := some 89) (v := ?_) (a' := ?_) #[true, true, true, false, true, true, true, false, false, false] rfl rfl (take_ofW HT_.out HW_.out (by kernel_rfl)) (fun _ _ _ h => h) (Or.inl ⟨by rfl, ?_⟩) hHeld ?_ ?_
      rotate_left
      · rintro w' hS
        have hcz1 := (blk_cell hS 1).trans (show _ = some (Value.string s) from rfl)
        go_simp
        with_reducible rfl
      rotate_left
      · simp only [Act.put, List.setIfInBounds_toArray, List.set_cons_zero, List.set_cons_succ, i64_w, i32_w]
        rfl
      refine one_ (i := 3) (N := some 86) #[true, true, true, true, true, true, true, false, false, false] rfl rfl (one_of HT_.out (by kernel_rfl)) (by decide) (fun K hK => ?_)
      refine goes_ Tryd.func14 (by kernel_rfl) rfl #[.pointer (some ⟨go, 0, none⟩), .string s] (by rfl) rfl rfl (by (try simp only [List.map_toArray, List.map_cons, List.map_nil]); first | done | rfl) ?_
      refine (parse_calls go xs s w2 (HLT.out.on (HB2.out.mono HBW.out)) HP2.out.ge HP2.out.ob (by omega)).mono ?_
      rintro e3 w3 ⟨rfl, hO, hg⟩
      refine ⟨_, rfl, ?_⟩
      have HG3 := Aside0.mk (GB2.fst gm hg)
      have HO3 := Aside0.mk hO
      have HM3 := Aside0.mk (HP2.out.mb.gb hg (HP2.out.mb.ne HP2.out.ob))
      have HX3 := Aside0.mk ((hg.blk gx (blk_lt HX2.out) HXO.out).trans HX2.out)
      have HB3 := Aside0.mk (show Below w0.heap.size w0 w3 from (HB0.out.trans (HB2.out.mono HBW.out)).trans (hg.below HP2.out.ge (Nat.le_trans HBW.out HB2.out.size)))
      clear hO hg
      refine hK.out _ _ HX3.out (fun hHeld => ?_)
      clear hK K
      refine norm_ (a' := ?_) ?_ ?_
      rotate_left
      · show Act.put _ (some 86) _ = _
        simp only [Act.put, List.setIfInBounds_toArray, List.set_cons_zero, List.set_cons_succ, i64_w, i32_w]
        rfl
      refine one_ (i := 7) (N := some 90) #[true, true, true, true, true, true, true, true, false, false] rfl rfl (one_of HT_.out (by kernel_rfl)) (by decide) (fun K hK => ?_)
      refine goes_ Tryd.func29 (by kernel_rfl) rfl #[.slice (some ⟨gm, 0, none⟩) 28 c, .string s] (by rfl) rfl rfl (by (try simp only [List.map_toArray, List.map_cons, List.map_nil]); first | done | rfl) ?_
      refine (mparse_calls gm c xs s w0 w3 HB3.out HM3.out HP2.out.oin.1 (by omega)).mono ?_
      rintro e4 w4 ⟨rfl, hM, hg⟩
      refine ⟨_, rfl, ?_⟩
      have HG4 := Aside0.mk (HG3.out.trans (GB2.snd go hg))
      have HP4 := Aside0.mk (show PR w4 w0.heap.size go gm c (oParse xs s.data.toList).1 from ⟨hg.other HO3.out (Ne.symm (HP2.out.mb.ne HP2.out.ob)), hM, HP2.out.oin.parse _, HP2.out.ge⟩)
      have HX4 := Aside0.mk ((hg.blk gx (blk_lt HX3.out) HXM.out).trans HX3.out)
      clear hM hg
      refine hK.out _ _ HX4.out (fun hHeld => ?_)
      clear hK K
      refine norm_ (a' := ?_) ?_ ?_
      rotate_left
      · show Act.put _ (some 90) _ = _
        simp only [Act.put, List.setIfInBounds_toArray, List.set_cons_zero, List.set_cons_succ, i64_w, i32_w]
        rfl
      refine pure_ (i := 8) (N := some 91) (v := ?_) (a' := ?_) #[true, true, true, true, true, true, true, true, true, false] rfl rfl (any_of HT_.out (by kernel_rfl)) (fun _ _ _ h => h) (Or.inl ⟨by rfl, ?_⟩) ?_ ?_
      rotate_left
      · intro w'
        go_simp
        with_reducible rfl
      rotate_left
      · simp only [Act.put, List.setIfInBounds_toArray, List.set_cons_zero, List.set_cons_succ, i64_w, i32_w]
        rfl
      refine pure_ (i := 9) (N := some 6) (v := ?_) (a' := ?_) #[true, true, true, true, true, true, true, true, true, true] rfl rfl (any_of HT_.out (by kernel_rfl)) (fun _ _ _ h => h) (Or.inl ⟨by rfl, ?_⟩) ?_ ?_
      rotate_left
      · intro w'
        go_simp
        with_reducible rfl
      rotate_left
      · simp only [Act.put, List.setIfInBounds_toArray, List.set_cons_zero, List.set_cons_succ, i64_w, i32_w]
        rfl
      refine done_ (done_of HT_.out (by kernel_rfl)) ?_
      go_wp2
      go_ret
      exact ⟨rfl, _, HP4.out, (GB2.of HB2.out).trans HG4.out⟩
end Go.Proofs.YtmknpchmpgkdbaaDoor.PB
end

section
namespace Go.Proofs.YtmknpchmpgkdbaaDoor.PB
open Go.RowKit Go.Proofs.YtmknpchmpgkdbaaDoorW.PrintWords Go.Proofs.YtmknpchmpgkdbaaDoorW.PrintLast Go.Proofs.YtmknpchmpgkdbaaDoorW.PrintMore
set_option linter.unusedVariables false
set_option linter.unusedSimpArgs false
/-! ### OptionsPlay -/
theorem reach_le2 : reachBytes ≤ 140737488355328 := by decide
theorem sz37 : (Tryd.prog.info? 37).map (·.size) = some 3 := by kernel_rfl
theorem spot_of {w : World} {p : Addr} {v : Value} (h : w.cell? p = some v) : p = ⟨p.block, p.off, none⟩ := by
  unfold World.cell? at h
  split at h
  · cases hs : p.spot with
    | none => rw [← hs]
    | some q => rw [hs] at h; simp at h
  · cases h
set_option maxHeartbeats 4000000 in
set_option maxRecDepth 100000 in
theorem play_calls (A0 : Option Addr) (c0 : Nat) (l0 : List S37) (w : World) (hr0 : Kd.C k37 w A0 l0.length l0) (hc0 : l0.length ≤ c0) (hgd : GoodOps l0) (hlt : LT w.heap.size w) :
    Calls Tryd.prog 5 #[.slice A0 l0.length c0] w fun e w' => e = .returned (.bool true) ∧ Below w.heap.size w w' := by
  have HLT := Aside0.mk hlt
  have HR0 := Aside0.mk hr0
  have HC0 := Aside0.mk hc0
  obtain ⟨r, hrl, hr2⟩ := large_f l0 (by have := hgd.2.1; have := reach_le2; omega) (fun s hs => by have := (hgd.2.2 s hs).1; have := reach_le2; omega)
  have HRL := Aside0.mk hrl
  have HR2 := Aside0.mk hr2
  have HGD := Aside0.mk hgd
  clear hlt hr0 hc0 hrl hr2 hgd
  cases r with
  | true =>
    go_enter Tryd.func5, Tryd.ntmps5
    go_wp2_with fail
    refine (threshinglaw30_large.calls _ A0 c0 l0 true w HR0.out HC0.out HRL.out).mono ?_
    rintro e w1 ⟨rfl, nd, rfl⟩
    go_wp2_with fail
    refine (works_calls _ (HLT.out.drewN nd)).mono ?_
    rintro e w2 ⟨rfl, hb⟩
    have HB2 := Aside0.mk (below_step (pw_below_drewN (Below.refl w.heap.size w) nd) hb)
    clear hb
    go_wp2
    go_ret
    exact ⟨rfl, HB2.out⟩
  | false =>
    obtain ⟨hl200, hs4⟩ := HR2.out rfl
    have HS4 := Aside0.mk hs4
    clear HR2 hs4
    go_enter Tryd.func5, Tryd.ntmps5
    go_wp2_with fail
    refine (threshinglaw30_large.calls _ A0 c0 l0 false w HR0.out HC0.out HRL.out).mono ?_
    rintro e w1 ⟨rfl, nd, rfl⟩
    clear HRL
    have HB1 := Aside0.mk (pw_below_drewN (Below.refl w.heap.size w) nd)
    go_wp2_with fail
    refine (new_calls _ (HLT.out.drewN nd)).mono ?_
    rintro e w2 ⟨go, rfl, hg, hO, hb⟩
    have HB2 := Aside0.mk (below_step HB1.out hb)
    have HO2 := Aside0.mk hO
    have HGO := Aside0.mk (show w.heap.size ≤ go from hg)
    clear hb hO hg
    go_wp2_with fail
    refine (mnew_calls w2).mono ?_
    rintro e w3 ⟨gm, c, rfl, hg, hM, hb⟩
    have HB3 := Aside0.mk (below_step HB2.out hb)
    have HP3 := Aside0.mk (show PR w3 w.heap.size go gm c oNew from ⟨HO2.out.below (B := 0) hb, hM.lower HB2.out.size, OIn.new, HGO.out⟩)
    clear hb hM hg HO2 HGO HB1 HB2
    go_wp2_with fail
    go_loopg [3, 4, 5, 6, 7] l0.length (fun j v3 v4 v5 v6 v7 wr => ∃ (i go gm c : Nat) (xs : List Int) (go2 gm2 c2 : Nat) (ys : List Int), v3 = .pointer (some ⟨go, 0, none⟩) ∧ v4 = .slice (some ⟨gm, 0, none⟩) 28 c ∧ v5 = .pointer (some ⟨go2, 0, none⟩) ∧ v6 = .slice (some ⟨gm2, 0, none⟩) 28 c2 ∧ v7 = .int .i64 (i : Int) ∧ i + j = l0.length ∧ Aside0 (PR wr w.heap.size go gm c xs) ∧ Aside0 (PR wr w.heap.size go2 gm2 c2 ys) ∧ Aside0 ((go2 = go ∧ gm2 = gm ∧ c2 = c ∧ ys = xs) ∨ (go2 ≠ go ∧ gm2 ≠ gm)) ∧ Aside0 (Below w.heap.size w wr))
    case atStart => exact ⟨0, go, gm, c, oNew, go, gm, c, oNew, rfl, rfl, rfl, rfl, rfl, by omega, HP3, HP3, ⟨.inl ⟨rfl, rfl, rfl, rfl⟩⟩, HB3⟩
    case round =>
      clear HP3 HB3
      obtain ⟨i, go, gm, c, xs, go2, gm2, c2, ys, rfl, rfl, rfl, rfl, rfl, hij, HP, HQ, HA, HB⟩ := hrel
      by_cases hlt : i < l0.length
      · have hi0 : (0 : Int) ≤ (i : Int) := by omega
        have hil : (i : Int) < (l0.length : Int) := by omega
        obtain ⟨ad, e0, hx_0, hx_1, hx_2⟩ := at_T37 HR0.out (i : Int) hi0 hil
        cases e0
        rw [Int.toNat_natCast] at hx_0 hx_1 hx_2
        obtain ⟨s, hs⟩ : ∃ s, s = rd_T37 l0 (i : Int) := ⟨_, rfl⟩
        have hsm : s ∈ l0 := by rw [hs, rdT37_get l0 i hlt]; exact List.getElem_mem hlt
        rw [← hs] at hx_0 hx_1 hx_2
        have hsz := HS4.out s hsm
        obtain ⟨hk0, hk1⟩ := (HGD.out.2.2 s hsm).2.1
        clear hs hsm
        replace hx_0 := (HB.out.cell (World.block_lt_of_cell? w _ hx_0)).trans hx_0
        replace hx_1 := (HB.out.cell (World.block_lt_of_cell? w _ hx_1)).trans hx_1
        replace hx_2 := (HB.out.cell (World.block_lt_of_cell? w _ hx_2)).trans hx_2
        by_cases h4 : s.f0 % 6 = 4
        · have q4 : (s.f0 % 6 == 4) = true := by simpa using h4
          clear h4
          go_wp2_with fail
          refine (copy_calls go xs wr HP.out.ob).mono ?_
          rintro e1 w5 ⟨g5, rfl, hg, hO, hb⟩
          have HB5 := Aside0.mk (below_step HB.out hb)
          have HQ5 := Aside0.mk (HP.out.below hb)
          have HO5 := Aside0.mk hO
          have HG5 := Aside0.mk (show w.heap.size ≤ g5 from Nat.le_trans HB.out.size hg)
          have HN5 := Aside0.mk (show go ≠ g5 from Nat.ne_of_lt (Nat.lt_of_lt_of_le (blk_lt HP.out.ob.blk) hg))
          clear hb hO hg hx_0 hx_1 hx_2
          go_wp2_with fail
          refine (mcopied_calls gm c xs w.heap.size w5 HQ5.out.mb).mono ?_
          rintro e1 w6 ⟨g6, c6, rfl, hg, hM, hb⟩
          have HB6 := Aside0.mk (below_step HB5.out hb)
          have HQ6 := Aside0.mk (HQ5.out.below hb)
          have HP6 := Aside0.mk (show PR w6 w.heap.size g5 g6 c6 xs from ⟨HO5.out.below (B := 0) hb, hM.lower HB5.out.size, HP.out.oin, HG5.out⟩)
          have HA6 := Aside0.mk (show go ≠ g5 ∧ gm ≠ g6 from ⟨HN5.out, Nat.ne_of_lt (Nat.lt_of_lt_of_le HQ5.out.mb.lt hg)⟩)
          clear hb hM hg
          go_wp2_with fail
          refine (tells_calls w.heap.size g5 g6 c6 xs w6 (HLT.out.on HB6.out) HP6.out).mono ?_
          rintro e1 wa ⟨rfl, hb⟩
          have HPa := Aside0.mk (HP6.out.below hb)
          have HQa := Aside0.mk (HQ6.out.below hb)
          have HBa := Aside0.mk (below_step HB6.out hb)
          clear hb
          go_wp2_with fail
          refine (tells_calls w.heap.size g5 g6 c6 xs wa (HLT.out.on HBa.out) HPa.out).mono ?_
          rintro e1 wb ⟨rfl, hb⟩
          have HPb := Aside0.mk (HPa.out.below hb)
          have HQb := Aside0.mk (HQa.out.below hb)
          have HBb := Aside0.mk (below_step HBa.out hb)
          clear hb
          go_wp2
          go_roundg (gk - 1)
          case rel => exact ⟨i + 1, g5, g6, c6, xs, go, gm, c, xs, rfl, rfl, rfl, rfl, by go_num, by omega, HPb, HQb, ⟨.inr HA6.out⟩, HBb⟩
          case measure => omega
        · have q4 : (s.f0 % 6 == 4) = false := by simpa using h4
          clear h4
          by_cases h5 : s.f0 % 6 = 5
          · have q5 : (s.f0 % 6 == 5) = true := by simpa using h5
            clear h5
            go_wp2_with fail
            refine (tells_calls w.heap.size go2 gm2 c2 ys wr (HLT.out.on HB.out) HQ.out).mono ?_
            rintro e1 wa ⟨rfl, hb⟩
            have HPa := Aside0.mk (HQ.out.below hb)
            have HQa := Aside0.mk (HQ.out.below hb)
            have HBa := Aside0.mk (below_step HB.out hb)
            clear hb
            go_wp2_with fail
            refine (tells_calls w.heap.size go2 gm2 c2 ys wa (HLT.out.on HBa.out) HPa.out).mono ?_
            rintro e1 wb ⟨rfl, hb⟩
            have HPb := Aside0.mk (HPa.out.below hb)
            have HQb := Aside0.mk (HQa.out.below hb)
            have HBb := Aside0.mk (below_step HBa.out hb)
            clear hb
            go_wp2
            go_roundg (gk - 1)
            case rel => exact ⟨i + 1, go2, gm2, c2, ys, go2, gm2, c2, ys, rfl, rfl, rfl, rfl, by go_num, by omega, HPb, HQb, ⟨.inl ⟨rfl, rfl, rfl, rfl⟩⟩, HBb⟩
            case measure => omega
          · have q5 : (s.f0 % 6 == 5) = false := by simpa using h5
            clear h5
            have hbo := spot_of hx_0
            have HRA := Aside0.mk (show wr.rangeAt (ad.add (i * 3)).block (ad.add (i * 3)).off [.int .u8 s.f0, .string s.f1, .int .i64 s.f2] from by
              intro j v hj
              match j, hj with
              | 0, hj => rw [← Option.some.inj hj, Nat.add_zero, ← hbo]; exact hx_0
              | 1, hj => rw [← Option.some.inj hj]; exact hx_1
              | 2, hj => rw [← Option.some.inj hj]; exact hx_2)
            have HBO := Aside0.mk hbo
            clear hbo
            go_wp2_with ((with_reducible refine gate_dst (N := 34) rfl ?_); refine Go.Deep.wpList_load_mid rfl 37 (.tmp 33) rfl (ad.add (i * 3)).block (ad.add (i * 3)).off ?hx [.int .u8 s.f0, .string s.f1, .int .i64 s.f2] _ ?hc Tryd.underlying37 rfl sz37 ?_; (case hx => rw [← HBO.out]; rfl); (case hc => exact HRA.out))
            refine (plays_calls go gm c xs s.f0 s.f1 s.f2 w wr (HLT.out.on HB.out) HB.out HP.out hk0 hk1 hsz).mono ?_
            rintro e1 w5 ⟨rfl, xs5, hP5, hg⟩
            have HP5 := Aside0.mk hP5
            have HB5 := Aside0.mk (HB.out.trans (hg.below HP.out.ge HP.out.mb.ge HB.out.size))
            rcases HA.out with ⟨e1, e2, e3, e4⟩ | ⟨n1, n2⟩
            · subst e1; subst e2; subst e3; subst e4
              clear hP5 hg
              go_wp2_with fail
              refine (tells_calls w.heap.size go2 gm2 c2 xs5 w5 (HLT.out.on HB5.out) HP5.out).mono ?_
              rintro e1 wa ⟨rfl, hb⟩
              have HPa := Aside0.mk (HP5.out.below hb)
              have HQa := Aside0.mk (HP5.out.below hb)
              have HBa := Aside0.mk (below_step HB5.out hb)
              clear hb
              go_wp2_with fail
              refine (tells_calls w.heap.size go2 gm2 c2 xs5 wa (HLT.out.on HBa.out) HPa.out).mono ?_
              rintro e1 wb ⟨rfl, hb⟩
              have HPb := Aside0.mk (HPa.out.below hb)
              have HQb := Aside0.mk (HQa.out.below hb)
              have HBb := Aside0.mk (below_step HBa.out hb)
              clear hb
              go_wp2
              go_roundg (gk - 1)
              case rel => exact ⟨i + 1, go2, gm2, c2, xs5, go2, gm2, c2, xs5, rfl, rfl, rfl, rfl, by go_num, by omega, HPb, HQb, ⟨.inl ⟨rfl, rfl, rfl, rfl⟩⟩, HBb⟩
              case measure => omega
            · have HQ5 := Aside0.mk (HQ.out.other HP.out hg n1 n2)
              have HNN := Aside0.mk (show go2 ≠ go ∧ gm2 ≠ gm from ⟨n1, n2⟩)
              clear hP5 hg n1 n2
              go_wp2_with fail
              refine (tells_calls w.heap.size go gm c xs5 w5 (HLT.out.on HB5.out) HP5.out).mono ?_
              rintro e1 wa ⟨rfl, hb⟩
              have HPa := Aside0.mk (HP5.out.below hb)
              have HQa := Aside0.mk (HQ5.out.below hb)
              have HBa := Aside0.mk (below_step HB5.out hb)
              clear hb
              go_wp2_with fail
              refine (tells_calls w.heap.size go gm c xs5 wa (HLT.out.on HBa.out) HPa.out).mono ?_
              rintro e1 wb ⟨rfl, hb⟩
              have HPb := Aside0.mk (HPa.out.below hb)
              have HQb := Aside0.mk (HQa.out.below hb)
              have HBb := Aside0.mk (below_step HBa.out hb)
              clear hb
              go_wp2
              go_roundg (gk - 1)
              case rel => exact ⟨i + 1, go, gm, c, xs5, go2, gm2, c2, ys, rfl, rfl, rfl, rfl, by go_num, by omega, HPb, HQb, ⟨.inr HNN.out⟩, HBb⟩
              case measure => omega
      · obtain rfl : i = l0.length := by omega
        go_wp2_with fail
        refine (tells_calls w.heap.size go2 gm2 c2 ys wr (HLT.out.on HB.out) HQ.out).mono ?_
        rintro e1 wa ⟨rfl, hb⟩
        have HBa := Aside0.mk (below_step HB.out hb)
        clear hb
        go_wp2_with fail
        refine (works_calls wa ((HLT.out.on HBa.out).up HBa.out.size)).mono ?_
        rintro e1 wb ⟨rfl, hb⟩
        have HBb := Aside0.mk (below_step HBa.out hb)
        clear hb
        go_wp2
        go_ret
        exact ⟨rfl, HBb.out⟩
end Go.Proofs.YtmknpchmpgkdbaaDoor.PB
end

section
namespace Go.Proofs.YtmknpchmpgkdbaaDoor.PB
open Go.RowKit Go.Proofs.YtmknpchmpgkdbaaDoorW.PrintWords
theorem optionsPlay_walk {w : World} (A0 : Option Addr) (c0 : Nat) (l0 : List S37) (hr0 : Kd.C k37 w A0 l0.length l0) (hc0 : l0.length ≤ c0) (hg : GoodOps l0) (w' : World) (hlt : LT w'.heap.size w') (hw : w' = w := by rfl) :
    Calls Tryd.prog 5 #[.slice A0 l0.length c0] w' fun e w'' => e = .returned (.bool true) ∧ Below w'.heap.size w' w'' := by
  subst hw
  exact play_calls A0 c0 l0 _ hr0 hc0 hg hlt
end Go.Proofs.YtmknpchmpgkdbaaDoor.PB
end
