import Derived.Test.YtlimaebaagabaaaDoorHOne
namespace Go.Proofs.YtlimaebaagabaaaDoor.PB
open Go.RowKit Go.Proofs.YtlimaebaagabaaaDoorW.PrintWords Go.Proofs.YtlimaebaagabaaaDoorW.PrintLast Go.Proofs.YtlimaebaagabaaaDoorW.PrintMore
attribute [local go_sem] max2_int min2_int max_two min_two max_three min_three max_four min_four
set_option linter.unusedVariables false
set_option linter.unusedSimpArgs false

/-! What a step that is read takes of the bytes. -/
theorem BL_budget : ∀ (k : Nat) (n : Int) (bs : List Int) (s : S43) (bad : Bool), (BL k n bs s bad).2.2 = false → bad = false ∧ (BL k n bs s bad).2.1.f2.length + (BL k n bs s bad).1.length ≤ s.f2.length + bs.length := by
  intro k
  induction k with
  | zero => intro n bs s bad h; exact ⟨h, Nat.le_refl _⟩
  | succ k ih =>
    intro n bs s bad h
    rw [BL] at h ⊢
    split
    · rename_i hc
      rw [if_pos hc] at h
      obtain ⟨h1, h2⟩ := ih _ _ _ _ h
      simp only [Bool.or_eq_false_iff] at h1
      have h3 := (Bnumber_length bs).2 h1.2
      refine ⟨hc.2, Nat.le_trans h2 ?_⟩
      simp only [addL, List.length_append, List.length_singleton]
      omega
    · rename_i hc
      rw [if_neg hc] at h
      exact ⟨h, Nat.le_refl _⟩
theorem BrowL_budget (bs : List Int) (s : S43) (bad : Bool) (h : (BrowL bs s bad).2.2 = false) : bad = false ∧ (BrowL bs s bad).2.1.f2.length + (BrowL bs s bad).1.length + 1 ≤ s.f2.length + bs.length := by
  obtain ⟨h1, h2⟩ := BL_budget (bs.length + 2) (Bnumber bs).1 (Bnumber bs).2.2 s (bad || (Bnumber bs).2.1) h
  simp only [Bool.or_eq_false_iff] at h1
  have h3 := (Bnumber_length bs).2 h1.2
  have h4 : (BrowL bs s bad).2.1.f2.length + (BrowL bs s bad).1.length ≤ s.f2.length + (Bnumber bs).2.2.length := h2
  exact ⟨h1.1, by omega⟩
theorem BH_budget : ∀ (k : Nat) (n : Int) (bs : List Int) (s : S43) (bad : Bool), (BH k n bs s bad).2.2 = false → bad = false ∧ (BH k n bs s bad).2.1.f3.length + (BH k n bs s bad).1.length ≤ s.f3.length + bs.length := by
  intro k
  induction k with
  | zero => intro n bs s bad h; exact ⟨h, Nat.le_refl _⟩
  | succ k ih =>
    intro n bs s bad h
    rw [BH] at h ⊢
    split
    · rename_i hc
      rw [if_pos hc] at h
      obtain ⟨h1, h2⟩ := ih _ _ _ _ h
      simp only [Bool.or_eq_false_iff] at h1
      have h3 := (Bnumber_length bs).2 h1.2
      refine ⟨hc.2, Nat.le_trans h2 ?_⟩
      simp only [addH, List.length_append, List.length_singleton]
      omega
    · rename_i hc
      rw [if_neg hc] at h
      exact ⟨h, Nat.le_refl _⟩
theorem BrowH_budget (bs : List Int) (s : S43) (bad : Bool) (h : (BrowH bs s bad).2.2 = false) : bad = false ∧ (BrowH bs s bad).2.1.f3.length + (BrowH bs s bad).1.length + 1 ≤ s.f3.length + bs.length := by
  obtain ⟨h1, h2⟩ := BH_budget (bs.length + 2) (Bnumber bs).1 (Bnumber bs).2.2 s (bad || (Bnumber bs).2.1) h
  simp only [Bool.or_eq_false_iff] at h1
  have h3 := (Bnumber_length bs).2 h1.2
  have h4 : (BrowH bs s bad).2.1.f3.length + (BrowH bs s bad).1.length ≤ s.f3.length + (Bnumber bs).2.2.length := h2
  exact ⟨h1.1, by omega⟩
theorem Bone_budget (bs : List Int) (hne : 0 < bs.length) (h : (Bone bs).1 = true) : (Bone bs).2.2.2 = false ∧ (Bone bs).2.2.1.f2.length + (Bone bs).2.2.1.f3.length + (Bone bs).2.1.length + 2 ≤ bs.length := by
  unfold Bone at h ⊢
  have hd : (bs.drop 1).length + 1 = bs.length := by rw [List.length_drop]; omega
  split
  · rename_i hc
    rw [if_pos hc] at h
    simp only [Bool.and_eq_true, Bool.not_eq_true'] at h
    have hb := h.1
    obtain ⟨h1, h2⟩ := BrowH_budget _ _ _ hb
    obtain ⟨h3, h4⟩ := BrowL_budget _ _ _ h1
    have h5 := (Bnumber_length (bs.drop 1)).2 h3
    have k1 := BrowH_keeps (BrowL (Bnumber (bs.drop 1)).2.2 ⟨1, (Bnumber (bs.drop 1)).1, [], []⟩ (Bnumber (bs.drop 1)).2.1).1 (BrowL (Bnumber (bs.drop 1)).2.2 ⟨1, (Bnumber (bs.drop 1)).1, [], []⟩ (Bnumber (bs.drop 1)).2.1).2.1 (BrowL (Bnumber (bs.drop 1)).2.2 ⟨1, (Bnumber (bs.drop 1)).1, [], []⟩ (Bnumber (bs.drop 1)).2.1).2.2
    have k2 := BrowL_keeps (Bnumber (bs.drop 1)).2.2 ⟨1, (Bnumber (bs.drop 1)).1, [], []⟩ (Bnumber (bs.drop 1)).2.1
    refine ⟨hb, ?_⟩
    rw [k2.2.1] at h2
    show (BoneA (bs.drop 1)).2.1.f2.length + (BoneA (bs.drop 1)).2.1.f3.length + (BoneA (bs.drop 1)).1.length + 2 ≤ bs.length
    have e : (BoneA (bs.drop 1)).2.1.f2.length = (BrowL (Bnumber (bs.drop 1)).2.2 ⟨1, (Bnumber (bs.drop 1)).1, [], []⟩ (Bnumber (bs.drop 1)).2.1).2.1.f2.length := congrArg List.length k1.2.1
    have h2' : (BoneA (bs.drop 1)).2.1.f3.length + (BoneA (bs.drop 1)).1.length + 1 ≤ ([] : List Int).length + _ := h2
    simp only [List.length_nil] at h2' h4
    omega
  · rename_i hc
    rw [if_neg hc] at h
    split
    · rename_i hc2
      rw [if_pos hc2] at h
      simp only [Bool.and_eq_true, Bool.not_eq_true'] at h
      have hb := h.1
      obtain ⟨h1, h2⟩ := BrowH_budget _ _ _ hb
      have h5 := (Bnumber_length (bs.drop 1)).2 h1
      have k1 := BrowH_keeps (Bnumber (bs.drop 1)).2.2 ⟨2, (Bnumber (bs.drop 1)).1, [], []⟩ (Bnumber (bs.drop 1)).2.1
      refine ⟨hb, ?_⟩
      show (BoneD (bs.drop 1)).2.1.f2.length + (BoneD (bs.drop 1)).2.1.f3.length + (BoneD (bs.drop 1)).1.length + 2 ≤ bs.length
      have e : (BoneD (bs.drop 1)).2.1.f2.length = 0 := congrArg List.length k1.2.1
      have h2' : (BoneD (bs.drop 1)).2.1.f3.length + (BoneD (bs.drop 1)).1.length + 1 ≤ ([] : List Int).length + _ := h2
      simp only [List.length_nil] at h2'
      omega
    · rename_i hc2
      rw [if_neg hc2] at h
      cases h

/-- The steps of bytes: out are there already, n is the whole's length. -/
def Bp : Nat → Nat → List Int → List S43 → List S43 × Int × Int
  | 0, _, _, _ => ([], 0, 0)
  | k + 1, n, bs, out => if bs.length = 0 then (out, 0, 0) else if (Bone bs).1 = true then Bp k n (Bone bs).2.1 (out ++ [(Bone bs).2.2.1]) else ([], 50, (n : Int) - bs.length)
def Bparse (bs : List Int) : List S43 × Int × Int := Bp (bs.length + 1) bs.length bs []

set_option maxHeartbeats 2000000 in
set_option maxRecDepth 100000 in
theorem parse_calls (A0 : Option Addr) (c0 : Nat) (l0 : List Int) (w : World) (hr0 : Kd.C (Kd.int .u8) w A0 l0.length l0) (hc0 : l0.length ≤ c0) (hl : l0.length ≤ 1048576) :
    Calls Tryd.prog 8 #[.slice A0 l0.length c0] w fun e w' => ∃ v0_ : Value, e = .returned (.tuple #[v0_, .int .i64 (Bparse l0).2.1, .int .i64 (Bparse l0).2.2]) ∧ Kd.S k43 39 w' w.heap.size (fun _ => True) v0_ (Bparse l0).1 ∧ Below w.heap.size w w' := by
  have HR0 := Aside0.mk hr0
  have HC0 := Aside0.mk hc0
  clear hr0 hc0
  go_enter Tryd.func8, Tryd.ntmps8
  go_wp2_with (first | ((with_reducible refine gate_dst (N := 11) rfl ?_); refine box_event ?hg (N := 11) ?hd (cs := #[.slice A0 l0.length c0, .int .u8 0, .int .i64 0, .slice none 0 0, .slice none 0 0, .bool false]) (t := 60) ?hr ?_; (case hd => rfl); (case hg => rfl); (case hr => first | (go_simp; done) | (go_simp; rfl)); intro g hgb w7 hbox hb; have HD := Aside0.mk (show RD w g l0 (.int .u8 0) (.int .i64 0) (.slice none 0 0) (.slice none 0 0) false w7 from ⟨⟨A0, c0, hbox, HC0.out, HR0.out⟩, hb, Nat.le_of_eq hgb.symm⟩); clear hbox hb hgb))
  go_loopg [5, 7] (l0.length + 1) (fun k v5 v7 wr => ∃ (rest : List Int) (out : List S43) (n : Int) (v1 v2 v3 v4 : Value), v7 = .int .i64 n ∧ 0 ≤ n ∧ n + rest.length ≤ 1048576 ∧ out.length + rest.length ≤ 1048576 ∧ rest.length ≤ l0.length ∧ rest.length < k ∧ Aside0 (Bp k l0.length rest out = Bparse l0) ∧ Aside0 (RD w g rest v1 v2 v3 v4 false wr) ∧ Aside0 (Kd.S k43 39 wr w.heap.size (fun _ => True) v5 out))
  case atStart => exact ⟨l0, [], 0, _, _, _, _, rfl, by omega, by omega, by simpa using hl, by omega, by omega, ⟨rfl⟩, HD, ⟨Kd.S_nil _ _ _ _ _⟩⟩
  case round =>
    clear HD
    obtain ⟨rest, out, n, v1, v2, v3, v4, rfl, hn0, hnr, hor, hrl, hrk, HP, HD, HS⟩ := hrel
    obtain ⟨k, rfl⟩ : ∃ k, gk = k + 1 := ⟨gk - 1, by omega⟩
    have HP' := HP.out
    rw [Bp] at HP'
    obtain ⟨A, c, hg, _⟩ := HD.out.ex
    have hcz0 := (blk_cell hg 0).trans (show _ = some (Value.slice A rest.length c) from rfl)
    have hglt := Aside0.mk (blk_lt hg)
    have HG55 := Aside0.mk hg
    clear hg HP
    by_cases h0 : rest.length = 0
    · rw [if_pos h0] at HP'
      have hfin := Aside0.mk HP'
      obtain ⟨Ao, co, eo⟩ := Kd.R_slice (Kd.S_R HS.out)
      subst eo
      clear HP'
      go_wp2
      go_ret3
      exact ⟨_, by rw [← hfin.out]; rfl, by rw [← hfin.out]; exact HS.out, HD.out.below⟩
    · rw [if_neg h0] at HP'
      have hpos : 0 < rest.length := by omega
      have HBU := fun h => Aside0.mk (Bone_budget rest hpos h)
      clear h0
      cases hok : (Bone rest).1 with
      | false =>
        rw [if_neg (by rw [hok]; simp)] at HP'
        have hfin := Aside0.mk HP'
        have HOK := Aside0.mk hok
        clear HP' HBU hok
        go_wp2_with (first | (go_at_call 18; refine (one_calls w g rest v1 v2 v3 v4 _ HD.out hpos (by omega) hglt.out).mono ?_; rintro e w8 ⟨rfl, hq⟩; have H1 := Aside0.mk hq; rw [HOK.out]; clear hq hcz0 HG55))
        go_ret3
        exact ⟨.slice none 0 0, by rw [← hfin.out]; rfl, by rw [← hfin.out]; exact Kd.S_nil _ _ _ _ _, H1.out.below⟩
      | true =>
        rw [if_pos hok] at HP'
        have HP := Aside0.mk HP'
        have HB2 := HBU hok
        have HOK := Aside0.mk hok
        clear HP' HBU hok
        obtain ⟨q, hq⟩ : ∃ q, q = (Bone rest).2 := ⟨_, rfl⟩
        obtain ⟨rest', s, bad'⟩ := q
        have e1 : (Bone rest).2.1 = rest' := by rw [← hq]
        have e2 : (Bone rest).2.2.1 = s := by rw [← hq]
        have e3 : (Bone rest).2.2.2 = bad' := by rw [← hq]
        rw [e1, e2] at HP
        rw [e1, e2, e3] at HB2
        have hbad : bad' = false := HB2.out.1
        subst hbad
        have E1 := Aside0.mk e1
        have E2 := Aside0.mk e2
        have E3 := Aside0.mk e3
        have hbud : s.f2.length + s.f3.length + rest'.length + 2 ≤ rest.length := HB2.out.2
        clear e1 e2 e3 hq HB2
        go_upto_region 7 with (go_at_call 18; refine (one_calls w g rest v1 v2 v3 v4 _ HD.out hpos (by omega) hglt.out).mono ?_; rintro e w8 ⟨rfl, hq⟩; rw [E1.out, E2.out, E3.out] at hq; have H1 := Aside0.mk hq; rw [HOK.out]; clear hq hcz0)
        obtain ⟨A6, c6, vl6, vh6, hg6, hc6, hC6, hl6, hl7⟩ := H1.out.ex
        obtain ⟨Al, cl, rfl⟩ := Kd.R_slice hl6
        obtain ⟨Ah, ch, rfl⟩ := Kd.R_slice hl7
        have hcz1 := (blk_cell hg6 1).trans (show _ = some (Value.int .u8 s.f0) from rfl)
        have hcz2 := (blk_cell hg6 2).trans (show _ = some (Value.int .i64 s.f1) from rfl)
        have hcz3 := (blk_cell hg6 3).trans (show _ = some (Value.slice Al s.f2.length cl) from rfl)
        have hcz4 := (blk_cell hg6 4).trans (show _ = some (Value.slice Ah s.f3.length ch) from rfl)
        have HG6 := Aside0.mk hg6
        have HL6 := Aside0.mk hl6
        have HL7 := Aside0.mk hl7
        have HC6 := Aside0.mk (And.intro hc6 hC6)
        clear hg6 hc6 hC6 hl6 hl7
        have hlim : decide ((4194304 : Int) ≤ (out.length : Int)) = false := decide_eq_false (by omega)
        have hlim2 : decide (4194304 ≤ out.length) = false := decide_eq_false (by omega)
        -- the elder rows lie below this step's
        have HS1 := Aside0.mk (show Kd.S k43 39 w8 w.heap.size (fun k => True ∧ ¬ wr.heap.size ≤ k) u5 out from
          Kd.S_mono (Kd.S_step (w1 := w8) (Kd.S_types (Kd.S_bound HS.out) HG55.out (by decide)) (fun k hk _ => H1.out.but.blk k hk.1.2.2.1 hk.2)) (fun k hk => ⟨trivial, by have := hk.1.2.2.1; omega⟩))
        have hown := Aside0.mk (Kd.S_lt HS.out)
        have hneg := Aside0.mk (Kd.R_ne (Kd.S_R HS.out) HG55.out (by decide))
        obtain ⟨Ao, co, eo⟩ := Kd.R_slice (Kd.S_R HS.out)
        subst eo
        have HM := Aside0.mk (show k43.M w8 w.heap.size (fun k => wr.heap.size ≤ k) s [.int .u8 s.f0, .int .i64 s.f1, .slice Al s.f2.length cl, .slice Ah s.f3.length ch] from
          k43_mkM _ _ _ _ (Kd.R_lower (Kd.R_mono (Kd.R_bound HL6.out) (fun k hk => hk.2.1)) H1.out.base1) (Kd.R_lower (Kd.R_mono (Kd.R_bound HL7.out) (fun k hk => hk.2.1)) H1.out.base1))
        clear HS HG55
        go_quiet (fail)
        go_wp2_with ((with_reducible refine gate_builtin (b := .append) (xs := #[.tmp 53, .tmp 58]) rfl ?_); at_builtin; refine Kd.S_append k43 (w0 := w) w.heap.size rfl (.tmp 53) (.tmp 58) 22 39 (.agg #[(.int .u8 0), (.int .i64 0), (.slice none 0 0), (.slice none 0 0)]) 64 rfl Tryd.underlying22 info43 rfl (by decide) (by omega) _ out s [.int .u8 s.f0, .int .i64 s.f1, .slice Al s.f2.length cl, .slice Ah s.f3.length ch] (fun _ => True) (fun k => wr.heap.size ≤ k) rfl rfl ?aM ?aP ?aF ?aO ?aB ?aS ?aL ?_; (case aM => exact k43.M_move (fun _ _ => rfl) HM.out); (case aP => exact fun k hk => ⟨trivial, fun e => by have := hown.out k e.symm; omega⟩); (case aF => exact fun _ _ => trivial); (case aO => exact Kd.S_drewN HS1.out _); (case aB => exact pw_below_drewN H1.out.below _); (case aS => exact H1.out.below.size); (case aL => omega); intro v9 w9 ho hb hg1 hat; have HS9 := Aside0.mk ho; have HB9 := Aside0.mk hb; have HGR := Aside0.mk hg1; clear ho hb hg1 hat)
        go_roundg k
        case measure => omega
        case rel =>
          refine ⟨rest', out ++ [s], _, .int .u8 s.f0, .int .i64 s.f1, .slice Al s.f2.length cl, .slice Ah s.f3.length ch, rfl, by omega, by omega, by simp only [List.length_append, List.length_singleton]; omega, by omega, by omega, HP, ⟨⟨A6, c6, ?_, HC6.out.1, HC6.out.2⟩, HB9.out, HD.out.base⟩, HS9⟩
          exact blk_grown (blk_drewN HG6.out _) HGR.out hneg.out

def binary_Parse.f (_ : Nat) (l0 : List Int) : Option ((List (S43)) × Int × Int) := if l0.length ≤ 1048576 then some (Bparse l0) else none
theorem binary_Parse.mono : ∀ a0 k, LeO (binary_Parse.f k a0) (binary_Parse.f (k + 1) a0) := fun _ _ => LeO.refl _
theorem binary_Parse.calls (k : Nat) (A0 : Option Addr) (c0 : Nat) (l0 : List Int) (r1 : List (S43)) (r2 : Int) (r3 : Int) (w : World) (hr0 : Kd.C (Kd.int .u8) w A0 l0.length l0) (hc0 : l0.length ≤ c0) (h : binary_Parse.f k l0 = some (r1, r2, r3)) :
    Calls Tryd.prog 8 #[.slice A0 l0.length c0] w fun e w' => ∃ v0_ : Value, e = .returned (.tuple #[v0_, .int .i64 r2, .int .i64 r3]) ∧ Kd.S k43 39 w' w.heap.size (fun _ => True) v0_ r1 ∧ Below w.heap.size w w' := by
  unfold binary_Parse.f at h
  split at h
  · rename_i hs
    have e := Option.some.inj h
    have := parse_calls A0 c0 l0 w hr0 hc0 hs
    rw [e] at this
    exact this
  · cases h
end Go.Proofs.YtlimaebaagabaaaDoor.PB
