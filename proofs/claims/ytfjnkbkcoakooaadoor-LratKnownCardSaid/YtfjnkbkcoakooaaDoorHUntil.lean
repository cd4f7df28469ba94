import Derived.Test.YtfjnkbkcoakooaaDoorHNumb
section
namespace Go.Proofs.YtfjnkbkcoakooaaDoor.PB
open Go.RowKit Go.Proofs.YtfjnkbkcoakooaaDoorW.PrintWords Go.Proofs.YtfjnkbkcoakooaaDoorW.PrintLast Go.Proofs.YtfjnkbkcoakooaaDoorW.PrintMore
attribute [local go_sem] max2_int min2_int max_two min_two max_three min_three max_four min_four
set_option linter.unusedVariables false
set_option linter.unusedSimpArgs false
theorem nsz40 : (Tryd.prog.info? 40).map (·.size) = some 1 := by kernel_rfl
theorem nsz41 : (Tryd.prog.info? 41).map (·.size) = some 1 := by kernel_rfl
/-- Below block number B all is as it was, but block g. -/
structure But (B g : Nat) (w w' : World) : Prop where
  size : w.heap.size ≤ w'.heap.size
  blk : ∀ k, k < B → k ≠ g → w'.heap[k]? = w.heap[k]?
theorem But.same {B g : Nat} {w a b : World} (h : But B g w a) (k : SameBut g a b) : But B g w b := ⟨Nat.le_trans h.size (Nat.le_of_eq k.size.symm), fun i hi hne => (k.blk i hne).trans (h.blk i hi hne)⟩
theorem But.grown {B g : Nat} {w a b : World} (h : But B g w a) {row : Option Nat} (k : a.grownBy b row) (hB : B ≤ a.heap.size) (hr : ∀ i, row = some i → B ≤ i) : But B g w b :=
  ⟨Nat.le_trans h.size k.size, fun i hi hne => (k.block i (by omega) (fun e => by have := hr i e.symm; omega)).trans (h.blk i hi hne)⟩
theorem But.below {B g : Nat} {w a b : World} (h : But B g w a) (k : Below a.heap.size a b) (hB : B ≤ a.heap.size) : But B g w b := ⟨Nat.le_trans h.size k.size, fun i hi hne => (k.block i (by omega)).trans (h.blk i hi hne)⟩


/-- The reader at block g: what words are left; its step, whose rows were made from w1's end on. -/
structure RS (wb w1 : World) (g : Nat) (ws : List ByteArray) (s : S43) (w : World) : Prop where
  ex : ∃ A c vl vh, w.heap[g]? = some (.cells #[.slice A ws.length c, .int .u8 s.f0, .int .i64 s.f1, vl, vh] 79 (0, 0)) ∧ ws.length ≤ c ∧ Kd.C Kd.string wb A ws.length ws ∧
    Kd.R (Kd.int .i32) 44 w w1.heap.size (fun _ => True) vl s.f2 ∧ Kd.R (Kd.int .i64) 2 w w1.heap.size (fun _ => True) vh s.f3
  below : Below wb.heap.size wb w
  but : But w1.heap.size g w1 w
  base : wb.heap.size ≤ g
  base1 : wb.heap.size ≤ w1.heap.size
  lt : g < w1.heap.size
theorem RS.step {wb w1 : World} {g : Nat} {ws : List ByteArray} {s : S43} {w w' : World} (h : RS wb w1 g ws s w) (hb : Below w.heap.size w w') : RS wb w1 g ws s w' := by
  obtain ⟨A, c, vl, vh, hg, hc, hr, hl2, hl3⟩ := h.ex
  exact ⟨⟨A, c, vl, vh, blk_below hg hb, hc, hr, Kd.R_below hl2 hb, Kd.R_below hl3 hb⟩, below_step h.below hb, h.but.below hb h.but.size, h.base, h.base1, h.lt⟩

def addL (s : S43) (n : Int) : S43 := ⟨s.f0, s.f1, s.f2 ++ [wrap32 n], s.f3⟩
def addH (s : S43) (n : Int) : S43 := ⟨s.f0, s.f1, s.f2, s.f3 ++ [n]⟩
def inL (n : Int) : Bool := decide (-1048576 ≤ n) && decide (n ≤ 1048576)

set_option maxHeartbeats 1000000 in
set_option maxRecDepth 100000 in
theorem hint_calls (wb w1 : World) (g : Nat) (ws : List ByteArray) (s : S43) (w : World) (n : Int) (h : RS wb w1 g ws s w) (hl : s.f3.length ≤ 4398046511104) :
    Calls Tryd.prog 46 #[.pointer (some ⟨g, 0, none⟩), .int .i64 n] w fun e w' => e = .returned (.bool true) ∧ RS wb w1 g ws (addH s n) w' := by
  obtain ⟨A, c, vl, vh, hg, hc, hr, hl2, hl3⟩ := h.ex
  obtain ⟨Al, cl, rfl⟩ := Kd.R_slice hl2
  obtain ⟨Ah, ch, rfl⟩ := Kd.R_slice hl3
  have HG := Aside0.mk hg
  have HO := Aside0.mk hl3
  have HO2 := Aside0.mk hl2
  have HH := Aside0.mk h
  have hcz4 := (blk_cell hg 4).trans (show _ = some (Value.slice Ah s.f3.length ch) from rfl)
  have HB1 := Aside0.mk (show Below w1.heap.size w w from Below.refl _ _)
  clear hg hl2 hl3 h
  go_enter Tryd.func46, Tryd.ntmps46
  go_wp2_with (first | ((with_reducible refine gate_builtin (b := .append) (xs := #[.tmp 10, .tmp 12]) rfl ?_); at_builtin; refine Kd.R_append (Kd.int .i64) (w0 := w) w1.heap.size rfl (.tmp 10) (.tmp 12) 41 2 (.int .i64 0) 8 rfl Tryd.underlying41 info2 rfl (by decide) (by omega) _ s.f3 n [.int .i64 n] (fun _ => True) (fun _ => False) rfl rfl rfl (fun _ hk => hk.elim) (fun _ _ => trivial) HO.out HB1.out HH.out.but.size ?aL ?_; (case aL => omega); intro v1 w2 ho hb hg1 hat; obtain ⟨A1, c1, rfl⟩ := Kd.R_slice ho; have HG1 := Aside0.mk (blk_grown HG.out hg1 (Kd.R_ne HO.out HG.out (by decide))); have HO1 := Aside0.mk ho; have HGR := Aside0.mk hg1; clear ho hb hg1 hat) | ((with_reducible refine gate_store (t := 41) (p := 16) rfl ?_); refine store_one 41 16 (.tmp 13) rfl rfl rfl (.slice A1 (s.f3 ++ [n]).length c1) #[.slice A ws.length c, .int .u8 s.f0, .int .i64 s.f1, .slice Al s.f2.length cl, .slice A1 (s.f3 ++ [n]).length c1] rfl (by first | rfl | (simp; rfl)) HG1.out rfl nsz41 (show 4 + 1 ≤ 5 by omega) rfl rfl ?_; intro w8 hw8 hsb; have HX := Aside0.mk hw8; have HS := Aside0.mk hsb; clear hw8 hsb))
  go_ret
  refine ⟨rfl, ⟨A, c, _, _, HX.out, hc, hr, ?_, HS.out.Rt HO1.out HG1.out (by decide)⟩, ?_, ?_, HH.out.base, HH.out.base1, HH.out.lt⟩
  · refine HS.out.Rt ?_ HG1.out (by decide)
    exact Kd.R_mono (Kd.R_grown (Kd.R_bound HO2.out) HGR.out (fun k hk he => by
      obtain ⟨_, _, _, q, hq, cells, hcs⟩ := hk
      obtain ⟨cells', hcs'⟩ := Kd.R_typed HO.out k he.symm
      rw [hcs] at hcs'
      injection hcs' with hcs'
      injection hcs' with _ hcs'
      subst hcs'
      revert hq
      decide)) (fun _ hk => hk.1)
  · exact HS.out.below (HH.out.below.grown HGR.out HH.out.below.size (fun k hk => Nat.le_trans HH.out.base1 (own_base (Kd.own_of_R HO.out) k hk))) HH.out.base
  · exact (HH.out.but.grown HGR.out HH.out.but.size (fun k hk => own_base (Kd.own_of_R HO.out) k hk)).same HS.out

set_option maxHeartbeats 1000000 in
set_option maxRecDepth 100000 in
theorem lit_calls (wb w1 : World) (g : Nat) (ws : List ByteArray) (s : S43) (w : World) (n : Int) (h : RS wb w1 g ws s w) (hl : s.f2.length ≤ 4398046511104) :
    Calls Tryd.prog 45 #[.pointer (some ⟨g, 0, none⟩), .int .i64 n] w fun e w' => e = .returned (.bool (inL n)) ∧ RS wb w1 g ws (addL s n) w' := by
  obtain ⟨A, c, vl, vh, hg, hc, hr, hl2, hl3⟩ := h.ex
  obtain ⟨Al, cl, rfl⟩ := Kd.R_slice hl2
  obtain ⟨Ah, ch, rfl⟩ := Kd.R_slice hl3
  have HG := Aside0.mk hg
  have HO := Aside0.mk hl2
  have HO3 := Aside0.mk hl3
  have HH := Aside0.mk h
  have hcz3 := (blk_cell hg 3).trans (show _ = some (Value.slice Al s.f2.length cl) from rfl)
  have HB1 := Aside0.mk (show Below w1.heap.size w w from Below.refl _ _)
  clear hg hl2 hl3 h
  have fin : ∀ (w8 w2 : World) (A1 : Option Addr) (c1 : Nat), Aside0 (w2.heap[g]? = some (.cells #[.slice A ws.length c, .int .u8 s.f0, .int .i64 s.f1, .slice Al s.f2.length cl, .slice Ah s.f3.length ch] 79 (0, 0))) → Aside0 (w.grownBy w2 (Value.slice Al s.f2.length cl).ownBlock) → Aside0 (Kd.R (Kd.int .i32) 44 w2 w1.heap.size (fun _ => True) (.slice A1 (s.f2 ++ [wrap32 n]).length c1) (s.f2 ++ [wrap32 n])) →
      Aside0 (w8.heap[g]? = some (.cells #[.slice A ws.length c, .int .u8 s.f0, .int .i64 s.f1, .slice A1 (s.f2 ++ [wrap32 n]).length c1, .slice Ah s.f3.length ch] 79 (0, 0))) → Aside0 (SameBut g w2 w8) → RS wb w1 g ws (addL s n) w8 := by
    intro w8 w2 A1 c1 HG1 HGR HO1 HX HS
    refine ⟨⟨A, c, _, _, HX.out, hc, hr, HS.out.Rt HO1.out HG1.out (by decide), ?_⟩, ?_, ?_, HH.out.base, HH.out.base1, HH.out.lt⟩
    · refine HS.out.Rt ?_ HG1.out (by decide)
      exact Kd.R_mono (Kd.R_grown (Kd.R_bound HO3.out) HGR.out (fun k hk he => by
        obtain ⟨_, _, _, q, hq, cells, hcs⟩ := hk
        obtain ⟨cells', hcs'⟩ := Kd.R_typed HO.out k he.symm
        rw [hcs] at hcs'
        injection hcs' with hcs'
        injection hcs' with _ hcs'
        subst hcs'
        revert hq
        decide)) (fun _ hk => hk.1)
    · exact HS.out.below (HH.out.below.grown HGR.out HH.out.below.size (fun k hk => Nat.le_trans HH.out.base1 (own_base (Kd.own_of_R HO.out) k hk))) HH.out.base
    · exact (HH.out.but.grown HGR.out HH.out.but.size (fun k hk => own_base (Kd.own_of_R HO.out) k hk)).same HS.out
  have FIN := Aside0.mk fin
  clear fin
  go_enter Tryd.func45, Tryd.ntmps45
  by_cases h0 : -1048576 ≤ n
  · have h0' : decide (-1048576 ≤ n) = true := decide_eq_true h0
    have hin := Aside0.mk (show inL n = decide (n ≤ 1048576) by unfold inL; rw [h0']; rfl)
    go_wp2_with (first | ((with_reducible refine gate_builtin (b := .append) (xs := #[.tmp 10, .tmp 13]) rfl ?_); at_builtin; refine Kd.R_append (Kd.int .i32) (w0 := w) w1.heap.size rfl (.tmp 10) (.tmp 13) 40 44 (.int .i32 0) 4 rfl Tryd.underlying40 info44 rfl (by decide) (by omega) _ s.f2 (wrap32 n) [.int .i32 (wrap32 n)] (fun _ => True) (fun _ => False) rfl rfl rfl (fun _ hk => hk.elim) (fun _ _ => trivial) HO.out HB1.out HH.out.but.size ?aL ?_; (case aL => omega); intro v1 w2 ho hb hg1 hat; obtain ⟨A1, c1, rfl⟩ := Kd.R_slice ho; have HG1 := Aside0.mk (blk_grown HG.out hg1 (Kd.R_ne HO.out HG.out (by decide))); have HO1 := Aside0.mk ho; have HGR := Aside0.mk hg1; clear ho hb hg1 hat) | ((with_reducible refine gate_store (t := 40) (p := 17) rfl ?_); refine store_one 40 17 (.tmp 14) rfl rfl rfl (.slice A1 (s.f2 ++ [wrap32 n]).length c1) #[.slice A ws.length c, .int .u8 s.f0, .int .i64 s.f1, .slice A1 (s.f2 ++ [wrap32 n]).length c1, .slice Ah s.f3.length ch] rfl (by first | rfl | (simp; rfl)) HG1.out rfl nsz40 (show 3 + 1 ≤ 5 by omega) rfl rfl ?_; intro w8 hw8 hsb; have HX := Aside0.mk hw8; have HS := Aside0.mk hsb; clear hw8 hsb))
    go_ret
    exact ⟨by rw [hin.out]; rfl, FIN.out _ _ _ _ HG1 HGR HO1 HX HS⟩
  · have h0' : decide (-1048576 ≤ n) = false := decide_eq_false h0
    have hin := Aside0.mk (show inL n = false by unfold inL; rw [h0']; rfl)
    go_wp2_with (first | ((with_reducible refine gate_builtin (b := .append) (xs := #[.tmp 10, .tmp 13]) rfl ?_); at_builtin; refine Kd.R_append (Kd.int .i32) (w0 := w) w1.heap.size rfl (.tmp 10) (.tmp 13) 40 44 (.int .i32 0) 4 rfl Tryd.underlying40 info44 rfl (by decide) (by omega) _ s.f2 (wrap32 n) [.int .i32 (wrap32 n)] (fun _ => True) (fun _ => False) rfl rfl rfl (fun _ hk => hk.elim) (fun _ _ => trivial) HO.out HB1.out HH.out.but.size ?aL ?_; (case aL => omega); intro v1 w2 ho hb hg1 hat; obtain ⟨A1, c1, rfl⟩ := Kd.R_slice ho; have HG1 := Aside0.mk (blk_grown HG.out hg1 (Kd.R_ne HO.out HG.out (by decide))); have HO1 := Aside0.mk ho; have HGR := Aside0.mk hg1; clear ho hb hg1 hat) | ((with_reducible refine gate_store (t := 40) (p := 17) rfl ?_); refine store_one 40 17 (.tmp 14) rfl rfl rfl (.slice A1 (s.f2 ++ [wrap32 n]).length c1) #[.slice A ws.length c, .int .u8 s.f0, .int .i64 s.f1, .slice A1 (s.f2 ++ [wrap32 n]).length c1, .slice Ah s.f3.length ch] rfl (by first | rfl | (simp; rfl)) HG1.out rfl nsz40 (show 3 + 1 ≤ 5 by omega) rfl rfl ?_; intro w8 hw8 hsb; have HX := Aside0.mk hw8; have HS := Aside0.mk hsb; clear hw8 hsb))
    go_ret
    exact ⟨by rw [hin.out]; rfl, FIN.out _ _ _ _ HG1 HGR HO1 HX HS⟩
end Go.Proofs.YtfjnkbkcoakooaaDoor.PB
end

section
namespace Go.Proofs.YtfjnkbkcoakooaaDoor.PB
open Go.RowKit Go.Proofs.YtfjnkbkcoakooaaDoorW.PrintWords Go.Proofs.YtfjnkbkcoakooaaDoorW.PrintLast Go.Proofs.YtfjnkbkcoakooaaDoorW.PrintMore
attribute [local go_sem] max2_int min2_int max_two min_two max_three min_three max_four min_four
set_option linter.unusedVariables false
set_option linter.unusedSimpArgs false
theorem nsz45 : (Tryd.prog.info? 45).map (·.size) = some 1 := by kernel_rfl
/-- Numbers up to a 0: literals; hints. -/
def LutakeL (all : List ByteArray) : List ByteArray → S43 → Bool × List ByteArray × S43
  | [], st => (false, all, st)
  | x :: r, st => if (Lnumber x).2 = false then (false, all, st) else if (Lnumber x).1 = 0 then (true, r, st) else if inL (Lnumber x).1 = true then LutakeL all r (addL st (Lnumber x).1) else (false, all, addL st (Lnumber x).1)
def LutakeH (all : List ByteArray) : List ByteArray → S43 → Bool × List ByteArray × S43
  | [], st => (false, all, st)
  | x :: r, st => if (Lnumber x).2 = false then (false, all, st) else if (Lnumber x).1 = 0 then (true, r, st) else LutakeH all r (addH st (Lnumber x).1)
theorem drop_str (ws : List ByteArray) (x : Int) (h0 : 0 ≤ x) (h : x < ws.length) : ws.drop x.toNat = rdOf ByteArray.empty ws x :: ws.drop (x + 1).toNat := by
  obtain ⟨i, rfl⟩ := Int.eq_ofNat_of_zero_le h0
  have hi : i < ws.length := by omega
  have e : ((i : Int) + 1).toNat = i + 1 := by omega
  rw [e, Int.toNat_natCast, List.drop_eq_getElem_cons hi]
  simp [rdOf, List.getElem?_eq_getElem hi]
theorem mem_str (ws : List ByteArray) (x : Int) (h0 : 0 ≤ x) (h : x < ws.length) : rdOf ByteArray.empty ws x ∈ ws := by
  have e := drop_str ws x h0 h
  have : rdOf ByteArray.empty ws x ∈ ws.drop x.toNat := by rw [e]; exact List.mem_cons_self
  exact List.mem_of_mem_drop this
theorem RS.cut {A0 : Option Addr} {n0 c0 : Nat} {wb w1 : World} {g : Nat} {ws ws' : List ByteArray} {s : S43} {w w' : World} {A : Option Addr} {c : Nat} {vl vh : Value} (h : RS wb w1 g ws s w) (hs : SameBut g w w') (hg : w'.heap[g]? = some (.cells #[.slice A ws'.length c, .int .u8 s.f0, .int .i64 s.f1, vl, vh] 79 (0, 0))) (hc : ws'.length ≤ c) (hr : Kd.C Kd.string wb A ws'.length ws')
    (hv : w.heap[g]? = some (.cells #[.slice A0 n0 c0, .int .u8 s.f0, .int .i64 s.f1, vl, vh] 79 (0, 0))) : RS wb w1 g ws' s w' := by
  obtain ⟨A', c', vl', vh', hg', _, _, hl2, hl3⟩ := h.ex
  rw [hv] at hg'
  injection hg' with hg'
  injection hg' with hg' _ _
  injection hg' with hg'
  injection hg' with _ hg'
  injection hg' with _ hg'
  injection hg' with _ hg'
  injection hg' with e1 hg'
  injection hg' with e2 _
  subst e1; subst e2
  exact ⟨⟨A, c, vl, vh, hg, hc, hr, hs.Rt hl2 hv (by decide), hs.Rt hl3 hv (by decide)⟩, hs.below h.below h.base, h.but.same hs, h.base, h.base1, h.lt⟩

set_option maxHeartbeats 2000000 in
set_option maxRecDepth 100000 in
theorem untilH_calls (wb w1 : World) (g : Nat) (ws : List ByteArray) (s : S43) (w : World) (h : RS wb w1 g ws s w) (hl : s.f3.length + ws.length ≤ 4398046511104) (hw : ∀ x ∈ ws, x.size ≤ 1000000) (hlt : LT wb.heap.size wb) :
    Calls Tryd.prog 47 #[.pointer (some ⟨g, 0, none⟩), .func (.func 46) #[.pointer (some ⟨g, 0, none⟩)] #[]] w fun e w' => e = .returned (.bool (LutakeH ws ws s).1) ∧ RS wb w1 g (LutakeH ws ws s).2.1 (LutakeH ws ws s).2.2 w' := by
  obtain ⟨A, c, vl, vh, hg, hc, hr, hl2, hl3⟩ := h.ex
  have hcz0 := (blk_cell hg 0).trans (show _ = some (Value.slice A ws.length c) from rfl)
  have HH := Aside0.mk h
  have HC := Aside0.mk hc
  have HR := Aside0.mk hr
  have HW := Aside0.mk hw
  have HLT := Aside0.mk hlt
  have hmx : ws.length ≤ 9223372036854775807 := by omega
  obtain ⟨i9, hi9, hz9⟩ := Option.map_eq_some_iff.1 info9
  have hsz9 : i9.size = 1 := by simp only [Prod.mk.injEq] at hz9; exact hz9.2.1
  have HI := Aside0.mk hi9
  have HSZ := Aside0.mk hsz9
  clear h hg hc hr hl2 hl3 hw hlt hi9 hz9 hsz9
  go_enter Tryd.func47, Tryd.ntmps47
  go_wp2
  go_loopg [14] ws.length (fun j v14 wr => ∃ (x : Int) (s' : S43), v14 = .int .i64 x ∧ 0 ≤ x ∧ x + j = ws.length ∧ Aside0 (LutakeH ws (ws.drop x.toNat) s' = LutakeH ws ws s) ∧ Aside0 (s'.f3.length ≤ s.f3.length + x.toNat) ∧ Aside0 (RS wb w1 g ws s' wr))
  case atStart => exact ⟨0, s, rfl, by omega, by omega, ⟨by simp⟩, ⟨by omega⟩, HH⟩
  case round =>
    clear hcz0 HH
    obtain ⟨x, s', rfl, hx0, hxj, HQ, HL, HH⟩ := hrel
    by_cases hlt : x < (ws.length : Int)
    · obtain ⟨ad, e1, hx1⟩ := Kd.at_string HR.out x hx0 hlt
      cases e1
      replace hx1 := (HH.out.below.cell (World.block_lt_of_cell? wb _ hx1)).trans hx1
      have hdr := Aside0.mk (drop_str ws x hx0 hlt)
      have hmem := Aside0.mk (HW.out _ (mem_str ws x hx0 hlt))
      obtain ⟨y, hy⟩ : ∃ y, y = rdOf ByteArray.empty ws x := ⟨_, rfl⟩
      rw [← hy] at hx1 hdr hmem
      clear hy
      obtain ⟨n, b, hnb⟩ : ∃ n b, Lnumber y = (n, b) := ⟨_, _, rfl⟩
      have HNB := Aside0.mk hnb
      have HBW := Aside0.mk HH.out.below.size
      clear hnb
      cases b with
      | false =>
        have hq := Aside0.mk (show LutakeH ws ws s = (false, ws, s') by rw [← HQ.out, hdr.out, LutakeH, if_pos (by rw [HNB.out])])
        go_wp2_with (go_at_call 44; refine (number_calls wb.heap.size y _ hmem.out (HLT.out.on HH.out.below) HBW.out).mono ?_; rw [HNB.out]; rintro e w2 ⟨rfl, hb⟩; have H2 := Aside0.mk (HH.out.step hb); clear hb)
        go_ret
        exact ⟨by rw [hq.out]; rfl, by rw [hq.out]; exact H2.out⟩
      | true =>
        by_cases hn : n = 0
        · subst hn
          have hq := Aside0.mk (show LutakeH ws ws s = (true, ws.drop (x + 1).toNat, s') by rw [← HQ.out, hdr.out, LutakeH, if_neg (by rw [HNB.out]; simp), if_pos (by rw [HNB.out])])
          have hw1 : wrap64 (x + 1) = x + 1 := by unfold wrap64; omega
          go_upto_region 8 with (go_at_call 44; refine (number_calls wb.heap.size y _ hmem.out (HLT.out.on HH.out.below) HBW.out).mono ?_; rw [HNB.out]; rintro e w2 ⟨rfl, hb⟩; have H2 := Aside0.mk (HH.out.step hb); clear hb)
          obtain ⟨A3, c3, vl3, vh3, hg3, hc3, hr3, hl23, hl33⟩ := H2.out.ex
          have hcz0 := (blk_cell hg3 0).trans (show _ = some (Value.slice A3 ws.length c3) from rfl)
          have HG := Aside0.mk hg3
          have HC1 := Aside0.mk (Kd.C_drop (m := (x + 1).toNat) hr3 (by omega) hc3)
          have hcut0 := cut_from (P := Tryd.prog) 45 9 .i64 Tryd.underlying45 HI.out 1 HSZ.out A3 ws.length c3 (x + 1) (by omega) (by omega)
          have hdl : ws.length - (x + 1).toNat = (ws.drop (x + 1).toNat).length := by rw [List.length_drop]
          rw [hdl] at hcut0
          have hle1 := Aside0.mk (show (ws.drop (x + 1).toNat).length ≤ c3 - (x + 1).toNat by rw [List.length_drop]; omega)
          have hsz1 : Kd.string.sz = 1 := rfl
          rw [hsz1] at HC1
          obtain ⟨A1, hA1⟩ : ∃ A1, A1 = (if c3 = (x + 1).toNat then A3 else A3.map (·.add ((x + 1).toNat * 1))) := ⟨_, rfl⟩
          rw [← hA1] at hcut0 HC1
          obtain ⟨c1, hc1⟩ : ∃ c1, c1 = c3 - (x + 1).toNat := ⟨_, rfl⟩
          rw [← hc1] at hcut0 hle1
          obtain ⟨r1, hr1⟩ : ∃ r1, r1 = ws.drop (x + 1).toNat := ⟨_, rfl⟩
          rw [← hr1] at hcut0 hle1 HC1 hq
          clear hg3 hc3 hr3 hl23 hl33 hdl hsz1 hA1 hc1 hr1 hx1
          go_wp2_with ((with_reducible refine gate_store (t := 45) (p := 39) rfl ?_); refine store_one 45 39 (.tmp 37) rfl rfl rfl (.slice A1 r1.length c1) #[.slice A1 r1.length c1, .int .u8 s'.f0, .int .i64 s'.f1, vl3, vh3] rfl rfl HG.out rfl nsz45 (show 0 + 1 ≤ 5 by omega) rfl rfl ?_; intro w8 hw8 hsb; have HX := Aside0.mk hw8; have HS := Aside0.mk hsb; clear hw8 hsb hcz0)
          go_ret
          exact ⟨by rw [hq.out]; rfl, by rw [hq.out]; exact H2.out.cut HS.out HX.out hle1.out HC1.out HG.out⟩
        · have hn0 : (n == 0) = false := beq_eq_false_iff_ne.mpr hn
          have hq := Aside0.mk (show LutakeH ws (ws.drop (x + 1).toNat) (addH s' n) = LutakeH ws ws s by rw [← HQ.out, hdr.out, LutakeH, if_neg (by rw [HNB.out]; simp), HNB.out, if_neg hn])
          clear hn
          go_wp2_with (first | (go_at_call 44; refine (number_calls wb.heap.size y _ hmem.out (HLT.out.on HH.out.below) HBW.out).mono ?_; rw [HNB.out]; rintro e w2 ⟨rfl, hb⟩; have H2 := Aside0.mk (HH.out.step hb); clear hb) | (go_at_call 46; refine (hint_calls wb w1 g ws s' _ n H2.out (by have := HL.out; omega)).mono ?_; rintro e w3 ⟨rfl, h3⟩; have H3 := Aside0.mk h3; clear h3))
          have hw1 : wrap64 (x + 1) = x + 1 := by unfold wrap64; omega
          go_roundg (gk - 1)
          case measure => omega
          case rel => exact ⟨x + 1, addH s' n, by first | rfl | rw [hw1], by omega, by omega, hq, ⟨by have := HL.out; show (s'.f3 ++ [n]).length ≤ _; rw [List.length_append]; simp only [List.length_cons, List.length_nil]; omega⟩, H3⟩
    · have hq := Aside0.mk (show LutakeH ws ws s = (false, ws, s') by
        rw [← HQ.out, List.drop_of_length_le (by omega), LutakeH])
      go_wp2
      go_ret
      exact ⟨by rw [hq.out]; rfl, by rw [hq.out]; exact HH.out⟩

set_option maxHeartbeats 2000000 in
set_option maxRecDepth 100000 in
theorem untilL_calls (wb w1 : World) (g : Nat) (ws : List ByteArray) (s : S43) (w : World) (h : RS wb w1 g ws s w) (hl : s.f2.length + ws.length ≤ 4398046511104) (hw : ∀ x ∈ ws, x.size ≤ 1000000) (hlt : LT wb.heap.size wb) :
    Calls Tryd.prog 47 #[.pointer (some ⟨g, 0, none⟩), .func (.func 45) #[.pointer (some ⟨g, 0, none⟩)] #[]] w fun e w' => e = .returned (.bool (LutakeL ws ws s).1) ∧ RS wb w1 g (LutakeL ws ws s).2.1 (LutakeL ws ws s).2.2 w' := by
  obtain ⟨A, c, vl, vh, hg, hc, hr, hl2, hl3⟩ := h.ex
  have hcz0 := (blk_cell hg 0).trans (show _ = some (Value.slice A ws.length c) from rfl)
  have HH := Aside0.mk h
  have HC := Aside0.mk hc
  have HR := Aside0.mk hr
  have HW := Aside0.mk hw
  have HLT := Aside0.mk hlt
  have hmx : ws.length ≤ 9223372036854775807 := by omega
  obtain ⟨i9, hi9, hz9⟩ := Option.map_eq_some_iff.1 info9
  have hsz9 : i9.size = 1 := by simp only [Prod.mk.injEq] at hz9; exact hz9.2.1
  have HI := Aside0.mk hi9
  have HSZ := Aside0.mk hsz9
  clear h hg hc hr hl2 hl3 hw hlt hi9 hz9 hsz9
  go_enter Tryd.func47, Tryd.ntmps47
  go_wp2
  go_loopg [14] ws.length (fun j v14 wr => ∃ (x : Int) (s' : S43), v14 = .int .i64 x ∧ 0 ≤ x ∧ x + j = ws.length ∧ Aside0 (LutakeL ws (ws.drop x.toNat) s' = LutakeL ws ws s) ∧ Aside0 (s'.f2.length ≤ s.f2.length + x.toNat) ∧ Aside0 (RS wb w1 g ws s' wr))
  case atStart => exact ⟨0, s, rfl, by omega, by omega, ⟨by simp⟩, ⟨by omega⟩, HH⟩
  case round =>
    clear hcz0 HH
    obtain ⟨x, s', rfl, hx0, hxj, HQ, HL, HH⟩ := hrel
    by_cases hlt : x < (ws.length : Int)
    · obtain ⟨ad, e1, hx1⟩ := Kd.at_string HR.out x hx0 hlt
      cases e1
      replace hx1 := (HH.out.below.cell (World.block_lt_of_cell? wb _ hx1)).trans hx1
      have hdr := Aside0.mk (drop_str ws x hx0 hlt)
      have hmem := Aside0.mk (HW.out _ (mem_str ws x hx0 hlt))
      obtain ⟨y, hy⟩ : ∃ y, y = rdOf ByteArray.empty ws x := ⟨_, rfl⟩
      rw [← hy] at hx1 hdr hmem
      clear hy
      obtain ⟨n, b, hnb⟩ : ∃ n b, Lnumber y = (n, b) := ⟨_, _, rfl⟩
      have HNB := Aside0.mk hnb
      have HBW := Aside0.mk HH.out.below.size
      clear hnb
      cases b with
      | false =>
        have hq := Aside0.mk (show LutakeL ws ws s = (false, ws, s') by rw [← HQ.out, hdr.out, LutakeL, if_pos (by rw [HNB.out])])
        go_wp2_with (go_at_call 44; refine (number_calls wb.heap.size y _ hmem.out (HLT.out.on HH.out.below) HBW.out).mono ?_; rw [HNB.out]; rintro e w2 ⟨rfl, hb⟩; have H2 := Aside0.mk (HH.out.step hb); clear hb)
        go_ret
        exact ⟨by rw [hq.out]; rfl, by rw [hq.out]; exact H2.out⟩
      | true =>
        by_cases hn : n = 0
        · subst hn
          have hq := Aside0.mk (show LutakeL ws ws s = (true, ws.drop (x + 1).toNat, s') by rw [← HQ.out, hdr.out, LutakeL, if_neg (by rw [HNB.out]; simp), if_pos (by rw [HNB.out])])
          have hw1 : wrap64 (x + 1) = x + 1 := by unfold wrap64; omega
          go_upto_region 8 with (go_at_call 44; refine (number_calls wb.heap.size y _ hmem.out (HLT.out.on HH.out.below) HBW.out).mono ?_; rw [HNB.out]; rintro e w2 ⟨rfl, hb⟩; have H2 := Aside0.mk (HH.out.step hb); clear hb)
          obtain ⟨A3, c3, vl3, vh3, hg3, hc3, hr3, hl23, hl33⟩ := H2.out.ex
          have hcz0 := (blk_cell hg3 0).trans (show _ = some (Value.slice A3 ws.length c3) from rfl)
          have HG := Aside0.mk hg3
          have HC1 := Aside0.mk (Kd.C_drop (m := (x + 1).toNat) hr3 (by omega) hc3)
          have hcut0 := cut_from (P := Tryd.prog) 45 9 .i64 Tryd.underlying45 HI.out 1 HSZ.out A3 ws.length c3 (x + 1) (by omega) (by omega)
          have hdl : ws.length - (x + 1).toNat = (ws.drop (x + 1).toNat).length := by rw [List.length_drop]
          rw [hdl] at hcut0
          have hle1 := Aside0.mk (show (ws.drop (x + 1).toNat).length ≤ c3 - (x + 1).toNat by rw [List.length_drop]; omega)
          have hsz1 : Kd.string.sz = 1 := rfl
          rw [hsz1] at HC1
          obtain ⟨A1, hA1⟩ : ∃ A1, A1 = (if c3 = (x + 1).toNat then A3 else A3.map (·.add ((x + 1).toNat * 1))) := ⟨_, rfl⟩
          rw [← hA1] at hcut0 HC1
          obtain ⟨c1, hc1⟩ : ∃ c1, c1 = c3 - (x + 1).toNat := ⟨_, rfl⟩
          rw [← hc1] at hcut0 hle1
          obtain ⟨r1, hr1⟩ : ∃ r1, r1 = ws.drop (x + 1).toNat := ⟨_, rfl⟩
          rw [← hr1] at hcut0 hle1 HC1 hq
          clear hg3 hc3 hr3 hl23 hl33 hdl hsz1 hA1 hc1 hr1 hx1
          go_wp2_with ((with_reducible refine gate_store (t := 45) (p := 39) rfl ?_); refine store_one 45 39 (.tmp 37) rfl rfl rfl (.slice A1 r1.length c1) #[.slice A1 r1.length c1, .int .u8 s'.f0, .int .i64 s'.f1, vl3, vh3] rfl rfl HG.out rfl nsz45 (show 0 + 1 ≤ 5 by omega) rfl rfl ?_; intro w8 hw8 hsb; have HX := Aside0.mk hw8; have HS := Aside0.mk hsb; clear hw8 hsb hcz0)
          go_ret
          exact ⟨by rw [hq.out]; rfl, by rw [hq.out]; exact H2.out.cut HS.out HX.out hle1.out HC1.out HG.out⟩
        · have hn0 : (n == 0) = false := beq_eq_false_iff_ne.mpr hn
          cases hin : inL n with
          | true =>
            have hq := Aside0.mk (show LutakeL ws (ws.drop (x + 1).toNat) (addL s' n) = LutakeL ws ws s by rw [← HQ.out, hdr.out, LutakeL, if_neg (by rw [HNB.out]; simp), HNB.out, if_neg hn, if_pos hin])
            have HIN := Aside0.mk hin
            clear hn hin
            go_wp2_with (first | (go_at_call 44; refine (number_calls wb.heap.size y _ hmem.out (HLT.out.on HH.out.below) HBW.out).mono ?_; rw [HNB.out]; rintro e w2 ⟨rfl, hb⟩; have H2 := Aside0.mk (HH.out.step hb); clear hb) | (go_at_call 45; refine (lit_calls wb w1 g ws s' _ n H2.out (by have := HL.out; omega)).mono ?_; rw [HIN.out]; rintro e w3 ⟨rfl, h3⟩; have H3 := Aside0.mk h3; clear h3))
            have hw1 : wrap64 (x + 1) = x + 1 := by unfold wrap64; omega
            go_roundg (gk - 1)
            case measure => omega
            case rel => exact ⟨x + 1, addL s' n, by first | rfl | rw [hw1], by omega, by omega, hq, ⟨by have := HL.out; show (s'.f2 ++ [wrap32 n]).length ≤ _; rw [List.length_append]; simp only [List.length_cons, List.length_nil]; omega⟩, H3⟩
          | false =>
            have hq := Aside0.mk (show LutakeL ws ws s = (false, ws, addL s' n) by rw [← HQ.out, hdr.out, LutakeL, if_neg (by rw [HNB.out]; simp), HNB.out, if_neg hn, if_neg (by rw [hin]; decide)])
            have HIN := Aside0.mk hin
            clear hn hin
            go_wp2_with (first | (go_at_call 44; refine (number_calls wb.heap.size y _ hmem.out (HLT.out.on HH.out.below) HBW.out).mono ?_; rw [HNB.out]; rintro e w2 ⟨rfl, hb⟩; have H2 := Aside0.mk (HH.out.step hb); clear hb) | (go_at_call 45; refine (lit_calls wb w1 g ws s' _ n H2.out (by have := HL.out; omega)).mono ?_; rw [HIN.out]; rintro e w3 ⟨rfl, h3⟩; have H3 := Aside0.mk h3; clear h3))
            go_ret
            exact ⟨by rw [hq.out]; rfl, by rw [hq.out]; exact H3.out⟩
    · have hq := Aside0.mk (show LutakeL ws ws s = (false, ws, s') by
        rw [← HQ.out, List.drop_of_length_le (by omega), LutakeL])
      go_wp2
      go_ret
      exact ⟨by rw [hq.out]; rfl, by rw [hq.out]; exact HH.out⟩
end Go.Proofs.YtfjnkbkcoakooaaDoor.PB
end
