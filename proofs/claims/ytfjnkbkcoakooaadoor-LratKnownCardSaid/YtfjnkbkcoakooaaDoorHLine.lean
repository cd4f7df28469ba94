import Derived.Test.YtfjnkbkcoakooaaDoorHUntil
import Derived.RegionTactic
import Derived.BigRegion
namespace Go.Proofs.YtfjnkbkcoakooaaDoor.PB
open Go.RowKit Go.Proofs.YtfjnkbkcoakooaaDoorW.PrintWords Go.Proofs.YtfjnkbkcoakooaaDoorW.PrintLast Go.Proofs.YtfjnkbkcoakooaaDoorW.PrintMore
attribute [local go_sem] max2_int min2_int max_two min_two max_three min_three max_four min_four
set_option linter.unusedVariables false
set_option linter.unusedSimpArgs false
theorem nsz43 : (Tryd.prog.info? 43).map (·.size) = some 4 := by kernel_rfl
theorem nsz5 : (Tryd.prog.info? 5).map (·.size) = some 1 := by kernel_rfl
section
variable {P : Program} {ops : Array Oper} {rest : List Oper} {o : Oper} {a : Act} {Q : Exit → Act → World → Prop}
theorem slice_event {W : World} (hgd : o.guard = none) {N : Tmp} (_hd : o.dst = some N) {cs : Array Value} {t : TypeId} {n : Nat}
    (hrun : (execOp a.eval o).run P W = .ok (.value (.slice (some ⟨W.heap.size, 0, none⟩) n n)) (W.alloc (.cells cs t (0, 0))))
    (h : ∀ g, g = W.heap.size → ∀ w1, w1.heap[g]? = some (.cells cs t (0, 0)) → Below W.heap.size W w1 → wpList P ops Q rest (a.put o.dst (.slice (some ⟨g, 0, none⟩) n n)) w1) : wpList P ops Q (o :: rest) a W :=
  Kd.event_run hgd hrun (h _ rfl _ (blk_new W _) (below_alloc (Below.refl _ _) _))
end
def Lwordsof (s : ByteArray) : List ByteArray := Lib.splitB ⟨#[32]⟩ 0 (Lib.countB s ⟨#[32]⟩) s
theorem Lwordsof_length (s : ByteArray) : (Lwordsof s).length = Lib.countB s ⟨#[32]⟩ + 1 := Lib.splitB_all ⟨#[32]⟩ (by decide) 0 _ s rfl
theorem Addr_add0 (a : Addr) : a.add (0 : Int).toNat = a := by
  cases a
  rfl
theorem words_C (w : World) (ws : List ByteArray) (hn : ws.length ≤ 9223372036854775807) : Kd.C Kd.string (w.alloc (.cells (ws.map Value.string).toArray 9)) (some ⟨w.heap.size, 0, none⟩) ws.length ws := by
  refine Kd.C_of_reads (d := ByteArray.empty) (h1 := fun _ => rfl) ⟨rfl, hn, fun hp => ⟨_, rfl, fun j hj => ?_⟩⟩
  have hb := blk_cell (blk_new w (.cells (ws.map Value.string).toArray 9 (0, 0))) j
  have ha : (⟨w.heap.size, 0, none⟩ : Addr).add j = ⟨w.heap.size, j, none⟩ := by simp [Addr.add]; omega
  rw [ha, hb]
  simp [List.getElem?_eq_getElem hj, List.getD_eq_getElem?_getD]
theorem splitB_small (sep : ByteArray) : ∀ (k : Nat) (s x : ByteArray), x ∈ Lib.splitB sep 0 k s → x.size ≤ s.size := by
  intro k
  induction k with
  | zero => intro s x hx; rw [Lib.splitB_zero, List.mem_singleton] at hx; rw [hx]; exact Nat.le_refl _
  | succ k ih =>
    intro s x hx
    unfold Lib.splitB at hx
    split at hx
    · rw [List.mem_singleton] at hx; rw [hx]; exact Nat.le_refl _
    · rcases List.mem_cons.1 hx with rfl | hx
      · rw [ByteArray.size_extract]; omega
      · have := ih _ _ hx
        rw [ByteArray.size_extract] at this
        omega
theorem Lwordsof_small (s : ByteArray) (hs : s.size ≤ 400000) : (Lwordsof s).length ≤ 400001 ∧ ∀ x ∈ Lwordsof s, x.size ≤ 1000000 := by
  have h1 := Lib.countB_le ⟨#[32]⟩ (by decide) s.size s (Nat.le_refl _)
  refine ⟨by rw [Lwordsof_length]; omega, fun x hx => ?_⟩
  have := splitB_small _ _ _ _ hx
  omega
theorem split_calls (s : ByteArray) (w : World) (hs : s.size ≤ 400000) (hlt : LF w) :
    Calls Tryd.prog 43 #[.string s, .string ⟨#[32]⟩] w fun e w' => ∃ A, e = .returned (.slice A (Lwordsof s).length (Lwordsof s).length) ∧ Kd.C Kd.string w' A (Lwordsof s).length (Lwordsof s) ∧ Below w.heap.size w w' := by
  obtain ⟨m, hm⟩ := hlt.m
  refine (Tryd.strings_Split s ⟨#[32]⟩ m w (by omega) hm (by decide)).mono ?_
  rintro e w' ⟨rfl, rfl⟩
  refine ⟨some ⟨w.heap.size, 0, none⟩, by rw [Lwordsof_length], words_C w (Lwordsof s) ?_, below_alloc (Below.refl _ _) _⟩
  have := (Lwordsof_small s hs).1
  omega
theorem RS.upd {wb w1 : World} {g : Nat} {ws ws' : List ByteArray} {s s' : S43} {w w' : World} {A : Option Addr} {c : Nat} {vl vh : Value} (h : RS wb w1 g ws s w) (hs : SameBut g w w') (hg : w'.heap[g]? = some (.cells #[.slice A ws'.length c, .int .u8 s'.f0, .int .i64 s'.f1, vl, vh] 79 (0, 0))) (hc : ws'.length ≤ c) (hr : Kd.C Kd.string wb A ws'.length ws')
    (hl2 : Kd.R (Kd.int .i32) 44 w' w1.heap.size (fun _ => True) vl s'.f2) (hl3 : Kd.R (Kd.int .i64) 2 w' w1.heap.size (fun _ => True) vh s'.f3) : RS wb w1 g ws' s' w' :=
  ⟨⟨A, c, vl, vh, hg, hc, hr, hl2, hl3⟩, hs.below h.below h.base, h.but.same hs, h.base, h.base1, h.lt⟩
def LD : ByteArray := ⟨#[100]⟩
/-- What is taken in, one kind behind the other (true: literals). -/
def Lgo : List Bool → Bool → List ByteArray → S43 → Bool × List ByteArray × S43
  | [], ok, ws, st => (ok, ws, st)
  | t :: ts, ok, ws, st =>
    if ok = true then (if t = true then Lgo ts (LutakeL ws ws st).1 (LutakeL ws ws st).2.1 (LutakeL ws ws st).2.2 else Lgo ts (LutakeH ws ws st).1 (LutakeH ws ws st).2.1 (LutakeH ws ws st).2.2)
    else Lgo ts false ws st
def Ldel (r : List ByteArray) : Bool := match r with | [] => false | y :: _ => decide (y.data.toList = [100])
def Lread (id : Int) (ok : Bool) (r : List ByteArray) : Bool × List ByteArray × S43 := if Ldel r = true then Lgo [false] ok (r.drop 1) ⟨2, id, [], []⟩ else Lgo [true, false] ok r ⟨1, id, [], []⟩
def Lfin (q : Bool × List ByteArray × S43) : S43 × Bool := (q.2.2, q.1 && (decide (q.2.1.length = 0) && Bmay q.2.2))
/-- A line read. -/
def Lparse1 (s : ByteArray) : S43 × Bool :=
  match Lwordsof s with
  | [] => (⟨1, 0, [], []⟩, false)
  | x0 :: r => Lfin (Lread (Lnumber x0).1 (Lnumber x0).2 r)
theorem LutakeL_keeps (all : List ByteArray) : ∀ (ws : List ByteArray) (st : S43), (∃ p, all = p ++ ws) → (∃ p, all = p ++ (LutakeL all ws st).2.1) ∧ (LutakeL all ws st).2.2.f2.length ≤ st.f2.length + ws.length ∧ (LutakeL all ws st).2.2.f3 = st.f3 := by
  intro ws
  induction ws with
  | nil => intro st _; exact ⟨⟨[], rfl⟩, by simp [LutakeL], rfl⟩
  | cons x r ih =>
    intro st hp
    obtain ⟨p, hp⟩ := hp
    have hp' : ∃ p, all = p ++ r := ⟨p ++ [x], by rw [hp]; simp⟩
    rw [LutakeL]
    split
    · exact ⟨⟨[], rfl⟩, Nat.le_add_right _ _, rfl⟩
    · split
      · exact ⟨hp', Nat.le_add_right _ _, rfl⟩
      · split
        · obtain ⟨h1, h2, h3⟩ := ih (addL st (Lnumber x).1) hp'
          refine ⟨h1, ?_, h3⟩
          have : (addL st (Lnumber x).1).f2.length = st.f2.length + 1 := by simp [addL]
          simp only [List.length_cons]
          omega
        · refine ⟨⟨[], rfl⟩, ?_, rfl⟩
          simp [addL]
theorem LutakeH_keeps (all : List ByteArray) : ∀ (ws : List ByteArray) (st : S43), (∃ p, all = p ++ ws) → (∃ p, all = p ++ (LutakeH all ws st).2.1) ∧ (LutakeH all ws st).2.2.f3.length ≤ st.f3.length + ws.length ∧ (LutakeH all ws st).2.2.f2 = st.f2 := by
  intro ws
  induction ws with
  | nil => intro st _; exact ⟨⟨[], rfl⟩, by simp [LutakeH], rfl⟩
  | cons x r ih =>
    intro st hp
    obtain ⟨p, hp⟩ := hp
    have hp' : ∃ p, all = p ++ r := ⟨p ++ [x], by rw [hp]; simp⟩
    rw [LutakeH]
    split
    · exact ⟨⟨[], rfl⟩, Nat.le_add_right _ _, rfl⟩
    · split
      · exact ⟨hp', Nat.le_add_right _ _, rfl⟩
      · obtain ⟨h1, h2, h3⟩ := ih (addH st (Lnumber x).1) hp'
        refine ⟨h1, ?_, h3⟩
        have : (addH st (Lnumber x).1).f3.length = st.f3.length + 1 := by simp [addH]
        simp only [List.length_cons]
        omega
/-- What a loop over the kinds carries. -/
structure Lsmall (x : Int) (ws : List ByteArray) (st : S43) : Prop where
  len : ws.length ≤ 400001
  mem : ∀ y ∈ ws, y.size ≤ 1000000
  f2 : (st.f2.length : Int) ≤ 400001 * x
  f3 : (st.f3.length : Int) ≤ 400001 * x
theorem Lsmall.more {x : Int} {ws : List ByteArray} {st : S43} (h : Lsmall x ws st) : Lsmall (x + 1) ws st := ⟨h.len, h.mem, by have := h.f2; omega, by have := h.f3; omega⟩
theorem Lsmall.L {x : Int} {ws : List ByteArray} {st : S43} (h : Lsmall x ws st) : Lsmall (x + 1) (LutakeL ws ws st).2.1 (LutakeL ws ws st).2.2 := by
  obtain ⟨⟨p, hp⟩, h2, h3⟩ := LutakeL_keeps ws ws st ⟨[], rfl⟩
  refine ⟨?_, fun y hy => h.mem y (by rw [hp]; exact List.mem_append_right _ hy), ?_, ?_⟩
  · have := congrArg List.length hp
    rw [List.length_append] at this
    have := h.len
    omega
  · have := h.f2; have := h.len; omega
  · rw [h3]; have := h.f3; omega
theorem Lsmall.H {x : Int} {ws : List ByteArray} {st : S43} (h : Lsmall x ws st) : Lsmall (x + 1) (LutakeH ws ws st).2.1 (LutakeH ws ws st).2.2 := by
  obtain ⟨⟨p, hp⟩, h2, h3⟩ := LutakeH_keeps ws ws st ⟨[], rfl⟩
  refine ⟨?_, fun y hy => h.mem y (by rw [hp]; exact List.mem_append_right _ hy), ?_, ?_⟩
  · have := congrArg List.length hp
    rw [List.length_append] at this
    have := h.len
    omega
  · rw [h3]; have := h.f2; omega
  · have := h.f3; have := h.len; omega
set_option maxHeartbeats 2000000 in
set_option maxRecDepth 100000 in
def LinePost (s : ByteArray) (w : World) (e : Ending) (w' : World) : Prop := ∃ v2 v3 : Value, e = .returned (.tuple #[.agg #[.int .u8 (Lparse1 s).1.f0, .int .i64 (Lparse1 s).1.f1, v2, v3], .bool (Lparse1 s).2]) ∧ Kd.R (Kd.int .i32) 44 w' w.heap.size (fun _ => True) v2 (Lparse1 s).1.f2 ∧ Kd.R (Kd.int .i64) 2 w' w.heap.size (fun _ => True) v3 (Lparse1 s).1.f3 ∧ Below w.heap.size w w'
theorem info68 : (Tryd.prog.info? 68).map (·.size) = some 1 := by kernel_rfl
theorem may_held (g : Nat) (A' : Option Addr) (c' : Nat) (st : S43) (Al : Option Addr) (cl : Nat) (Ah : Option Addr) (ch : Nat) (w : World) (hg : w.heap[g]? = some (.cells #[.slice A' 0 c', .int .u8 st.f0, .int .i64 st.f1, .slice Al st.f2.length cl, .slice Ah st.f3.length ch] 79 (0, 0)))
    (h2 : Kd.C (Kd.int .i32) w Al st.f2.length st.f2) (h3 : Kd.C (Kd.int .i64) w Ah st.f3.length st.f3) :
    Calls Tryd.prog 23 #[.agg #[.int .u8 st.f0, .int .i64 st.f1, .slice Al st.f2.length cl, .slice Ah st.f3.length ch]] w fun e w' => e = .returned (.bool (Bmay st)) ∧ w'.heap[g]? = some (.cells #[.slice A' 0 c', .int .u8 st.f0, .int .i64 st.f1, .slice Al st.f2.length cl, .slice Ah st.f3.length ch] 79 (0, 0)) ∧ Below w.heap.size w w' := by
  refine (lmay_calls st.f0 st.f1 Al Ah cl ch st.f2 st.f3 w h2 h3).mono ?_
  rintro e w' ⟨rfl, hb⟩
  exact ⟨by rw [show Lmay ⟨st.f0, st.f1, st.f2, st.f3⟩ = Bmay st from Lmay_eq st], blk_below hg hb, hb⟩
/-- The result lies in its block. -/
theorem line_res (s : ByteArray) (w wr : World) (gr : Nat) (st : S43) (Al : Option Addr) (cl : Nat) (Ah : Option Addr) (ch : Nat) (cs0 : Array Value) (hsz : cs0 = #[.int .u8 0, .int .i64 0, .slice none 0 0, .slice none 0 0]) (hgr : wr.heap[gr]? = some (.cells cs0 43 (0, 0)))
    (h2 : wr.ownsRow w.heap.size 44 1 (.slice Al st.f2.length cl) st.f2.length (encs (Value.int .i32) st.f2)) (h3 : wr.ownsRow w.heap.size 2 1 (.slice Ah st.f3.length ch) st.f3.length (encs (Value.int .i64) st.f3)) (hb : Below w.heap.size w wr) (hge : w.heap.size ≤ gr) (wf : World)
    (hwf : wf = (((wr.setCell ⟨gr, 0, none⟩ (.int .u8 st.f0)).setCell ⟨gr, 1, none⟩ (.int .i64 st.f1)).setCell ⟨gr, 2, none⟩ (.slice Al st.f2.length cl)).setCell ⟨gr, 3, none⟩ (.slice Ah st.f3.length ch)) :
    wf.heap[gr]? = some (.cells #[.int .u8 st.f0, .int .i64 st.f1, .slice Al st.f2.length cl, .slice Ah st.f3.length ch] 43 (0, 0)) ∧ Kd.R (Kd.int .i32) 44 wf w.heap.size (fun _ => True) (.slice Al st.f2.length cl) st.f2 ∧ Kd.R (Kd.int .i64) 2 wf w.heap.size (fun _ => True) (.slice Ah st.f3.length ch) st.f3 ∧ Below w.heap.size w wf := by
  subst hsz
  obtain ⟨e1, e2⟩ := setCells_block gr [.int .u8 st.f0, .int .i64 st.f1, .slice Al st.f2.length cl, .slice Ah st.f3.length ch] 0 wr _ hgr
  have hq : wr.setCells gr 0 [.int .u8 st.f0, .int .i64 st.f1, .slice Al st.f2.length cl, .slice Ah st.f3.length ch] = wf := by rw [hwf]; rfl
  rw [hq] at e1 e2
  refine ⟨by rw [e1]; rfl, e2.Rt (Kd.R_of_own (h1 := fun _ => rfl) (ok := fun _ => True) h2 (fun _ _ => trivial)) hgr (by decide), e2.Rt (Kd.R_of_own (h1 := fun _ => rfl) (ok := fun _ => True) h3 (fun _ _ => trivial)) hgr (by decide), e2.below hb hge⟩
set_option maxHeartbeats 2000000 in
set_option maxRecDepth 100000 in
theorem line_calls (s : ByteArray) (w : World) (hs : s.size ≤ 400000) (hlt : LT w.heap.size w) :
    Calls Tryd.prog 29 #[.string s] w fun e w' => LinePost s w e w' := by
  have HLT := Aside0.mk hlt
  clear hlt
  have hsm := Aside0.mk (Lwordsof_small s hs)
  have hpos := Aside0.mk (Lwordsof_length s)
  obtain ⟨x0, r0, hxr⟩ : ∃ x r, Lwordsof s = x :: r := by
    cases h : Lwordsof s with
    | nil => have := hpos.out; rw [h] at this; cases this
    | cons x r => exact ⟨x, r, rfl⟩
  obtain ⟨ws, hws⟩ : ∃ ws, ws = Lwordsof s := ⟨_, rfl⟩
  have HWS := Aside0.mk hws
  rw [← hws] at hsm hpos hxr
  have HX0 := Aside0.mk hxr
  have hl1 : 1 ≤ ws.length := by rw [hxr]; simp
  have hl2 : ws.length ≤ 400001 := hsm.out.1
  clear hws hxr hpos
  obtain ⟨id, ok, hid⟩ : ∃ n b, Lnumber x0 = (n, b) := ⟨_, _, rfl⟩
  have HID := Aside0.mk hid
  clear hid
  have hx0s := Aside0.mk (show x0.size ≤ 1000000 from hsm.out.2 x0 (by rw [HX0.out]; exact List.mem_cons_self))
  obtain ⟨i9, hi9, hz9⟩ := Option.map_eq_some_iff.1 info9
  have hsz9 : i9.size = 1 := by simp only [Prod.mk.injEq] at hz9; exact hz9.2.1
  have HI := Aside0.mk hi9
  have HSZ := Aside0.mk hsz9
  clear hi9 hz9 hsz9
  go_enter Tryd.func29, Tryd.ntmps29
  go_upto_region 3 with (first | ((with_reducible refine gate_dst (N := 2) rfl ?_); refine box_event ?hg (N := 2) ?hd (cs := #[.int .u8 0, .int .i64 0, .slice none 0 0, .slice none 0 0]) (t := 43) ?hr ?_; (case hd => rfl); (case hg => rfl); (case hr => first | (go_simp; done) | (go_simp; rfl)); intro gr hgb w1 hbox hb; have HGR := Aside0.mk hbox; have HB1 := Aside0.mk hb; have HGRL := Aside0.mk (show w.heap.size ≤ gr by rw [hgb]; exact Nat.le_refl _); have HLT1 := Aside0.mk (HLT.out.on hb); clear hbox hb hgb) | (go_at_call 43; refine (split_calls s w1 hs HLT1.out.here).mono ?_; rw [← HWS.out]; rintro e wb ⟨A, rfl, hC, hb⟩; have HCW := Aside0.mk hC; have HBB := Aside0.mk (below_step HB1.out hb); have HGRB := Aside0.mk (blk_below HGR.out hb); clear hC hb) | ((with_reducible refine gate_dst (N := 13) rfl ?_); refine box_event ?hg (N := 13) ?hd (cs := #[.slice A ws.length ws.length, .int .u8 0, .int .i64 0, .slice none 0 0, .slice none 0 0]) (t := 79) ?hr ?_; (case hd => rfl); (case hg => rfl); (case hr => first | (go_simp; done) | (go_simp; rfl)); intro g hgb w3 hbox hb; have HG3 := Aside0.mk hbox; have HB3 := Aside0.mk (below_step HBB.out hb); have HRS3 := Aside0.mk (show RS wb w3 g ws ⟨0, 0, [], []⟩ w3 from ⟨⟨A, ws.length, _, _, hbox, Nat.le_refl _, HCW.out, Kd.R_nil _ _ _ _ _, Kd.R_nil _ _ _ _ _⟩, hb, ⟨Nat.le_refl _, fun _ _ _ => rfl⟩, by rw [hgb]; exact Nat.le_refl _, hb.size, blk_lt hbox⟩); have HGR3 := Aside0.mk (blk_below HGRB.out hb); clear hbox hb hgb; have hcz0 := (blk_cell HG3.out 0).trans (show _ = some (Value.slice A ws.length ws.length) from rfl); obtain ⟨ad, e1, hx1⟩ := Kd.at_string HCW.out 0 (by omega) (by omega); cases e1; replace hx1 := (HRS3.out.below.cell (World.block_lt_of_cell? wb _ hx1)).trans hx1; rw [show rdOf ByteArray.empty ws 0 = x0 by rw [HX0.out]; rfl, show ad.add (0 : Int).toNat = ad from Addr_add0 ad] at hx1) | (go_at_call 44; refine (number_calls w.heap.size x0 _ hx0s.out (HLT.out.on HB3.out) HB3.out.size).mono ?_; rw [HID.out]; rintro e w4 ⟨rfl, hb⟩; have HB4 := Aside0.mk (below_step HB3.out hb); have HRS4 := Aside0.mk (HRS3.out.step hb); have HGR4 := Aside0.mk (blk_below HGR3.out hb); have HG4 := Aside0.mk (blk_below HG3.out hb); clear hb hcz0 hx1))
  obtain ⟨r1, hr1⟩ : ∃ r1, r1 = ws.drop 1 := ⟨_, rfl⟩
  have hr0 := Aside0.mk (show r1 = r0 by rw [hr1, HX0.out]; rfl)
  obtain ⟨n, hn⟩ : ∃ n, n = ws.length := ⟨_, rfl⟩
  have hcut0 := cut_from (P := Tryd.prog) 45 9 .i64 Tryd.underlying45 HI.out 1 HSZ.out (some ad) ws.length ws.length 1 (by omega) (by omega)
  have HCD := Aside0.mk (Kd.C_drop (m := 1) HCW.out (by omega) (Nat.le_refl _))
  have hdl : ws.length - (1 : Int).toNat = r1.length := by rw [hr1, List.length_drop]; rfl
  rw [hdl] at hcut0
  rw [← hr1] at HCD
  have hss : Kd.string.sz = 1 := rfl
  rw [hss] at HCD
  obtain ⟨A1, hA1⟩ : ∃ A1, A1 = (if ws.length = (1 : Int).toNat then some ad else (some ad).map (·.add ((1 : Int).toNat * 1))) := ⟨_, rfl⟩
  rw [← hA1] at hcut0
  replace HCD : Aside0 (Kd.string.C wb A1 r1.length r1) := by rw [hA1]; exact HCD
  have hrl : r1.length ≤ 400001 := by rw [hr1, List.length_drop]; omega
  have HRL := Aside0.mk (show ∀ x ∈ r1, x.size ≤ 1000000 from fun x hx => hsm.out.2 x (by rw [hr1] at hx; exact List.mem_of_mem_drop hx))
  clear hA1 hss hdl hn hr1
  have HLC := Aside0.mk (show r1.length ≤ ws.length - (1 : Int).toNat by rw [hr0.out, HX0.out]; simp)
  go_upto_region 6 with (first | ((with_reducible refine gate_store (t := 43) (p := 28) rfl ?_); refine store_four 43 28 (.tmp 26) rfl rfl rfl (.int .u8 1) (.int .i64 id) (.slice none 0 0) (.slice none 0 0) #[.slice (some ad) ws.length ws.length, .int .u8 1, .int .i64 id, .slice none 0 0, .slice none 0 0] rfl rfl HG4.out nsz43 (show 1 + 4 ≤ 5 by omega) rfl rfl rfl rfl rfl ?_; intro w5 hw5 hsb; have HG5 := Aside0.mk hw5; have HRS5 := Aside0.mk (HRS4.out.upd (s' := ⟨1, id, [], []⟩) hsb hw5 (Nat.le_refl _) HCW.out (Kd.R_nil _ _ _ _ _) (Kd.R_nil _ _ _ _ _)); have HGR5 := Aside0.mk (hsb.other HGR4.out (blk_ne HGR4.out HG4.out (by decide))); have HB5 := Aside0.mk (hsb.below HB4.out (Nat.le_trans HBB.out.size HRS4.out.base)); clear hw5 hsb; have hcz0 := (blk_cell HG5.out 0).trans (show _ = some (Value.slice (some ad) ws.length ws.length) from rfl)) | ((with_reducible refine gate_store (t := 45) (p := 36) rfl ?_); refine store_one 45 36 (.tmp 34) rfl rfl rfl (.slice A1 r1.length r1.length) #[.slice A1 r1.length r1.length, .int .u8 1, .int .i64 id, .slice none 0 0, .slice none 0 0] rfl rfl HG5.out rfl nsz45 (show 0 + 1 ≤ 5 by omega) rfl rfl ?_; intro w6 hw6 hsb; have HG6 := Aside0.mk hw6; have HRS6 := Aside0.mk (HRS5.out.upd (ws' := r1) (s' := ⟨1, id, [], []⟩) hsb hw6 (Nat.le_refl _) HCD.out (Kd.R_nil _ _ _ _ _) (Kd.R_nil _ _ _ _ _)); have HGR6 := Aside0.mk (hsb.other HGR5.out (blk_ne HGR5.out HG5.out (by decide))); have HB6 := Aside0.mk (hsb.below HB5.out (Nat.le_trans HBB.out.size HRS4.out.base)); clear hw6 hsb hcz0) | ((with_reducible refine gate_dst (N := 41) rfl ?_); refine slice_event ?hg (N := 41) ?hd (cs := #[.func (.func 45) #[.pointer (some ⟨g, 0, none⟩)] #[], .func (.func 46) #[.pointer (some ⟨g, 0, none⟩)] #[]]) (t := 68) (n := 2) ?hr ?_; (case hd => rfl); (case hg => rfl); (case hr => first | (go_simp; done) | (go_simp; rfl)); intro ga hgb w7 hbox hb; have HGA := Aside0.mk hbox; have HB7 := Aside0.mk (below_step HB6.out hb); have HRS7 := Aside0.mk (HRS6.out.step hb); have HGR7 := Aside0.mk (blk_below HGR6.out hb); have HG7 := Aside0.mk (blk_below HG6.out hb); clear hbox hb hgb))
  clear hcut0 HG3 HB3 HRS3 HGR3 HB4 HRS4 HGR4 HG4 HG5 HRS5 HGR5 HB5 HRS6 HGR6 HB6 HG6 HGR
  have hcz0 := (blk_cell HG7.out 0).trans (show _ = some (Value.slice A1 r1.length r1.length) from rfl)
  obtain ⟨st, hst⟩ : ∃ st : S43, st = ⟨1, id, [], []⟩ := ⟨_, rfl⟩
  have HRS := Aside0.mk (show RS wb w7 g r1 st w7 by
    rw [hst]
    exact ⟨⟨A1, r1.length, _, _, HG7.out, Nat.le_refl _, HCD.out, Kd.R_nil _ _ _ _ _, Kd.R_nil _ _ _ _ _⟩, HRS7.out.below, ⟨Nat.le_refl _, fun _ _ _ => rfl⟩, HRS7.out.base, HRS7.out.below.size, blk_lt HG7.out⟩)
  have HST := Aside0.mk hst
  clear hst HRS7
  go_cut [56] (fun v56 wc => v56 = .bool (Ldel r1) ∧ w7 = wc)
  case first =>
    cases r1 with
    | nil =>
      go_wp2
      go_meet
      case rel => exact ⟨rfl, rfl⟩
    | cons y r2 =>
      obtain ⟨ad1, e1, hx1⟩ := Kd.at_string HCD.out 0 (by omega) (by simp)
      cases e1
      replace hx1 := (HRS.out.below.cell (World.block_lt_of_cell? wb _ hx1)).trans hx1
      rw [show rdOf ByteArray.empty (y :: r2) 0 = y from rfl, show ad1.add (0 : Int).toNat = ad1 from Addr_add0 ad1] at hx1
      go_wp2
      go_meet
      case rel =>
        refine ⟨?_, rfl⟩
        have he : (y.toList == [100]) = Ldel (y :: r2) := by rw [Lib.toList_data]; unfold Ldel; rw [Bool.eq_iff_iff]; simp
        rw [← he]
  case rest =>
    obtain ⟨rfl, rfl⟩ := hcut
    have HLTA := Aside0.mk (blk_lt HGA.out)
    cases hdel : Ldel r1 with
    | false =>
      have HSM := Aside0.mk (show Lsmall 0 r1 st from ⟨hrl, HRL.out, by rw [HST.out]; simp, by rw [HST.out]; simp⟩)
      have HQ := Aside0.mk (show Lgo (([true, false] : List Bool).drop (0 : Int).toNat) ok r1 st = Lread id ok r1 by unfold Lread; rw [hdel, HST.out]; rfl)
      have HRSA := HRS
      clear HRS hdel
      have hgaA := Aside0.mk (blk_ne HGA.out HG7.out (by decide))
      go_wp2
      go_loopg [6, 73] 2 (fun j v6 v73 wr => ∃ (x : Int) (okc : Bool) (ws' : List ByteArray) (st' : S43), v6 = .bool okc ∧ v73 = .int .i64 x ∧ 0 ≤ x ∧ x + j = 2 ∧ Aside0 (Lgo (([true, false] : List Bool).drop x.toNat) okc ws' st' = Lread id ok r1) ∧ Aside0 (Lsmall x ws' st') ∧ Aside0 (RS wb w7 g ws' st' wr))
      case atStart => exact ⟨0, ok, _, _, rfl, rfl, by omega, by omega, HQ, HSM, HRSA⟩
      case round =>
        clear HRSA HQ HSM
        obtain ⟨x, okc, ws', st', rfl, rfl, hx0, hxj, HQ, HSM, HRS'⟩ := hrel
        have HGAr := Aside0.mk ((HRS'.out.but.blk ga HLTA.out hgaA.out).trans HGA.out)
        have hf0 := (blk_cell HGAr.out 0).trans (show _ = some (Value.func (.func 45) #[.pointer (some ⟨g, 0, none⟩)] #[]) from rfl)
        have hf1 := (blk_cell HGAr.out 1).trans (show _ = some (Value.func (.func 46) #[.pointer (some ⟨g, 0, none⟩)] #[]) from rfl)
        by_cases hx0 : x = 0
        · subst hx0
          cases okc with
          | true =>
            have hq := Aside0.mk (show Lgo (([true, false] : List Bool).drop (0 + 1 : Int).toNat) (LutakeL ws' ws' st').1 (LutakeL ws' ws' st').2.1 (LutakeL ws' ws' st').2.2 = Lread id ok r1 from HQ.out)
            have hs2 := Aside0.mk HSM.out.L
            go_wp2_with (go_at_call 47; refine (untilL_calls wb w7 g ws' st' _ HRS'.out (by have := HSM.out.len; have := HSM.out.f2; omega) HSM.out.mem (HLT.out.on HBB.out |>.up HBB.out.size)).mono ?_; rintro e w8 ⟨rfl, h8⟩; have H8 := Aside0.mk h8; clear h8)
            go_roundg (gk - 1)
            case measure => omega
            case rel => exact ⟨0 + 1, _, _, _, rfl, rfl, by omega, by omega, hq, hs2, H8⟩
          | false =>
            have hq := Aside0.mk (show Lgo (([true, false] : List Bool).drop (0 + 1 : Int).toNat) false ws' st' = Lread id ok r1 from HQ.out)
            have hs2 := Aside0.mk HSM.out.more
            go_wp2
            go_roundg (gk - 1)
            case measure => omega
            case rel => exact ⟨0 + 1, _, _, _, rfl, rfl, by omega, by omega, hq, hs2, HRS'⟩
        · skip
          by_cases hx1 : x = 1
          · subst hx1
            cases okc with
            | true =>
              have hq := Aside0.mk (show Lgo (([true, false] : List Bool).drop (1 + 1 : Int).toNat) (LutakeH ws' ws' st').1 (LutakeH ws' ws' st').2.1 (LutakeH ws' ws' st').2.2 = Lread id ok r1 from HQ.out)
              have hs2 := Aside0.mk HSM.out.H
              go_wp2_with (go_at_call 47; refine (untilH_calls wb w7 g ws' st' _ HRS'.out (by have := HSM.out.len; have := HSM.out.f3; omega) HSM.out.mem (HLT.out.on HBB.out |>.up HBB.out.size)).mono ?_; rintro e w8 ⟨rfl, h8⟩; have H8 := Aside0.mk h8; clear h8)
              go_roundg (gk - 1)
              case measure => omega
              case rel => exact ⟨1 + 1, _, _, _, rfl, rfl, by omega, by omega, hq, hs2, H8⟩
            | false =>
              have hq := Aside0.mk (show Lgo (([true, false] : List Bool).drop (1 + 1 : Int).toNat) false ws' st' = Lread id ok r1 from HQ.out)
              have hs2 := Aside0.mk HSM.out.more
              go_wp2
              go_roundg (gk - 1)
              case measure => omega
              case rel => exact ⟨1 + 1, _, _, _, rfl, rfl, by omega, by omega, hq, hs2, HRS'⟩
          · have hxe : x = 2 := by omega
            subst hxe
            have hq := Aside0.mk (show Lread id ok r1 = (okc, ws', st') from HQ.out.symm)
            clear hf0 hf1 HGAr
            go_upto_region 15 with fail
            obtain ⟨A', c', vl, vh, hg', hc', hC', hl2', hl3'⟩ := HRS'.out.ex
            obtain ⟨Al, cl, rfl⟩ := Kd.R_slice hl2'
            obtain ⟨Ah, ch, rfl⟩ := Kd.R_slice hl3'
            have HG' := Aside0.mk hg'
            have HGR' := Aside0.mk ((HRS'.out.below.block gr (blk_lt HGRB.out)).trans HGRB.out)
            have hcz0 := (blk_cell hg' 0).trans (show _ = some (Value.slice A' ws'.length c') from rfl)
            have hcz1 := (blk_cell hg' 1).trans (show _ = some (Value.int .u8 st'.f0) from rfl)
            have hcz2 := (blk_cell hg' 2).trans (show _ = some (Value.int .i64 st'.f1) from rfl)
            have hcz3 := (blk_cell hg' 3).trans (show _ = some (Value.slice Al st'.f2.length cl) from rfl)
            have hcz4 := (blk_cell hg' 4).trans (show _ = some (Value.slice Ah st'.f3.length ch) from rfl)
            have hrz0 := (blk_cell HGR'.out 0).trans (show _ = some (Value.int .u8 0) from rfl)
            have hrz1 := (blk_cell HGR'.out 1).trans (show _ = some (Value.int .i64 0) from rfl)
            have hrz2 := (blk_cell HGR'.out 2).trans (show _ = some (Value.slice none 0 0) from rfl)
            have hrz3 := (blk_cell HGR'.out 3).trans (show _ = some (Value.slice none 0 0) from rfl)
            have hfzr := blk_frozen HGR'.out 0
            have hfzr1 := blk_frozen HGR'.out 1
            have hfzr2 := blk_frozen HGR'.out 2
            have hfzr3 := blk_frozen HGR'.out 3
            have hne : gr ≠ g := blk_ne HGR'.out HG'.out (by decide)
            have hne' : g ≠ gr := Ne.symm hne
            have HO2 := Aside0.mk (own_less (Kd.own_of_R hl2') HB7.out.size)
            have HO3 := Aside0.mk (own_less (Kd.own_of_R hl3') HB7.out.size)
            have HBW := Aside0.mk (show Below w.heap.size w wr from HBB.out.trans (HRS'.out.below.mono HBB.out.size))
            have hfin := Aside0.mk (show Lparse1 s = Lfin (okc, ws', st') by
              unfold Lparse1
              rw [← HWS.out, HX0.out]
              simp only
              rw [HID.out, ← hr0.out, hq.out])
            cases okc with
            | false =>
              clear hg' hc' hC' hl2' hl3'
              go_region
              go_wp2
              obtain ⟨e1, e2, e3, e4⟩ := line_res s w wr gr st' Al cl Ah ch _ rfl HGR'.out HO2.out HO3.out HBW.out HGRL.out _ rfl
              exact bodyPost_ret (results_ct rfl _ _ gr 43 _ (0, 0) _ rfl (blk_drew e1) Tryd.underlying43 rfl nsz43) rfl ⟨.slice Al st'.f2.length cl, .slice Ah st'.f3.length ch, by rw [hfin.out]; rfl, by rw [hfin.out]; exact Kd.R_drew e2, by rw [hfin.out]; exact Kd.R_drew e3, below_drew e4⟩
            | true =>
              cases ws' with
              | cons y r2 =>
                clear hg' hc' hC' hl2' hl3'
                have hl0 : ((r2.length : Int) + 1 == 0) = false := by rw [beq_eq_false_iff_ne]; omega
                go_region
                go_wp2
                obtain ⟨e1, e2, e3, e4⟩ := line_res s w wr gr st' Al cl Ah ch _ rfl HGR'.out HO2.out HO3.out HBW.out HGRL.out _ rfl
                exact bodyPost_ret (results_ct rfl _ _ gr 43 _ (0, 0) _ rfl (blk_drew e1) Tryd.underlying43 rfl nsz43) rfl ⟨.slice Al st'.f2.length cl, .slice Ah st'.f3.length ch, by rw [hfin.out]; rfl, by rw [hfin.out]; exact Kd.R_drew e2, by rw [hfin.out]; exact Kd.R_drew e3, below_drew e4⟩
              | nil =>
                obtain ⟨Al', cl', el, hll, hrl2⟩ := Kd.R_reads hl2'
                obtain ⟨Ah', ch', eh, hlh, hrh2⟩ := Kd.R_reads hl3'
                injection el with el1 _ el2
                subst el1; subst el2
                injection eh with eh1 _ eh2
                subst eh1; subst eh2
                have HRL2 := Aside0.mk hrl2
                have HRH2 := Aside0.mk hrh2
                clear hg' hc' hC' hl2' hl3' hll hrl2 hlh hrh2
                go_region_held3 (fun w' => w'.cell? ⟨g, 0, none⟩ = some (.slice A' 0 c') ∧ w'.cell? ⟨g, 1, none⟩ = some (.int .u8 st'.f0) ∧ w'.cell? ⟨g, 2, none⟩ = some (.int .i64 st'.f1) ∧ w'.cell? ⟨g, 3, none⟩ = some (.slice Al st'.f2.length cl) ∧ w'.cell? ⟨g, 4, none⟩ = some (.slice Ah st'.f3.length ch)) (first | go_keep | exact ⟨hk0, hk1, hk2, hk3, hk4⟩ | (trace_state; fail)) (first | (go_at_call 23; refine (may_held g A' c' st' Al cl Ah ch _ (show wr.drew.heap[g]? = _ from HG'.out) (Kd.C_below HRL2.out (below_drew (Below.refl _ _))) (Kd.C_below HRH2.out (below_drew (Below.refl _ _)))).mono ?_; rintro e w5 ⟨rfl, h5, hb⟩; have HB5 := Aside0.mk (show Below wr.heap.size wr w5 from ⟨hb.os, hb.tape, hb.output, hb.size, hb.block⟩); have hg5 := blk_below HGR'.out HB5.out; have HGR5 := Aside0.mk hg5; have hsz0 := (blk_cell hg5 0).trans (show _ = some (Value.int .u8 0) from rfl); have hsz1 := (blk_cell hg5 1).trans (show _ = some (Value.int .i64 0) from rfl); have hsz2 := (blk_cell hg5 2).trans (show _ = some (Value.slice none 0 0) from rfl); have hsz3 := (blk_cell hg5 3).trans (show _ = some (Value.slice none 0 0) from rfl); have hft0 := blk_frozen hg5 0; have hft1 := blk_frozen hg5 1; have hft2 := blk_frozen hg5 2; have hft3 := blk_frozen hg5 3; clear hg5; have hk0 := (blk_cell h5 0).trans (show _ = some (Value.slice A' 0 c') from rfl); have hk1 := (blk_cell h5 1).trans (show _ = some (Value.int .u8 st'.f0) from rfl); have hk2 := (blk_cell h5 2).trans (show _ = some (Value.int .i64 st'.f1) from rfl); have hk3 := (blk_cell h5 3).trans (show _ = some (Value.slice Al st'.f2.length cl) from rfl); have hk4 := (blk_cell h5 4).trans (show _ = some (Value.slice Ah st'.f3.length ch) from rfl); clear h5 hb))
                go_wp2
                obtain ⟨e1, e2, e3, e4⟩ := line_res s w w5 gr st' Al cl Ah ch _ rfl HGR5.out (Kd.own_of_R (Kd.R_below (Kd.R_of_own (h1 := fun _ => rfl) (ok := fun _ => True) HO2.out (fun _ _ => trivial)) HB5.out)) (Kd.own_of_R (Kd.R_below (Kd.R_of_own (h1 := fun _ => rfl) (ok := fun _ => True) HO3.out (fun _ _ => trivial)) HB5.out)) (below_step HBW.out HB5.out) HGRL.out _ rfl
                exact bodyPost_ret (results_ct rfl _ _ gr 43 _ (0, 0) _ rfl e1 Tryd.underlying43 rfl nsz43) rfl ⟨.slice Al st'.f2.length cl, .slice Ah st'.f3.length ch, by rw [hfin.out]; simp [Lfin], by rw [hfin.out]; exact e2, by rw [hfin.out]; exact e3, e4⟩
    | true =>
      have hr1 : ∃ y r2, r1 = y :: r2 := by
        cases r1 with
        | nil => cases hdel
        | cons y r2 => exact ⟨y, r2, rfl⟩
      obtain ⟨y, r2, hyr⟩ := hr1
      obtain ⟨st2, hst2⟩ : ∃ st2 : S43, st2 = ⟨2, id, [], []⟩ := ⟨_, rfl⟩
      have HST2 := Aside0.mk hst2
      have hd2 : r2 = r1.drop 1 := by rw [hyr]; rfl
      have HQ := Aside0.mk (show Lgo (([false] : List Bool).drop (0 : Int).toNat) ok r2 st2 = Lread id ok r1 by unfold Lread; rw [hdel, HST2.out, hd2]; rfl)
      have hlen2 : r1.length = r2.length + 1 := by rw [hyr]; rfl
      have HSM := Aside0.mk (show Lsmall 0 r2 st2 from ⟨by omega, fun x hx => HRL.out x (by rw [hyr]; exact List.mem_cons_of_mem _ hx), by rw [HST2.out]; simp, by rw [HST2.out]; simp⟩)
      have hcut1 := cut_from (P := Tryd.prog) 45 9 .i64 Tryd.underlying45 HI.out 1 HSZ.out A1 r1.length r1.length 1 (by omega) (by omega)
      have HCD2 := Aside0.mk (Kd.C_drop (m := 1) HCD.out (by omega) (Nat.le_refl _))
      have hdl : r1.length - (1 : Int).toNat = r2.length := by rw [hlen2]; rfl
      rw [hdl] at hcut1
      rw [← hd2] at HCD2
      have hss : Kd.string.sz = 1 := rfl
      rw [hss] at HCD2
      obtain ⟨A2, hA2⟩ : ∃ A2, A2 = (if r1.length = (1 : Int).toNat then A1 else A1.map (·.add ((1 : Int).toNat * 1))) := ⟨_, rfl⟩
      rw [← hA2] at hcut1
      replace HCD2 : Aside0 (Kd.string.C wb A2 r2.length r2) := by rw [hA2]; exact HCD2
      obtain ⟨i68, hi68, hz68⟩ := Option.map_eq_some_iff.1 info68
      have hcut2 := cut_from (P := Tryd.prog) 82 68 .i64 Tryd.underlying82 hi68 1 hz68 (some ⟨ga, 0, none⟩) 2 2 1 (by omega) (by omega)
      have hga1 : (if (2 : Nat) = (1 : Int).toNat then some (⟨ga, 0, none⟩ : Addr) else (some (⟨ga, 0, none⟩ : Addr)).map (·.add ((1 : Int).toNat * 1))) = some ⟨ga, 1, none⟩ := rfl
      rw [hga1, show 2 - (1 : Int).toNat = 1 from rfl] at hcut2
      have HNE := Aside0.mk hd2
      clear hA2 hss hdl hi68 hz68 hga1 hyr hst2 hd2 hdel hlen2
      go_upto_region 10 with (first | ((with_reducible refine gate_store (t := 5) (p := 60) rfl ?_); refine store_one 5 60 (.const (.int .u8 2)) rfl rfl rfl (.int .u8 2) #[.slice A1 r1.length r1.length, .int .u8 2, .int .i64 id, .slice none 0 0, .slice none 0 0] rfl rfl HG7.out rfl nsz5 (show 1 + 1 ≤ 5 by omega) rfl rfl ?_; intro w8 hw8 hsb; have HG8 := Aside0.mk hw8; have HRS8 := Aside0.mk (HRS.out.upd (ws' := r1) (s' := ⟨2, id, [], []⟩) hsb hw8 (Nat.le_refl _) HCD.out (Kd.R_nil _ _ _ _ _) (Kd.R_nil _ _ _ _ _)); clear hw8 hsb hcz0; have hcz0 := (blk_cell HG8.out 0).trans (show _ = some (Value.slice A1 r1.length r1.length) from rfl)) | ((with_reducible refine gate_store (t := 45) (p := 68) rfl ?_); refine store_one 45 68 (.tmp 66) rfl rfl rfl (.slice A2 r2.length r2.length) #[.slice A2 r2.length r2.length, .int .u8 2, .int .i64 id, .slice none 0 0, .slice none 0 0] rfl rfl HG8.out rfl nsz45 (show 0 + 1 ≤ 5 by omega) rfl rfl ?_; intro w9 hw9 hsb; have HRS9 := Aside0.mk (HRS8.out.upd (ws' := r2) (s' := ⟨2, id, [], []⟩) hsb hw9 (Nat.le_refl _) HCD2.out (Kd.R_nil _ _ _ _ _) (Kd.R_nil _ _ _ _ _)); clear hw9 hsb hcz0))
      have hgaA := Aside0.mk (blk_ne HGA.out HG7.out (by decide))
      have HRSA := Aside0.mk (show RS wb w7 g r2 st2 w9 by rw [HST2.out]; exact HRS9.out)
      clear HRS8 HRS9 HG8 hcut1 hcut2
      go_wp2
      go_loopg [6, 73] 1 (fun j v6 v73 wr => ∃ (x : Int) (okc : Bool) (ws' : List ByteArray) (st' : S43), v6 = .bool okc ∧ v73 = .int .i64 x ∧ 0 ≤ x ∧ x + j = 1 ∧ Aside0 (Lgo (([false] : List Bool).drop x.toNat) okc ws' st' = Lread id ok r1) ∧ Aside0 (Lsmall x ws' st') ∧ Aside0 (RS wb w7 g ws' st' wr))
      case atStart => exact ⟨0, ok, _, _, rfl, rfl, by omega, by omega, HQ, HSM, HRSA⟩
      case round =>
        clear HRSA HQ HSM
        obtain ⟨x, okc, ws', st', rfl, rfl, hx0, hxj, HQ, HSM, HRS'⟩ := hrel
        have HGAr := Aside0.mk ((HRS'.out.but.blk ga HLTA.out hgaA.out).trans HGA.out)
        have hf1 := (blk_cell HGAr.out 1).trans (show _ = some (Value.func (.func 46) #[.pointer (some ⟨g, 0, none⟩)] #[]) from rfl)
        by_cases hx0 : x = 0
        · subst hx0
          cases okc with
          | true =>
            have hq := Aside0.mk (show Lgo (([false] : List Bool).drop (0 + 1 : Int).toNat) (LutakeH ws' ws' st').1 (LutakeH ws' ws' st').2.1 (LutakeH ws' ws' st').2.2 = Lread id ok r1 from HQ.out)
            have hs2 := Aside0.mk HSM.out.H
            go_wp2_with (go_at_call 47; refine (untilH_calls wb w7 g ws' st' _ HRS'.out (by have := HSM.out.len; have := HSM.out.f3; omega) HSM.out.mem (HLT.out.on HBB.out |>.up HBB.out.size)).mono ?_; rintro e w8 ⟨rfl, h8⟩; have H8 := Aside0.mk h8; clear h8)
            go_roundg (gk - 1)
            case measure => omega
            case rel => exact ⟨0 + 1, _, _, _, rfl, rfl, by omega, by omega, hq, hs2, H8⟩
          | false =>
            have hq := Aside0.mk (show Lgo (([false] : List Bool).drop (0 + 1 : Int).toNat) false ws' st' = Lread id ok r1 from HQ.out)
            have hs2 := Aside0.mk HSM.out.more
            go_wp2
            go_roundg (gk - 1)
            case measure => omega
            case rel => exact ⟨0 + 1, _, _, _, rfl, rfl, by omega, by omega, hq, hs2, HRS'⟩
        · have hxe : x = 1 := by omega
          subst hxe
          have hq := Aside0.mk (show Lread id ok r1 = (okc, ws', st') from HQ.out.symm)
          clear hf1 HGAr
          go_upto_region 15 with fail
          obtain ⟨A', c', vl, vh, hg', hc', hC', hl2', hl3'⟩ := HRS'.out.ex
          obtain ⟨Al, cl, rfl⟩ := Kd.R_slice hl2'
          obtain ⟨Ah, ch, rfl⟩ := Kd.R_slice hl3'
          have HG' := Aside0.mk hg'
          have HGR' := Aside0.mk ((HRS'.out.below.block gr (blk_lt HGRB.out)).trans HGRB.out)
          have hcz0 := (blk_cell hg' 0).trans (show _ = some (Value.slice A' ws'.length c') from rfl)
          have hcz1 := (blk_cell hg' 1).trans (show _ = some (Value.int .u8 st'.f0) from rfl)
          have hcz2 := (blk_cell hg' 2).trans (show _ = some (Value.int .i64 st'.f1) from rfl)
          have hcz3 := (blk_cell hg' 3).trans (show _ = some (Value.slice Al st'.f2.length cl) from rfl)
          have hcz4 := (blk_cell hg' 4).trans (show _ = some (Value.slice Ah st'.f3.length ch) from rfl)
          have hrz0 := (blk_cell HGR'.out 0).trans (show _ = some (Value.int .u8 0) from rfl)
          have hrz1 := (blk_cell HGR'.out 1).trans (show _ = some (Value.int .i64 0) from rfl)
          have hrz2 := (blk_cell HGR'.out 2).trans (show _ = some (Value.slice none 0 0) from rfl)
          have hrz3 := (blk_cell HGR'.out 3).trans (show _ = some (Value.slice none 0 0) from rfl)
          have hfzr := blk_frozen HGR'.out 0
          have hfzr1 := blk_frozen HGR'.out 1
          have hfzr2 := blk_frozen HGR'.out 2
          have hfzr3 := blk_frozen HGR'.out 3
          have hne : gr ≠ g := blk_ne HGR'.out HG'.out (by decide)
          have hne' : g ≠ gr := Ne.symm hne
          have HO2 := Aside0.mk (own_less (Kd.own_of_R hl2') HB7.out.size)
          have HO3 := Aside0.mk (own_less (Kd.own_of_R hl3') HB7.out.size)
          have HBW := Aside0.mk (show Below w.heap.size w wr from HBB.out.trans (HRS'.out.below.mono HBB.out.size))
          have hfin := Aside0.mk (show Lparse1 s = Lfin (okc, ws', st') by
            unfold Lparse1
            rw [← HWS.out, HX0.out]
            simp only
            rw [HID.out, ← hr0.out, hq.out])
          cases okc with
          | false =>
            clear hg' hc' hC' hl2' hl3'
            go_region
            go_wp2
            obtain ⟨e1, e2, e3, e4⟩ := line_res s w wr gr st' Al cl Ah ch _ rfl HGR'.out HO2.out HO3.out HBW.out HGRL.out _ rfl
            exact bodyPost_ret (results_ct rfl _ _ gr 43 _ (0, 0) _ rfl (blk_drew e1) Tryd.underlying43 rfl nsz43) rfl ⟨.slice Al st'.f2.length cl, .slice Ah st'.f3.length ch, by rw [hfin.out]; rfl, by rw [hfin.out]; exact Kd.R_drew e2, by rw [hfin.out]; exact Kd.R_drew e3, below_drew e4⟩
          | true =>
            cases ws' with
            | cons y r2 =>
              clear hg' hc' hC' hl2' hl3'
              have hl0 : ((r2.length : Int) + 1 == 0) = false := by rw [beq_eq_false_iff_ne]; omega
              go_region
              go_wp2
              obtain ⟨e1, e2, e3, e4⟩ := line_res s w wr gr st' Al cl Ah ch _ rfl HGR'.out HO2.out HO3.out HBW.out HGRL.out _ rfl
              exact bodyPost_ret (results_ct rfl _ _ gr 43 _ (0, 0) _ rfl (blk_drew e1) Tryd.underlying43 rfl nsz43) rfl ⟨.slice Al st'.f2.length cl, .slice Ah st'.f3.length ch, by rw [hfin.out]; rfl, by rw [hfin.out]; exact Kd.R_drew e2, by rw [hfin.out]; exact Kd.R_drew e3, below_drew e4⟩
            | nil =>
              obtain ⟨Al', cl', el, hll, hrl2⟩ := Kd.R_reads hl2'
              obtain ⟨Ah', ch', eh, hlh, hrh2⟩ := Kd.R_reads hl3'
              injection el with el1 _ el2
              subst el1; subst el2
              injection eh with eh1 _ eh2
              subst eh1; subst eh2
              have HRL2 := Aside0.mk hrl2
              have HRH2 := Aside0.mk hrh2
              clear hg' hc' hC' hl2' hl3' hll hrl2 hlh hrh2
              go_region_held3 (fun w' => w'.cell? ⟨g, 0, none⟩ = some (.slice A' 0 c') ∧ w'.cell? ⟨g, 1, none⟩ = some (.int .u8 st'.f0) ∧ w'.cell? ⟨g, 2, none⟩ = some (.int .i64 st'.f1) ∧ w'.cell? ⟨g, 3, none⟩ = some (.slice Al st'.f2.length cl) ∧ w'.cell? ⟨g, 4, none⟩ = some (.slice Ah st'.f3.length ch)) (first | go_keep | exact ⟨hk0, hk1, hk2, hk3, hk4⟩ | (trace_state; fail)) (first | (go_at_call 23; refine (may_held g A' c' st' Al cl Ah ch _ (show wr.drew.heap[g]? = _ from HG'.out) (Kd.C_below HRL2.out (below_drew (Below.refl _ _))) (Kd.C_below HRH2.out (below_drew (Below.refl _ _)))).mono ?_; rintro e w5 ⟨rfl, h5, hb⟩; have HB5 := Aside0.mk (show Below wr.heap.size wr w5 from ⟨hb.os, hb.tape, hb.output, hb.size, hb.block⟩); have hg5 := blk_below HGR'.out HB5.out; have HGR5 := Aside0.mk hg5; have hsz0 := (blk_cell hg5 0).trans (show _ = some (Value.int .u8 0) from rfl); have hsz1 := (blk_cell hg5 1).trans (show _ = some (Value.int .i64 0) from rfl); have hsz2 := (blk_cell hg5 2).trans (show _ = some (Value.slice none 0 0) from rfl); have hsz3 := (blk_cell hg5 3).trans (show _ = some (Value.slice none 0 0) from rfl); have hft0 := blk_frozen hg5 0; have hft1 := blk_frozen hg5 1; have hft2 := blk_frozen hg5 2; have hft3 := blk_frozen hg5 3; clear hg5; have hk0 := (blk_cell h5 0).trans (show _ = some (Value.slice A' 0 c') from rfl); have hk1 := (blk_cell h5 1).trans (show _ = some (Value.int .u8 st'.f0) from rfl); have hk2 := (blk_cell h5 2).trans (show _ = some (Value.int .i64 st'.f1) from rfl); have hk3 := (blk_cell h5 3).trans (show _ = some (Value.slice Al st'.f2.length cl) from rfl); have hk4 := (blk_cell h5 4).trans (show _ = some (Value.slice Ah st'.f3.length ch) from rfl); clear h5 hb))
              go_wp2
              obtain ⟨e1, e2, e3, e4⟩ := line_res s w w5 gr st' Al cl Ah ch _ rfl HGR5.out (Kd.own_of_R (Kd.R_below (Kd.R_of_own (h1 := fun _ => rfl) (ok := fun _ => True) HO2.out (fun _ _ => trivial)) HB5.out)) (Kd.own_of_R (Kd.R_below (Kd.R_of_own (h1 := fun _ => rfl) (ok := fun _ => True) HO3.out (fun _ _ => trivial)) HB5.out)) (below_step HBW.out HB5.out) HGRL.out _ rfl
              exact bodyPost_ret (results_ct rfl _ _ gr 43 _ (0, 0) _ rfl e1 Tryd.underlying43 rfl nsz43) rfl ⟨.slice Al st'.f2.length cl, .slice Ah st'.f3.length ch, by rw [hfin.out]; simp [Lfin], by rw [hfin.out]; exact e2, by rw [hfin.out]; exact e3, e4⟩
end Go.Proofs.YtfjnkbkcoakooaaDoor.PB
