import Derived.Test.YtigloobbpcnnhaaDoorM8
import Derived.Test.YtigloobbpcnnhaaDoorM4
import Derived.Lib.SlBytesConst
section
namespace Go.Proofs.YtigloobbpcnnhaaDoor.PB
open Go.RowKit Go.Proofs.YtigloobbpcnnhaaDoorW.PrintWords Go.Proofs.YtigloobbpcnnhaaDoorW.PrintLast Go.Proofs.YtigloobbpcnnhaaDoorW.PrintMore
set_option linter.unusedVariables false
set_option linter.unusedSimpArgs false
/-! ### works -/
section
variable {P : Program} {ops : Array Oper} {rest : List Oper} {o : Oper} {a : Act} {Q : Exit → Act → World → Prop}
theorem slice_event {W : World} (hgd : o.guard = none) {N : Tmp} (_hd : o.dst = some N) {cs : Array Value} {t : TypeId} {n : Nat}
    (hrun : (execOp a.eval o).run P W = .ok (.value (.slice (some ⟨W.heap.size, 0, none⟩) n n)) (W.alloc (.cells cs t (0, 0))))
    (h : ∀ g, g = W.heap.size → ∀ w1, w1.heap[g]? = some (.cells cs t (0, 0)) → Below W.heap.size W w1 → wpList P ops Q rest (a.put o.dst (.slice (some ⟨g, 0, none⟩) n n)) w1) : wpList P ops Q (o :: rest) a W :=
  Kd.event_run hgd hrun (h _ rfl _ (blk_new W _) (below_alloc (Below.refl _ _) _))
end
/-- A literal row of bytes reads as the bytes. -/
theorem C_lit (l : List UInt8) (w : World) (g : Nat) (cs : Array Value) {fz : Nat × Nat} (hcs : cs.toList = Lib.byteCells l) (h : w.heap[g]? = some (.cells cs 5 fz)) (hl : l.length ≤ 9223372036854775807) : (Kd.int .u8).C w (some ⟨g, 0, none⟩) l.length (bI l) := by
  refine Kd.C_of_reads (d := (0 : Int)) (h1 := fun _ => rfl) ⟨bI_length l, hl, fun hp => ⟨_, rfl, fun j hj => ?_⟩⟩
  rw [add_plain, cell_of_row w g j cs 5 fz h, ← Array.getElem?_toList, hcs]
  unfold Lib.byteCells bI
  rw [List.getElem?_map, List.getElem?_eq_getElem hj, List.getD_eq_getElem?_getD, List.getElem?_map, List.getElem?_eq_getElem hj]
  rfl
theorem C_bools (l : List Bool) (w : World) (g : Nat) (cs : Array Value) (hcs : cs.toList = l.map Value.bool) (h : w.heap[g]? = some (.cells cs 4 (0, 0))) (hl : l.length ≤ 9223372036854775807) : Kd.bool.C w (some ⟨g, 0, none⟩) l.length l := by
  refine Kd.C_of_reads (d := false) (h1 := fun _ => rfl) ⟨rfl, hl, fun hp => ⟨_, rfl, fun j hj => ?_⟩⟩
  rw [add_plain, blk_cell h j, ← Array.getElem?_toList, hcs]
  rw [List.getElem?_map, List.getElem?_eq_getElem hj, List.getD_eq_getElem?_getD, List.getElem?_eq_getElem hj]
  rfl
theorem dec_one (u : Nat) (h : u < 10) : Lib.decDigits u = [UInt8.ofNat (48 + u)] := by rw [Lib.decDigits, dif_pos h]
def wT1 : List UInt8 := [99, 32, 120, 10, 112, 32, 99, 110, 102, 32, 50, 32, 50, 10, 49, 32, 45, 50, 32, 48, 32, 50, 10, 48, 10]
def wT2 : List UInt8 := [112, 32, 99, 110, 102, 32, 50, 32, 49, 10, 51, 32, 48, 10]
def wP1 : List UInt8 := [112, 32, 99, 110, 102, 32, 50, 32, 50, 10, 49, 32, 45, 50, 32, 48, 10, 50, 32, 48, 10]
def wV1 : List UInt8 := [118, 32, 49, 32, 45, 50, 32, 48, 10]
theorem w_parse1 : dParse wT1 = ((2, [[1, -2], [2]]), 0, 0) := by kernel_rfl
theorem w_parse2 : dParse wT2 = ((0, []), 22, 2) := by kernel_rfl
theorem itoa_1 : Lib.itoa 1 = [49] := by unfold Lib.itoa; rw [if_neg (by omega), show (1 : Int).toNat = 1 from rfl, dec_one 1 (by omega)]; rfl
theorem itoa_2 : Lib.itoa 2 = [50] := by unfold Lib.itoa; rw [if_neg (by omega), show (2 : Int).toNat = 2 from rfl, dec_one 2 (by omega)]; rfl
theorem itoa_m2 : Lib.itoa (-2) = [45, 50] := by unfold Lib.itoa; rw [if_pos (by omega), show (-2 : Int).natAbs = 2 from rfl, dec_one 2 (by omega)]; rfl
theorem w_text : dText 2 [[1, -2], [2]] = wP1 := by
  simp only [dText, dClause, List.flatMap_cons, List.flatMap_nil, List.length_cons, List.length_nil]
  rw [itoa_1, itoa_2, itoa_m2, show (((0 + 1 + 1 : Nat)) : Int) = 2 from rfl, itoa_2]
  rfl
theorem w_values : dValues [true, false] = wV1 := by
  have e : dVW 1 [true, false] = [[49], [45, 50]] := by
    simp only [dVW, dVWord]
    rw [show ((1 : Nat) : Int) = 1 from rfl, show ((1 + 1 : Nat) : Int) = 2 from rfl, itoa_1, itoa_2]
    rfl
  unfold dValues dVState
  rw [e]
  rfl
theorem w_right : DRight 2 [[1, -2], [2]] := by
  refine ⟨by decide, by decide, by decide, by decide, ?_⟩
  intro c hc x hx
  simp only [List.mem_cons, List.not_mem_nil, or_false] at hc
  rcases hc with rfl | rfl
  · simp only [List.mem_cons, List.not_mem_nil, or_false] at hx
    rcases hx with rfl | rfl <;> (unfold Glit; omega)
  · simp only [List.mem_cons, List.not_mem_nil, or_false] at hx
    subst hx
    unfold Glit; omega
theorem cs_T1 : (#[.int .u8 99, .int .u8 32, .int .u8 120, .int .u8 10, .int .u8 112, .int .u8 32, .int .u8 99, .int .u8 110, .int .u8 102, .int .u8 32, .int .u8 50, .int .u8 32, .int .u8 50, .int .u8 10, .int .u8 49, .int .u8 32, .int .u8 45, .int .u8 50, .int .u8 32, .int .u8 48, .int .u8 32, .int .u8 50, .int .u8 10, .int .u8 48, .int .u8 10] : Array Value).toList = Lib.byteCells wT1 := by kernel_rfl
theorem cs_T2 : (#[.int .u8 112, .int .u8 32, .int .u8 99, .int .u8 110, .int .u8 102, .int .u8 32, .int .u8 50, .int .u8 32, .int .u8 49, .int .u8 10, .int .u8 51, .int .u8 32, .int .u8 48, .int .u8 10] : Array Value).toList = Lib.byteCells wT2 := by kernel_rfl
theorem lt_alloc {w0 w : World} (hlt : LT w0.heap.size w0) (hB : Below w0.heap.size w0 w) (o : Obj) : LT (w.alloc o).heap.size (w.alloc o) := hlt.pay (below_alloc hB o)
theorem parse_lit (w0 w : World) (l : List UInt8) (n c : Nat) (cs : Array Value) {fz : Nat × Nat} (hn : l.length = n) (hcs : cs.toList = Lib.byteCells l) (hl : l.length ≤ 100000) (hlt : LT w0.heap.size w0) (hB : Below w0.heap.size w0 w) (hc : n ≤ c) : Calls Tryd.prog 7 #[.slice (some ⟨w.heap.size, 0, none⟩) n c] (w.alloc (.cells cs 5 fz)) fun e w' => ∃ A cc, e = .returned (.tuple #[.agg #[.int .i64 (dParse l).1.1, .slice A (dParse l).1.2.length cc], .int .i64 (dParse l).2.1, .int .i64 (dParse l).2.2]) ∧ kcs.C w' A (dParse l).1.2.length (dParse l).1.2 ∧ (dParse l).1.2.length ≤ cc ∧ Below w0.heap.size w0 w' ∧ Below w.heap.size w w' := by
  subst hn
  refine (parse_calls ⟨w.heap.size, 0, none⟩ c l _ (C_lit l _ w.heap.size cs hcs (blk_new w _) (by omega)) hc hl (lt_alloc hlt hB _)).mono ?_
  rintro e w2 ⟨va, he, hR, hb⟩
  have h2 := below_step (below_alloc (Below.refl _ w) _) hb
  obtain ⟨A, cc, rfl⟩ := Kd.R_slice hR
  exact ⟨A, cc, he, (Kd.R_reads' hR).2.2, (Kd.R_reads' hR).2.1, below_step hB h2, h2⟩
theorem values_lit (w0 w : World) (g : Nat) (l : List Bool) (n c : Nat) (cs : Array Value) (hg : g = w.heap.size) (hn : l.length = n) (hcs : cs.toList = l.map Value.bool) (hl : l.length ≤ 1100000) (hlt : LT w0.heap.size w0) (hB : Below w0.heap.size w0 w) (hc : n ≤ c) : Calls Tryd.prog 14 #[.slice (some ⟨g, 0, none⟩) n c] (w.alloc (.cells cs 4 (0, 0))) fun e w' => e = .returned (.string (baOf (dValues l))) ∧ Below w0.heap.size w0 w' := by
  subst hn hg
  refine (values_calls (some ⟨w.heap.size, 0, none⟩) c l _ (C_bools l _ w.heap.size cs hcs (blk_new w _) (by omega)) hc hl (lt_alloc hlt hB _)).mono ?_
  rintro e w2 ⟨he, hb⟩
  exact ⟨he, below_step hB (below_step (below_alloc (Below.refl _ w) _) hb)⟩
theorem EM.less {w : World} {b base : Nat} {v : Value} {l : List UInt8} (h : EM w b v l) (hle : base ≤ b) : EM w base v l := by
  obtain ⟨g, cap, cur, fz, h0, h1, h2⟩ := h
  exact ⟨g, cap, cur, fz, h0, Nat.le_trans hle h1, h2⟩
theorem print_lit (w0 w : World) (A1 : Option Addr) (c1 : Nat) (o : Obj) (hC : kcs.C w A1 2 [[1, -2], [2]]) (hc : 2 ≤ c1) (hlt : LT w0.heap.size w0) (hB : Below w0.heap.size w0 w) : Calls Tryd.prog 12 #[.agg #[.int .i64 2, .slice A1 2 c1]] (w.alloc o) fun e w' => ∃ ge ce, e = .returned (.tuple #[.slice (some ⟨ge, 0, none⟩) 21 ce, .int .i64 0]) ∧ EM w' w.heap.size (.slice (some ⟨ge, 0, none⟩) 21 ce) wP1 ∧ Below w0.heap.size w0 w' := by
  have hdr : dRight 2 [[1, -2], [2]] = 0 := (dRight_zero _ _).2 w_right
  have hpr : (dPrint 2 [[1, -2], [2]]).2 = 0 := by unfold dPrint; rw [if_pos hdr]
  have hg : ∀ q ∈ ([[1, -2], [2]] : List (List Int)), q.length ≤ 140737488355328 ∧ ∀ x ∈ q, I32 x := by
    intro q hq
    simp only [List.mem_cons, List.not_mem_nil, or_false] at hq
    rcases hq with rfl | rfl
    · refine ⟨by simp, ?_⟩
      intro x hx
      simp only [List.mem_cons, List.not_mem_nil, or_false] at hx
      unfold I32; omega
    · refine ⟨by simp, ?_⟩
      intro x hx
      simp only [List.mem_cons, List.not_mem_nil, or_false] at hx
      unfold I32; omega
  have h := print_calls 2 A1 c1 [[1, -2], [2]] (w.alloc o) (Kd.C_below hC (below_alloc (Below.refl _ _) _)) hc hg (by simp) (by simp) (lt_alloc hlt hB _)
  rw [hpr] at h
  refine h.mono ?_
  rintro e w5 ⟨rv, he, ⟨hem, _⟩, hb⟩
  have hem1 := hem hdr
  rw [w_text] at hem1
  obtain ⟨ge, ce, rfl, _, _, _⟩ := hem1.slice
  rw [show wP1.length = 21 from rfl] at he hem1
  exact ⟨ge, ce, he, EM.less hem1 (by rw [World.size_alloc]; omega), below_step (below_alloc hB _) hb⟩
theorem str_lit {w : World} {base g n c : Nat} {l : List UInt8} (h : EM w base (.slice (some ⟨g, 0, none⟩) n c) l) (hn : l.length = n) (o : Obj) : Sem.run Tryd.prog (convert 22 9 (.slice (some ⟨g, 0, none⟩) n c)) (w.alloc o) = .ok (.string (baOf l)) (w.alloc o) := by
  subst hn
  rw [Kd.C_string (P := Tryd.prog) (c := c) Tryd.underlying22 Tryd.underlying5 Tryd.underlying9 (h.below (below_alloc (Below.refl _ _) o)).C, bI_str]
set_option maxHeartbeats 400000 in
set_option maxRecDepth 100000 in
theorem works_calls (w : World) (hlt : LT w.heap.size w) : Calls Tryd.prog 10 #[] w fun e w' => e = .returned (.bool true) ∧ Below w.heap.size w w' := by
  have HLT := Aside0.mk hlt
  obtain ⟨sP, hsP⟩ : ∃ sP, sP = baOf wP1 := ⟨_, rfl⟩
  obtain ⟨sV, hsV⟩ : ∃ sV, sV = baOf wV1 := ⟨_, rfl⟩
  have p1 : (sP.toList == ([112, 32, 99, 110, 102, 32, 50, 32, 50, 10, 49, 32, 45, 50, 32, 48, 10, 50, 32, 48, 10] : List UInt8)) = true := by rw [hsP, word_eq]; exact decide_eq_true rfl
  have p2 : (sV.toList == ([118, 32, 49, 32, 45, 50, 32, 48, 10] : List UInt8)) = true := by rw [hsV, word_eq]; exact decide_eq_true rfl
  have HSP := Aside0.mk hsP
  have HSV := Aside0.mk hsV
  have HDR := Aside0.mk ((dRight_zero _ _).2 w_right)
  have HPR := Aside0.mk (show (dPrint 2 [[1, -2], [2]]).2 = 0 by unfold dPrint; rw [if_pos HDR.out])
  clear hlt hsP hsV
  have TOK := Aside0.mk trivial
  have kc := fun (w : World) (C : Array Value) (n c : Nat) => Lib.run_convert_bytes_const (P := Tryd.prog) w 22 5 C n c Tryd.underlying22 Tryd.underlying5
  go_enter Tryd.func10, Tryd.ntmps10
  go_wp2_with (first | (go_at_call 7; have := TOK; clear TOK this; refine (parse_lit w w wT1 25 25 #[.int .u8 99, .int .u8 32, .int .u8 120, .int .u8 10, .int .u8 112, .int .u8 32, .int .u8 99, .int .u8 110, .int .u8 102, .int .u8 32, .int .u8 50, .int .u8 32, .int .u8 50, .int .u8 10, .int .u8 49, .int .u8 32, .int .u8 45, .int .u8 50, .int .u8 32, .int .u8 48, .int .u8 32, .int .u8 50, .int .u8 10, .int .u8 48, .int .u8 10] rfl cs_T1 (by decide) HLT.out (Below.refl _ _) (Nat.le_refl _)).mono ?_; rw [w_parse1]; rintro e w2 ⟨A1, c1, rfl, hC, hcc, hb, _⟩; have HB2 := Aside0.mk hb; have HC2 := Aside0.mk hC; have HE2 := Aside0.mk hcc; clear hC hb hcc) | (go_at_call 12; refine (print_lit w w2 A1 c1 _ HC2.out HE2.out HLT.out HB2.out).mono ?_; rintro e w5 ⟨ge, ce, rfl, hem, hb⟩; have HEM5 := Aside0.mk hem; have HB5 := Aside0.mk hb; clear hem hb) | (go_at_call 7; refine (parse_lit w w5 wT2 14 14 #[.int .u8 112, .int .u8 32, .int .u8 99, .int .u8 110, .int .u8 102, .int .u8 32, .int .u8 50, .int .u8 32, .int .u8 49, .int .u8 10, .int .u8 51, .int .u8 32, .int .u8 48, .int .u8 10] rfl cs_T2 (by decide) HLT.out HB5.out (Nat.le_refl _)).mono ?_; rw [w_parse2]; rintro e w7 ⟨A7, c7, rfl, _, _, hb, hb5⟩; have HB7 := Aside0.mk hb; have hcv := str_lit (HEM5.out.below hb5) rfl (.cells #[.int .i64 0, .slice A7 0 c7] 25); rw [← HSP.out] at hcv; clear hb hb5) | (go_at_call 14; refine (values_lit w (w7.alloc (.cells #[.int .i64 0, .slice A7 0 c7] 25)) (w7.heap.size + 1) [true, false] 2 2 #[.bool true, .bool false] (World.size_alloc _ _).symm rfl rfl (by decide) HLT.out (below_alloc HB7.out _) (Nat.le_refl _)).mono ?_; rw [w_values, ← HSV.out]; rintro e w10 ⟨rfl, hb⟩; have HB10 := Aside0.mk hb; clear hb))
  go_ret
  exact ⟨rfl, HB10.out⟩
end Go.Proofs.YtigloobbpcnnhaaDoor.PB
end

section
namespace Go.Proofs.YtigloobbpcnnhaaDoor.PB
open Go.RowKit Go.Proofs.YtigloobbpcnnhaaDoorW.PrintWords Go.Proofs.YtigloobbpcnnhaaDoorW.PrintLast Go.Proofs.YtigloobbpcnnhaaDoorW.PrintMore
set_option linter.unusedVariables false
set_option linter.unusedSimpArgs false
/-! ### Words for the laws -/
section
variable {P : Program} {ops : Array Oper} {rest : List Oper} {o : Oper} {a : Act} {Q : Exit → Act → World → Prop}
/-- A text's bytes, as an event. -/
theorem text_event {W : World} (src dst : TypeId) {u : TypeDesc} (x : Operand) (ho : o.op = .convert src dst x) (hgd : o.guard = none) (l : List UInt8) (hx : a.eval x = .string (baOf l)) (hs : P.underlying src = some u) (hd : P.underlying dst = some (.slice 5)) (he : P.underlying 5 = some (.int .u8)) (hl : l.length ≤ 9223372036854775807)
    (h : ∀ g c w1, (Kd.int .u8).C w1 (some ⟨g, 0, none⟩) l.length (bI l) → l.length ≤ c → Below W.heap.size W w1 → wpList P ops Q rest (a.put o.dst (.slice (some ⟨g, 0, none⟩) l.length c)) w1) : wpList P ops Q (o :: rest) a W := by
  have hrun : (execOp a.eval o).run P W = .ok (.value (.slice (some ⟨W.heap.size, 0, none⟩) l.length (grownCap W (baOf l).size 0 5))) (Lib.bytesWorld W 5 (baOf l)) := by
    unfold execOp
    simp only [ho, hx]
    have := print_bytes (P := P) src dst 5 hs hd he (baOf l) W
    simp [this, Sem.run_bind, Sem.run_pure, Result.andThen, baOf_size]
  have hem := em_bytes W l hl
  obtain ⟨g, c, e, hg, hg2, hc⟩ := hem.slice
  cases e
  refine Kd.event_run hgd hrun ?_
  exact h _ _ _ hem.C hc (bytes_below (Below.refl _ _) (Nat.le_refl _) 5 (baOf l))
end
theorem sum_mem : ∀ (cs : List (List Int)) (c : List Int), c ∈ cs → c.length ≤ (cs.map List.length).sum := by
  intro cs
  induction cs with
  | nil => intro c h; cases h
  | cons d cs ih =>
    intro c h
    rw [List.map_cons, List.sum_cons]
    rcases List.mem_cons.1 h with rfl | h
    · omega
    · have := ih c h; omega
theorem dParse_small (l : List UInt8) : (dParse l).1.2.length + ((dParse l).1.2.map List.length).sum ≤ l.length ∧ ∀ c ∈ (dParse l).1.2, c.length ≤ l.length := by
  rcases dParse_kinds l with ⟨e, n, h, _⟩ | ⟨v, cs, h, _, hs⟩
  · rw [h]
    exact ⟨Nat.zero_le _, fun c hc => by cases hc⟩
  · rw [h]
    refine ⟨by show cs.length + (cs.map List.length).sum ≤ l.length; omega, fun c hc => ?_⟩
    have := sum_mem cs c hc
    omega
/-- Parse of bytes that are read somewhere. -/
theorem parse_c (w0 w : World) (ad : Addr) (l : List UInt8) (c : Nat) (hC : (Kd.int .u8).C w (some ad) l.length (bI l)) (hc : l.length ≤ c) (hl : l.length ≤ 100000) (hlt : LT w0.heap.size w0) (hB : Below w0.heap.size w0 w) :
    Calls Tryd.prog 7 #[.slice (some ad) l.length c] w fun e w' => ∃ A cc, e = .returned (.tuple #[.agg #[.int .i64 (dParse l).1.1, .slice A (dParse l).1.2.length cc], .int .i64 (dParse l).2.1, .int .i64 (dParse l).2.2]) ∧ kcs.C w' A (dParse l).1.2.length (dParse l).1.2 ∧ (dParse l).1.2.length ≤ cc ∧ Below w0.heap.size w0 w' ∧ Below w.heap.size w w' := by
  refine (parse_calls ad c l w hC hc hl (hlt.pay hB)).mono ?_
  rintro e w2 ⟨va, he, hR, hb⟩
  obtain ⟨A, cc, rfl⟩ := Kd.R_slice hR
  exact ⟨A, cc, he, (Kd.R_reads' hR).2.2, (Kd.R_reads' hR).2.1, below_step hB hb, hb⟩
/-- The same formula twice. -/
theorem same_calls (w0 w : World) (v : Int) (cs : List (List Int)) (A A' : Option Addr) (c c' : Nat) (hC : kcs.C w A cs.length cs) (hc : cs.length ≤ c) (hC' : kcs.C w A' cs.length cs) (hc' : cs.length ≤ c') (hl : cs.length ≤ 1000000000 ∧ ∀ q ∈ cs, q.length ≤ 1000000000) (hB : Below w0.heap.size w0 w) :
    Calls Tryd.prog 9 #[.agg #[.int .i64 v, .slice A cs.length c], .agg #[.int .i64 v, .slice A' cs.length c']] w fun e w' => e = .returned (.bool true) ∧ Below w0.heap.size w0 w' := by
  obtain ⟨k, hk⟩ := (sameF_ev v cs (by omega) (fun q hq => by have := hl.2 q hq; omega)).rounds
  refine (threshingkit_SameFormula.calls k v A c cs v A' c' cs true w hC hc hC' hc' hk).mono ?_
  rintro e w2 ⟨rfl, hb⟩
  exact ⟨rfl, below_step hB hb⟩
theorem works_c (w0 w : World) (hlt : LT w0.heap.size w0) (hB : Below w0.heap.size w0 w) : Calls Tryd.prog 10 #[] w fun e w' => e = .returned (.bool true) ∧ Below w0.heap.size w0 w' := by
  refine (works_calls w (hlt.pay hB)).mono ?_
  rintro e w2 ⟨rfl, hb⟩
  exact ⟨rfl, below_step hB hb⟩
/-! ### Blanks: the pure part -/
theorem blank_1 (s : List UInt8) : (dParse ([10] ++ s)).1 = (dParse s).1 ∧ (dParse ([10] ++ s)).2.1 = (dParse s).2.1 ∧ (dParse ([10] ++ s)).2.2 = if (dParse s).2.1 = 0 then 0 else (dParse s).2.2 + 1 :=
  dParse_blank [] s (by decide) rfl
theorem blank_2 (s : List UInt8) : (dParse ([32, 9, 13, 10] ++ s)).1 = (dParse s).1 ∧ (dParse ([32, 9, 13, 10] ++ s)).2.1 = (dParse s).2.1 ∧ (dParse ([32, 9, 13, 10] ++ s)).2.2 = if (dParse s).2.1 = 0 then 0 else (dParse s).2.2 + 1 :=
  dParse_blank [32, 9, 13] s (by decide) rfl
theorem blank_3 (r s : List UInt8) (hr : 10 ∉ r) : (dParse (([99] ++ r ++ [10]) ++ s)).1 = (dParse s).1 ∧ (dParse (([99] ++ r ++ [10]) ++ s)).2.1 = (dParse s).2.1 ∧ (dParse (([99] ++ r ++ [10]) ++ s)).2.2 = if (dParse s).2.1 = 0 then 0 else (dParse s).2.2 + 1 := by
  have e : ([99] ++ r ++ [10]) ++ s = (99 :: r) ++ 10 :: s := by simp
  rw [e]
  refine dParse_blank (99 :: r) s (fun h => ?_) rfl
  rcases List.mem_cons.1 h with h | h
  · exact absurd h (by decide)
  · exact hr h
end Go.Proofs.YtigloobbpcnnhaaDoor.PB
end
