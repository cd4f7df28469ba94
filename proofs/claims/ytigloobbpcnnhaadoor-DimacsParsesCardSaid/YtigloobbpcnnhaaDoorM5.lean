import Derived.Test.YtigloobbpcnnhaaDoorM1
import Derived.Lib.Builder
import Derived.Laws.Externs
import Derived.Lib.UnsafeStr
import Derived.Test.YtigloobbpcnnhaaDoorM2
import Derived.Test.YtigloobbpcnnhaaDoorM4
import Derived.Outline
section
namespace Go.Proofs.YtigloobbpcnnhaaDoor.PB
open Go.RowKit Go.Proofs.YtigloobbpcnnhaaDoorW.PrintWords Go.Proofs.YtigloobbpcnnhaaDoorW.PrintLast Go.Proofs.YtigloobbpcnnhaaDoorW.PrintMore
set_option linter.unusedVariables false
set_option linter.unusedSimpArgs false
theorem bsz49 : (Tryd.prog.info? 72).map (·.size) = some 1 := by kernel_rfl
theorem bsz23 : (Tryd.prog.info? 22).map (·.size) = some 1 := by kernel_rfl
theorem bsz51 : (Tryd.prog.info? 74).map (·.size) = some 2 := by kernel_rfl
theorem blies51 : liesAt Tryd.prog Tryd.prog.depth 74 (2 / Tryd.prog.cellsOf 74) 0 74 1 = true := by kernel_rfl
/-- Types and number of cells of a block. -/
theorem shape_blk {w : World} {g t : Nat} {cs : Array Value} (h : w.heap[g]? = some (.cells cs t (0, 0))) : w.shape? g = some (t, cs.size) := by
  simp [World.shape?, h]
set_option maxHeartbeats 1000000 in
set_option maxRecDepth 100000 in
theorem cc_calls (g : Nat) (p : Option Addr) (v : Value) (w : World) (hg : w.heap[g]? = some (.cells #[.pointer p, v] 74 (0, 0))) (hp : p = none ∨ p = some ⟨g, 0, none⟩) :
    Calls Tryd.prog 46 #[.pointer (some ⟨g, 0, none⟩)] w fun e w' => e = .returned (.tuple #[]) ∧ w'.heap[g]? = some (.cells #[.pointer (some ⟨g, 0, none⟩), v] 74 (0, 0)) ∧ SameBut g w w' := by
  have HG := Aside0.mk hg
  have hcell := (blk_cell hg 0).trans (show _ = some (Value.pointer p) from rfl)
  have hfz := blk_frozen hg 0
  have hsh : w.shape? g = some (74, 2) := shape_blk hg
  obtain ⟨j, hj, hjs⟩ := Option.map_eq_some_iff.1 bsz51
  clear hg
  go_enter Tryd.func46, Tryd.ntmps46
  rcases hp with rfl | rfl
  · go_wp2
    rw [Lib.run_to_unsafe w ⟨g, 0, none⟩ Tryd.underlying72 Tryd.underlying100 hj (by rw [hjs]; decide) hsh (Nat.zero_lt_succ 1)]
    simp only [Result.andThen]
    rw [Oper.upon_value]
    go_wp2
    rw [run_callFunc_extern Tryd.func56 (by kernel_rfl) (by kernel_rfl) (by kernel_rfl) (e := Extern.AbiNoEscape.same) (by kernel_rfl)]
    rw [Lib.run_noEscape]
    simp only [Result.andThen]
    rw [Oper.upon_value]
    go_wp2
    rw [Lib.run_from_unsafe w ⟨g, 0, none⟩ Tryd.underlying100 Tryd.underlying72 hj hsh blies51]
    simp only [Result.andThen]
    rw [Oper.upon_value]
    go_wp2
    go_end0
    exact ⟨rfl, blk_put HG.out 0 _ rfl, ⟨rfl, rfl, rfl, by simp [World.setCell], fun k hk => Below.heap_setCell w ⟨g, 0, none⟩ _ k hk⟩⟩
  · go_wp2
    rw [Lib.run_neq_ptr_same w _ Tryd.underlying72 hj]
    go_wp2
    go_end0
    exact ⟨rfl, HG.out, SameBut.refl _ _⟩

/-- A builder (block g, one of the own blocks from base on) that holds bs. -/
structure BD (base g : Nat) (bs : List Int) (w : World) : Prop where
  ex : ∃ (p : Option Addr) (v : Value), w.heap[g]? = some (.cells #[.pointer p, v] 74 (0, 0)) ∧ (p = none ∨ p = some ⟨g, 0, none⟩) ∧ Kd.R (Kd.int .u8) 5 w base (fun _ => True) v bs
  lt : base ≤ g
theorem info5r : (Tryd.prog.info? 5).map (fun i => (i.zero, i.size, i.bytes)) = some (some (.int .u8 0), 1, 1) := by kernel_rfl
set_option maxHeartbeats 1000000 in
set_option maxRecDepth 100000 in
theorem ws_calls (base g : Nat) (bs : List Int) (s : ByteArray) (w : World) (h : BD base g bs w) (hl : bs.length + s.size ≤ 140737488355328) :
    Calls Tryd.prog 33 #[.pointer (some ⟨g, 0, none⟩), .string s] w fun e w' => e = .returned (.tuple #[.int .i64 s.size, .nilIface]) ∧ BD base g (bs ++ bytesOf s) w' ∧ Below base w w' ∧ KT [74, 5] w w' := by
  obtain ⟨p, v, hg, hp, hR⟩ := h.ex
  have hlt := h.lt
  obtain ⟨A, c, rfl⟩ := Kd.R_slice hR
  have hb0 := Aside0.mk (show base ≤ w.heap.size by have := blk_lt hg; omega)
  have HG := Aside0.mk hg
  have HR := Aside0.mk hR
  have HL := Aside0.mk hl
  have HP := Aside0.mk hp
  clear hg hR hl hp h
  go_enter Tryd.func33, Tryd.ntmps33
  go_wp2_with (first | (go_at_call 46; refine (cc_calls g p _ w HG.out HP.out).mono ?_; rintro e w1 ⟨rfl, h1, hs⟩; have HG1 := Aside0.mk h1; have HS1 := Aside0.mk hs; have HR1 := Aside0.mk (hs.Rt HR.out HG.out (by decide)); have hcell := (blk_cell h1 1).trans (show _ = some (Value.slice A bs.length c) from rfl); have hfz := blk_frozen h1 1; clear h1 hs) | ((with_reducible refine gate_builtin (b := .append) (xs := #[.tmp 12, .tmp 13]) rfl ?_); at_builtin; refine print_append_str (w0 := w1) base rfl (.tmp 12) (.tmp 13) 22 9 5 rfl Tryd.underlying22 Tryd.underlying9 info5r (.slice A bs.length c) bs s rfl rfl (Kd.own_of_R HR1.out) (Below.refl _ _) (by rw [HS1.out.size]; exact hb0.out) HL.out ?_; intro v2 w2 ho hb hg2; have HO2 := Aside0.mk ho; have HB2 := Aside0.mk hb; have HG2 := Aside0.mk (blk_grown HG1.out hg2 (Kd.R_ne HR1.out HG1.out (by decide))); have HK2 := Aside0.mk (((HS1.out.kt (KT.refl [74, 5] w) HG.out (by decide)).grown hg2 (R_row HR1.out (by decide)))); clear ho hb hg2 hcell hfz; have hcell := (blk_cell HG2.out 1).trans (show _ = some (Value.slice A bs.length c) from rfl); have hfz := blk_frozen HG2.out 1) | ((with_reducible refine gate_store (t := 22) (p := 16) rfl ?_); refine store_one 22 16 (.tmp 14) rfl rfl rfl v2 #[.pointer (some ⟨g, 0, none⟩), v2] rfl rfl HG2.out (Kd.R_val (Kd.R_of_own (h1 := fun _ => rfl) (ok := fun _ => True) HO2.out (fun _ _ => trivial))).1 bsz23 (show 1 + 1 ≤ 2 by omega) (Kd.R_val (Kd.R_of_own (h1 := fun _ => rfl) (ok := fun _ => True) HO2.out (fun _ _ => trivial))).2 rfl ?_; intro w8 hw8 hsb; have HW8 := Aside0.mk hw8; have HS8 := Aside0.mk hsb; clear hw8 hsb))
  go_ret2
  exact ⟨rfl, ⟨⟨some ⟨g, 0, none⟩, v2, HW8.out, .inr rfl, HS8.out.Rt (Kd.R_of_own (h1 := fun _ => rfl) (ok := fun _ => True) HO2.out (fun _ _ => trivial)) HG2.out (by decide)⟩, hlt⟩, HS8.out.below ((HS1.out.below (Below.refl base w) hlt).trans HB2.out) hlt, HS8.out.kt HK2.out HG2.out (by decide)⟩
/-- A builder that nothing has been written into. -/
theorem BD.fresh (w : World) : BD w.heap.size w.heap.size [] (w.alloc (.cells #[.pointer none, .slice none 0 0] 74 (0, 0))) := ⟨⟨none, .slice none 0 0, blk_new w _, .inl rfl, Kd.R_nil _ _ _ _ _⟩, Nat.le_refl _⟩
theorem BD.below {base g : Nat} {bs : List Int} {w w' : World} (h : BD base g bs w) (hb : Below w.heap.size w w') : BD base g bs w' := by
  obtain ⟨p, v, hg, hp, hR⟩ := h.ex
  exact ⟨⟨p, v, blk_below hg hb, hp, Kd.R_below hR hb⟩, h.lt⟩
theorem BD.same {base g k t : Nat} {bs : List Int} {w w' : World} {cs : Array Value} (h : BD base g bs w) (hs : SameBut k w w') (hk : w.heap[k]? = some (.cells cs t (0, 0))) (h1 : t ≠ 74) (h5 : t ≠ 5) : BD base g bs w' := by
  obtain ⟨p, v, hg, hp, hR⟩ := h.ex
  exact ⟨⟨p, v, hs.other hg (blk_ne hg hk (Ne.symm h1)), hp, hs.Rt hR hk (fun q hq => by
    rcases List.mem_cons.1 hq with rfl | hq
    · exact Ne.symm h5
    · exact absurd hq (by simp [Kd.E, Kd.int, Kd.scalar]))⟩, h.lt⟩
end Go.Proofs.YtigloobbpcnnhaaDoor.PB
end

section
namespace Go.Proofs.YtigloobbpcnnhaaDoor.PB
open Go.RowKit Go.Proofs.YtigloobbpcnnhaaDoorW.PrintWords Go.Proofs.YtigloobbpcnnhaaDoorW.PrintLast Go.Proofs.YtigloobbpcnnhaaDoorW.PrintMore
set_option linter.unusedVariables false
set_option linter.unusedSimpArgs false
/-! ### Values -/
theorem nsz9 : (Tryd.prog.info? 9).map (·.size) = some 1 := by kernel_rfl
theorem baOf_append (a b : List UInt8) : baOf a ++ baOf b = baOf (a ++ b) := by
  apply ByteArray.ext
  rw [ByteArray.data_append]
  apply Array.ext'
  simp [baOf]
theorem bI_append (a b : List UInt8) : bI (a ++ b) = bI a ++ bI b := by unfold bI; rw [List.map_append]
theorem bytesOf_baOf (l : List UInt8) : bytesOf (baOf l) = bI l := rfl
theorem baOf_size (l : List UInt8) : (baOf l).size = l.length := rfl
/-- What is written, and the row that is open. -/
structure VS (base g3 g4 : Nat) (st : List UInt8 × List UInt8) (W : World) : Prop where
  bd : BD base g3 (bI st.1) W
  row : W.heap[g4]? = some (.cells #[.string (baOf st.2)] 9 (0, 0))
  b4 : base ≤ g4
theorem VS.below {base g3 g4 : Nat} {st : List UInt8 × List UInt8} {W W' : World} (h : VS base g3 g4 st W) (hb : Below W.heap.size W W') : VS base g3 g4 st W' := ⟨h.bd.below hb, blk_below h.row hb, h.b4⟩
theorem KT.cells {T : List Nat} {a b : World} (h : KT T a b) {i : Nat} {cs : Array Value} {t : TypeId} (hi : a.heap[i]? = some (.cells cs t (0, 0))) (ht : t ∉ T) : b.heap[i]? = some (.cells cs t (0, 0)) := h.blk i cs t _ hi ht
set_option maxHeartbeats 1000000 in
set_option maxRecDepth 100000 in
theorem put_calls (base g3 g4 : Nat) (st : List UInt8 × List UInt8) (x : List UInt8) (W : World) (h : VS base g3 g4 st W) (hr : st.2.length ≤ 1000) (hx : x.length ≤ 1000) (ho : st.1.length ≤ 1000000000) :
    Calls Tryd.prog 32 #[.string (baOf x), .pointer (some ⟨g4, 0, none⟩), .pointer (some ⟨g3, 0, none⟩)] W fun e w' => e = .returned (.tuple #[]) ∧ VS base g3 g4 (dPut st x) w' ∧ Below base W w' := by
  have H := Aside0.mk h
  obtain ⟨r, hrB⟩ : ∃ r, r = baOf st.2 := ⟨_, rfl⟩
  obtain ⟨y, hyB⟩ : ∃ y, y = baOf x := ⟨_, rfl⟩
  have hrs : r.size = st.2.length := by rw [hrB]; rfl
  have hys : y.size = x.length := by rw [hyB]; rfl
  have hrz : r.size ≤ 1000 := by omega
  have hyz : y.size ≤ 1000 := by omega
  have hrow := h.row
  rw [← hrB] at hrow
  have hc4 := (blk_cell hrow 0).trans (show _ = some (Value.string r) from rfl)
  have hf4 := blk_frozen hrow 0
  have HROW := Aside0.mk hrow
  have HRB := Aside0.mk hrB
  have HYB := Aside0.mk hyB
  have hw : (r.toList == ([118] : List UInt8)) = decide (st.2 = [118]) := by rw [hrB]; exact word_eq st.2 [118]
  rw [← hyB]
  by_cases h1 : 78 < st.2.length + 1 + x.length
  · have t1 : decide ((78 : Int) < (r.size : Int) + 1 + (y.size : Int)) = true := decide_eq_true (by omega)
    have t1b : decide (78 < r.size + 1 + y.size) = true := decide_eq_true (by omega)
    by_cases h2 : st.2 = [118]
    · have hp := Aside0.mk (show dPut st x = (st.1, st.2 ++ [32] ++ x) by unfold dPut; rw [if_neg (fun h => h.2 h2)])
      have t2 : (r.toList == ([118] : List UInt8)) = true := by rw [hw]; exact decide_eq_true h2
      have t2n : (r.toList != ([118] : List UInt8)) = false := by rw [bne, t2]; rfl
      clear hw h1 h2 hrow hrB hyB h hrs hys ho hr hx
      have z0 : 1 + y.size ≤ 9223372036854775807 := by omega
      have z1 : decide (1 + y.size ≤ 9223372036854775807) = true := decide_eq_true z0
      have z2 : (9223372036854775807 < 1 + y.size) = False := eq_false (Nat.not_lt.2 z0)
      replace z0 := eq_true z0
      have q0 : r.size + (1 + y.size) ≤ 9223372036854775807 := by omega
      have q1 : decide (r.size + (1 + y.size) ≤ 9223372036854775807) = true := decide_eq_true q0
      have q2 : (9223372036854775807 < r.size + (1 + y.size)) = False := eq_false (Nat.not_lt.2 q0)
      replace q0 := eq_true q0
      go_enter Tryd.func32, Tryd.ntmps32
      go_wp2_with ((with_reducible refine gate_store (t := 9) (p := 1) rfl ?_); refine store_one 9 1 (.tmp 21) rfl rfl rfl (.string (r ++ ((⟨#[32]⟩ : ByteArray) ++ y))) #[.string (r ++ ((⟨#[32]⟩ : ByteArray) ++ y))] rfl rfl HROW.out rfl nsz9 (show 0 + 1 ≤ 1 by omega) rfl rfl ?_; intro w2 hw2 hsb; have HW2 := Aside0.mk hw2; have HSB := Aside0.mk hsb; clear hw2 hsb)
      go_end0
      refine ⟨rfl, ?_, HSB.out.below (Below.refl _ _) H.out.b4⟩
      rw [hp.out]
      refine ⟨H.out.bd.same HSB.out HROW.out (by decide) (by decide), ?_, H.out.b4⟩
      rw [HW2.out, HRB.out, HYB.out, show (⟨#[32]⟩ : ByteArray) = baOf [32] from rfl, baOf_append, baOf_append, List.append_assoc]
    · have hp := Aside0.mk (show dPut st x = (st.1 ++ st.2 ++ [10], [118, 32] ++ x) by unfold dPut; rw [if_pos ⟨h1, h2⟩])
      have t2 : (r.toList == ([118] : List UInt8)) = false := by rw [hw]; exact decide_eq_false h2
      have t2n : (r.toList != ([118] : List UInt8)) = true := by rw [bne, t2]; rfl
      have HL := Aside0.mk (show (bI st.1).length + (r ++ ⟨#[10]⟩ : ByteArray).size ≤ 140737488355328 by rw [bI_length, ByteArray.size_append]; show st.1.length + (r.size + 1) ≤ _; omega)
      clear hw h1 h2 hrow hrB hyB h hrs hys ho hr hx
      have z0 : 1 + y.size ≤ 9223372036854775807 := by omega
      have z1 : decide (1 + y.size ≤ 9223372036854775807) = true := decide_eq_true z0
      have z2 : (9223372036854775807 < 1 + y.size) = False := eq_false (Nat.not_lt.2 z0)
      replace z0 := eq_true z0
      have q0 : r.size + 1 ≤ 9223372036854775807 := by omega
      have q1 : decide (r.size + 1 ≤ 9223372036854775807) = true := decide_eq_true q0
      have q2 : (9223372036854775807 < r.size + 1) = False := eq_false (Nat.not_lt.2 q0)
      replace q0 := eq_true q0
      have x_0 : 1 + (1 + y.size) ≤ 9223372036854775807 := by omega
      have x_1 : decide (1 + (1 + y.size) ≤ 9223372036854775807) = true := decide_eq_true x_0
      have x_2 : (9223372036854775807 < 1 + (1 + y.size)) = False := eq_false (Nat.not_lt.2 x_0)
      replace x_0 := eq_true x_0
      go_enter Tryd.func32, Tryd.ntmps32
      go_wp2_with (first | (go_at_call 33; refine (ws_calls base g3 (bI st.1) (r ++ (⟨#[10]⟩ : ByteArray)) W H.out.bd HL.out).mono ?_; rintro e w2 ⟨rfl, hbd, hb, hk⟩; have HBD := Aside0.mk hbd; have HB := Aside0.mk hb; have HR2 := Aside0.mk (hk.cells HROW.out (by decide)); clear hbd hb hk hc4 hf4) | ((with_reducible refine gate_store (t := 9) (p := 1) rfl ?_); refine store_one 9 1 (.const (.string ⟨#[118]⟩)) rfl rfl rfl (.string ⟨#[118]⟩) #[.string ⟨#[118]⟩] rfl rfl HR2.out rfl nsz9 (show 0 + 1 ≤ 1 by omega) rfl rfl ?_; intro w3 hw2 hsb; have HW3 := Aside0.mk hw2; have HSB3 := Aside0.mk hsb; have hc4 := (blk_cell hw2 0).trans (show _ = some (Value.string ⟨#[118]⟩) from rfl); have hf4 := blk_frozen hw2 0; clear hw2 hsb))
      have HW4 := Aside0.mk (blk_put HW3.out 0 (.string ((⟨#[118]⟩ : ByteArray) ++ ((⟨#[32]⟩ : ByteArray) ++ y))) (show _ = #[.string ((⟨#[118]⟩ : ByteArray) ++ ((⟨#[32]⟩ : ByteArray) ++ y))] from rfl))
      have HSB4 := Aside0.mk (show SameBut g4 w3 (w3.setCell ⟨g4, 0, none⟩ (.string ((⟨#[118]⟩ : ByteArray) ++ ((⟨#[32]⟩ : ByteArray) ++ y)))) from ⟨rfl, rfl, rfl, by simp [World.setCell], fun k hk => Below.heap_setCell w3 ⟨g4, 0, none⟩ _ k hk⟩)
      go_end0
      refine ⟨rfl, ?_, HSB4.out.below (HSB3.out.below HB.out H.out.b4) H.out.b4⟩
      rw [hp.out]
      refine ⟨?_, ?_, H.out.b4⟩
      · have := (HBD.out.same HSB3.out HR2.out (by decide) (by decide)).same HSB4.out HW3.out (by decide) (by decide)
        rw [HRB.out, show (⟨#[10]⟩ : ByteArray) = baOf [10] from rfl, baOf_append, bytesOf_baOf, ← bI_append, ← List.append_assoc] at this
        exact this
      · rw [HW4.out, HYB.out, show (⟨#[32]⟩ : ByteArray) = baOf [32] from rfl, show (⟨#[118]⟩ : ByteArray) = baOf [118] from rfl, baOf_append, baOf_append]
        rfl
  · have t1 : decide ((78 : Int) < (r.size : Int) + 1 + (y.size : Int)) = false := decide_eq_false (by omega)
    have t1b : decide (78 < r.size + 1 + y.size) = false := decide_eq_false (by omega)
    have hp := Aside0.mk (show dPut st x = (st.1, st.2 ++ [32] ++ x) by unfold dPut; rw [if_neg (fun h => h1 h.1)])
    clear hw h1 hrow hrB hyB h hrs hys ho hr hx
    have z0 : 1 + y.size ≤ 9223372036854775807 := by omega
    have z1 : decide (1 + y.size ≤ 9223372036854775807) = true := decide_eq_true z0
    have z2 : (9223372036854775807 < 1 + y.size) = False := eq_false (Nat.not_lt.2 z0)
    replace z0 := eq_true z0
    have q0 : r.size + (1 + y.size) ≤ 9223372036854775807 := by omega
    have q1 : decide (r.size + (1 + y.size) ≤ 9223372036854775807) = true := decide_eq_true q0
    have q2 : (9223372036854775807 < r.size + (1 + y.size)) = False := eq_false (Nat.not_lt.2 q0)
    replace q0 := eq_true q0
    go_enter Tryd.func32, Tryd.ntmps32
    go_wp2_with ((with_reducible refine gate_store (t := 9) (p := 1) rfl ?_); refine store_one 9 1 (.tmp 21) rfl rfl rfl (.string (r ++ ((⟨#[32]⟩ : ByteArray) ++ y))) #[.string (r ++ ((⟨#[32]⟩ : ByteArray) ++ y))] rfl rfl HROW.out rfl nsz9 (show 0 + 1 ≤ 1 by omega) rfl rfl ?_; intro w2 hw2 hsb; have HW2 := Aside0.mk hw2; have HSB := Aside0.mk hsb; clear hw2 hsb)
    go_end0
    refine ⟨rfl, ?_, HSB.out.below (Below.refl _ _) H.out.b4⟩
    rw [hp.out]
    refine ⟨H.out.bd.same HSB.out HROW.out (by decide) (by decide), ?_, H.out.b4⟩
    rw [HW2.out, HRB.out, HYB.out, show (⟨#[32]⟩ : ByteArray) = baOf [32] from rfl, baOf_append, baOf_append, List.append_assoc]
end Go.Proofs.YtigloobbpcnnhaaDoor.PB
end

section
namespace Go.Proofs.YtigloobbpcnnhaaDoor.PB
open Go.RowKit Go.Proofs.YtigloobbpcnnhaaDoorW.PrintWords Go.Proofs.YtigloobbpcnnhaaDoorW.PrintLast Go.Proofs.YtigloobbpcnnhaaDoorW.PrintMore
set_option linter.unusedVariables false
set_option linter.unusedSimpArgs false
/-! ### Values, whole -/
theorem itoa_calls (n : Int) (w : World) (h0 : -9223372036854775808 ≤ n) (h1 : n ≤ 9223372036854775807) (hlt : LF w) :
    Calls Tryd.prog 28 #[.int .i64 n] w fun e w' => e = .returned (.string (baOf (Lib.itoa n))) ∧ Below w.heap.size w w' := by
  refine (Tryd.strconv_Itoa n h0 h1 w hlt.tab).mono ?_
  rintro e w' ⟨he, k, os, rfl⟩
  exact ⟨he, Lib.below_grow _ w (Nat.le_refl _) k os⟩
theorem bI_cells (l : List UInt8) : encs (Value.int .u8) (bI l) = Lib.byteCells l := by
  unfold encs bI Lib.byteCells
  rw [List.map_map]
  rfl
theorem bstring_calls (base g : Nat) (l : List UInt8) (w : World) (h : BD base g (bI l) w) :
    Calls Tryd.prog 34 #[.pointer (some ⟨g, 0, none⟩)] w fun e w' => e = .returned (.string (baOf l)) ∧ Below base w w' ∧ Lib.OthersKept 5 (some g) w w' := by
  obtain ⟨p, v, hg, hp, hR⟩ := h.ex
  have ho := Kd.own_of_R hR
  rw [bI_cells] at ho
  have hl : (Lib.byteCells l).length = (bI l).length := by rw [← bI_cells, encs_length]
  have hat : Lib.BuilderAtF 74 5 base g (.pointer p) (Lib.byteCells l) w := ⟨h.lt, v, hg, World.ownsRowF_of (by rw [hl]; exact ho), (Kd.R_ne hR hg (by decide)).symm⟩
  have hb : Lib.IsBuilderF 74 5 base g (Lib.byteCells l) w := by
    rcases hp with rfl | rfl
    · exact .inl hat
    · exact .inr hat
  refine (Tryd.Builder_String_any_k base g l w hb (Nat.le_trans h.lt (Nat.le_of_lt (blk_lt hg)))).mono ?_
  rintro e w' ⟨rfl, _, h1, h2⟩
  exact ⟨rfl, h1, h2⟩
theorem dVW_snoc (b : Bool) : ∀ (l : List Bool) (n : Nat), dVW n (l ++ [b]) = dVW n l ++ [dVWord (n + l.length) b]
  | [], n => rfl
  | a :: l, n => by
    rw [List.cons_append, dVW, dVW, dVW_snoc b l (n + 1), List.length_cons, show n + 1 + l.length = n + (l.length + 1) by omega]
    rfl
/-- Behind k values. -/
def dVSt (m : List Bool) (k : Nat) : List UInt8 × List UInt8 := (dVW 1 (m.take k)).foldl dPut ([], [118])
theorem dVSt_succ (m : List Bool) (k : Nat) (h : k < m.length) : dVSt m (k + 1) = dPut (dVSt m k) (dVWord (k + 1) m[k]) := by
  unfold dVSt
  rw [List.take_succ_eq_append_getElem h, dVW_snoc, List.foldl_append, List.length_take, Nat.min_eq_left (by omega), show 1 + k = k + 1 by omega]
  rfl
theorem dVState_eq (m : List Bool) : dVState m = dPut (dVSt m m.length) [48] := by
  unfold dVState dVSt
  rw [List.take_length, List.foldl_append]
  rfl
theorem dPut_size (s : List UInt8 × List UInt8) (x : List UInt8) (h : s.2.length ≤ 78) (hx : x.length ≤ 22) : (dPut s x).2.length ≤ 78 ∧ (dPut s x).1.length ≤ s.1.length + 79 := by
  unfold dPut
  split
  · simp only [List.length_append, List.length_cons, List.length_nil]
    omega
  · rename_i hn
    by_cases e : s.2 = [118]
    · simp only [e, List.length_append, List.length_cons, List.length_nil]
      omega
    · have : ¬ (78 < s.2.length + 1 + x.length) := fun h => hn ⟨h, e⟩
      simp only [List.length_append, List.length_cons, List.length_nil]
      omega
theorem dVWord_len (n : Nat) (b : Bool) (h : n ≤ 4611686018427387904) : (dVWord n b).length ≤ 22 := by
  have := itoa_len (n : Int) (by omega) (by omega)
  unfold dVWord
  split
  · omega
  · rw [List.length_cons]; omega
theorem dVSt_size (m : List Bool) (hm : m.length ≤ 1100000) : ∀ k, k ≤ m.length → (dVSt m k).2.length ≤ 78 ∧ (dVSt m k).1.length ≤ 79 * k
  | 0, _ => by
    have : dVSt m 0 = ([], [118]) := by unfold dVSt; rw [List.take_zero]; rfl
    rw [this]
    exact ⟨by decide, by decide⟩
  | k + 1, h => by
    obtain ⟨h1, h2⟩ := dVSt_size m hm k (by omega)
    rw [dVSt_succ m k (by omega)]
    have := dPut_size (dVSt m k) (dVWord (k + 1) m[k]) h1 (dVWord_len _ _ (by omega))
    omega
def values.T13 : Bool × List (List Nat × List Nat) := (true, [([], []), ([], []), ([0, 1], [0, 1]), ([2], [2]), ([3, 0, 0, 1, 2, 3], [3])])
def values.B13 : List Nat := [0, 0, 3, 7, 15]
theorem values.tab13 : rtab .any (opsOf Tryd.f14 13) = values.T13 := by kernel_rfl
theorem values.bits13 : waitsOk values.T13.2 values.B13 = true := by kernel_rfl
set_option maxHeartbeats 2000000 in
set_option maxRecDepth 100000 in
theorem values_calls (A : Option Addr) (c : Nat) (m : List Bool) (w : World) (hC : Kd.bool.C w A m.length m) (hc : m.length ≤ c) (hm : m.length ≤ 1100000) (hlt : LT w.heap.size w) :
    Calls Tryd.prog 14 #[.slice A m.length c] w fun e w' => e = .returned (.string (baOf (dValues m))) ∧ Below w.heap.size w w' := by
  have HLT := Aside0.mk hlt
  have HC := Aside0.mk hC
  have HM := Aside0.mk hm
  have hml : (m.length : Int) ≤ 1100000 := by omega
  clear hlt hC
  go_enter Tryd.func14, Tryd.ntmps14
  go_wp2_with (first | ((with_reducible refine gate_dst (N := 3) rfl ?_); refine box_event ?hg (N := 3) ?hd (cs := #[.pointer none, .slice none 0 0]) (t := 74) ?hr ?_; (case hd => rfl); (case hg => rfl); (case hr => first | (go_simp; done) | (go_simp; rfl)); intro g3 hgb w1 hbox hb; have HG3 := Aside0.mk hbox; have HB1 := Aside0.mk hb; have HL3 := Aside0.mk (show w.heap.size ≤ g3 by rw [hgb]; exact Nat.le_refl _); clear hbox hb hgb) | ((with_reducible refine gate_dst (N := 4) rfl ?_); refine box_event ?hg (N := 4) ?hd (cs := #[.string ⟨#[]⟩]) (t := 9) ?hr ?_; (case hd => rfl); (case hg => rfl); (case hr => first | (go_simp; done) | (go_simp; rfl)); intro g4 hgb w2 hbox hb; have HG4 := Aside0.mk hbox; have HB2 := Aside0.mk (below_step HB1.out hb); have HL4 := Aside0.mk (show w.heap.size ≤ g4 by rw [hgb]; exact HB1.out.size); have HG3' := Aside0.mk (blk_below HG3.out hb); clear hbox hb hgb) | ((with_reducible refine gate_store (t := 9) (p := 4) rfl ?_); refine store_one 9 4 (.const (.string ⟨#[118]⟩)) rfl rfl rfl (.string ⟨#[118]⟩) #[.string ⟨#[118]⟩] rfl rfl HG4.out rfl nsz9 (show 0 + 1 ≤ 1 by omega) rfl rfl ?_; intro w3 hw2 hsb; have HW3 := Aside0.mk hw2; have HB3 := Aside0.mk (hsb.below HB2.out HL4.out); have HG33 := Aside0.mk (hsb.other HG3'.out (blk_ne HG3'.out HG4.out (by decide))); clear hw2 hsb))
  have HVS := Aside0.mk (show VS w.heap.size g3 g4 (dVSt m 0) w3 from by
    have : dVSt m 0 = ([], [118]) := by unfold dVSt; rw [List.take_zero]; rfl
    rw [this]
    exact ⟨⟨⟨none, .slice none 0 0, HG33.out, .inl rfl, Kd.R_nil _ _ _ _ _⟩, HL3.out⟩, HW3.out, HL4.out⟩)
  clear HG3 HG4 HG3' HG33 HW3 HB1 HB2
  go_loopg [12] m.length (fun gf v12 wr => ∃ k : Nat, v12 = .int .i64 (k : Int) ∧ k + gf = m.length ∧ Aside0 (VS w.heap.size g3 g4 (dVSt m k) wr) ∧ Aside0 (Below w.heap.size w wr))
  case atStart => exact ⟨0, rfl, by omega, HVS, HB3⟩
  case round =>
    clear HVS HB3
    obtain ⟨k, rfl, hk, HVS, HB3⟩ := hrel
    by_cases hlt : k < m.length
    · have t5 : decide ((k : Int) < (m.length : Int)) = true := decide_eq_true (by omega)
      have t6 : decide (k < m.length) = true := decide_eq_true hlt
      have hk0 : (0 : Int) ≤ (k : Int) := Int.natCast_nonneg _
      have hkl : (k : Int) < (m.length : Int) := by omega
      have hk1 : (k : Int) + 1 ≤ 1100000 := by omega
      obtain ⟨ad, e1, hx⟩ := Kd.at_bool (Kd.C_below HC.out HB3.out) (k : Int) hk0 hkl
      cases e1
      obtain ⟨bb, hbb⟩ : ∃ bb, bb = m[k] := ⟨_, rfl⟩
      rw [Int.toNat_natCast, show rdOf false m (k : Int) = bb by unfold rdOf; rw [Int.toNat_natCast, List.getD_eq_getElem?_getD, List.getElem?_eq_getElem hlt, hbb]; rfl] at hx
      have HX := Aside0.mk hx
      have HS := Aside0.mk (dVSt_size m HM.out k (by omega))
      have hsu := dVSt_succ m k hlt
      rw [← hbb] at hsu
      have HSU := Aside0.mk hsu
      obtain ⟨sB, hsB⟩ : ∃ sB, sB = baOf (Lib.itoa ((k : Int) + 1)) := ⟨_, rfl⟩
      have HSB := Aside0.mk hsB
      have hsz : sB.size ≤ 21 := by rw [hsB]; exact itoa_len ((k : Int) + 1) (by omega) (by omega)
      have HWL := Aside0.mk (show (dVWord (k + 1) bb).length ≤ 1000 from Nat.le_trans (dVWord_len _ _ (by omega)) (by omega))
      have HVSU := Aside0.mk (show ∀ W, VS w.heap.size g3 g4 (dVSt m k) W → Calls Tryd.prog 32 #[.string (baOf (dVWord (k + 1) bb)), .pointer (some ⟨g4, 0, none⟩), .pointer (some ⟨g3, 0, none⟩)] W fun e w' => e = .returned (.tuple #[]) ∧ VS w.heap.size g3 g4 (dPut (dVSt m k) (dVWord (k + 1) bb)) w' ∧ Below w.heap.size W w' from fun W hv => put_calls w.heap.size g3 g4 (dVSt m k) (dVWord (k + 1) bb) W hv (by have := HS.out.1; omega) HWL.out (by have := HS.out.2; omega))
      clear hsu hbb
      cases bb with
      | true =>
        have HWD := Aside0.mk (show baOf (dVWord (k + 1) true) = sB by rw [hsB]; rfl)
        clear hsB
        go_wp2_with (first | (go_at_call 28; refine (itoa_calls ((k : Int) + 1) wr (by omega) (by omega) (HLT.out.on HB3.out).here).mono ?_; rw [← HSB.out]; rintro e w4 ⟨rfl, hb⟩; have HB4 := Aside0.mk (below_step HB3.out hb); have HV4 := Aside0.mk (HVS.out.below hb); clear hb hx) | (go_at_call 32; have hp := HVSU.out w4 HV4.out; rw [HWD.out] at hp; refine hp.mono ?_; clear hp; rintro e w5 ⟨rfl, hv, hb⟩; have HV5 := Aside0.mk hv; have HB5 := Aside0.mk (HB4.out.trans hb); clear hv hb))
        go_roundg (gk - 1)
        case measure => omega
        case rel => exact ⟨k + 1, by go_num, by omega, ⟨by rw [HSU.out]; exact HV5.out⟩, HB5⟩
      | false =>
        have HWD := Aside0.mk (show baOf (dVWord (k + 1) false) = (⟨#[45]⟩ : ByteArray) ++ sB by rw [hsB, show (⟨#[45]⟩ : ByteArray) = baOf [45] from rfl, baOf_append]; rfl)
        clear hsB
        have z0 : 1 + sB.size ≤ 9223372036854775807 := by omega
        have z1 : decide (1 + sB.size ≤ 9223372036854775807) = true := decide_eq_true z0
        have z2 : (9223372036854775807 < 1 + sB.size) = False := eq_false (Nat.not_lt.2 z0)
        replace z0 := eq_true z0
        go_wp2_with (first | (go_at_call 28; refine (itoa_calls ((k : Int) + 1) wr (by omega) (by omega) (HLT.out.on HB3.out).here).mono ?_; rw [← HSB.out]; rintro e w4 ⟨rfl, hb⟩; have HB4 := Aside0.mk (below_step HB3.out hb); have HV4 := Aside0.mk (HVS.out.below hb); clear hb hx) | (go_at_call 32; have hp := HVSU.out w4 HV4.out; rw [HWD.out] at hp; refine hp.mono ?_; clear hp; rintro e w5 ⟨rfl, hv, hb⟩; have HV5 := Aside0.mk hv; have HB5 := Aside0.mk (HB4.out.trans hb); clear hv hb))
        go_roundg (gk - 1)
        case measure => omega
        case rel => exact ⟨k + 1, by go_num, by omega, ⟨by rw [HSU.out]; exact HV5.out⟩, HB5⟩
    · have t5 : decide ((k : Int) < (m.length : Int)) = false := decide_eq_false (by omega)
      have t6 : decide (k < m.length) = false := decide_eq_false hlt
      obtain rfl : k = m.length := by omega
      have HS := Aside0.mk (dVSt_size m HM.out m.length (Nat.le_refl _))
      have HVSU := Aside0.mk (show Calls Tryd.prog 32 #[.string ⟨#[48]⟩, .pointer (some ⟨g4, 0, none⟩), .pointer (some ⟨g3, 0, none⟩)] wr fun e w' => e = .returned (.tuple #[]) ∧ VS w.heap.size g3 g4 (dVState m) w' ∧ Below w.heap.size wr w' from by
        rw [dVState_eq]
        exact put_calls w.heap.size g3 g4 (dVSt m m.length) [48] wr HVS.out (by have := HS.out.1; omega) (by decide) (by have := HS.out.2; omega))
      have HS2 := Aside0.mk (show (dVState m).2.length ≤ 78 ∧ (dVState m).1.length ≤ 79 * m.length + 79 from by
        have := dPut_size (dVSt m m.length) [48] HS.out.1 (by decide)
        rw [dVState_eq]
        have := HS.out.2
        omega)
      obtain ⟨rB, hrB⟩ : ∃ rB, rB = baOf (dVState m).2 := ⟨_, rfl⟩
      obtain ⟨oB, hoB⟩ : ∃ oB, oB = baOf (dVState m).1 := ⟨_, rfl⟩
      have HRB := Aside0.mk hrB
      have HOB := Aside0.mk hoB
      have hrz : rB.size ≤ 78 := by rw [hrB]; exact HS2.out.1
      have hoz : oB.size ≤ 100000000 := by rw [hoB]; have := HS2.out.2; show (dVState m).1.length ≤ _; omega
      clear hrB hoB
      have z0 : oB.size + rB.size ≤ 9223372036854775807 := by omega
      have z1 : decide (oB.size + rB.size ≤ 9223372036854775807) = true := decide_eq_true z0
      have z2 : (9223372036854775807 < oB.size + rB.size) = False := eq_false (Nat.not_lt.2 z0)
      replace z0 := eq_true z0
      have q0 : (oB ++ rB).size + 1 ≤ 9223372036854775807 := by rw [ByteArray.size_append]; omega
      have q1 : decide ((oB ++ rB).size + 1 ≤ 9223372036854775807) = true := decide_eq_true q0
      have q2 : (9223372036854775807 < (oB ++ rB).size + 1) = False := eq_false (Nat.not_lt.2 q0)
      replace q0 := eq_true q0
      have x_0 : oB.size + rB.size + 1 ≤ 9223372036854775807 := by omega
      have x_1 : decide (oB.size + rB.size + 1 ≤ 9223372036854775807) = true := decide_eq_true x_0
      have x_2 : (9223372036854775807 < oB.size + rB.size + 1) = False := eq_false (Nat.not_lt.2 x_0)
      replace x_0 := eq_true x_0
      go_upto_region 13 with (go_at_call 32; refine HVSU.out.mono ?_; rintro e wf ⟨rfl, hv, hb⟩; have HVF := Aside0.mk hv; have HBF := Aside0.mk (HB3.out.trans hb); clear hv hb)
      have HROW := Aside0.mk (show wf.heap[g4]? = some (.cells #[.string rB] 9 (0, 0)) by rw [HRB.out]; exact HVF.out.row)
      refine start_ (n := 5) (S := fun w' => w'.heap[g4]? = some (.cells #[.string rB] 9 (0, 0))) (ds := []) #[false, false, false, false, false] (by kernel_rfl) rfl rfl (blk_drew HROW.out) (fun hHeld => ?_); refine with_tabW values.tab13 values.bits13 (fun HT_ HW_ => ?_)
      have HB6 := Aside0.mk (below_drew1 HBF.out)
      have HV6 := Aside0.mk (show VS w.heap.size g3 g4 (dVState m) wf.drew from HVF.out.below (below_drew1 (Below.refl _ _)))
      have HROW6 := Aside0.mk (blk_drew HROW.out)
      generalize wf.drew = w6 at HB6 HV6 HROW6 hHeld ⊢
      refine take_ (i := 1) (N := some 31) (v := ?_) (a' := ?_) #[false, true, false, false, false] rfl rfl (take_ofW HT_.out HW_.out (by kernel_rfl)) (fun _ _ _ h => h) (Or.inl ⟨by rfl, ?_⟩) hHeld ?_ ?_
      rotate_left
      · rintro w' hS
        have hcz1 := (blk_cell hS 0).trans (show _ = some (Value.string rB) from rfl)
        go_simp
        with_reducible rfl
      rotate_left
      · simp only [Act.put, List.setIfInBounds_toArray, List.set_cons_zero, List.set_cons_succ, i64_w, i32_w]
        rfl
      refine one_ (i := 0) (N := some 30) #[true, true, false, false, false] rfl rfl (one_of HT_.out (by kernel_rfl)) (by decide) (fun K hK => ?_)
      refine goes_ Tryd.func34 (by kernel_rfl) rfl #[.pointer (some ⟨g3, 0, none⟩)] (by rfl) rfl rfl (by (try simp only [List.map_toArray, List.map_cons, List.map_nil]); first | done | rfl) ?_
      refine (bstring_calls w.heap.size g3 (dVState m).1 w6 HV6.out.bd).mono ?_
      rw [← HOB.out]
      rintro e7 w7 ⟨rfl, hb, hk⟩
      refine ⟨_, rfl, ?_⟩
      have HB7 := Aside0.mk (HB6.out.trans hb)
      have HROW7 := Aside0.mk (show w7.heap[g4]? = some (.cells #[.string rB] 9 (0, 0)) from hk g4 _ HROW6.out (by intro e; injection e with e; obtain ⟨p, v, hg, _⟩ := HV6.out.bd.ex; exact absurd e (blk_ne HROW6.out hg (by decide))) (by intro c fz e; injection e with _ e _; exact absurd e (by decide)))
      clear hb hk
      refine hK.out _ _ HROW7.out (fun hHeld => ?_)
      clear hK K
      refine norm_ (a' := ?_) ?_ ?_
      rotate_left
      · show Act.put _ (some 30) _ = _
        simp only [Act.put, List.setIfInBounds_toArray, List.set_cons_zero, List.set_cons_succ, i64_w, i32_w]
        rfl
      refine pure_ (i := 2) (N := some 32) (v := ?_) (a' := ?_) #[true, true, true, false, false] rfl rfl (any_of HT_.out (by kernel_rfl)) (fun _ _ _ h => h) (Or.inl ⟨by rfl, ?_⟩) ?_ ?_
      rotate_left
      · intro w'
        go_simp
        with_reducible rfl
      rotate_left
      · simp only [Act.put, List.setIfInBounds_toArray, List.set_cons_zero, List.set_cons_succ, i64_w, i32_w]
        rfl
      refine pure_ (i := 3) (N := some 33) (v := ?_) (a' := ?_) #[true, true, true, true, false] rfl rfl (any_of HT_.out (by kernel_rfl)) (fun _ _ _ h => h) (Or.inl ⟨by rfl, ?_⟩) ?_ ?_
      rotate_left
      · intro w'
        go_simp
        with_reducible rfl
      rotate_left
      · simp only [Act.put, List.setIfInBounds_toArray, List.set_cons_zero, List.set_cons_succ, i64_w, i32_w]
        rfl
      refine pure_ (i := 4) (N := some 2) (v := ?_) (a' := ?_) #[true, true, true, true, true] rfl rfl (any_of HT_.out (by kernel_rfl)) (fun _ _ _ h => h) (Or.inl ⟨by rfl, ?_⟩) ?_ ?_
      rotate_left
      · intro w'
        go_simp
        with_reducible rfl
      rotate_left
      · simp only [Act.put, List.setIfInBounds_toArray, List.set_cons_zero, List.set_cons_succ, i64_w, i32_w]
        rfl
      refine done_ (done_of HT_.out (by kernel_rfl)) ?_
      go_wp2
      go_ret
      exact ⟨by rw [HOB.out, HRB.out, show (⟨#[10]⟩ : ByteArray) = baOf [10] from rfl, baOf_append, baOf_append]; rfl, HB7.out⟩
end Go.Proofs.YtigloobbpcnnhaaDoor.PB
end
