import Derived.Test.YtmknpchmpgkdbaaDoorCards
import Derived.Test.YtmknpchmpgkdbaaDoorTie
import Derived.Deep.DeepHandedRow
import Derived.Deep.DeepWitnessRowRef
import Derived.Lib.LaidTab
import Derived.LaidMore
import Derived.Stop.LaidErr
import Derived.Test.YtmknpchmpgkdbaaDoorHOfind
namespace Go.Proofs.YtmknpchmpgkdbaaDoor.PB
open Go.RowKit Go.Shelf Go.Proofs.YtmknpchmpgkdbaaDoorW.PrintWords
set_option linter.unusedVariables false
set_option linter.unusedSimpArgs false
theorem gTab : Tryd.prog.globalNamed "internal/strconv.uint64pow10" = some 1 := by kernel_rfl
theorem gTabType : (Tryd.prog.globals[1]?).map (·.type) = some 92 := by kernel_rfl
theorem gSyn : Tryd.prog.globalNamed "strconv.ErrSyntax" = some 3 := by kernel_rfl
theorem gSynType : (Tryd.prog.globals[3]?).map (·.type) = some 64 := by kernel_rfl
theorem gRng : Tryd.prog.globalNamed "strconv.ErrRange" = some 4 := by kernel_rfl
theorem gRngType : (Tryd.prog.globals[4]?).map (·.type) = some 64 := by kernel_rfl
theorem gOpt : Tryd.prog.globalNamed "threshing/options.table" = some 0 := by kernel_rfl
theorem gOptType : (Tryd.prog.globals[0]?).map (·.type) = some 55 := by kernel_rfl
theorem pow10_tab : Lib.pow10Tab = [1, 10, 100, 1000, 10000, 100000, 1000000, 10000000, 100000000, 1000000000, 10000000000, 100000000000, 1000000000000, 10000000000000, 100000000000000, 1000000000000000, 10000000000000000, 100000000000000000, 1000000000000000000, 10000000000000000000] := by decide
theorem errStar : "*" ++ "errors.errorString" = "*errors.errorString" := by decide
theorem err_named (u : TypeId) (h : Tryd.prog.typeName? 3 u = some "*errors.errorString") : u = 108 :=
  typeName_ptr_named (nm := "errors.errorString") (by rw [errStar]; kernel_rfl) (by kernel_rfl) (by decide) u (by rw [errStar]; exact h)
/-! ### options.table as its initialiser lays it -/
def entData (e : OE) : DataW Unit := .agg [.lit (.string e.name), .lit (.int .i64 e.d), .lit (.int .i64 e.lo), .lit (.int .i64 e.hi)]
theorem laid_opts : (Rows.laid_threshing_options_table : DataW Unit) = .agg (oTab.map entData) := by kernel_rfl
theorem c42 : Tryd.prog.cellsOf 42 = 4 := by kernel_rfl
theorem c55 : Tryd.prog.cellsOf 55 = 112 := by kernel_rfl
theorem c9 : Tryd.prog.cellsOf 9 = 1 := by kernel_rfl
theorem c2 : Tryd.prog.cellsOf 2 = 1 := by kernel_rfl
section
variable {H : Type} {enc : TypeId × Value → H} {w : World} {base : Nat} {sp : Nat → Bool} {held : Bool}
theorem list4 {α : Type} {l : List α} (h : l.length = 4) : ∃ a b c d, l = [a, b, c, d] := by
  match l, h with
  | [a, b, c, d], _ => exact ⟨a, b, c, d, rfl⟩
theorem ent_of_trod {fuel : Nat} {cs : List Value} {e : OE} {p : List MemPlace} (h : DataW.trod enc Tryd.prog w base sp held fuel 42 cs = some ((.agg [.lit (.string e.name), .lit (.int .i64 e.d), .lit (.int .i64 e.lo), .lit (.int .i64 e.hi)] : DataW H), p)) : cs = oVals e := by
  obtain ⟨xs, n, _, hx, hl, hlen, hf⟩ := DataW.trod_struct Tryd.underlying42 h
  rw [c42] at hl
  have hx1 := (congrArg Prod.fst hx).symm
  have hlen4 : xs.length = 4 := hlen
  obtain ⟨v0, v1, v2, v3, rfl⟩ := list4 hl
  obtain ⟨y0, y1, y2, y3, rfl⟩ := list4 hlen4
  simp only [List.map_cons, List.map_nil, DataW.agg.injEq, List.cons.injEq, and_true] at hx1
  obtain ⟨e0, e1, e2, e3⟩ := hx1
  have f0 : DataW.trod enc Tryd.prog w base sp held n 9 (([v0, v1, v2, v3].drop 0).take (Tryd.prog.cellsOf 9)) = some y0 := hf 0 _ rfl
  have f1 : DataW.trod enc Tryd.prog w base sp held n 2 (([v0, v1, v2, v3].drop 1).take (Tryd.prog.cellsOf 2)) = some y1 := hf 1 _ rfl
  have f2 : DataW.trod enc Tryd.prog w base sp held n 2 (([v0, v1, v2, v3].drop 2).take (Tryd.prog.cellsOf 2)) = some y2 := hf 2 _ rfl
  have f3 : DataW.trod enc Tryd.prog w base sp held n 2 (([v0, v1, v2, v3].drop 3).take (Tryd.prog.cellsOf 2)) = some y3 := hf 3 _ rfl
  clear hf hx h hlen
  rw [c9] at f0
  rw [c2] at f1 f2 f3
  change DataW.trod enc Tryd.prog w base sp held n 9 [v0] = some y0 at f0
  change DataW.trod enc Tryd.prog w base sp held n 2 [v1] = some y1 at f1
  change DataW.trod enc Tryd.prog w base sp held n 2 [v2] = some y2 at f2
  change DataW.trod enc Tryd.prog w base sp held n 2 [v3] = some y3 at f3
  obtain ⟨s, g0, q0, _⟩ := DataW.trod_string Tryd.underlying9 f0
  obtain ⟨n1, g1, q1, _⟩ := DataW.trod_int Tryd.underlying2 f1
  obtain ⟨n2, g2, q2, _⟩ := DataW.trod_int Tryd.underlying2 f2
  obtain ⟨n3, g3, q3, _⟩ := DataW.trod_int Tryd.underlying2 f3
  subst q0; subst q1; subst q2; subst q3
  simp only [List.cons.injEq, and_true] at g0 g1 g2 g3
  simp only [DataW.lit.injEq, Lit.string.injEq, Lit.int.injEq, true_and] at e0 e1 e2 e3
  subst g0; subst g1; subst g2; subst g3
  unfold oVals
  rw [← e0, ← e1, ← e2, ← e3]
theorem cells_of_opts {fuel : Nat} {cs : Array Value} {p : List MemPlace} (h : DataW.trod (fun _ => ()) Tryd.prog w base sp held fuel 55 cs.toList = some (Rows.laid_threshing_options_table, p)) : cs = tabCells := by
  rw [laid_opts] at h
  cases fuel with
  | zero => simp [DataW.trod] at h
  | succ fuel =>
    simp only [DataW.trod, Tryd.underlying55, c42, c55] at h
    split at h
    · rename_i hl
      obtain ⟨xs, hm, hx⟩ := Option.map_eq_some_iff.1 h
      have hxs : xs.map (·.1) = oTab.map entData := by
        have := congrArg Prod.fst hx
        simpa using this
      have key : ∀ i, i < 28 → (cs.toList.drop (i * 4)).take 4 = oVals (oAt i) := by
        intro i hi
        obtain ⟨b, hb, hf⟩ := Lib.mapM_at hm i i (by simp [hi])
        have h3 : i < oTab.length := hi
        have e1 : oAt i = oTab[i] := by unfold oAt; rw [List.getD_eq_getElem?_getD, List.getElem?_eq_getElem h3]; rfl
        have hb1 : b.1 = entData (oAt i) := by
          have := congrArg (·[i]?) hxs
          simp only [List.getElem?_map, hb, List.getElem?_eq_getElem h3, Option.map_some, Option.some.injEq] at this
          rw [this, e1]
        obtain ⟨b1, b2⟩ := b
        simp only at hb1
        subst hb1
        exact ent_of_trod hf
      have hsz : cs.size = 112 := by simpa using hl
      apply Array.ext_getElem?
      intro j
      by_cases hj : j < 112
      · have hk := key (j / 4) (by omega)
        have ht := tab_at (j / 4) (by omega)
        have h1 := congrArg (fun l : List Value => l[j % 4]?) hk
        have h2 := congrArg (fun a : Array Value => a[j % 4]?) ht
        simp only [List.getElem?_take, List.getElem?_drop] at h1
        rw [if_pos (by omega), show j / 4 * 4 + j % 4 = j by omega] at h1
        simp only [Array.getElem?_extract] at h2
        rw [if_pos (by rw [tabCells_size]; omega), show j / 4 * 4 + j % 4 = j by omega] at h2
        have h2' : tabCells[j]? = (oVals (oAt (j / 4)))[j % 4]? := by rw [h2]; simp
        rw [h2', ← h1]
        simp
      · rw [Array.getElem?_eq_none (by omega), Array.getElem?_eq_none (by rw [tabCells_size]; omega)]
    · cases h
end
theorem opts_of_head {W : World} {rest : List (String × DataW Unit)} (h : laidMet Tryd.prog (("threshing/options.table", Rows.laid_threshing_options_table) :: rest) W) : ∃ t, W.heap[0]? = some (.cells tabCells t (0, 0)) := by
  obtain ⟨ps, ⟨g', t', cs, fuel, p, q, hg', ht', hvar, hd, _, hps⟩, _, hfr⟩ := h
  obtain rfl := Option.some.inj (gOpt.symm.trans hg')
  obtain rfl := Option.some.inj (gOptType.symm.trans ht')
  have hcs := cells_of_opts hd
  subst hcs
  have hmem : MemPlace.cell 0 0 ∈ ps := by
    rw [hps]
    refine List.mem_append_left _ (List.mem_append_left _ ?_)
    unfold MemPlace.row
    simp only [List.mem_map, List.mem_range]
    exact ⟨0, by rw [tabCells_size]; omega, by simp⟩
  obtain ⟨⟨c, t, hc⟩, _⟩ := hfr 0 0 hmem
  unfold World.var? at hvar
  rw [gOpt] at hvar
  simp only [Option.bind_some, hc, Option.some.injEq] at hvar
  exact ⟨t, by rw [hc, hvar]⟩
/-- What the listed variables hold when the call begins. -/
theorem lt_of {W : World} (h0 : laidMetH Tryd.prog Rows.optionsOrderRow.laid W) (hsh : W.ShapedOpen Tryd.prog) : LT W.heap.size W := by
  have h : laidMet Tryd.prog Rows.optionsOrderRow.laid W := h0
  have ht : Lib.TabIs Tryd.prog W "internal/strconv.uint64pow10" .u64 Lib.pow10Tab := by
    rw [pow10_tab]
    exact Lib.tabIs_of_head gTab gTabType Tryd.underlying92 Tryd.underlying75 (by kernel_rfl) (by kernel_rfl) (laidMet.tail (laidMet.tail h))
  have hm : ∃ m : Int, W.cell? ⟨2, 0, none⟩ = some (.int .i64 m) := Go.Proofs.cell_of_shapedOpen_int (zero := #[.int .i64 0]) (t := 3) hsh (of_decide_eq_true (by kernel_rfl)) (by kernel_rfl) rfl (by kernel_rfl) (by kernel_rfl) Tryd.underlying3
  obtain ⟨m, hm⟩ := hm
  obtain ⟨a4, s4, h4, _⟩ := laid_sentinel (tp := 108) (te := 110) (laidMet.tail (laidMet.tail (laidMet.tail h))) gRng gRngType Tryd.underlying64 err_named Tryd.underlying108 Tryd.underlying110 rfl rfl Tryd.underlying9 (by kernel_rfl) (by kernel_rfl)
  obtain ⟨a5, s5, h5, _⟩ := laid_sentinel (tp := 108) (te := 110) (laidMet.tail (laidMet.tail (laidMet.tail (laidMet.tail h)))) gSyn gSynType Tryd.underlying64 err_named Tryd.underlying108 Tryd.underlying110 rfl rfl Tryd.underlying9 (by kernel_rfl) (by kernel_rfl)
  obtain ⟨tt, ho⟩ := opts_of_head (laidMet.tail (laidMet.tail (laidMet.tail (laidMet.tail (laidMet.tail h)))))
  have c3 : W.cell? ⟨3, 0, none⟩ = some (.iface 108 (.pointer (some a5))) := by simpa using World.var?_cell gSyn h5 0
  have c4 : W.cell? ⟨4, 0, none⟩ = some (.iface 108 (.pointer (some a4))) := by simpa using World.var?_cell gRng h4 0
  intro w' hb
  exact ⟨⟨tt, (hb.block 0 (blk_lt ho)).trans ho⟩, Lib.tabBelow_of_tabIs ht w' hb, ⟨m, (hb.cell (World.block_lt_of_cell? W _ hm)).trans hm⟩, ⟨_, _, (hb.cell (World.block_lt_of_cell? W _ c3)).trans c3⟩, ⟨_, _, (hb.cell (World.block_lt_of_cell? W _ c4)).trans c4⟩⟩
/-- A WORLD FOR THE WITNESS: what the door's own run leaves. -/
noncomputable def laidWorld (os : Os) : World := World.doorLaid Tryd.prog 600 os
theorem laid_met (os : Os) (args : Array Value) : laidMetH Tryd.prog Rows.optionsOrderRow.laid ((laidWorld os).forCall (fun _ _ => 0) ⟨#[], args, []⟩).memory := by
  exact laidMet_of_run' 12 (by kernel_rfl) (by kernel_rfl)
end Go.Proofs.YtmknpchmpgkdbaaDoor.PB
