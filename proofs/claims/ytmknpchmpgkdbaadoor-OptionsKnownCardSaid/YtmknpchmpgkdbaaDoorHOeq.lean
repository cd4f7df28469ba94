import Derived.Test.YtmknpchmpgkdbaaDoorHOset
import Derived.Laws.StructEq
namespace Go.Proofs.YtmknpchmpgkdbaaDoor.PB
open Go.RowKit Go.Proofs.YtmknpchmpgkdbaaDoorW.PrintWords Go.Proofs.YtmknpchmpgkdbaaDoorW.PrintLast Go.Proofs.YtmknpchmpgkdbaaDoorW.PrintMore
set_option linter.unusedVariables false
set_option linter.unusedSimpArgs false
/-! ### Two arrays of whole numbers compared -/
theorem part_int {P : Program} {e : TypeId} {k : IntKind} (he : P.underlying e = some (.int k)) (xs : List Int) (i : Nat) (hi : i < xs.length) (w : World) : (part e (xs.map (Value.int k)).toArray i).run P w = .ok (.int k (xs.getD i 0)) w := by
  have h1 : (isAgg e).run P w = .ok false w := by
    unfold isAgg
    rw [Sem.run_bind, run_underlying he w]
    rfl
  simp only [part, Sem.run_bind, h1, Result.andThen_ok, Bool.false_eq_true, if_false]
  simp [hi]
theorem run_equalIn_ints {P : Program} (w : World) (d : Nat) (t e : TypeId) (k : IntKind) (n : Nat) (xs ys : List Int) (ht : P.underlying t = some (.array n e)) (he : P.underlying e = some (.int k)) (hs : (P.info? e).map (·.size) = some 1) (hx : xs.length = n) (hy : ys.length = n) :
    (Op.equalIn (d + 1 + 1) t (.agg (xs.map (Value.int k)).toArray) (.agg (ys.map (Value.int k)).toArray)).run P w = .ok (decide (xs = ys)) w := by
  obtain ⟨j, hj, hjs⟩ := Option.map_eq_some_iff.1 hs
  have h2 : ∀ w, (sizeOf e).run P w = .ok 1 w := fun w => by simp [sizeOf, typeInfo, hj, hjs]
  rw [Op.equalIn]
  simp only [Sem.run_bind, run_underlying ht, Result.andThen_ok, h2]
  simp only [Nat.mul_one]
  rw [Std.Legacy.Range.forIn_eq_forIn_range']
  have hsz : ([:n] : Std.Legacy.Range).size = n := by simp [Std.Legacy.Range.size]
  rw [hsz]
  show ((Sem.run P (forIn (List.range' 0 n 1) _ _) w).andThen _) = _
  have key : ∀ m i : Nat, i + m = n → (∀ j, j < i → xs.getD j 0 = ys.getD j 0) →
      ((Sem.run P
          (forIn (List.range' i m 1) ((none, ()) : Option Bool × Unit) fun i _ => do
            let a ← part e (List.map (Value.int k) xs).toArray i
            let b ← part e (List.map (Value.int k) ys).toArray i
            let r ← Op.equalIn (d + 1) e a b
            if (!r) = true then pure (ForInStep.done (some false, ())) else pure (ForInStep.yield (none, ())))
          w).andThen
      fun a w' =>
      Sem.run P
        (match a.fst with
        | some r => pure r
        | none => pure true)
        w') = Result.ok (decide (xs = ys)) w := by
    intro m
    induction m with
    | zero =>
      intro i hi hall
      simp only [List.range'_zero, List.forIn_nil, Sem.run_pure, Result.andThen_ok]
      have : xs = ys := by
        apply List.ext_getElem (by omega)
        intro j h1 h2
        have := hall j (by omega)
        simpa [h1, h2] using this
      rw [decide_eq_true this]
    | succ m ih =>
      intro i hi hall
      have hix : i < xs.length := by omega
      have hiy : i < ys.length := by omega
      rw [List.range'_succ]
      simp only [List.forIn_cons, Sem.run_bind, part_int he xs i hix, part_int he ys i hiy, Result.andThen_ok, run_equalIn_int w d e k k _ _ he]
      by_cases h : xs.getD i 0 = ys.getD i 0
      · have hb : (xs.getD i 0 == ys.getD i 0) = true := by simpa using h
        rw [hb]
        simp only [Bool.not_true, Bool.false_eq_true, if_false, Sem.run_pure, Result.andThen_ok]
        refine ih (i + 1) (by omega) fun j hj => ?_
        rcases Nat.lt_succ_iff_lt_or_eq.1 hj with h' | rfl
        · exact hall j h'
        · exact h
      · have hb : (xs.getD i 0 == ys.getD i 0) = false := by simpa using h
        rw [hb]
        simp only [Bool.not_false, if_true, Sem.run_pure, Result.andThen_ok]
        have : ¬ xs = ys := fun e => h (by rw [e])
        rw [decide_eq_false this]
  refine Eq.trans ?_ (key n 0 (by omega) (fun j hj => absurd hj (Nat.not_lt_zero j)))
  congr 1
  funext a w'
  rcases a with ⟨_ | _, _⟩ <;> rfl
end Go.Proofs.YtmknpchmpgkdbaaDoor.PB
