import Derived.Test.YtlimaebaagabaaaPure3
namespace Go.Proofs.Ytlimaebaagabaaa.PB
open Go.RowKit Go.Proofs.YtlimaebaagabaaaW.PrintWords Go.Proofs.YtlimaebaagabaaaW.PrintLast Go.Proofs.YtlimaebaagabaaaW.PrintMore
set_option linter.unusedVariables false
set_option linter.unusedSimpArgs false

/-! ### a text's bytes, as an event -/
section
variable {P : Program} {ops : Array Oper} {rest : List Oper} {o : Oper} {a : Act} {Q : Exit → Act → World → Prop}
theorem bytes_event {W : World} (src dst e : TypeId) {u : TypeDesc} (x : Operand) (ho : o.op = .convert src dst x) (hgd : o.guard = none) (s : ByteArray) (hx : a.eval x = .string s) (hs : P.underlying src = some u) (hd : P.underlying dst = some (.slice e)) (he : P.underlying e = some (.int .u8)) (hl : s.size ≤ 9223372036854775807)
    (h : ∀ A c w1, Kd.C (Kd.int .u8) w1 A (bytesOf s).length (bytesOf s) → (bytesOf s).length ≤ c → Below W.heap.size W w1 → wpList P ops Q rest (a.put o.dst (.slice A (bytesOf s).length c)) w1) : wpList P ops Q (o :: rest) a W := by
  have hrun : (execOp a.eval o).run P W = .ok (.value (.slice (some ⟨W.heap.size, 0, none⟩) (bytesOf s).length (grownCap W s.size 0 e))) (Lib.bytesWorld W e s) := by
    unfold execOp
    simp only [ho, hx]
    rw [bytesOf_length]
    have := print_bytes (P := P) src dst e hs hd he s W
    simp [this, Sem.run_bind, Sem.run_pure, Result.andThen]
  refine Kd.event_run hgd hrun (h _ _ _ ?_ ?_ ?_)
  · have hr := bytes_reads W e s hl
    rw [← bytesOf_length s] at hr
    exact Kd.C_of_reads (d := (0 : Int)) (h1 := fun _ => rfl) hr
  · rw [bytesOf_length]; exact grownCap_ge _ _ _ _
  · exact bytes_below (Below.refl _ _) (Nat.le_refl _) e s
end
theorem bytesOf_str {l : List Int} (h : Bytes l) : bytesOf (strOfNums l) = l := by
  unfold bytesOf
  rw [strOfNums_data]
  simp only [List.map_map]
  conv => rhs; rw [← List.map_id l]
  refine List.map_congr_left fun x hx => ?_
  obtain ⟨h0, h1⟩ := h x hx
  show (((UInt8.ofNat x.toNat).toNat : Nat) : Int) = x
  have : (UInt8.ofNat x.toNat).toNat = x.toNat % 256 := rfl
  rw [this]
  omega
theorem bytesOf_append (a b : ByteArray) : bytesOf (a ++ b) = bytesOf a ++ bytesOf b := by
  unfold bytesOf
  simp [ByteArray.data_append]
end Go.Proofs.Ytlimaebaagabaaa.PB
