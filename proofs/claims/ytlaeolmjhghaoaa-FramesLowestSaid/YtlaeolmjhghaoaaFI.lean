/-
  A slice of whole numbers that comes in: each of its elements is a cell.
-/
import Derived.Test.YtlaeolmjhghaoaaRow
import Derived.Test.YtlaeolmjhghaoaaH0
import Derived.Deep.Slices
set_option linter.unusedSimpArgs false
set_option linter.unusedVariables false
namespace Go.Proofs.Ytlaeolmjhghaoaa
open Go.ChangeShapes Go.WideShapes Go.ChangeAt Go.RowKit

theorem wf_i64 {n : Int} (h : (Lit.int .i64 n).wf = true) : -9223372036854775808 ≤ n ∧ n ≤ 9223372036854775807 := by
  simp [Lit.wf, IntKind.min, IntKind.max, IntKind.signed, IntKind.bits] at h
  omega
set_option maxRecDepth 100000 in
theorem open_is {H : Type} {enc : TypeId × Value → H} {W : World} {spare : Nat → Bool} {held : Bool} {v : Value} {d : DataW H} {ps : List MemPlace} (hv : Value.okWide Try.prog W .any 0 35 v)
    (h : DataW.Trod enc Try.prog W 0 spare held 35 v d ps) :
    ∃ (p : Option Addr) (len cap : Nat), v = .slice p len cap ∧ len ≤ cap ∧ ∀ i, i < len → ∃ (A : Addr) (k : Int), p = some A ∧ W.cell? (A.add i) = some (.int .i64 k) ∧ -9223372036854775808 ≤ k ∧ k ≤ 9223372036854775807 := by
  obtain ⟨a, len, cap, rfl⟩ := okWide_slice Try.underlying35 hv
  obtain ⟨fuel, hf⟩ := h
  rcases Go.Deep.open_slice Try.underlying35 hf with ⟨h0, _⟩ | ⟨A, len', cap', m, n, D, Pl, hcs, _, hl, _, hmm, _, hi⟩
  · simp [Value.cells] at h0
    obtain ⟨rfl, rfl, rfl⟩ := h0
    exact ⟨none, 0, 0, rfl, Nat.le_refl _, fun i hi => by omega⟩
  · simp [Value.cells] at hcs
    obtain ⟨rfl, rfl, rfl⟩ := hcs
    refine ⟨some A, len, cap, rfl, hl, fun i hil => ?_⟩
    have him : i < m := by rw [hmm]; split <;> omega
    obtain ⟨cs', hc, ht⟩ := hi i him
    have c3 : Try.prog.cellsOf 3 = 1 := by kernel_rfl
    rw [c3] at hc
    obtain ⟨_, hlen, hat⟩ := World.cells?_some hc
    obtain ⟨k, e0, _, w0⟩ := DataW.trod_int Try.underlying3 ht
    subst e0
    obtain ⟨k1, k2⟩ := wf_i64 w0
    have a0 : W.cell? (A.add (i * 1)) = some (.int .i64 k) := (congrArg W.cell? (show (A.add (i * 1)).add 0 = _ from if_pos rfl)).symm.trans (hat 0 (by decide))
    rw [Nat.mul_one] at a0
    exact ⟨A, k, rfl, a0, k1, k2⟩
end Go.Proofs.Ytlaeolmjhghaoaa
