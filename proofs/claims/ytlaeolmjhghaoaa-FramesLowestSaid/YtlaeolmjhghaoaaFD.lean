/-
  FramesPlay: the numbers of a pool of two.
-/
import Derived.Test.YtlaeolmjhghaoaaFC
set_option linter.unusedSimpArgs false
set_option linter.unusedVariables false
namespace Go.Proofs.Ytlaeolmjhghaoaa
open Go.RowKit

theorem fst_is (n x m : Nat) (hn : n ≤ 64) (hm : m < n) (h1 : ∀ i, i < m → x.testBit i = true) (h2 : x.testBit m = false) : fst n x = m := by
  obtain ⟨f1, f2, f3, _⟩ := fst_ok n x hn
  rcases Nat.lt_trichotomy (fst n x) m with h | h | h
  · have := f3 (by omega)
    rw [bools_at n x _ (by omega), h1 _ h] at this
    simp at this
  · exact h
  · have := f2 m h
    rw [bools_at n x _ hm, h2] at this
    simp at this
theorem take20 : tN 2 0 = 0 ∧ tE 2 0 = 0 ∧ tX 2 0 = 1 := by
  have h : fst 2 0 = 0 := fst_is 2 0 0 (by decide) (by decide) (fun i hi => by omega) (by decide)
  have h4 : lowest (op 2 0) ≠ 64 := (fst_ok 2 0 (by decide)).2.2.2.1 (by rw [h]; decide)
  have e : lowest (op 2 0) = 0 := by unfold fst at h; rwa [if_neg h4] at h
  rw [tN_def, tE_def, tX_def, e]; decide
theorem take21 : tN 2 1 = 1 ∧ tE 2 1 = 0 := by
  have hb : ∀ i : Nat, i < 1 → (1 : Nat).testBit i = true := by
    intro i hi
    have e : i = 0 := by omega
    rw [e]; decide
  have h : fst 2 1 = 1 := fst_is 2 1 1 (by decide) (by decide) hb (by decide)
  have h4 : lowest (op 2 1) ≠ 64 := (fst_ok 2 1 (by decide)).2.2.2.1 (by rw [h]; decide)
  have e : lowest (op 2 1) = 1 := by unfold fst at h; rwa [if_neg h4] at h
  rw [tN_def, tE_def, e]; decide
end Go.Proofs.Ytlaeolmjhghaoaa
