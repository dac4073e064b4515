/-
  The plain part of FramesPlay: one step, of the pool's bits and of the reference's bools.
-/
import Derived.Test.YtlaeolmjhghaoaaFB
set_option linter.unusedSimpArgs false
set_option linter.unusedVariables false
namespace Go.Proofs.Ytlaeolmjhghaoaa
open Go.RowKit

theorem take_step (n x : Nat) (hn : n ≤ 64) (hx : x < 2 ^ n) :
    tX n x < 2 ^ n ∧ bools n (tX n x) = (if fst n x < n then (bools n x).set (fst n x) true else bools n x) ∧ ((tN n x : Nat) : Int) = (if fst n x < n then (fst n x : Int) else 0) ∧ ((tE n x : Nat) : Int) = (if fst n x < n then 0 else 15) := by
  obtain ⟨f1, _, _, f4⟩ := fst_ok n x hn
  rw [tX_def, tN_def, tE_def]
  by_cases h : lowest (op n x) = 64
  · have h2 : ¬ fst n x < n := fun k => (f4.1 k) h
    rw [if_pos h, if_pos h, if_pos h, if_neg h2, if_neg h2, if_neg h2]
    exact ⟨hx, rfl, rfl, rfl⟩
  · have h2 : fst n x < n := f4.2 h
    have e : fst n x = lowest (op n x) := by unfold fst; rw [if_neg h]
    rw [if_neg h, if_neg h, if_neg h, if_pos h2, if_pos h2, if_pos h2]
    refine ⟨Nat.or_lt_two_pow hx (Nat.pow_lt_pow_right (by decide) (by omega)), ?_, by rw [e], rfl⟩
    rw [← e]; exact bools_set n x _ h2
theorem give_step (n x : Nat) (k : Int) (hn : n ≤ 64) (hx : x < 2 ^ n) :
    gX n x k < 2 ^ n ∧ bools n (gX n x k) = (if 0 ≤ k ∧ k < n ∧ (bools n x).getD k.toNat false = true then (bools n x).set k.toNat false else bools n x) ∧ ((gE n x k : Nat) : Int) = (if 0 ≤ k ∧ k < n then (if (bools n x).getD k.toNat false = true then 0 else 13) else 2) := by
  rw [gX_def, gE_def]
  by_cases h : 0 ≤ k ∧ k < n
  · have hb := bools_at n x k.toNat (by omega)
    rw [hb, if_pos h, if_pos h]
    by_cases h2 : x.testBit k.toNat = true
    · rw [if_pos ⟨h.1, h.2, h2⟩, if_pos ⟨h.1, h.2, h2⟩, if_pos h2, if_pos h2]
      exact ⟨Nat.lt_of_le_of_lt Nat.and_le_left hx, bools_clear n x _ (by omega) hn, rfl⟩
    · rw [if_neg (fun q => h2 q.2.2), if_neg (fun q => h2 q.2.2), if_neg h2, if_neg h2]
      exact ⟨hx, rfl, rfl⟩
  · rw [if_neg (fun q => h ⟨q.1, q.2.1⟩), if_neg (fun q => h ⟨q.1, q.2.1⟩), if_neg h, if_neg h]
    exact ⟨hx, rfl, rfl⟩
end Go.Proofs.Ytlaeolmjhghaoaa
