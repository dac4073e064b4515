
/-
  Contracts of capab.Root, and of the law's closed capability; what is decoded is encoded by the same fields, and back.
-/
import Derived.Test.YtkfeabekdjbphaaC5
set_option linter.unusedSimpArgs false
set_option linter.unusedVariables false
namespace Go.Proofs.Ytkfeabekdjbphaa
open Go.RowKit Go.Sort

/-- fields that tell a span are the fields of that span. -/
theorem told_fields {fb ft fe a : Nat} (h : dOk fb ft fe a = true) :
    dB fb ft fe a ≤ dT fb ft fe a ∧ dT fb ft fe a ≤ 281474976710656 ∧ ex (dB fb ft fe a) (dT fb ft fe a) = fe ∧ fB (dB fb ft fe a) (dT fb ft fe a) = fb ∧ fT (dB fb ft fe a) (dT fb ft fe a) = ft := by
  have hB := dB_yes h
  have hT := dT_yes h
  have hok := h
  rw [dOk_eq] at hok
  simp only [Bool.and_eq_true, decide_eq_true_eq] at hok
  obtain ⟨⟨⟨⟨⟨g1, g2⟩, g3⟩, g4⟩, g5⟩, g6⟩ := hok
  rw [hB, hT]
  have hD := dD_eq fb fe a
  have hBase := dBase_eq fb fe a
  have hN := dN_eq fb ft fe
  generalize dD fb fe a = D at *
  generalize dBase fb fe a = base at *
  generalize dN fb ft fe = N at *
  generalize hx : fe - 1 = x at *
  have hp := pow_pos2 x
  generalize a / 2 ^ x = A at *
  have hbm : base % 16384 = fb := by omega
  have htm : (base + N) % 4096 = ft := by
    by_cases h0 : fe = 0
    · rw [if_pos h0] at hN; omega
    · rw [if_neg h0] at hN; omega
  have hle : base * 2 ^ x ≤ (base + N) * 2 ^ x := Nat.mul_le_mul_right _ (by omega)
  have h48 : (base + N) * 2 ^ x ≤ 281474976710656 := (Nat.le_div_iff_mul_le hp).1 g6
  have hex : ex (base * 2 ^ x) ((base + N) * 2 ^ x) = fe := by
    by_cases h0 : fe = 0
    · have hx0 : x = 0 := by omega
      subst hx0
      rw [if_pos h0] at hN
      rw [ex_zero (by omega), h0]
    · rw [if_neg h0] at hN
      rw [ex_mul (by omega) (by omega)]; omega
  refine ⟨hle, h48, hex, ?_, ?_⟩
  · unfold fB; rw [hex, hx, qd_mul]; exact hbm
  · unfold fT; rw [hex, hx, qu_mul]; exact htm

end Go.Proofs.Ytkfeabekdjbphaa
