
/-
  Contract of the reference's Rounded: of every span.
-/
import Derived.Test.YtkfeabekdjbphaaTC
set_option linter.unusedSimpArgs false
namespace Go.Proofs.Ytkfeabekdjbphaa
open Go.RowKit Go.Sort

theorem rk_no {b t k : Nat} (hb : b ≤ t) (h : k < ex b t) : rk b t k = false := by
  by_cases hn : t - b < 4096
  · rw [ex_zero hn] at h; omega
  · rw [rk_def]
    by_cases h0 : k = 0
    · rw [if_pos h0]; simpa using hn
    · rw [if_neg h0]
      have := ex_least hb (by omega) k (by omega) h
      rw [decide_eq_false (by omega : ¬ stp b t (k - 1) < 8192), Bool.and_false]
theorem rk_yes {b t : Nat} (hb : b ≤ t) : rk b t (ex b t) = true := by
  by_cases hn : t - b < 4096
  · rw [ex_zero hn, rk_def, if_pos rfl]; simpa using hn
  · obtain ⟨h1, h2, h3⟩ := ex_pos_steps hb (by omega)
    rw [rk_def, if_neg (by omega), decide_eq_true h2, decide_eq_true h3]; rfl
theorem kb_fl (b t : Nat) : fl b (ex b t - 1) = kb b t := by rw [fl_def, kb_def]
theorem kt_ce (b t : Nat) : ce t (ex b t - 1) = kt b t := by rw [ce_def, kt_def]

end Go.Proofs.Ytkfeabekdjbphaa
