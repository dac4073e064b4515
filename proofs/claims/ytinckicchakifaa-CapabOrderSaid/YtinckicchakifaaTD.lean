/-
  Contract of the reference's Rounded: of every span.
-/
import Derived.Test.YtinckicchakifaaTC
set_option linter.unusedSimpArgs false
namespace Go.Proofs.Ytinckicchakifaa
open Go.RowKit Go.Sort

theorem rk_no {b t k : Nat} (hb : b ≤ t) (h : k < ex b t) : rk b t k = false := by
  by_cases hn : t - b < 4096
  · rw [ex_zero hn] at h; omega
  · rw [rk_def]
    by_cases h0 : k = 0
    · rw [if_pos h0]; simpa using hn
    · rw [if_neg h0]
      have := ex_least hb (by omega) k (by omega) h
      rw [decide_eq_false (by omega : ¬ stp b t (k - 1) < 8192), Bool.and_false]
theorem rk_yes {b t : Nat} (hb : b ≤ t) : rk b t (ex b t) = true := by
  by_cases hn : t - b < 4096
  · rw [ex_zero hn, rk_def, if_pos rfl]; simpa using hn
  · obtain ⟨h1, h2, h3⟩ := ex_pos_steps hb (by omega)
    rw [rk_def, if_neg (by omega), decide_eq_true h2, decide_eq_true h3]; rfl
theorem kb_fl (b t : Nat) : fl b (ex b t - 1) = kb b t := by rw [fl_def, kb_def]
theorem kt_ce (b t : Nat) : ce t (ex b t - 1) = kt b t := by rw [ce_def, kt_def]

theorem rencode_no (b t : Nat) (h : ¬ (b ≤ t ∧ t ≤ 281474976710656)) (w : World) :
    Calls Try.prog 28 #[.agg #[.int .u64 b, .int .u64 t]] w fun r w' =>
      r = .returned (.tuple #[.agg #[.int .u64 0, .int .u64 0, .int .u64 0], .bool false]) ∧ Below w.heap.size w w' := by
  go_enter Try.func28, Try.ntmps28
  go_wp2
  refine wp_loop_rounds 1 ?_
  rw [rounds_succ]
  go_wp2_with (go_at_call 40; refine (rmay_no b t h _).mono ?_; rintro e w1 ⟨rfl, hb1⟩; obtain ⟨hc1, hf1⟩ := bcell hb1; have hq1 : Below w.heap.size w w1 := (by refine Below.trans ?_ (hb1.mono ?_); exact (by repeat' (first | (with_reducible exact Below.refl _ _) | (with_reducible assumption) | (with_reducible refine Below.alloc ?_ ?_ _) | (with_reducible refine Below.setCell ?_ ?_ _) | (with_reducible refine Below.drew ?_) | (with_reducible refine below_drewN ?_ _) | go_size)); go_size); have hs1 := hq1.size; have hz1w1 : w.heap.size + 1 < w1.heap.size := (by have := hb1.size; (try simp at this); omega); have hz1w0 : w.heap.size < w1.heap.size := (by have := hb1.size; (try simp at this); omega))
  refine bodyPost_ret (v := .tuple #[.agg #[.int .u64 0, .int .u64 0, .int .u64 0], .bool false]) (by simp [results, Try.results28, go_sem, hc1, hz1w0, hz1w1]) rfl ⟨rfl, (by repeat' (first | (with_reducible exact Below.refl _ _) | (with_reducible assumption) | (with_reducible refine Below.alloc ?_ ?_ _) | (with_reducible refine Below.setCell ?_ ?_ _) | (with_reducible refine Below.drew ?_) | (with_reducible refine below_drewN ?_ _) | go_size))⟩

end Go.Proofs.Ytinckicchakifaa
