
/-
  Contracts of algebra.of, (live).open, (live).has, algebra.Clear: of any capability.
-/
import Derived.Test.YtkfeabekdjbphaaA0
set_option linter.unusedSimpArgs false
set_option linter.unusedVariables false
namespace Go.Proofs.Ytkfeabekdjbphaa
open Go.RowKit Go.Sort

/-- does one live? is it open? -/
def lv (tg : Bool) (m a : Nat) : Bool := tg && ri m a
theorem lv_def (tg : Bool) (m a : Nat) : lv tg m a = (tg && ri m a) := rfl
attribute [irreducible] lv
def opn (tg : Bool) (m a : Nat) : Bool := lv tg m a && decide (ty m = 0)
theorem opn_def (tg : Bool) (m a : Nat) : opn tg m a = (lv tg m a && decide (ty m = 0)) := rfl
attribute [irreducible] opn

theorem int_nat_beq (y k : Nat) : (((y : Int)) == ((k : Nat) : Int)) = decide (y = k) := by
  rw [Bool.eq_iff_iff]; simp; omega
/-- has one a permission, is open, and its address in its span? -/
def hs (tg : Bool) (m a p : Nat) : Bool := opn tg m a && (pw p (pm m) && (decide (lB m a ≤ a) && decide (a < lT m a)))
theorem hs_def (tg : Bool) (m a p : Nat) : hs tg m a p = (opn tg m a && (pw p (pm m) && (decide (lB m a ≤ a) && decide (a < lT m a)))) := rfl
attribute [irreducible] hs
theorem aclear_any (tg : Bool) (m a : Nat) (w : World) :
    Calls Try.prog 14 #[.agg #[.bool tg, .int .u64 (m : Nat), .int .u64 (a : Nat)]] w fun r w' => r = .returned (.agg #[.bool false, .int .u64 (m : Nat), .int .u64 (a : Nat)]) ∧ Below w.heap.size w w' := by
  go_enter Try.func14, Try.ntmps14
  go_wp2
  refine bodyPost_ret (v := .agg #[.bool false, .int .u64 (m : Nat), .int .u64 (a : Nat)]) (by simp [results, Try.results14, go_sem]) rfl ⟨rfl, (by repeat' (first | (with_reducible exact Below.refl _ _) | (with_reducible assumption) | (with_reducible refine Below.alloc ?_ ?_ _) | (with_reducible refine Below.setCell ?_ ?_ _) | (with_reducible refine Below.drew ?_) | (with_reducible refine below_drewN ?_ _) | go_size))⟩
end Go.Proofs.Ytkfeabekdjbphaa
