
/-
  What a capability's words tell, in plain numbers: permissions, type, span; a word made of them; which capabilities are right, and within each other. No program in sight.
-/
import Derived.Test.YtkfeabekdjbphaaTG
set_option linter.unusedSimpArgs false
set_option linter.unusedVariables false
namespace Go.Proofs.Ytkfeabekdjbphaa

theorem held_and {a b : Prop} (h : a) (k : a → b) : a ∧ b := ⟨h, k h⟩
theorem calls_at {P : Program} {f : FuncId} {args : Array Value} {w : World} {Q : Ending → World → Prop} (h : ∀ W, w = W → Calls P f args W Q) : Calls P f args w Q := h w rfl

def pm (m : Nat) : Nat := m / 4294967296 % 512
def ty (m : Nat) : Nat := m / 281474976710656 % 4096
/-- the word of fields, permissions and a type. -/
def mt (b t e p y : Nat) : Nat := wd b t e + p % 512 * 4294967296 + y % 4096 * 281474976710656
/-- the span that a capability tells. -/
def lB (m a : Nat) : Nat := dB (oB m) (oT m) (oE m) a
def lT (m a : Nat) : Nat := dT (oB m) (oT m) (oE m) a
def lOk (m a : Nat) : Bool := dOk (oB m) (oT m) (oE m) a
/-- may one have a tag? -/
def ri (m a : Nat) : Bool := lOk m a && decide (mt (oB m) (oT m) (oE m) (pm m) (ty m) = m)
theorem pm_def (m : Nat) : pm m = m / 4294967296 % 512 := rfl
theorem ty_def (m : Nat) : ty m = m / 281474976710656 % 4096 := rfl
theorem mt_def (b t e p y : Nat) : mt b t e p y = wd b t e + p % 512 * 4294967296 + y % 4096 * 281474976710656 := rfl
theorem lB_def (m a : Nat) : lB m a = dB (oB m) (oT m) (oE m) a := rfl
theorem lT_def (m a : Nat) : lT m a = dT (oB m) (oT m) (oE m) a := rfl
theorem lOk_def (m a : Nat) : lOk m a = dOk (oB m) (oT m) (oE m) a := rfl
theorem ri_def (m a : Nat) : ri m a = (lOk m a && decide (mt (oB m) (oT m) (oE m) (pm m) (ty m) = m)) := rfl
theorem mt_lt (b t e p y : Nat) : mt b t e p y < 1152921504606846976 := by
  rw [mt_def]; have := wd_lt b t e; omega
theorem oB_lt (m : Nat) : oB m < 16384 := by rw [oB_def]; omega
theorem oT_lt (m : Nat) : oT m < 4096 := by rw [oT_def]; omega
theorem oE_lt (m : Nat) : oE m < 64 := by rw [oE_def]; omega
attribute [irreducible] pm ty mt lB lT lOk ri
end Go.Proofs.Ytkfeabekdjbphaa
