/-
  The law AlgebraEnters out of its walk and the plain law: of any capability and any number it returns true, and only makes new memory.
-/
import Derived.Test.YtcpamlnlolidkaaWAlgebraEnters
import Derived.Test.YtcpamlnlolidkaaVAlgebraReturns
set_option linter.unusedSimpArgs false
set_option linter.unusedVariables false
namespace Go.Proofs.Ytcpamlnlolidkaa
open Go.RowKit Go.Sort

theorem and4_pw (p : Nat) (hp : p < 512) : (bits .and .u64 (p : Int) 4 != 0) = pw 4 p := by
  have h : ∀ p, p < 512 → (((p &&& 4 : Nat) : Int) != 0) = (((4 &&& (18446744073709551615 - p) : Nat) : Int) == 0) := by decide +kernel
  rw [pw_def, u64_andNot_nat 4 p (by decide) (by omega)]
  have e : bits .and .u64 (p : Int) 4 = ((p &&& 4 : Nat) : Int) := u64_and_nat p 4 (by omega) (by decide)
  rw [e]; exact h p hp
theorem entered_not (tg : Bool) (m a : Nat) : opn tg (tM m 1) a = false := by
  rw [opn_def, tM_ty m 1 (by decide)]; simp
theorem lv_typedE (tg : Bool) (m k a : Nat) (hm : m < 2 ^ 64) (hk : k < 4096) : lv tg (tM m k) a = lv tg m a := by
  rw [lv_def, lv_def, tM_ri m k a hm hk]

theorem walk_AlgebraEnters (tg : Bool) (m a : Nat) (hm : m < 18446744073709551616) (ha : a < 18446744073709551616) (n : Nat) (hn : n < 18446744073709551616) (w : World) :
    Calls Try.prog 9 #[.agg #[.bool tg, .int .u64 (m : Nat), .int .u64 (a : Nat)], .int .u64 n] w fun e w' => e = .returned (.bool true) ∧ Below w.heap.size w w' := by
  have q1 := enter_any tg m a hm
  have q2 := look_any tg m a hm
  have q3 := and_any tg m a 511 hm (by decide)
  cases he : en tg m a
  · rw [he] at q1
    have e0 : uM false m 1 = m := by rw [uM_def, if_neg (by decide)]
    rw [e0] at q1
    refine enters_no tg m a n _ _ _ _ _ _ _ _ q1 q2 q3 (and4_pw _ (pm_lt m)) ?_ w
    rw [en_def] at he; exact he
  · rw [he] at q1
    have e0 : uM true m 1 = tM m 1 := by rw [uM_def, if_pos rfl]
    rw [e0] at q1
    have hd := he
    rw [en_def] at hd
    simp only [Bool.and_eq_true] at hd
    obtain ⟨d1, d2⟩ := hd
    obtain ⟨l1, y0⟩ := opn_lv d1
    obtain ⟨rfl, hri⟩ := lv_ri l1
    rw [d1] at q3
    have hM : tM m 1 < 18446744073709551616 := tM_lt m 1 hm (by decide)
    have no : opn true (tM m 1) a = false := entered_not true m a
    have lvE : lv true (tM m 1) a = true := by rw [lv_typedE true m 1 a hm (by decide)]; exact l1
    have q4 := look_any true (tM m 1) a hM
    rw [tM_ty m 1 (by decide)] at q4
    have q5 : ∀ (k : Int) W, Calls Try.prog 16 #[.agg #[.bool true, .int .u64 (tM m 1 : Nat), .int .u64 (a : Nat)], .int .i64 k, .int .u64 0] W fun r w' => r = .returned (.int .i64 2) ∧ Below W.heap.size W w' := fun k W => by
      have q := check_any true (tM m 1) a hM k 0 W
      have z : ck true (tM m 1) a k 0 = 2 := by rw [ck_def, no, lvE]; rfl
      rw [z] at q; exact q
    have q6 := open_any true (tM m 1) a hM
    have z6 : oo true (tM m 1) a = true := by rw [oo_def, lvE, tM_ty m 1 (by decide)]; rfl
    rw [z6, uM_def, if_pos rfl, tM_back m 1 (by decide) y0] at q6
    have q7 := open_any true m a hm
    have z7 : oo true m a = false := by rw [oo_def, y0]; simp
    rw [z7, uM_def, if_neg (by decide)] at q7
    have q8 := move_any true (tM m 1) a n hM
    have z8 : aT true (tM m 1) a (ad a n) = false := by rw [aT_def, no]; rfl
    rw [z8] at q8
    have q9 := bound_any true (tM m 1) a n false hM
    have z9 : bT true (tM m 1) a n false = false := by rw [bT_def, no]; simp
    rw [z9] at q9
    have q10 := and_any true (tM m 1) a n hM hn
    rw [no] at q10
    have q11 := enter_any true (tM m 1) a hM
    have z11 : en true (tM m 1) a = false := by rw [en_def, no]; rfl
    rw [z11] at q11
    have g := and4_pw (pm m) (pm_lt m)
    rw [d2] at g
    exact enters_yes m a n _ _ _ _ _ _ _ _ _ _ _ _ _ _ _ _ q1 q2 q3 g q4 q5 q6 q7 q8 q9 q10 q11 w
end Go.Proofs.Ytcpamlnlolidkaa
