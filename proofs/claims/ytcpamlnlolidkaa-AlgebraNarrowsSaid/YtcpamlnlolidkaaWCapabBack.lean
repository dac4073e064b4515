/-
  The walk of the law CapabBack: of any view and any capability it returns true, and only makes new memory.
-/
import Derived.Test.YtcpamlnlolidkaaC6
set_option linter.unusedSimpArgs false
set_option linter.unusedVariables false
namespace Go.Proofs.Ytcpamlnlolidkaa
open Go.RowKit Go.Sort

theorem eq2_iff (a b c d : Nat) : eq2 a b c d = true ↔ a = c ∧ b = d := by unfold eq2; simp
theorem eq2_refl' (a b : Nat) : eq2 a b a b = true := (eq2_iff a b a b).2 ⟨rfl, rfl⟩
theorem pw_self (p : Nat) (hp : p < 18446744073709551616) : pw p p = true := by
  have h : p &&& (2 ^ 64 - 1 - p) = 0 := by
    apply Nat.eq_of_testBit_eq
    intro i
    have e1 : 2 ^ 64 - 1 - p = 2 ^ 64 - (p + 1) := by omega
    rw [Nat.testBit_and, e1, Nat.testBit_two_pow_sub_succ (by omega), Nat.zero_testBit]
    cases p.testBit i <;> simp
  rw [pw_def, u64_andNot_nat _ _ hp hp]
  have h' : p &&& (18446744073709551616 - 1 - p) = 0 := h
  simp only [h]
  first | rfl | simp
theorem mk_back {b t p y : Nat} (h : mk b t p y b = true) :
    mA b t p y b = b ∧ mM b t p y b < 18446744073709551616 ∧ lB (mM b t p y b) b = b ∧ lT (mM b t p y b) b = t ∧ lOk (mM b t p y b) b = true ∧ pm (mM b t p y b) = p ∧ ty (mM b t p y b) = y ∧
      ri (mM b t p y b) b = true ∧ wi (mM b t p y b) b (mM b t p y b) b = true := by
  have hA : mA b t p y b = b := by rw [mA_def, if_pos h]
  have hM : mM b t p y b = mt (eB b t) (eT b t) (eE b t) p y := by rw [mM_def, if_pos h]
  rw [hA, hM]
  rw [mk_def] at h
  simp only [Bool.and_eq_true, decide_eq_true_eq] at h
  obtain ⟨h1, h2, h3, h4, h5⟩ := h
  rw [eq2_iff] at h3
  have l1 := eB_lt b t; have l2 := eT_lt b t; have l3 := eE_le b t
  have lm := mt_lt (eB b t) (eT b t) (eE b t) p y
  generalize eB b t = B at *
  generalize eT b t = T at *
  generalize eE b t = E at *
  have o1 : oB (mt B T E p y) = B := by rw [oB_def, mt_def, wd_def]; omega
  have o2 : oT (mt B T E p y) = T := by rw [oT_def, mt_def, wd_def]; omega
  have o3 : oE (mt B T E p y) = E := by rw [oE_def, mt_def, wd_def]; omega
  have o4 : pm (mt B T E p y) = p := by rw [pm_def, mt_def, wd_def]; omega
  have o5 : ty (mt B T E p y) = y := by rw [ty_def, mt_def, wd_def]; omega
  have r1 : lB (mt B T E p y) b = b := by rw [lB_def, o1, o2, o3]; exact h3.1
  have r2 : lT (mt B T E p y) b = t := by rw [lT_def, o1, o2, o3]; exact h3.2
  have r3 : lOk (mt B T E p y) b = true := by rw [lOk_def, o1, o2, o3]; exact h2
  have r4 : ri (mt B T E p y) b = true := by rw [ri_def, r3, o1, o2, o3, o4, o5]; simp
  refine ⟨rfl, by omega, r1, r2, r3, o4, o5, r4, ?_⟩
  rw [wi_def, r4, o4, pw_self p (by omega)]; simp

theorem right_back {m a : Nat} (h : ri m a = true) (hk : mk (lB m a) (lT m a) (pm m) (ty m) a = true) : mM (lB m a) (lT m a) (pm m) (ty m) a = m ∧ mA (lB m a) (lT m a) (pm m) (ty m) a = a := by
  refine ⟨?_, by rw [mA_def, if_pos hk]⟩
  rw [mM_def, if_pos hk]
  rw [ri_def] at h
  simp only [Bool.and_eq_true, decide_eq_true_eq] at h
  obtain ⟨h1, h2⟩ := h
  rw [lOk_def] at h1
  obtain ⟨f1, f2, f3, f4, f5⟩ := told_fields h1
  rw [← lB_def, ← lT_def] at f1 f3 f4 f5
  rw [← lT_def] at f2
  obtain ⟨_, e1, e2, e3, _⟩ := e_yes f1 f2
  rw [e1, e2, e3, f3, f4, f5]; exact h2

theorem one_root (w : World) :
    Calls Try.prog 43 #[.agg #[.int .u64 0, .int .u64 16], .int .u64 3] w fun r w' =>
      r = .returned (.tuple #[.agg #[.bool true, .int .u64 12885164032, .int .u64 0], .bool true]) ∧ Below w.heap.size w w' := by
  have h := root_any 0 16 3 (by decide) w
  have hx : ex 0 16 = 0 := ex_zero (by decide)
  have hkb : kb 0 16 = 0 := by rw [kb_def, hx, qd_def]
  have hkt : kt 0 16 = 16 := by rw [kt_def, hx, qu_def, qd_def]
  obtain ⟨v0, e1, e2, e3, e4, _, _⟩ := e_yes (b := 0) (t := 16) (by decide) (by decide)
  have hfb : fB 0 16 = 0 := by unfold fB; rw [hx, qd_def]
  have hft : fT 0 16 = 16 := by unfold fT; rw [hx, qu_def, qd_def]
  rw [hkb, hkt, eq2_refl'] at e4
  obtain ⟨n1, n2, n3⟩ := near_steps (b := 0) (t := 16) (a := 0) (by decide) (by decide) (by decide) (by rw [hx, qd_def]; decide) (by rw [hx, qd_def]; decide)
  rw [hkb] at n2
  rw [hkt] at n3
  have hk : mk 0 16 3 0 0 = true := by
    rw [mk_def, e1, e2, e3, e4, n1, n2, n3, eq2_refl']; rfl
  have hM : mM 0 16 3 0 0 = 12885164032 := by
    rw [mM_def, if_pos hk, e1, e2, e3, hfb, hft, hx, mt_def, wd_def]
  have hA : mA 0 16 3 0 0 = 0 := by rw [mA_def, if_pos hk]
  rw [hk, hM, hA] at h
  exact h
theorem run_ne4 (a b c d : Nat) (W : World) : (binOp .neq 34 (.agg #[.int .u64 a, .int .u64 b, .int .u64 c, .int .u64 d]) (.agg #[.int .u64 a, .int .u64 b, .int .u64 c, .int .u64 d])).run Try.prog W = .ok (.bool false) W := by
  simp [go_sem]

end Go.Proofs.Ytcpamlnlolidkaa
