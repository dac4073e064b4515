/-
  The walk of the law CapabRoots: of any span, permissions and capability it returns true, and only makes new memory.
-/
import Derived.Test.YtcpamlnlolidkaaWCapabBack
import Derived.Deep.RegionWith
set_option linter.unusedSimpArgs false
set_option linter.unusedVariables false
namespace Go.Proofs.Ytcpamlnlolidkaa
open Go.RowKit Go.Sort

theorem ex_all : ex 0 281474976710656 = 37 := by
  have h := ex_mul (u := 0) (v := 4096) (x := 36) (by omega) (by omega)
  simpa using h
theorem mk_all : mk 0 281474976710656 511 0 0 = true := by
  have hkb : kb 0 281474976710656 = 0 := by have := kb_le 0 281474976710656; omega
  have hkt : kt 0 281474976710656 = 281474976710656 := by
    have h1 := kt_ge 0 281474976710656
    have h2 := kt_le48 (b := 0) (t := 281474976710656) (by decide) (by decide)
    omega
  obtain ⟨v0, e1, e2, e3, e4, _, _⟩ := e_yes (b := 0) (t := 281474976710656) (by decide) (by decide)
  rw [hkb, hkt, eq2_refl'] at e4
  obtain ⟨n1, n2, n3⟩ := near_steps (b := 0) (t := 281474976710656) (a := 0) (by decide) (by decide) (by decide) (by rw [qd_def]; exact Nat.le_add_right _ _) (by rw [qd_def]; omega)
  rw [hkb] at n2
  rw [hkt] at n3
  rw [mk_def, e1, e2, e3, e4, n1, n2, n3, eq2_refl']; rfl
theorem mM_all : mM 0 281474976710656 511 0 0 = 2197211316224 := by
  obtain ⟨v0, e1, e2, e3, e4, _, _⟩ := e_yes (b := 0) (t := 281474976710656) (by decide) (by decide)
  have hfb : fB 0 281474976710656 = 0 := by unfold fB; rw [ex_all, qd_def]
  have hft : fT 0 281474976710656 = 0 := by unfold fT; rw [ex_all, qu_def, qd_def]
  rw [mM_def, if_pos mk_all, e1, e2, e3, hfb, hft, ex_all, mt_def, wd_def]
theorem all_root (w : World) :
    Calls Try.prog 43 #[.agg #[.int .u64 0, .int .u64 281474976710656], .int .u64 511] w fun r w' =>
      r = .returned (.tuple #[.agg #[.bool true, .int .u64 2197211316224, .int .u64 0], .bool true]) ∧ Below w.heap.size w w' := by
  have h := root_any 0 281474976710656 511 (by decide) w
  have hA : mA 0 281474976710656 511 0 0 = 0 := by rw [mA_def, if_pos mk_all]
  rw [mk_all, mM_all, hA] at h
  exact h
theorem pw_low (p : Nat) (hp : p < 512) : pw p 511 = true := by
  have h : p &&& (2 ^ 64 - 1 - 511) = 0 := by
    apply Nat.eq_of_testBit_eq
    intro i
    have e1 : 2 ^ 64 - 1 - 511 = 2 ^ 64 - (511 + 1) := by omega
    rw [Nat.testBit_and, e1, Nat.testBit_two_pow_sub_succ (by omega), Nat.zero_testBit]
    by_cases hi : i < 9
    · have : Nat.testBit 511 i = true := by rw [show (511 : Nat) = 2 ^ 9 - 1 from rfl, Nat.testBit_two_pow_sub_one]; simp [hi]
      rw [this]; simp
    · have : p.testBit i = false := Nat.testBit_lt_two_pow (Nat.lt_of_lt_of_le hp (Nat.pow_le_pow_right (n := 2) (i := 9) (by decide) (by omega)))
      rw [this]; simp
  have e : bits .andNot .u64 (p : Int) ((511 : Nat) : Int) = ((p &&& (2 ^ 64 - 1 - 511) : Nat) : Int) := u64_andNot_nat p 511 (by omega) (by decide)
  rw [pw_def, e, h]; rfl
theorem wi_all (m a : Nat) : wi m a 2197211316224 0 = ri m a := by
  have hb := mk_back mk_all
  rw [mM_all] at hb
  obtain ⟨_, _, h1, h2, h3, h4, h5, h6, _⟩ := hb
  rw [wi_def, h1, h2, h4, h6, pw_low _ (pm_lt m)]
  cases hr : ri m a
  · rfl
  · rw [ri_def] at hr
    simp only [Bool.and_eq_true, decide_eq_true_eq] at hr
    have ho := hr.1
    rw [lOk_def] at ho
    have ht := (told_fields ho).2.1
    rw [← lT_def] at ht
    simp [ht]
theorem mk_root (b t p : Nat) : mk b t p 0 b = (eX b t && (decide (p ≤ 511) && decide (b < 281474976710656))) := by
  rw [mk_def]
  by_cases hv : b ≤ t ∧ t ≤ 281474976710656
  · obtain ⟨v0, e1, e2, e3, e4, _, _⟩ := e_yes hv.1 hv.2
    rw [e1, e2, e3, e4]
    cases hx : eq2 (kb b t) (kt b t) b t
    · rfl
    · rw [eq2_iff] at hx
      by_cases h48 : b < 281474976710656
      · have hp := pow_pos2 (ex b t - 1)
        have hq := hx.1
        rw [kb_def] at hq
        have hd : b / 2 ^ (ex b t - 1) = qd b (ex b t - 1) := (qd_def _ _).symm
        obtain ⟨n1, n2, n3⟩ := near_steps (a := b) hv.1 hv.2 h48 (by rw [hd]; omega) (by rw [hd]; omega)
        rw [n1, n2, n3, hx.1, hx.2, eq2_refl']
        simp [h48]
      · have : dOk (fB b t) (fT b t) (ex b t) b = false := by
          rw [dOk_eq]
          have : decide (b < 281474976710656) = false := decide_eq_false h48
          rw [this]; simp
        rw [this]
        simp [h48]
  · obtain ⟨v0, e1, e2, e3, e4, _, _⟩ := e_no hv
    rw [e4]; rfl

end Go.Proofs.Ytcpamlnlolidkaa
