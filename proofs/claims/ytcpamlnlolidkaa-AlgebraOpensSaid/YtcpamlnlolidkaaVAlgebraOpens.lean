/-
  The law AlgebraOpens out of its walk and the plain law: of any two capabilities and any number it returns true, and only makes new memory.
-/
import Derived.Test.YtcpamlnlolidkaaWAlgebraOpens
set_option linter.unusedSimpArgs false
set_option linter.unusedVariables false
namespace Go.Proofs.Ytcpamlnlolidkaa
open Go.RowKit Go.Sort

theorem and64_pw (p : Nat) (hp : p < 512) : (bits .and .u64 (p : Int) 64 != 0) = pw 64 p := by
  have h : ∀ p, p < 512 → (((p &&& 64 : Nat) : Int) != 0) = (((64 &&& (18446744073709551615 - p) : Nat) : Int) == 0) := by decide +kernel
  rw [pw_def, u64_andNot_nat 64 p (by decide) (by omega)]
  have e : bits .and .u64 (p : Int) 64 = ((p &&& 64 : Nat) : Int) := u64_and_nat p 64 (by omega) (by decide)
  rw [e]; exact h p hp
theorem sealed_not (tg : Bool) (m k a : Nat) (hk : k < 4096) (h0 : k ≠ 0) : opn tg (tM m k) a = false := by
  rw [opn_def, tM_ty m k hk, decide_eq_false h0]; simp
theorem lv_typed (tg : Bool) (m k a : Nat) (hm : m < 2 ^ 64) (hk : k < 4096) : lv tg (tM m k) a = lv tg m a := by
  rw [lv_def, lv_def, tM_ri m k a hm hk]

theorem walk_AlgebraOpens (tg : Bool) (m a : Nat) (hm : m < 18446744073709551616) (ha : a < 18446744073709551616) (t2 : Bool) (m2 a2 : Nat) (hm2 : m2 < 18446744073709551616) (ha2 : a2 < 18446744073709551616) (n : Nat) (hn : n < 18446744073709551616) (w : World) :
    Calls Try.prog 3 #[.agg #[.bool tg, .int .u64 (m : Nat), .int .u64 (a : Nat)], .agg #[.bool t2, .int .u64 (m2 : Nat), .int .u64 (a2 : Nat)], .int .u64 n] w fun e w' => e = .returned (.bool true) ∧ Below w.heap.size w w' := by
  have q1 := seal_any tg m a hm t2 m2 a2 hm2
  cases hsl : sl tg m a t2 m2 a2
  · rw [hsl] at q1
    exact opens_no tg m a t2 m2 a2 n _ q1 w
  · rw [hsl] at q1
    have hd := hsl
    rw [sl_def] at hd
    simp only [Bool.and_eq_true, decide_eq_true_eq] at hd
    obtain ⟨d1, d2, d3, d4⟩ := hd
    obtain ⟨l1, y0⟩ := opn_lv d1
    obtain ⟨rfl, hri⟩ := lv_ri l1
    have hk : a2 < 4096 := by omega
    have hM : tM m a2 < 18446744073709551616 := tM_lt m a2 hm hk
    have e1 : uM true m a2 = tM m a2 := by rw [uM_def, if_pos rfl]
    rw [e1] at q1
    have no : opn true (tM m a2) a = false := sealed_not true m a2 a hk (by omega)
    have lvS : lv true (tM m a2) a = true := by rw [lv_typed true m a2 a hm hk]; exact l1
    have hd2 := d2
    rw [hs_def] at hd2
    simp only [Bool.and_eq_true, decide_eq_true_eq] at hd2
    obtain ⟨o2, _, b1, b2⟩ := hd2
    have q2 := address_any true (tM m a2) a n hM
    have z2 : aT true (tM m a2) a n = false := by rw [aT_def, no]; rfl
    rw [z2] at q2
    have q3 := bound_any true (tM m a2) a n false hM
    have z3 : bT true (tM m a2) a n false = false := by rw [bT_def, no]; simp
    rw [z3] at q3
    have q4 := and_any true (tM m a2) a n hM hn
    rw [no] at q4
    have q5 := enter_any true (tM m a2) a hM
    have z5 : en true (tM m a2) a = false := by rw [en_def, no]; rfl
    rw [z5] at q5
    have q6 := seal_any true (tM m a2) a hM t2 m2 a2 hm2
    have z6 : sl true (tM m a2) a t2 m2 a2 = false := by rw [sl_def, no]; rfl
    rw [z6] at q6
    have q7 := check_any true (tM m a2) a hM 1 0
    have z7 : ck true (tM m a2) a 1 0 = 2 := by rw [ck_def, no, lvS]; rfl
    rw [z7] at q7
    have q8 := unseal_any true (tM m a2) a hM t2 m2 a2 hm2
    have z8 : us true (tM m a2) a t2 m2 a2 = pw 64 (pm m2) := by
      rw [us_def, lvS, tM_ty m a2 hk, hs_def, o2]
      simp [b1, b2, d3]
    rw [z8] at q8
    have q9 := look_any t2 m2 a2 hm2
    have q10 := address_any t2 m2 a2 n hm2
    have q11 := unseal_any true (tM m a2) a hM (aT t2 m2 a2 n) m2 n hm2
    refine opens_yes m a t2 m2 a2 n _ _ _ _ _ _ _ _ _ _ _ _ _ _ _ q1 q2 q3 q4 q5 q6 q7 q8 q9 q10 q11 (and64_pw _ (pm_lt m2)) (fun ho => ?_) (fun hr => ?_) w
    · rw [uM_def, ho, if_pos rfl]; exact tM_back m a2 hk y0
    · rw [us_def] at hr
      simp only [Bool.and_eq_true, decide_eq_true_eq] at hr
      obtain ⟨_, _, h3, h4⟩ := hr
      rw [tM_ty m a2 hk] at h4
      refine ⟨h4, ?_⟩
      rw [hs_def] at h3
      simp only [Bool.and_eq_true] at h3
      exact (lv_ri (opn_lv h3.1).1).1
end Go.Proofs.Ytcpamlnlolidkaa
