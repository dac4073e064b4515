/-
  The law AlgebraChecks out of its walk and the plain law: of any capability and any use it returns true, and only makes new memory.
-/
import Derived.Test.YtcpamlnlolidkaaWAlgebraChecks
import Derived.Test.YtcpamlnlolidkaaVAlgebraReturns
import Derived.Test.YtcpamlnlolidkaaR6
set_option linter.unusedSimpArgs false
set_option linter.unusedVariables false
namespace Go.Proofs.Ytcpamlnlolidkaa
open Go.RowKit Go.Sort

/-- the lowest 16 bits of a whole number. -/
def lo16 (u : Int) : Nat := (u % 65536).toNat
theorem lo16_def (u : Int) : lo16 u = (u % 65536).toNat := rfl
theorem lo16_lt (u : Int) : lo16 u < 65536 := by rw [lo16_def]; omega
theorem lo16_bits (u : Int) : bits .and .i64 u 65535 = ((lo16 u : Nat) : Int) := by
  show IntKind.i64.wrap ((BitVec.ofInt 64 u &&& BitVec.ofInt 64 (65535 : Int)).toNat : Int) = _
  have e : (BitVec.ofInt 64 (65535 : Int)).toNat = 2 ^ 16 - 1 := by decide
  rw [BitVec.toNat_and, e, and_mask, BitVec.toNat_ofInt, lo16_def]
  have h2 : IntKind.i64.wrap (((u % (2 ^ 64 : Nat)).toNat % 2 ^ 16 : Nat) : Int) = (((u % (2 ^ 64 : Nat)).toNat % 2 ^ 16 : Nat) : Int) := IntWalk.i64_in _ (by omega)
  rw [h2]
  omega
attribute [irreducible] lo16
theorem ck_ok {tg : Bool} {m a : Nat} {k : Int} {n : Nat} (h : ck tg m a k n = 0) : lv tg m a = true ∧ opn tg m a = true ∧ pw (nd k) (pm m) = true ∧ inn a n (lB m a) (lT m a) = true := by
  rw [ck_def] at h
  cases h1 : lv tg m a <;> cases h2 : opn tg m a <;> cases h3 : pw (nd k) (pm m) <;> cases h4 : inn a n (lB m a) (lT m a) <;> rw [h1, h2, h3, h4] at h <;> simp [ckv] at h ⊢
theorem ck_mk {tg : Bool} {m a : Nat} {k : Int} {n : Nat} (h1 : lv tg m a = true) (h2 : opn tg m a = true) (h3 : pw (nd k) (pm m) = true) (h4 : inn a n (lB m a) (lT m a) = true) : ck tg m a k n = 0 := by
  rw [ck_def, h1, h2, h3, h4]; rfl
theorem inn_iff (a n b t : Nat) : inn a n b t = true ↔ a + n < 18446744073709551616 ∧ b ≤ a ∧ a + n ≤ t := by
  rw [inn_def, ad_def]
  simp only [Bool.and_eq_true, Bool.not_eq_true', decide_eq_true_eq, decide_eq_false_iff_not]
  constructor
  · intro ⟨h1, h2, h3⟩
    rw [Nat.mod_eq_of_lt (by omega)] at h3
    exact ⟨by omega, h2, h3⟩
  · intro ⟨h1, h2, h3⟩
    rw [Nat.mod_eq_of_lt h1]
    exact ⟨by omega, h2, h3⟩

theorem walk_AlgebraChecks (tg : Bool) (m a : Nat) (hm : m < 18446744073709551616) (ha : a < 18446744073709551616) (k u1 u2 : Int) (_ : -9223372036854775808 ≤ k) (_ : k ≤ 9223372036854775807) (_ : -9223372036854775808 ≤ u1) (_ : u1 ≤ 9223372036854775807) (_ : -9223372036854775808 ≤ u2) (_ : u2 ≤ 9223372036854775807) (w : World) :
    Calls Try.prog 6 #[.agg #[.bool tg, .int .u64 (m : Nat), .int .u64 (a : Nat)], .agg #[.int .i64 k, .int .i64 u1, .int .i64 u2]] w fun e w' => e = .returned (.bool true) ∧ Below w.heap.size w w' := by
  have g1 := lo16_bits u1
  have g2 := lo16_bits u2
  have l1 := lo16_lt u1
  have l2 := lo16_lt u2
  generalize lo16 u1 = n at *
  generalize lo16 u2 = t0 at *
  have g3 : IntKind.u64.wrap (n : Int) = (n : Int) := by rw [IntKind.wrap_u64]; omega
  have g4 : IntKind.u64.wrap (t0 : Int) = (t0 : Int) := by rw [IntKind.wrap_u64]; omega
  have q1 := check_any false m a hm k n
  have z1 : ck false m a k n = 1 := by rw [ck_def, lv_def]; rfl
  rw [z1] at q1
  have q2 := check_any tg m a hm k n
  by_cases hc : ck tg m a k n = 0
  · rw [hc] at q2
    by_cases hn : n = 0
    · subst hn
      exact checks_zero tg m a k u1 u2 t0 g1 g2 g3 g4 q1 q2 w
    · obtain ⟨c1, c2, c3, c4⟩ := ck_ok hc
      obtain ⟨rfl, hri⟩ := lv_ri c1
      obtain ⟨_, y0⟩ := opn_lv c2
      rw [inn_iff] at c4
      obtain ⟨i1, i2, i3⟩ := c4
      have ht : t0 % n < n := Nat.mod_lt _ (by omega)
      have q3 := move_any true m a (t0 % n) hm
      have e3 : ad a (t0 % n) = a + t0 % n := by rw [ad_def, Nat.mod_eq_of_lt (by omega)]
      rw [e3] at q3
      have q6 := bound_any true m a n true hm
      have q7 := check_any true m a hm k (n - 1)
      have z7 : ck true m a k (n - 1) = 0 := ck_mk c1 c2 c3 ((inn_iff _ _ _ _).2 ⟨by omega, i2, by omega⟩)
      rw [z7] at q7
      have q10 := rLives_any true m a hm
      rw [c1] at q10
      refine checks_full m a k u1 u2 n t0 (t0 % n) _ (n - t0 % n) (n - 1) (n + 1) _ _ _ g1 g2 g3 g4 (by simp; omega) (by omega) (by omega) (by omega) (by rw [Int.tmod_eq_emod_of_nonneg (by omega)]; omega) (by rw [IntKind.wrap_u64]; omega) (by rw [IntKind.wrap_u64]; omega) (by rw [IntKind.wrap_u64]; omega) q1 q2 q3 (fun h => ?_) q6 q7 (fun h => ?_) q10 w
      · obtain ⟨h1, h2, h3, h4⟩ := aT_yes h
        have hr : ri m (a + t0 % n) = true := ri_moved hm hri h2
        have lv1 : lv true m (a + t0 % n) = true := by rw [lv_def, hr]; rfl
        have op1 : opn true m (a + t0 % n) = true := by rw [opn_def, lv1, y0]; rfl
        have q4 := check_any true m (a + t0 % n) hm k 1
        rw [ck_mk lv1 op1 c3 (by rw [h3, h4]; exact (inn_iff _ _ _ _).2 ⟨by omega, by omega, by omega⟩)] at q4
        have q5 := check_any true m (a + t0 % n) hm k (n - t0 % n)
        rw [ck_mk lv1 op1 c3 (by rw [h3, h4]; exact (inn_iff _ _ _ _).2 ⟨by omega, by omega, by omega⟩)] at q5
        exact ⟨q4, q5⟩
      · obtain ⟨h1, h2, h3, h4, h5, h6, h7, h8⟩ := bT_yes h
        obtain ⟨w1, w2, w3, w4, w5, w6, w7⟩ := bound_within h
        obtain ⟨k1, k2⟩ := h7 rfl
        rw [k1] at w5
        rw [k2] at w6
        have lv1 : lv true (bM m a n) a = true := by rw [lv_def, w2]; rfl
        have op1 : opn true (bM m a n) a = true := by rw [opn_def, lv1, w4, y0]; rfl
        have q8 := check_any true (bM m a n) a w7 k n
        rw [ck_mk lv1 op1 (by rw [w3]; exact c3) (by rw [w5, w6]; exact (inn_iff _ _ _ _).2 ⟨by omega, by omega, by omega⟩)] at q8
        have q9 := check_any true (bM m a n) a w7 k (n + 1)
        have z9 : ck true (bM m a n) a k (n + 1) = 4 := by
          have : inn a (n + 1) (lB (bM m a n) a) (lT (bM m a n) a) = false := by
            cases hi : inn a (n + 1) (lB (bM m a n) a) (lT (bM m a n) a)
            · rfl
            · rw [inn_iff, w6] at hi; omega
          rw [ck_def, lv1, op1, w3, c3, this]; rfl
        rw [z9] at q9
        exact ⟨q8, q9⟩
  · exact checks_bad tg m a k u1 u2 n t0 _ g1 g2 g3 g4 q1 q2 (by simp; exact hc) w
end Go.Proofs.Ytcpamlnlolidkaa
