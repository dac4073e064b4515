/-
  The law AlgebraReturns out of its walk and the plain law: of any capability and any two numbers it returns true, and only makes new memory.
-/
import Derived.Test.YtcpamlnlolidkaaWAlgebraReturns
set_option linter.unusedSimpArgs false
set_option linter.unusedVariables false
namespace Go.Proofs.Ytcpamlnlolidkaa
open Go.RowKit Go.Sort

theorem opn_again (tg : Bool) (m a n : Nat) (hm : m < 2 ^ 64) : opn (opn tg m a) (aM m n) a = opn tg m a := by
  cases h : opn tg m a
  · rw [opn_def, lv_def]; rfl
  · obtain ⟨l, y⟩ := opn_lv h
    rw [opn_def, lv_def, aM_ri m n a hm, aM_ty, (lv_ri l).2, y]; rfl
/-- beside an address where its span is told as it is, one is right. -/
theorem ri_moved {m a s : Nat} (hm : m < 2 ^ 64) (h : ri m a = true) (ho : lOk m s = true) : ri m s = true := by
  rw [ri_bits m a hm] at h
  rw [ri_bits m s hm, ho]
  simp only [Bool.and_eq_true, decide_eq_true_eq] at h
  simp [h.2.1, h.2.2]
theorem ri_ok {m a : Nat} (h : ri m a = true) : lOk m a = true := by
  rw [ri_def] at h
  simp only [Bool.and_eq_true] at h
  exact h.1
theorem aT_yes {tg : Bool} {m a n : Nat} (h : aT tg m a n = true) : opn tg m a = true ∧ lOk m n = true ∧ lB m n = lB m a ∧ lT m n = lT m a := by
  rw [aT_def] at h
  simp only [Bool.and_eq_true, eq2_iff] at h
  exact ⟨h.1, h.2.1, h.2.2.1, h.2.2.2⟩
theorem bT_yes {tg : Bool} {m a n : Nat} {x : Bool} (h : bT tg m a n x = true) :
    opn tg m a = true ∧ a + n < 18446744073709551616 ∧ bM m a n = mM (kB a (a + n)) (kT a (a + n)) (pm m) (ty m) a ∧ mk (kB a (a + n)) (kT a (a + n)) (pm m) (ty m) a = true ∧ lB m a ≤ kB a (a + n) ∧ kT a (a + n) ≤ lT m a ∧
      (x = true → kB a (a + n) = a ∧ kT a (a + n) = a + n) ∧ bT tg m a n false = true := by
  have h0 := h
  rw [bT_def] at h
  simp only [Bool.and_eq_true, decide_eq_true_eq] at h
  obtain ⟨h1, h2, h3, h4, h5⟩ := h
  have hK := h1
  rw [bK_def] at h1
  simp only [Bool.and_eq_true, Bool.not_eq_true', decide_eq_false_iff_not] at h1
  obtain ⟨g1, g2, g3⟩ := h1
  have e : ad a n = a + n := by rw [ad_def, Nat.mod_eq_of_lt (by omega)]
  have hM : bM m a n = mM (kB a (ad a n)) (kT a (ad a n)) (pm m) (ty m) a := by rw [bM_def, if_pos hK]
  rw [e] at h3 h4 h5 g3 hM
  refine ⟨h2, by omega, hM, g3, h3, h4, fun hx => ?_, ?_⟩
  · rw [hx] at h5
    exact (eq2_iff _ _ _ _).1 (by simpa using h5)
  · rw [bT_def, hK, h2, e, decide_eq_true h3, decide_eq_true h4]; rfl
/-- what is bounded is within what it was bounded from. -/
theorem bound_within {tg : Bool} {m a n : Nat} {x : Bool} (h : bT tg m a n x = true) : wi (bM m a n) a m a = true ∧ ri (bM m a n) a = true ∧ pm (bM m a n) = pm m ∧ ty (bM m a n) = ty m ∧
    lB (bM m a n) a = kB a (a + n) ∧ lT (bM m a n) a = kT a (a + n) ∧ bM m a n < 18446744073709551616 := by
  obtain ⟨h1, h2, h3, h4, h5, h6, _, _⟩ := bT_yes h
  obtain ⟨_, r0, r1, r2, r3, r4, r5, r6⟩ := mk_at h4
  rw [← h3] at r0 r1 r2 r3 r4 r5 r6
  have hr := (lv_ri (opn_lv h1).1).2
  refine ⟨?_, r6, r4, r5, r1, r2, r0⟩
  rw [wi_def, r6, hr, r1, r2, r4, pw_self _ (by have := pm_lt m; omega)]
  simp [h5, h6]
def ng (d : Nat) : Nat := (18446744073709551616 - d) % 18446744073709551616
theorem ng_def (d : Nat) : ng d = (18446744073709551616 - d) % 18446744073709551616 := rfl
theorem ng_wrap (d : Nat) (hd : d < 18446744073709551616) : IntKind.u64.wrap (-(d : Int)) = ((ng d : Nat) : Int) := by rw [ng_def, IntKind.wrap_u64]; omega
theorem ng_back (a d : Nat) (ha : a < 18446744073709551616) (hd : d < 18446744073709551616) : ad (ad a d) (ng d) = a := by rw [ad_def, ad_def, ng_def]; omega
attribute [irreducible] ng

theorem walk_AlgebraReturns (tg : Bool) (m a : Nat) (hm : m < 18446744073709551616) (ha : a < 18446744073709551616) (d : Nat) (hd : d < 18446744073709551616) (n : Nat) (hn : n < 18446744073709551616) (w : World) :
    Calls Try.prog 5 #[.agg #[.bool tg, .int .u64 (m : Nat), .int .u64 (a : Nat)], .int .u64 d, .int .u64 n] w fun e w' => e = .returned (.bool true) ∧ Below w.heap.size w w' := by
  have q1 := move_any tg m a d hm
  have q3 := bound_any tg m a n true hm
  have q9 := and_any tg m a d hm hd
  have q10 := look_any (opn tg m a) (aM m d) a (aM_lt m d hm)
  obtain ⟨t1, t2, _⟩ := aM_tell m d a
  rw [t1, t2] at q10
  have q11 := look_any tg m a hm
  have q12 := and_any (opn tg m a) (aM m d) a d (aM_lt m d hm) hd
  rw [aM_again m d hd, opn_again tg m a d hm] at q12
  have g2 : bits .and .u64 (pm m : Int) (d : Int) = ((pm (aM m d) : Nat) : Int) := by
    rw [aM_pm m d hd]; exact u64_and_nat _ _ (by have := pm_lt m; omega) hd
  refine returns_walk tg m a d n _ (ng d) _ (bM m a n) _ _ _ _ _ _ _ _ _ _ _ _ q1 (fun h => ?_) (ng_wrap d hd) q3 (fun h => ?_) q9 q10 q11 g2 q12 w
  · obtain ⟨h1, h2, h3, h4⟩ := aT_yes h
    obtain ⟨l1, y0⟩ := opn_lv h1
    obtain ⟨rfl, hr⟩ := lv_ri l1
    refine ⟨rfl, ?_⟩
    have q := move_any true m (ad a d) (ng d) hm
    have z : aT true m (ad a d) (ad (ad a d) (ng d)) = true := by
      rw [ng_back a d ha hd, aT_def, opn_def, lv_def, ri_moved hm hr h2, y0, ri_ok hr, h3, h4, eq2_refl']; rfl
    rw [z, ng_back a d ha hd] at q
    exact q
  · obtain ⟨h1, h2, h3, h4, h5, h6, h7, h8⟩ := bT_yes h
    obtain ⟨w1, w2, w3, w4, w5, w6, w7⟩ := bound_within h
    obtain ⟨k1, k2⟩ := h7 rfl
    obtain ⟨l1, y0⟩ := opn_lv h1
    obtain ⟨rfl, hr⟩ := lv_ri l1
    rw [k1] at w5
    rw [k2] at w6
    have q4 := alength_any true (bM m a n) a w7
    rw [w5, w6, sb_le (by omega) (by omega), show a + n - a = n from by omega] at q4
    have q5 := abase_any true (bM m a n) a w7
    rw [w5] at q5
    have q6 := aoffset_any true (bM m a n) a w7
    rw [w5, sb_le ha (Nat.le_refl a), Nat.sub_self] at q6
    have q7 := bound_any true m a n false hm
    rw [h8] at q7
    have q8 := aunder_any true (bM m a n) a w7 true m a hm
    rw [w1] at q8
    exact ⟨rfl, q4, q5, q6, q7, q8⟩
end Go.Proofs.Ytcpamlnlolidkaa
