/-
  The law CapabOrder out of its walk and the plain law: of any three views it returns true, and only makes new memory.
-/
import Derived.Test.YtinckicchakifaaWCapabOrder
import Derived.Test.YtinckicchakifaaR5b
set_option linter.unusedSimpArgs false
set_option linter.unusedVariables false
namespace Go.Proofs.Ytinckicchakifaa
open Go.RowKit Go.Sort

theorem pw_sub (p q : Nat) (hp : p < 512) (hq : q < 512) : pw p q = true ↔ p &&& q = p := by
  rw [← pw_and p q (by omega) (by omega), u64_and_nat p q (by omega) (by omega), beq_iff_eq]
  constructor
  · intro h; omega
  · intro h; rw [h]
theorem pw_trans' {p q r : Nat} (hp : p < 512) (hq : q < 512) (hr : r < 512) (h1 : pw p q = true) (h2 : pw q r = true) : pw p r = true := by
  rw [pw_sub _ _ hp hq] at h1
  rw [pw_sub _ _ hq hr] at h2
  rw [pw_sub _ _ hp hr, ← h1, Nat.and_assoc, h2]
theorem pw_anti {p q : Nat} (hp : p < 512) (hq : q < 512) (h1 : pw p q = true) (h2 : pw q p = true) : p = q := by
  rw [pw_sub _ _ hp hq] at h1
  rw [pw_sub _ _ hq hp] at h2
  rw [← h1, Nat.and_comm, h2]
theorem wi_mk {b t p y c u q z : Nat} (h : mk b t p y b = true) (k : mk c u q z c = true) :
    wi (mM b t p y b) (mA b t p y b) (mM c u q z c) (mA c u q z c) = (decide (c ≤ b) && (decide (t ≤ u) && pw p q)) := by
  obtain ⟨h1, _, h2, h3, _, h4, _, h5, _⟩ := mk_back h
  obtain ⟨k1, _, k2, k3, _, k4, _, k5, _⟩ := mk_back k
  rw [h1, k1, wi_def, h2, h3, h4, h5, k2, k3, k4, k5]; rfl
theorem mk_perm {b t p y : Nat} (h : mk b t p y b = true) : p < 512 := by
  obtain ⟨_, _, _, _, _, h4, _⟩ := mk_back h
  rw [← h4]; exact pm_lt _
theorem mM_lt' (b t p y a : Nat) : mM b t p y a < 18446744073709551616 := by
  rw [mM_def]
  split
  · have := mt_lt (eB b t) (eT b t) (eE b t) p y; omega
  · omega
theorem order_plain {b0 t0 p0 y0 b1 t1 p1 y1 b2 t2 p2 y2 : Nat} (h0 : mk b0 t0 p0 y0 b0 = true) (h1 : mk b1 t1 p1 y1 b1 = true) (h2 : mk b2 t2 p2 y2 b2 = true) :
    (wi (mM b0 t0 p0 y0 b0) (mA b0 t0 p0 y0 b0) (mM b1 t1 p1 y1 b1) (mA b1 t1 p1 y1 b1) = true → wi (mM b1 t1 p1 y1 b1) (mA b1 t1 p1 y1 b1) (mM b2 t2 p2 y2 b2) (mA b2 t2 p2 y2 b2) = true → wi (mM b0 t0 p0 y0 b0) (mA b0 t0 p0 y0 b0) (mM b2 t2 p2 y2 b2) (mA b2 t2 p2 y2 b2) = true) ∧
    (wi (mM b0 t0 p0 y0 b0) (mA b0 t0 p0 y0 b0) (mM b1 t1 p1 y1 b1) (mA b1 t1 p1 y1 b1) && wi (mM b1 t1 p1 y1 b1) (mA b1 t1 p1 y1 b1) (mM b0 t0 p0 y0 b0) (mA b0 t0 p0 y0 b0)) = (eq2 b0 t0 b1 t1 && ((p0 : Int) == (p1 : Int))) := by
  have m0 := mk_perm h0
  have m1 := mk_perm h1
  have m2 := mk_perm h2
  rw [wi_mk h0 h1, wi_mk h1 h2, wi_mk h0 h2, wi_mk h1 h0]
  constructor
  · simp only [Bool.and_eq_true, decide_eq_true_eq]
    intro ⟨a1, a2, a3⟩ ⟨c1, c2, c3⟩
    exact ⟨by omega, by omega, pw_trans' m0 m1 m2 a3 c3⟩
  · rw [Bool.eq_iff_iff]
    simp only [Bool.and_eq_true, decide_eq_true_eq, beq_iff_eq, eq2_iff]
    constructor
    · intro ⟨⟨a1, a2, a3⟩, c1, c2, c3⟩
      exact ⟨⟨by omega, by omega⟩, by rw [pw_anti m0 m1 a3 c3]⟩
    · intro ⟨⟨a1, a2⟩, a3⟩
      have e : p0 = p1 := by omega
      subst a1; subst a2; subst e
      exact ⟨⟨Nat.le_refl _, Nat.le_refl _, pw_self _ (by omega)⟩, Nat.le_refl _, Nat.le_refl _, pw_self _ (by omega)⟩
theorem walk_CapabOrder (b0 t0 p0 y0 b1 t1 p1 y1 b2 t2 p2 y2 : Nat) (hb0 : b0 < 18446744073709551616) (ht0 : t0 < 18446744073709551616) (hp0 : p0 < 18446744073709551616) (hy0 : y0 < 18446744073709551616) (hb1 : b1 < 18446744073709551616) (ht1 : t1 < 18446744073709551616) (hp1 : p1 < 18446744073709551616) (hy1 : y1 < 18446744073709551616) (hb2 : b2 < 18446744073709551616) (ht2 : t2 < 18446744073709551616) (hp2 : p2 < 18446744073709551616) (hy2 : y2 < 18446744073709551616) (w : World) :
    Calls Try.prog 5 #[.agg #[.int .u64 b0, .int .u64 t0, .int .u64 p0, .int .u64 y0, .int .u64 b1, .int .u64 t1, .int .u64 p1, .int .u64 y1, .int .u64 b2, .int .u64 t2, .int .u64 p2, .int .u64 y2]] w fun e w' => e = .returned (.bool true) ∧ Below w.heap.size w w' := by
  have l0 := mM_lt' b0 t0 p0 y0 b0
  have l1 := mM_lt' b1 t1 p1 y1 b1
  have l2 := mM_lt' b2 t2 p2 y2 b2
  refine order_walk b0 t0 p0 y0 _ _ b1 t1 p1 y1 _ _ b2 t2 p2 y2 _ _ _ _ _ _ _ _ _ _ _ (make_any b0 t0 p0 y0 b0 hp0 hy0) (make_any b1 t1 p1 y1 b1 hp1 hy1) (make_any b2 t2 p2 y2 b2 hp2 hy2)
    (within_any false _ _ l0 false _ _ l1) (within_any false _ _ l1 false _ _ l2) (within_any false _ _ l0 false _ _ l2) (within_any false _ _ l1 false _ _ l0) (fun h0 w => ?_) rfl rfl (fun h0 h1 h2 => order_plain h0 h1 h2) w
  have h := within_any false _ (mA b0 t0 p0 y0 b0) l0 true 2197211316224 0 (by decide) w
  obtain ⟨k1, _, _, _, _, _, _, k2, _⟩ := mk_back h0
  rw [wi_all] at h
  rw [k1] at h ⊢
  rw [k2] at h
  exact h
end Go.Proofs.Ytinckicchakifaa
