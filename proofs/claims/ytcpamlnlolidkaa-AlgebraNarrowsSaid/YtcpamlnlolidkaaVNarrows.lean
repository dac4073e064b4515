/-
  The plain part of the law AlgebraNarrows: each act keeps 'what has a tag is right, within what it was built from, and that has its tag'.
-/
import Derived.Test.YtcpamlnlolidkaaVAlgebraReturns
import Derived.Test.YtcpamlnlolidkaaR5b
set_option linter.unusedSimpArgs false
set_option linter.unusedVariables false
namespace Go.Proofs.Ytcpamlnlolidkaa
open Go.RowKit Go.Sort

theorem pw_sub (p q : Nat) (hp : p < 512) (hq : q < 512) : pw p q = true ↔ p &&& q = p := by
  rw [← pw_and p q (by omega) (by omega), u64_and_nat p q (by omega) (by omega), beq_iff_eq]
  constructor
  · intro h; omega
  · intro h; rw [h]
theorem pw_trans' {p q r : Nat} (hp : p < 512) (hq : q < 512) (hr : r < 512) (h1 : pw p q = true) (h2 : pw q r = true) : pw p r = true := by
  rw [pw_sub _ _ hp hq] at h1
  rw [pw_sub _ _ hq hr] at h2
  rw [pw_sub _ _ hp hr, ← h1, Nat.and_assoc, h2]
theorem pw_same {p : Nat} (hp : p < 512) : pw p p = true := by rw [pw_sub _ _ hp hp, Nat.and_self]
theorem wi_iff (m a n b : Nat) : wi m a n b = true ↔ ri m a = true ∧ ri n b = true ∧ lB n b ≤ lB m a ∧ lT m a ≤ lT n b ∧ pw (pm m) (pm n) = true := by
  rw [wi_def]; simp only [Bool.and_eq_true, decide_eq_true_eq]
theorem wi_trans' {m a n b o c : Nat} (h1 : wi m a n b = true) (h2 : wi n b o c = true) : wi m a o c = true := by
  rw [wi_iff] at h1 h2 ⊢
  obtain ⟨a1, a2, a3, a4, a5⟩ := h1
  obtain ⟨b1, b2, b3, b4, b5⟩ := h2
  exact ⟨a1, b2, by omega, by omega, pw_trans' (pm_lt _) (pm_lt _) (pm_lt _) a5 b5⟩
theorem wi_same {m a : Nat} (h : ri m a = true) : wi m a m a = true := by
  rw [wi_iff]; exact ⟨h, h, Nat.le_refl _, Nat.le_refl _, pw_same (pm_lt _)⟩

/-- d = (t, m, a) has, if a tag, what the law asks beside from = (ft, fm, fa). -/
def Nw (t : Bool) (m a : Nat) (ft : Bool) (fm fa : Nat) : Prop := m < 18446744073709551616 ∧ fm < 18446744073709551616 ∧ (t = true → ri m a = true ∧ wi m a fm fa = true ∧ ft = true)
theorem Nw.off {t : Bool} {m a : Nat} {ft : Bool} {fm fa : Nat} (h : Nw t m a ft fm fa) (n b : Nat) (hn : n < 18446744073709551616) : Nw false n b ft fm fa := ⟨hn, h.2.1, fun h => by simp at h⟩
/-- what is within d, if d has its tag, is good. -/
theorem Nw.sub {t : Bool} {m a : Nat} {ft : Bool} {fm fa : Nat} (h : Nw t m a ft fm fa) {t' : Bool} {n b : Nat} (hn : n < 18446744073709551616) (k : t' = true → t = true ∧ wi n b m a = true) : Nw t' n b ft fm fa := by
  refine ⟨hn, h.2.1, fun ht => ?_⟩
  obtain ⟨k1, k2⟩ := k ht
  obtain ⟨h1, h2, h3⟩ := h.2.2 k1
  exact ⟨((wi_iff _ _ _ _).1 k2).1, wi_trans' k2 h2, h3⟩
theorem Nw.start {t : Bool} {m a : Nat} (hm : m < 18446744073709551616) (h : t = true → ri m a = true) : Nw t m a t m a := ⟨hm, hm, fun ht => ⟨h ht, wi_same (h ht), ht⟩⟩
theorem Nw.at' {t : Bool} {m a : Nat} {ft : Bool} {fm fa : Nat} (h : Nw t m a ft fm fa) (n : Nat) : Nw (aT t m a n) m n ft fm fa := by
  refine h.sub h.1 fun ht => ?_
  obtain ⟨h1, h2, h3, h4⟩ := aT_yes ht
  obtain ⟨h5, h6⟩ := lv_ri (opn_lv h1).1
  exact ⟨h5, (wi_iff _ _ _ _).2 ⟨ri_moved h.1 h6 h2, h6, by omega, by omega, pw_same (pm_lt _)⟩⟩
theorem bM_lt (m a n : Nat) (hm : m < 18446744073709551616) : bM m a n < 18446744073709551616 := by
  rw [bM_def]
  split
  · rw [mM_def]
    split
    · have := mt_lt (eB (kB a (ad a n)) (kT a (ad a n))) (eT (kB a (ad a n)) (kT a (ad a n))) (eE (kB a (ad a n)) (kT a (ad a n))) (pm m) (ty m); omega
    · omega
  · exact hm
theorem Nw.bound {t : Bool} {m a : Nat} {ft : Bool} {fm fa : Nat} (h : Nw t m a ft fm fa) (n : Nat) (x : Bool) : Nw (bT t m a n x) (bM m a n) a ft fm fa := by
  refine h.sub (bM_lt _ _ _ h.1) fun ht => ?_
  obtain ⟨h5, h6⟩ := lv_ri (opn_lv (bT_yes ht).1).1
  exact ⟨h5, (bound_within ht).1⟩
theorem Nw.and' {t : Bool} {m a : Nat} {ft : Bool} {fm fa : Nat} (h : Nw t m a ft fm fa) (n : Nat) (hn : n < 18446744073709551616) : Nw (opn t m a) (aM m n) a ft fm fa := by
  refine h.sub (aM_lt _ _ h.1) fun ht => ?_
  obtain ⟨h5, h6⟩ := lv_ri (opn_lv ht).1
  obtain ⟨e1, e2, _⟩ := aM_tell m n a
  refine ⟨h5, (wi_iff _ _ _ _).2 ⟨by rw [aM_ri m n a h.1]; exact h6, h6, by omega, by omega, ?_⟩⟩
  rw [pw_sub _ _ (pm_lt _) (pm_lt _), aM_pm m n hn, Nat.and_assoc, Nat.and_comm n, ← Nat.and_assoc, Nat.and_self]
theorem wi_tM {m a : Nat} (k : Nat) (hm : m < 18446744073709551616) (hk : k < 4096) (h : ri m a = true) : wi (tM m k) a m a = true := by
  obtain ⟨e1, e2, _⟩ := tM_tell m k a
  rw [wi_iff, tM_ri m k a hm hk, tM_pm]
  exact ⟨h, h, by omega, by omega, pw_same (pm_lt _)⟩
theorem uM_lt (o : Bool) (m k : Nat) (hm : m < 18446744073709551616) (hk : o = true → k < 4096) : uM o m k < 18446744073709551616 := by
  rw [uM_def]
  split
  · exact tM_lt m k hm (hk ‹_›)
  · exact hm
theorem Nw.seal {t : Bool} {m a : Nat} {ft : Bool} {fm fa : Nat} (h : Nw t m a ft fm fa) (t2 : Bool) (m2 a2 : Nat) : Nw (sl t m a t2 m2 a2) (uM (sl t m a t2 m2 a2) m a2) a ft fm fa := by
  have hk : sl t m a t2 m2 a2 = true → opn t m a = true ∧ a2 < 4096 := fun ht => by
    rw [sl_def] at ht
    simp only [Bool.and_eq_true, decide_eq_true_eq] at ht
    exact ⟨ht.1, by omega⟩
  refine h.sub (uM_lt _ _ _ h.1 fun ht => (hk ht).2) fun ht => ?_
  obtain ⟨h5, h6⟩ := lv_ri (opn_lv (hk ht).1).1
  rw [uM_def, if_pos ht]
  exact ⟨h5, wi_tM a2 h.1 (hk ht).2 h6⟩
theorem Nw.enter {t : Bool} {m a : Nat} {ft : Bool} {fm fa : Nat} (h : Nw t m a ft fm fa) : Nw (en t m a) (uM (en t m a) m 1) a ft fm fa := by
  refine h.sub (uM_lt _ _ _ h.1 fun _ => by decide) fun ht => ?_
  rw [uM_def, if_pos ht]
  rw [en_def] at ht
  simp only [Bool.and_eq_true] at ht
  obtain ⟨h5, h6⟩ := lv_ri (opn_lv ht.1).1
  exact ⟨h5, wi_tM 1 h.1 (by decide) h6⟩
theorem Nw.open' {t : Bool} {m a : Nat} {ft : Bool} {fm fa : Nat} (h : Nw t m a ft fm fa) : Nw t (uM (oo t m a) m 0) a ft fm fa := by
  refine h.sub (uM_lt _ _ _ h.1 fun _ => by decide) fun ht => ?_
  have h6 := (h.2.2 ht).1
  rw [uM_def]
  split
  · exact ⟨ht, wi_tM 0 h.1 (by decide) h6⟩
  · exact ⟨ht, wi_same h6⟩
theorem Nw.build {t : Bool} {m a : Nat} {t2 : Bool} {m2 a2 : Nat} (hm : m < 18446744073709551616) (hm2 : m2 < 18446744073709551616) (hb : bd m a t2 m2 a2 = true) : Nw true m a t2 m2 a2 := by
  rw [bd_def] at hb
  simp only [Bool.and_eq_true] at hb
  obtain ⟨h1, h2, _⟩ := hb
  exact ⟨hm, hm2, fun _ => ⟨((wi_iff _ _ _ _).1 h2).1, h2, (lv_ri (opn_lv h1).1).1⟩⟩
theorem aT_wrong {t : Bool} {m a : Nat} (n : Nat) (h : ri m a = false) : aT t m a n = false := by
  cases hx : aT t m a n
  · rfl
  · have := (lv_ri (opn_lv (aT_yes hx).1).1).2
    rw [h] at this; simp at this
end Go.Proofs.Ytcpamlnlolidkaa
