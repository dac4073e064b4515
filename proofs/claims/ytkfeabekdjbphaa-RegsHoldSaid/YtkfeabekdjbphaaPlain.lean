/-
  The plain law of kept spans: what 14 + 12 + 6 bits keep of a span, what they tell again, and bounds on all of it. No program in sight.
-/
namespace Go.Proofs.Ytkfeabekdjbphaa

/-- floor quotient by 2^x -/
def qd (b x : Nat) : Nat := b / 2 ^ x
/-- ceiling quotient by 2^x -/
def qu (t x : Nat) : Nat := (t + (2 ^ x - 1)) / 2 ^ x

theorem pow_pos2 (x : Nat) : 0 < 2 ^ x := Nat.pow_pos (by decide)

theorem qd_le (b x : Nat) : qd b x * 2 ^ x ≤ b := Nat.div_mul_le_self _ _
theorem qd_lt (b x : Nat) : b < qd b x * 2 ^ x + 2 ^ x := Nat.lt_div_mul_add (pow_pos2 x)
theorem qu_ge (t x : Nat) : t ≤ qu t x * 2 ^ x := by
  have h := Nat.lt_div_mul_add (a := t + (2 ^ x - 1)) (pow_pos2 x)
  have := pow_pos2 x
  unfold qu; omega
theorem qu_lt (t x : Nat) : qu t x * 2 ^ x < t + 2 ^ x := by
  have h := Nat.div_mul_le_self (t + (2 ^ x - 1)) (2 ^ x)
  have := pow_pos2 x
  unfold qu; omega
theorem qd_zero (b : Nat) : qd b 0 = b := by simp [qd]
theorem qu_zero (b : Nat) : qu b 0 = b := by simp [qu]
theorem le_qd {b x k : Nat} (h : k * 2 ^ x ≤ b) : k ≤ qd b x := (Nat.le_div_iff_mul_le (pow_pos2 x)).2 h
theorem qu_le {t x k : Nat} (h : t ≤ k * 2 ^ x) : qu t x ≤ k := by
  have h1 := qu_lt t x
  have h2 : qu t x * 2 ^ x < (k + 1) * 2 ^ x := by rw [Nat.add_mul]; omega
  have := Nat.lt_of_mul_lt_mul_right h2
  omega
theorem qd_le_qu {b t : Nat} (h : b ≤ t) (x : Nat) : qd b x ≤ qu t x := by
  have h1 := qd_le b x
  have h2 := qu_ge t x
  exact Nat.le_of_mul_le_mul_right (by omega : qd b x * 2 ^ x ≤ qu t x * 2 ^ x) (pow_pos2 x)
theorem qd_mono {a b : Nat} (h : a ≤ b) (x : Nat) : qd a x ≤ qd b x := Nat.div_le_div_right h
theorem qu_mono {a b : Nat} (h : a ≤ b) (x : Nat) : qu a x ≤ qu b x := Nat.div_le_div_right (by omega)
/-- how many steps of 2^x. -/
def stp (b t x : Nat) : Nat := qu t x - qd b x
theorem stp_ge {b t : Nat} (h : b ≤ t) (x : Nat) : t - b ≤ stp b t x * 2 ^ x := by
  have h1 := qd_le b x
  have h2 := qu_ge t x
  unfold stp; rw [Nat.sub_mul]; omega
theorem stp_lt {b t : Nat} (h : b ≤ t) (x : Nat) : stp b t x * 2 ^ x < t - b + 2 * 2 ^ x := by
  have h1 := qd_lt b x
  have h2 := qu_lt t x
  have h3 := Nat.mul_le_mul_right (2 ^ x) (qd_le_qu h x)
  unfold stp; rw [Nat.sub_mul]; omega
theorem stp_succ {b t : Nat} (h : b ≤ t) (x : Nat) : stp b t x ≤ 2 * stp b t (x + 1) := by
  have h1 : qu t x ≤ 2 * qu t (x + 1) := qu_le (by have := qu_ge t (x + 1); rw [Nat.pow_succ] at this; rw [Nat.mul_comm 2, Nat.mul_assoc, Nat.mul_comm 2]; exact this)
  have h2 : 2 * qd b (x + 1) ≤ qd b x := le_qd (by have := qd_le b (x + 1); rw [Nat.pow_succ] at this; rw [Nat.mul_comm 2, Nat.mul_assoc, Nat.mul_comm 2]; exact this)
  have h3 := qd_le_qu h (x + 1)
  unfold stp; omega

/-- the exponent field that is chosen. -/
def ex (b t : Nat) : Nat :=
  if t - b < 4096 then 0
  else if stp b t (Nat.log2 (t - b) - 12) < 8192 then Nat.log2 (t - b) - 12 + 1 else Nat.log2 (t - b) - 12 + 2

theorem log2_ge {n : Nat} (h : 4096 ≤ n) : 12 ≤ Nat.log2 n := (Nat.le_log2 (by omega)).2 (by simpa using h)

theorem top_pow {n : Nat} (h : 4096 ≤ n) : 4096 * 2 ^ (Nat.log2 n - 12) ≤ n ∧ n < 8192 * 2 ^ (Nat.log2 n - 12) := by
  have h12 := log2_ge h
  have h1 : 2 ^ Nat.log2 n ≤ n := Nat.log2_self_le (by omega)
  have h2 : n < 2 ^ (Nat.log2 n + 1) := Nat.lt_log2_self
  have e : Nat.log2 n = Nat.log2 n - 12 + 12 := by omega
  generalize Nat.log2 n - 12 = x at *
  rw [e] at h1 h2
  rw [Nat.pow_succ, Nat.pow_add] at h2
  rw [Nat.pow_add] at h1
  omega

theorem ex_zero {b t : Nat} (h : t - b < 4096) : ex b t = 0 := by unfold ex; rw [if_pos h]

theorem ex_pos_steps {b t : Nat} (hbt : b ≤ t) (h : 4096 ≤ t - b) : 0 < ex b t ∧ 4096 ≤ stp b t (ex b t - 1) ∧ stp b t (ex b t - 1) < 8192 := by
  have hp := top_pow h
  have hlo := stp_ge hbt (Nat.log2 (t - b) - 12)
  unfold ex
  rw [if_neg (by omega)]
  by_cases hs : stp b t (Nat.log2 (t - b) - 12) < 8192
  · rw [if_pos hs]
    refine ⟨by omega, ?_, by simpa using hs⟩
    simp only [Nat.add_sub_cancel]
    exact Nat.le_of_mul_le_mul_right (by omega : 4096 * 2 ^ (Nat.log2 (t - b) - 12) ≤ _) (pow_pos2 _)
  · rw [if_neg hs]
    have e : Nat.log2 (t - b) - 12 + 2 - 1 = Nat.log2 (t - b) - 12 + 1 := by omega
    rw [e]
    have h1 := stp_succ hbt (Nat.log2 (t - b) - 12)
    have h2 := stp_lt hbt (Nat.log2 (t - b) - 12 + 1)
    refine ⟨by omega, by omega, ?_⟩
    have h3 : stp b t (Nat.log2 (t - b) - 12 + 1) * 2 ^ (Nat.log2 (t - b) - 12 + 1) < 8192 * 2 ^ (Nat.log2 (t - b) - 12 + 1) := by
      rw [Nat.pow_succ] at h2 ⊢; omega
    exact Nat.lt_of_mul_lt_mul_right h3

theorem ex_least {b t : Nat} (hbt : b ≤ t) (h : 4096 ≤ t - b) (e : Nat) (he : 0 < e) (hlt : e < ex b t) : 8192 ≤ stp b t (e - 1) := by
  have hp := top_pow h
  unfold ex at hlt
  rw [if_neg (by omega)] at hlt
  have base : ∀ x, x < Nat.log2 (t - b) - 12 → 8192 ≤ stp b t x := by
    intro x hx
    have hlo := stp_ge hbt x
    have hpw : 2 * 2 ^ x ≤ 2 ^ (Nat.log2 (t - b) - 12) := by
      rw [Nat.mul_comm, ← Nat.pow_succ]; exact Nat.pow_le_pow_right (by decide) hx
    exact Nat.le_of_mul_le_mul_right (by omega : 8192 * 2 ^ x ≤ _) (pow_pos2 _)
  by_cases hs : stp b t (Nat.log2 (t - b) - 12) < 8192
  · rw [if_pos hs] at hlt
    exact base _ (by omega)
  · rw [if_neg hs] at hlt
    by_cases hx : e - 1 < Nat.log2 (t - b) - 12
    · exact base _ hx
    · have : e - 1 = Nat.log2 (t - b) - 12 := by omega
      rw [this]; omega

theorem ex_le {b t : Nat} (hbt : b ≤ t) (ht : t ≤ 281474976710656) : ex b t ≤ 37 := by
  by_cases h : t - b < 4096
  · rw [ex_zero h]; decide
  · have h' : 4096 ≤ t - b := by omega
    have h12 := log2_ge h'
    unfold ex
    rw [if_neg h]
    by_cases h48 : t - b < 281474976710656
    · have : Nat.log2 (t - b) < 48 := (Nat.log2_lt (by omega)).2 (by simpa using h48)
      split <;> omega
    · have e1 : t = 281474976710656 := by omega
      have e2 : b = 0 := by omega
      subst e1 e2
      have e3 : Nat.log2 (281474976710656 - 0) = 48 := by
        have : (281474976710656 - 0) = 2 ^ 48 := by decide
        rw [this, Nat.log2_two_pow]
      rw [e3]
      have : stp 0 281474976710656 (48 - 12) = 4096 := by
        have h1 : qu 281474976710656 36 = 4096 := by unfold qu; decide
        have h2 : qd 0 36 = 0 := by unfold qd; decide
        unfold stp; show qu 281474976710656 36 - qd 0 36 = 4096; rw [h1, h2]
      rw [this]; decide

end Go.Proofs.Ytkfeabekdjbphaa
namespace Go.Proofs.Ytkfeabekdjbphaa
/-- the span that is kept, in bytes. -/
def kb (b t : Nat) : Nat := qd b (ex b t - 1) * 2 ^ (ex b t - 1)
def kt (b t : Nat) : Nat := qu t (ex b t - 1) * 2 ^ (ex b t - 1)

theorem kb_def (b t : Nat) : kb b t = qd b (ex b t - 1) * 2 ^ (ex b t - 1) := rfl
theorem kt_def (b t : Nat) : kt b t = qu t (ex b t - 1) * 2 ^ (ex b t - 1) := rfl
theorem kb_le (b t : Nat) : kb b t ≤ b := qd_le _ _
theorem kt_ge (b t : Nat) : t ≤ kt b t := qu_ge _ _
theorem kb_near (b t : Nat) : b - kb b t < 2 ^ (ex b t - 1) := by have := qd_lt b (ex b t - 1); unfold kb; have := pow_pos2 (ex b t - 1); omega
theorem kt_near (b t : Nat) : kt b t - t < 2 ^ (ex b t - 1) := by have := qu_lt t (ex b t - 1); unfold kt; have := pow_pos2 (ex b t - 1); omega

theorem qd_mul (k x : Nat) : qd (k * 2 ^ x) x = k := Nat.mul_div_cancel _ (pow_pos2 x)
theorem qu_mul (k x : Nat) : qu (k * 2 ^ x) x = k := by
  have h1 := qu_lt (k * 2 ^ x) x
  have h2 := qu_ge (k * 2 ^ x) x
  have h3 := Nat.le_of_mul_le_mul_right h2 (pow_pos2 x)
  have h4 : qu (k * 2 ^ x) x * 2 ^ x < (k + 1) * 2 ^ x := by rw [Nat.add_mul]; omega
  have := Nat.lt_of_mul_lt_mul_right h4
  omega

theorem log2_of {k x : Nat} (h1 : 4096 ≤ k) (h2 : k < 8192) : Nat.log2 (k * 2 ^ x) = 12 + x := by
  have hp := pow_pos2 x
  have hne : k * 2 ^ x ≠ 0 := by have := Nat.mul_le_mul_right (2 ^ x) h1; omega
  have hlo : 2 ^ (12 + x) ≤ k * 2 ^ x := by rw [Nat.pow_add]; exact Nat.mul_le_mul_right _ h1
  have hhi : k * 2 ^ x < 2 ^ (12 + x + 1) := by
    rw [show 12 + x + 1 = 13 + x from by omega, Nat.pow_add]; exact Nat.mul_lt_mul_of_pos_right h2 hp
  have a := (Nat.le_log2 hne).2 hlo
  have b := (Nat.log2_lt hne).2 hhi
  omega

/-- two multiples of 2^x, from 4096 to 8191 steps from each other. -/
theorem ex_mul {u v x : Nat} (h1 : 4096 ≤ v - u) (h2 : v - u < 8192) : ex (u * 2 ^ x) (v * 2 ^ x) = x + 1 := by
  have hs : v * 2 ^ x - u * 2 ^ x = (v - u) * 2 ^ x := by rw [Nat.sub_mul]
  have hge : 4096 ≤ (v - u) * 2 ^ x := by
    have := Nat.mul_le_mul h1 (pow_pos2 x); omega
  unfold ex
  rw [hs, if_neg (by omega), log2_of h1 h2, show 12 + x - 12 = x from by omega]
  have : stp (u * 2 ^ x) (v * 2 ^ x) x = v - u := by unfold stp; rw [qd_mul, qu_mul]
  rw [this, if_pos h2]

/-- what is kept is kept as it is, by the same exponent. -/
theorem ex_kept {b t : Nat} (hbt : b ≤ t) : ex (kb b t) (kt b t) = ex b t := by
  by_cases h : t - b < 4096
  · have e := ex_zero h
    have e1 : kb b t = b := by unfold kb; rw [e]; simp [qd]
    have e2 : kt b t = t := by unfold kt; rw [e]; simp [qu]
    rw [e1, e2]
  · obtain ⟨h0, h1, h2⟩ := ex_pos_steps hbt (by omega)
    unfold kb kt
    unfold stp at h1 h2
    rw [ex_mul h1 h2]; omega
theorem kb_kept {b t : Nat} (hbt : b ≤ t) : kb (kb b t) (kt b t) = kb b t := by
  have e := ex_kept hbt
  have : kb (kb b t) (kt b t) = qd (kb b t) (ex b t - 1) * 2 ^ (ex b t - 1) := by rw [kb_def (kb b t) (kt b t), e]
  rw [this]; unfold kb; rw [qd_mul]
theorem kt_kept {b t : Nat} (hbt : b ≤ t) : kt (kb b t) (kt b t) = kt b t := by
  have e := ex_kept hbt
  have : kt (kb b t) (kt b t) = qu (kt b t) (ex b t - 1) * 2 ^ (ex b t - 1) := by rw [kt_def (kb b t) (kt b t), e]
  rw [this]; unfold kt; rw [qu_mul]
theorem kb_le_kt {b t : Nat} (hbt : b ≤ t) : kb b t ≤ kt b t := by have := kb_le b t; have := kt_ge b t; omega

theorem pow48 {x : Nat} (h : x ≤ 36) : ∃ m, 281474976710656 = m * 2 ^ x ∧ 4096 ≤ m := by
  refine ⟨2 ^ (48 - x), ?_, ?_⟩
  · rw [← Nat.pow_add, show 48 - x + x = 48 from by omega]
  · have : 2 ^ 12 ≤ 2 ^ (48 - x) := Nat.pow_le_pow_right (by decide) (by omega)
    simpa using this
theorem kt_le48 {b t : Nat} (hbt : b ≤ t) (ht : t ≤ 281474976710656) : kt b t ≤ 281474976710656 := by
  have h := ex_le hbt ht
  obtain ⟨m, hm, _⟩ := pow48 (x := ex b t - 1) (by omega)
  unfold kt
  have := qu_le (t := t) (x := ex b t - 1) (k := m) (by omega)
  rw [hm]; exact Nat.mul_le_mul_right _ this

/-- a span within another one: its exponent is no greater. -/
theorem ex_mono {b t b' t' : Nat} (h : b ≤ t) (hb : b' ≤ b) (ht : t ≤ t') : ex b t ≤ ex b' t' := by
  by_cases h0 : t' - b' < 4096
  · rw [ex_zero h0, ex_zero (by omega)]; exact Nat.le_refl _
  · obtain ⟨p0, p1, p2⟩ := ex_pos_steps (b := b') (t := t') (by omega) (by omega)
    by_cases hs : t - b < 4096
    · rw [ex_zero hs]; omega
    · refine Nat.le_of_not_lt fun hlt => ?_
      have := ex_least h (by omega) (ex b' t') p0 hlt
      have hq := qu_mono ht (ex b' t' - 1)
      have hd := qd_mono hb (ex b' t' - 1)
      unfold stp at this p2
      omega
theorem kb_coarse (b : Nat) {x y : Nat} (h : x ≤ y) : qd b y * 2 ^ y ≤ qd b x * 2 ^ x := by
  obtain ⟨d, rfl⟩ := Nat.exists_eq_add_of_le h
  have : qd b (x + d) * 2 ^ d ≤ qd b x := le_qd (by rw [Nat.mul_assoc, ← Nat.pow_add, Nat.add_comm d x]; exact qd_le b (x + d))
  rw [Nat.add_comm x d, Nat.pow_add, ← Nat.mul_assoc, Nat.add_comm d x]
  exact Nat.mul_le_mul_right _ this
theorem kt_coarse (t : Nat) {x y : Nat} (h : x ≤ y) : qu t x * 2 ^ x ≤ qu t y * 2 ^ y := by
  obtain ⟨d, rfl⟩ := Nat.exists_eq_add_of_le h
  have : qu t x ≤ qu t (x + d) * 2 ^ d := qu_le (by rw [Nat.mul_assoc, ← Nat.pow_add, Nat.add_comm d x]; exact qu_ge t (x + d))
  rw [Nat.add_comm x d, Nat.pow_add, ← Nat.mul_assoc, Nat.add_comm d x]
  exact Nat.mul_le_mul_right _ this
theorem kb_mono {b t b' t' : Nat} (h : b ≤ t) (hb : b' ≤ b) (ht : t ≤ t') : kb b' t' ≤ kb b t := by
  have h1 := kb_coarse b' (Nat.sub_le_sub_right (ex_mono h hb ht) 1)
  have h2 := Nat.mul_le_mul_right (2 ^ (ex b t - 1)) (qd_mono hb (ex b t - 1))
  unfold kb; omega
theorem kt_mono {b t b' t' : Nat} (h : b ≤ t) (hb : b' ≤ b) (ht : t ≤ t') : kt b t ≤ kt b' t' := by
  have h1 := kt_coarse t' (Nat.sub_le_sub_right (ex_mono h hb ht) 1)
  have h2 := Nat.mul_le_mul_right (2 ^ (ex b t - 1)) (qu_mono ht (ex b t - 1))
  unfold kt; omega

/-- the fields that are kept. -/
def fB (b t : Nat) : Nat := qd b (ex b t - 1) % 16384
def fT (b t : Nat) : Nat := qu t (ex b t - 1) % 4096

/-! ### what fields tell beside an address -/
def dN (fb ft fe : Nat) : Nat := (ft + 16384 - fb) % 4096 + if fe = 0 then 0 else 4096
def dD (fb fe a : Nat) : Nat := (a / 2 ^ (fe - 1) + 20480 - fb) % 16384
def dBase (fb fe a : Nat) : Nat := a / 2 ^ (fe - 1) + 4096 - dD fb fe a
def dOk (fb ft fe a : Nat) : Bool :=
  decide (fb < 16384) && decide (ft < 4096) && decide (fe ≤ 37) && decide (a < 281474976710656) && decide (dD fb fe a ≤ a / 2 ^ (fe - 1) + 4096) &&
    decide (dBase fb fe a + dN fb ft fe ≤ 281474976710656 / 2 ^ (fe - 1))
def dB (fb ft fe a : Nat) : Nat := if dOk fb ft fe a = true then dBase fb fe a * 2 ^ (fe - 1) else 0
def dT (fb ft fe a : Nat) : Nat := if dOk fb ft fe a = true then (dBase fb fe a + dN fb ft fe) * 2 ^ (fe - 1) else 0

/-- what is kept is told again beside each address from 4096 steps below its base on, up to 12288 steps above it. -/
theorem near_steps {b t a : Nat} (hbt : b ≤ t) (ht : t ≤ 281474976710656) (ha : a < 281474976710656)
    (h1 : qd b (ex b t - 1) ≤ a / 2 ^ (ex b t - 1) + 4096) (h2 : a / 2 ^ (ex b t - 1) < qd b (ex b t - 1) + 12288) :
    dOk (fB b t) (fT b t) (ex b t) a = true ∧ dB (fB b t) (fT b t) (ex b t) a = kb b t ∧ dT (fB b t) (fT b t) (ex b t) a = kt b t := by
  have hex := ex_le hbt ht
  have hle := qd_le_qu hbt (ex b t - 1)
  have hn : qd b (ex b t - 1) + dN (fB b t) (fT b t) (ex b t) = qu t (ex b t - 1) := by
    unfold dN fB fT
    by_cases h : t - b < 4096
    · have e := ex_zero h
      rw [e]; simp only [Nat.zero_sub, qd_zero, qu_zero, if_true]
      omega
    · obtain ⟨p0, p1, p2⟩ := ex_pos_steps hbt (by omega)
      unfold stp at p1 p2
      rw [if_neg (by omega)]
      omega
  have hd : dD (fB b t) (ex b t) a = a / 2 ^ (ex b t - 1) + 4096 - qd b (ex b t - 1) := by
    unfold dD fB; omega
  have hbase : dBase (fB b t) (ex b t) a = qd b (ex b t - 1) := by
    unfold dBase; rw [hd]; omega
  have hk : qu t (ex b t - 1) ≤ 281474976710656 / 2 ^ (ex b t - 1) := by
    have := kt_le48 hbt ht
    unfold kt at this
    exact (Nat.le_div_iff_mul_le (pow_pos2 _)).2 this
  have hok : dOk (fB b t) (fT b t) (ex b t) a = true := by
    unfold dOk
    rw [hbase, hn, hd]
    simp only [Bool.and_eq_true, decide_eq_true_eq]
    refine ⟨⟨⟨⟨⟨?_, ?_⟩, hex⟩, ha⟩, ?_⟩, hk⟩
    · unfold fB; omega
    · unfold fT; omega
    · omega
  refine ⟨hok, ?_, ?_⟩
  · unfold dB; rw [if_pos hok, hbase]; rfl
  · unfold dT; rw [if_pos hok, hbase, hn]; rfl


/-- the greatest multiple of 2^e that is not above; the least that is not below. -/
def fl (x e : Nat) : Nat := qd x e * 2 ^ e
def ce (x e : Nat) : Nat := qu x e * 2 ^ e
theorem fl_def (x e : Nat) : fl x e = qd x e * 2 ^ e := rfl
theorem ce_def (x e : Nat) : ce x e = qu x e * 2 ^ e := rfl
theorem qd_def (x e : Nat) : qd x e = x / 2 ^ e := rfl
theorem qu_def (x e : Nat) : qu x e = qd (x + (2 ^ e - 1)) e := rfl
theorem stp_def (b t x : Nat) : stp b t x = qu t x - qd b x := rfl
/-- the fields of a word. -/
def oB (x : Nat) : Nat := x % 16384
def oT (x : Nat) : Nat := x / 16384 % 4096
def oE (x : Nat) : Nat := x / 67108864 % 64
/-- a word's parts. -/
def wd1 (b : Nat) : Nat := b % 16384
def wd2 (b t : Nat) : Nat := b % 16384 + t % 4096 * 16384
def wd (b t e : Nat) : Nat := b % 16384 + t % 4096 * 16384 + e % 64 * 67108864
theorem oB_def (x : Nat) : oB x = x % 16384 := rfl
theorem oT_def (x : Nat) : oT x = x / 16384 % 4096 := rfl
theorem oE_def (x : Nat) : oE x = x / 67108864 % 64 := rfl
theorem wd_def (b t e : Nat) : wd b t e = b % 16384 + t % 4096 * 16384 + e % 64 * 67108864 := rfl
theorem wd1_def (b : Nat) : wd1 b = b % 16384 := rfl
theorem wd2_def (b t : Nat) : wd2 b t = b % 16384 + t % 4096 * 16384 := rfl
attribute [irreducible] qd qu stp ex kb kt fB fT dN dD dBase dOk dB dT fl ce oB oT oE wd1 wd2 wd
end Go.Proofs.Ytkfeabekdjbphaa
