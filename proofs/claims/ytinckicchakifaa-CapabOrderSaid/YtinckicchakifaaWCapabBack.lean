/-
  The walk of the law CapabBack: of any view and any capability it returns true, and only makes new memory.
-/
import Derived.Test.YtinckicchakifaaC6
set_option linter.unusedSimpArgs false
set_option linter.unusedVariables false
namespace Go.Proofs.Ytinckicchakifaa
open Go.RowKit Go.Sort

theorem eq2_iff (a b c d : Nat) : eq2 a b c d = true ↔ a = c ∧ b = d := by unfold eq2; simp
theorem eq2_refl' (a b : Nat) : eq2 a b a b = true := (eq2_iff a b a b).2 ⟨rfl, rfl⟩
theorem pw_self (p : Nat) (hp : p < 18446744073709551616) : pw p p = true := by
  have h : p &&& (2 ^ 64 - 1 - p) = 0 := by
    apply Nat.eq_of_testBit_eq
    intro i
    have e1 : 2 ^ 64 - 1 - p = 2 ^ 64 - (p + 1) := by omega
    rw [Nat.testBit_and, e1, Nat.testBit_two_pow_sub_succ (by omega), Nat.zero_testBit]
    cases p.testBit i <;> simp
  rw [pw_def, u64_andNot_nat _ _ hp hp]
  have h' : p &&& (18446744073709551616 - 1 - p) = 0 := h
  simp only [h]
  first | rfl | simp
theorem mk_back {b t p y : Nat} (h : mk b t p y b = true) :
    mA b t p y b = b ∧ mM b t p y b < 18446744073709551616 ∧ lB (mM b t p y b) b = b ∧ lT (mM b t p y b) b = t ∧ lOk (mM b t p y b) b = true ∧ pm (mM b t p y b) = p ∧ ty (mM b t p y b) = y ∧
      ri (mM b t p y b) b = true ∧ wi (mM b t p y b) b (mM b t p y b) b = true := by
  have hA : mA b t p y b = b := by rw [mA_def, if_pos h]
  have hM : mM b t p y b = mt (eB b t) (eT b t) (eE b t) p y := by rw [mM_def, if_pos h]
  rw [hA, hM]
  rw [mk_def] at h
  simp only [Bool.and_eq_true, decide_eq_true_eq] at h
  obtain ⟨h1, h2, h3, h4, h5⟩ := h
  rw [eq2_iff] at h3
  have l1 := eB_lt b t; have l2 := eT_lt b t; have l3 := eE_le b t
  have lm := mt_lt (eB b t) (eT b t) (eE b t) p y
  generalize eB b t = B at *
  generalize eT b t = T at *
  generalize eE b t = E at *
  have o1 : oB (mt B T E p y) = B := by rw [oB_def, mt_def, wd_def]; omega
  have o2 : oT (mt B T E p y) = T := by rw [oT_def, mt_def, wd_def]; omega
  have o3 : oE (mt B T E p y) = E := by rw [oE_def, mt_def, wd_def]; omega
  have o4 : pm (mt B T E p y) = p := by rw [pm_def, mt_def, wd_def]; omega
  have o5 : ty (mt B T E p y) = y := by rw [ty_def, mt_def, wd_def]; omega
  have r1 : lB (mt B T E p y) b = b := by rw [lB_def, o1, o2, o3]; exact h3.1
  have r2 : lT (mt B T E p y) b = t := by rw [lT_def, o1, o2, o3]; exact h3.2
  have r3 : lOk (mt B T E p y) b = true := by rw [lOk_def, o1, o2, o3]; exact h2
  have r4 : ri (mt B T E p y) b = true := by rw [ri_def, r3, o1, o2, o3, o4, o5]; simp
  refine ⟨rfl, by omega, r1, r2, r3, o4, o5, r4, ?_⟩
  rw [wi_def, r4, o4, pw_self p (by omega)]; simp

theorem right_back {m a : Nat} (h : ri m a = true) (hk : mk (lB m a) (lT m a) (pm m) (ty m) a = true) : mM (lB m a) (lT m a) (pm m) (ty m) a = m ∧ mA (lB m a) (lT m a) (pm m) (ty m) a = a := by
  refine ⟨?_, by rw [mA_def, if_pos hk]⟩
  rw [mM_def, if_pos hk]
  rw [ri_def] at h
  simp only [Bool.and_eq_true, decide_eq_true_eq] at h
  obtain ⟨h1, h2⟩ := h
  rw [lOk_def] at h1
  obtain ⟨f1, f2, f3, f4, f5⟩ := told_fields h1
  rw [← lB_def, ← lT_def] at f1 f3 f4 f5
  rw [← lT_def] at f2
  obtain ⟨_, e1, e2, e3, _⟩ := e_yes f1 f2
  rw [e1, e2, e3, f3, f4, f5]; exact h2

theorem one_root (w : World) :
    Calls Try.prog 12 #[.agg #[.int .u64 0, .int .u64 16], .int .u64 3] w fun r w' =>
      r = .returned (.tuple #[.agg #[.bool true, .int .u64 12885164032, .int .u64 0], .bool true]) ∧ Below w.heap.size w w' := by
  have h := root_any 0 16 3 (by decide) w
  have hx : ex 0 16 = 0 := ex_zero (by decide)
  have hkb : kb 0 16 = 0 := by rw [kb_def, hx, qd_def]
  have hkt : kt 0 16 = 16 := by rw [kt_def, hx, qu_def, qd_def]
  obtain ⟨v0, e1, e2, e3, e4, _, _⟩ := e_yes (b := 0) (t := 16) (by decide) (by decide)
  have hfb : fB 0 16 = 0 := by unfold fB; rw [hx, qd_def]
  have hft : fT 0 16 = 16 := by unfold fT; rw [hx, qu_def, qd_def]
  rw [hkb, hkt, eq2_refl'] at e4
  obtain ⟨n1, n2, n3⟩ := near_steps (b := 0) (t := 16) (a := 0) (by decide) (by decide) (by decide) (by rw [hx, qd_def]; decide) (by rw [hx, qd_def]; decide)
  rw [hkb] at n2
  rw [hkt] at n3
  have hk : mk 0 16 3 0 0 = true := by
    rw [mk_def, e1, e2, e3, e4, n1, n2, n3, eq2_refl']; rfl
  have hM : mM 0 16 3 0 0 = 12885164032 := by
    rw [mM_def, if_pos hk, e1, e2, e3, hfb, hft, hx, mt_def, wd_def]
  have hA : mA 0 16 3 0 0 = 0 := by rw [mA_def, if_pos hk]
  rw [hk, hM, hA] at h
  exact h
theorem one_any (w : World) : Calls Try.prog 14 #[] w fun r w' => r = .returned (.bool true) ∧ Below w.heap.size w w' := by
  go_enter Try.func14, Try.ntmps14
  go_wp2_with (go_at_call 12; refine (one_root _).mono ?_; rintro e w1 ⟨rfl, hb1⟩; obtain ⟨hc1, hf1⟩ := bcell hb1; have hq1 : Below w.heap.size w w1 := (by refine Below.trans ?_ (hb1.mono ?_); exact (by repeat' (first | (with_reducible exact Below.refl _ _) | (with_reducible assumption) | (with_reducible refine Below.alloc ?_ ?_ _) | (with_reducible refine Below.setCell ?_ ?_ _) | (with_reducible refine Below.drew ?_) | (with_reducible refine below_drewN ?_ _) | go_size)); go_size); have hs1 := hq1.size)
  go_ret
  exact ⟨rfl, (by repeat' (first | (with_reducible exact Below.refl _ _) | (with_reducible assumption) | (with_reducible refine Below.alloc ?_ ?_ _) | (with_reducible refine Below.setCell ?_ ?_ _) | (with_reducible refine Below.drew ?_) | (with_reducible refine below_drewN ?_ _) | go_size))⟩

theorem run_ne4 (a b c d : Nat) (W : World) : (binOp .neq 26 (.agg #[.int .u64 a, .int .u64 b, .int .u64 c, .int .u64 d]) (.agg #[.int .u64 a, .int .u64 b, .int .u64 c, .int .u64 d])).run Try.prog W = .ok (.bool false) W := by
  simp [go_sem]

set_option maxHeartbeats 4000000 in
theorem back_walk (b t p y : Nat) (tg : Bool) (m a M1 A1 B2 T2 P2 Y2 M2 A2 : Nat) (k1 r1 k2 o2 : Bool)
    (q1 : ∀ w, Calls Try.prog 9 #[.agg #[.int .u64 b, .int .u64 t, .int .u64 p, .int .u64 y], .int .u64 b] w fun r w' => r = .returned (.tuple #[.agg #[.bool false, .int .u64 M1, .int .u64 A1], .bool k1]) ∧ Below w.heap.size w w')
    (hq : k1 = true →
      (∀ w, Calls Try.prog 15 #[.agg #[.bool false, .int .u64 M1, .int .u64 A1]] w fun r w' => r = .returned (.tuple #[.agg #[.int .u64 b, .int .u64 t, .int .u64 p, .int .u64 y], .bool true]) ∧ Below w.heap.size w w') ∧
      (∀ w, Calls Try.prog 16 #[.agg #[.bool false, .int .u64 M1, .int .u64 A1]] w fun r w' => r = .returned (.bool true) ∧ Below w.heap.size w w') ∧
      (∀ w, Calls Try.prog 17 #[.agg #[.bool false, .int .u64 M1, .int .u64 A1], .agg #[.bool false, .int .u64 M1, .int .u64 A1]] w fun r w' => r = .returned (.bool true) ∧ Below w.heap.size w w'))
    (q5 : ∀ w, Calls Try.prog 16 #[.agg #[.bool tg, .int .u64 m, .int .u64 a]] w fun r w' => r = .returned (.bool r1) ∧ Below w.heap.size w w')
    (q6 : ∀ w, Calls Try.prog 15 #[.agg #[.bool tg, .int .u64 m, .int .u64 a]] w fun r w' => r = .returned (.tuple #[.agg #[.int .u64 B2, .int .u64 T2, .int .u64 P2, .int .u64 Y2], .bool o2]) ∧ Below w.heap.size w w')
    (q7 : ∀ w, Calls Try.prog 9 #[.agg #[.int .u64 B2, .int .u64 T2, .int .u64 P2, .int .u64 Y2], .int .u64 a] w fun r w' => r = .returned (.tuple #[.agg #[.bool false, .int .u64 M2, .int .u64 A2], .bool k2]) ∧ Below w.heap.size w w')
    (hk : r1 = true → k2 = true → M2 = m ∧ A2 = a) (w : World) :
    Calls Try.prog 4 #[.agg #[.int .u64 b, .int .u64 t, .int .u64 p, .int .u64 y], .agg #[.bool tg, .int .u64 m, .int .u64 a]] w fun e w' => e = .returned (.bool true) ∧ Below w.heap.size w w' := by
  have hne := run_ne4 b t p y
  have Q1 := Lib.hid q1; clear q1
  have Q5 := Lib.hid q5; clear q5
  have Q6 := Lib.hid q6; clear q6
  have Q7 := Lib.hid q7; clear q7
  have hk' : r1 = false ∨ (r1 = true ∧ k2 = false) ∨ (r1 = true ∧ k2 = true ∧ M2 = m ∧ A2 = a) := by
    cases r1
    · exact Or.inl rfl
    · cases k2
      · exact Or.inr (Or.inl ⟨rfl, rfl⟩)
      · exact Or.inr (Or.inr ⟨rfl, rfl, hk rfl rfl⟩)
  clear hk
  cases k1
  · clear hq
    rcases hk' with rfl | ⟨rfl, rfl⟩ | ⟨rfl, rfl, rfl, rfl⟩
    all_goals
      go_enter Try.func4, Try.ntmps4
      go_wp2_with (fail)
      (go_at_call 9; refine (Q1.out _).mono ?_; rintro e w1 ⟨rfl, hb1⟩; obtain ⟨hc1, hf1⟩ := bcell hb1; have hq1 : Below w.heap.size w w1 := (by refine Below.trans ?_ (hb1.mono ?_); exact (by repeat' (first | (with_reducible exact Below.refl _ _) | (with_reducible assumption) | (with_reducible refine Below.alloc ?_ ?_ _) | (with_reducible refine Below.setCell ?_ ?_ _) | (with_reducible refine Below.drew ?_) | (with_reducible refine below_drewN ?_ _) | go_size)); go_size); have hs1 := hq1.size; have hz1w1 : w.heap.size + 1 < w1.heap.size := (by have := hb1.size; (try simp at this); omega); have hz1w0 : w.heap.size < w1.heap.size := (by have := hb1.size; (try simp at this); omega))
      go_wp2_with (fail)
      (go_at_call 16; refine (Q5.out _).mono ?_; rintro e w5 ⟨rfl, hb5⟩; obtain ⟨hc5, hf5⟩ := bcell hb5; have hq5 : Below w.heap.size w w5 := (by refine Below.trans ?_ (hb5.mono ?_); exact (by repeat' (first | (with_reducible exact Below.refl _ _) | (with_reducible assumption) | (with_reducible refine Below.alloc ?_ ?_ _) | (with_reducible refine Below.setCell ?_ ?_ _) | (with_reducible refine Below.drew ?_) | (with_reducible refine below_drewN ?_ _) | go_size)); go_size); have hs5 := hq5.size; have hz5w10 : w1.heap.size < w5.heap.size := (by have := hb5.size; (try simp at this); omega); have hz5w1 : w.heap.size + 1 < w5.heap.size := (by have := hb5.size; (try simp at this); omega); have hz5w0 : w.heap.size < w5.heap.size := (by have := hb5.size; (try simp at this); omega))
      go_wp2_with (first | (go_at_call 15; refine (Q6.out _).mono ?_; rintro e w6 ⟨rfl, hb6⟩; obtain ⟨hc6, hf6⟩ := bcell hb6; have hq6 : Below w.heap.size w w6 := (by refine Below.trans ?_ (hb6.mono ?_); exact (by repeat' (first | (with_reducible exact Below.refl _ _) | (with_reducible assumption) | (with_reducible refine Below.alloc ?_ ?_ _) | (with_reducible refine Below.setCell ?_ ?_ _) | (with_reducible refine Below.drew ?_) | (with_reducible refine below_drewN ?_ _) | go_size)); go_size); have hs6 := hq6.size; have hz6w10 : w1.heap.size < w6.heap.size := (by have := hb6.size; (try simp at this); omega); have hz6w1 : w.heap.size + 1 < w6.heap.size := (by have := hb6.size; (try simp at this); omega); have hz6w0 : w.heap.size < w6.heap.size := (by have := hb6.size; (try simp at this); omega)) | (go_at_call 9; refine (Q7.out _).mono ?_; rintro e w7 ⟨rfl, hb7⟩; obtain ⟨hc7, hf7⟩ := bcell hb7; have hq7 : Below w.heap.size w w7 := (by refine Below.trans ?_ (hb7.mono ?_); exact (by repeat' (first | (with_reducible exact Below.refl _ _) | (with_reducible assumption) | (with_reducible refine Below.alloc ?_ ?_ _) | (with_reducible refine Below.setCell ?_ ?_ _) | (with_reducible refine Below.drew ?_) | (with_reducible refine below_drewN ?_ _) | go_size)); go_size); have hs7 := hq7.size; have hz7w60 : w6.heap.size < w7.heap.size := (by have := hb7.size; (try simp at this); omega); have hz7w10 : w1.heap.size < w7.heap.size := (by have := hb7.size; (try simp at this); omega); have hz7w1 : w.heap.size + 1 < w7.heap.size := (by have := hb7.size; (try simp at this); omega); have hz7w0 : w.heap.size < w7.heap.size := (by have := hb7.size; (try simp at this); omega)) | (go_at_call 14; refine (one_any _).mono ?_; rintro e w8 ⟨rfl, hb8⟩; obtain ⟨hc8, hf8⟩ := bcell hb8; have hq8 : Below w.heap.size w w8 := (by refine Below.trans ?_ (hb8.mono ?_); exact (by repeat' (first | (with_reducible exact Below.refl _ _) | (with_reducible assumption) | (with_reducible refine Below.alloc ?_ ?_ _) | (with_reducible refine Below.setCell ?_ ?_ _) | (with_reducible refine Below.drew ?_) | (with_reducible refine below_drewN ?_ _) | go_size)); go_size); have hs8 := hq8.size))
      go_ret
      exact ⟨rfl, (by repeat' (first | (with_reducible exact Below.refl _ _) | (with_reducible assumption) | (with_reducible refine Below.alloc ?_ ?_ _) | (with_reducible refine Below.setCell ?_ ?_ _) | (with_reducible refine Below.drew ?_) | (with_reducible refine below_drewN ?_ _) | go_size))⟩

  · obtain ⟨q2, q3, q4⟩ := hq rfl
    clear hq
    have Q2 := Lib.hid q2; clear q2
    have Q3 := Lib.hid q3; clear q3
    have Q4 := Lib.hid q4; clear q4
    rcases hk' with rfl | ⟨rfl, rfl⟩ | ⟨rfl, rfl, rfl, rfl⟩
    all_goals
      go_enter Try.func4, Try.ntmps4
      go_wp2_with (fail)
      (go_at_call 9; refine (Q1.out _).mono ?_; rintro e w1 ⟨rfl, hb1⟩; obtain ⟨hc1, hf1⟩ := bcell hb1; have hq1 : Below w.heap.size w w1 := (by refine Below.trans ?_ (hb1.mono ?_); exact (by repeat' (first | (with_reducible exact Below.refl _ _) | (with_reducible assumption) | (with_reducible refine Below.alloc ?_ ?_ _) | (with_reducible refine Below.setCell ?_ ?_ _) | (with_reducible refine Below.drew ?_) | (with_reducible refine below_drewN ?_ _) | go_size)); go_size); have hs1 := hq1.size; have hz1w1 : w.heap.size + 1 < w1.heap.size := (by have := hb1.size; (try simp at this); omega); have hz1w0 : w.heap.size < w1.heap.size := (by have := hb1.size; (try simp at this); omega))
      go_wp2_with (fail)
      (go_at_call 15; refine (Q2.out _).mono ?_; rintro e w2 ⟨rfl, hb2⟩; obtain ⟨hc2, hf2⟩ := bcell hb2; have hq2 : Below w.heap.size w w2 := (by refine Below.trans ?_ (hb2.mono ?_); exact (by repeat' (first | (with_reducible exact Below.refl _ _) | (with_reducible assumption) | (with_reducible refine Below.alloc ?_ ?_ _) | (with_reducible refine Below.setCell ?_ ?_ _) | (with_reducible refine Below.drew ?_) | (with_reducible refine below_drewN ?_ _) | go_size)); go_size); have hs2 := hq2.size; have hz2w10 : w1.heap.size < w2.heap.size := (by have := hb2.size; (try simp at this); omega); have hz2w1 : w.heap.size + 1 < w2.heap.size := (by have := hb2.size; (try simp at this); omega); have hz2w0 : w.heap.size < w2.heap.size := (by have := hb2.size; (try simp at this); omega))
      go_wp2_with (fail)
      (go_at_call 16; refine (Q3.out _).mono ?_; rintro e w3 ⟨rfl, hb3⟩; obtain ⟨hc3, hf3⟩ := bcell hb3; have hq3 : Below w.heap.size w w3 := (by refine Below.trans ?_ (hb3.mono ?_); exact (by repeat' (first | (with_reducible exact Below.refl _ _) | (with_reducible assumption) | (with_reducible refine Below.alloc ?_ ?_ _) | (with_reducible refine Below.setCell ?_ ?_ _) | (with_reducible refine Below.drew ?_) | (with_reducible refine below_drewN ?_ _) | go_size)); go_size); have hs3 := hq3.size; have hz3w20 : w2.heap.size < w3.heap.size := (by have := hb3.size; (try simp at this); omega); have hz3w10 : w1.heap.size < w3.heap.size := (by have := hb3.size; (try simp at this); omega); have hz3w1 : w.heap.size + 1 < w3.heap.size := (by have := hb3.size; (try simp at this); omega); have hz3w0 : w.heap.size < w3.heap.size := (by have := hb3.size; (try simp at this); omega))
      go_wp2_with (fail)
      (go_at_call 17; refine (Q4.out _).mono ?_; rintro e w4 ⟨rfl, hb4⟩; obtain ⟨hc4, hf4⟩ := bcell hb4; have hq4 : Below w.heap.size w w4 := (by refine Below.trans ?_ (hb4.mono ?_); exact (by repeat' (first | (with_reducible exact Below.refl _ _) | (with_reducible assumption) | (with_reducible refine Below.alloc ?_ ?_ _) | (with_reducible refine Below.setCell ?_ ?_ _) | (with_reducible refine Below.drew ?_) | (with_reducible refine below_drewN ?_ _) | go_size)); go_size); have hs4 := hq4.size; have hz4w20 : w2.heap.size < w4.heap.size := (by have := hb4.size; (try simp at this); omega); have hz4w10 : w1.heap.size < w4.heap.size := (by have := hb4.size; (try simp at this); omega); have hz4w1 : w.heap.size + 1 < w4.heap.size := (by have := hb4.size; (try simp at this); omega); have hz4w0 : w.heap.size < w4.heap.size := (by have := hb4.size; (try simp at this); omega))
      go_wp2_with (fail)
      (go_at_call 16; refine (Q5.out _).mono ?_; rintro e w5 ⟨rfl, hb5⟩; obtain ⟨hc5, hf5⟩ := bcell hb5; have hq5 : Below w.heap.size w w5 := (by refine Below.trans ?_ (hb5.mono ?_); exact (by repeat' (first | (with_reducible exact Below.refl _ _) | (with_reducible assumption) | (with_reducible refine Below.alloc ?_ ?_ _) | (with_reducible refine Below.setCell ?_ ?_ _) | (with_reducible refine Below.drew ?_) | (with_reducible refine below_drewN ?_ _) | go_size)); go_size); have hs5 := hq5.size; have hz5w20 : w2.heap.size < w5.heap.size := (by have := hb5.size; (try simp at this); omega); have hz5w10 : w1.heap.size < w5.heap.size := (by have := hb5.size; (try simp at this); omega); have hz5w1 : w.heap.size + 1 < w5.heap.size := (by have := hb5.size; (try simp at this); omega); have hz5w0 : w.heap.size < w5.heap.size := (by have := hb5.size; (try simp at this); omega))
      go_wp2_with (first | (go_at_call 15; refine (Q6.out _).mono ?_; rintro e w6 ⟨rfl, hb6⟩; obtain ⟨hc6, hf6⟩ := bcell hb6; have hq6 : Below w.heap.size w w6 := (by refine Below.trans ?_ (hb6.mono ?_); exact (by repeat' (first | (with_reducible exact Below.refl _ _) | (with_reducible assumption) | (with_reducible refine Below.alloc ?_ ?_ _) | (with_reducible refine Below.setCell ?_ ?_ _) | (with_reducible refine Below.drew ?_) | (with_reducible refine below_drewN ?_ _) | go_size)); go_size); have hs6 := hq6.size; have hz6w20 : w2.heap.size < w6.heap.size := (by have := hb6.size; (try simp at this); omega); have hz6w10 : w1.heap.size < w6.heap.size := (by have := hb6.size; (try simp at this); omega); have hz6w1 : w.heap.size + 1 < w6.heap.size := (by have := hb6.size; (try simp at this); omega); have hz6w0 : w.heap.size < w6.heap.size := (by have := hb6.size; (try simp at this); omega)) | (go_at_call 9; refine (Q7.out _).mono ?_; rintro e w7 ⟨rfl, hb7⟩; obtain ⟨hc7, hf7⟩ := bcell hb7; have hq7 : Below w.heap.size w w7 := (by refine Below.trans ?_ (hb7.mono ?_); exact (by repeat' (first | (with_reducible exact Below.refl _ _) | (with_reducible assumption) | (with_reducible refine Below.alloc ?_ ?_ _) | (with_reducible refine Below.setCell ?_ ?_ _) | (with_reducible refine Below.drew ?_) | (with_reducible refine below_drewN ?_ _) | go_size)); go_size); have hs7 := hq7.size; have hz7w60 : w6.heap.size < w7.heap.size := (by have := hb7.size; (try simp at this); omega); have hz7w20 : w2.heap.size < w7.heap.size := (by have := hb7.size; (try simp at this); omega); have hz7w10 : w1.heap.size < w7.heap.size := (by have := hb7.size; (try simp at this); omega); have hz7w1 : w.heap.size + 1 < w7.heap.size := (by have := hb7.size; (try simp at this); omega); have hz7w0 : w.heap.size < w7.heap.size := (by have := hb7.size; (try simp at this); omega)) | (go_at_call 14; refine (one_any _).mono ?_; rintro e w8 ⟨rfl, hb8⟩; obtain ⟨hc8, hf8⟩ := bcell hb8; have hq8 : Below w.heap.size w w8 := (by refine Below.trans ?_ (hb8.mono ?_); exact (by repeat' (first | (with_reducible exact Below.refl _ _) | (with_reducible assumption) | (with_reducible refine Below.alloc ?_ ?_ _) | (with_reducible refine Below.setCell ?_ ?_ _) | (with_reducible refine Below.drew ?_) | (with_reducible refine below_drewN ?_ _) | go_size)); go_size); have hs8 := hq8.size))
      go_ret
      exact ⟨rfl, (by repeat' (first | (with_reducible exact Below.refl _ _) | (with_reducible assumption) | (with_reducible refine Below.alloc ?_ ?_ _) | (with_reducible refine Below.setCell ?_ ?_ _) | (with_reducible refine Below.drew ?_) | (with_reducible refine below_drewN ?_ _) | go_size))⟩


theorem walk_CapabBack (b t p y : Nat) (hb : b < 18446744073709551616) (ht : t < 18446744073709551616) (hp : p < 18446744073709551616) (hy : y < 18446744073709551616) (tg : Bool) (m a : Nat) (hm : m < 18446744073709551616) (ha : a < 18446744073709551616) (w : World) :
    Calls Try.prog 4 #[.agg #[.int .u64 b, .int .u64 t, .int .u64 p, .int .u64 y], .agg #[.bool tg, .int .u64 m, .int .u64 a]] w fun e w' => e = .returned (.bool true) ∧ Below w.heap.size w w' := by
  have h4 := pm_lt m; have h5 := ty_lt m
  refine back_walk b t p y tg m a _ _ _ _ _ _ _ _ _ _ _ _ (make_any b t p y b hp hy) (fun h => ?_) (right_any tg m a hm) (look_any tg m a hm) (make_any _ _ _ _ a (by omega) (by omega)) (fun h1 h2 => right_back h1 h2) w
  obtain ⟨hA, hM, r1, r2, r3, r4, r5, r6, r7⟩ := mk_back h
  have c1 := look_any false (mM b t p y b) b hM
  rw [r1, r2, r3, r4, r5] at c1
  have c2 := right_any false (mM b t p y b) b hM
  rw [r6] at c2
  have c3 := within_any false (mM b t p y b) b hM false (mM b t p y b) b hM
  rw [r7] at c3
  rw [hA]
  exact ⟨c1, c2, c3⟩
end Go.Proofs.Ytinckicchakifaa
