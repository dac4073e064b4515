/-
  The walk of the law CapabRoots: of any span, permissions and capability it returns true, and only makes new memory.
-/
import Derived.Test.YtinckicchakifaaWCapabBack
import Derived.Deep.RegionWith
set_option linter.unusedSimpArgs false
set_option linter.unusedVariables false
namespace Go.Proofs.Ytinckicchakifaa
open Go.RowKit Go.Sort

theorem ex_all : ex 0 281474976710656 = 37 := by
  have h := ex_mul (u := 0) (v := 4096) (x := 36) (by omega) (by omega)
  simpa using h
theorem mk_all : mk 0 281474976710656 511 0 0 = true := by
  have hkb : kb 0 281474976710656 = 0 := by have := kb_le 0 281474976710656; omega
  have hkt : kt 0 281474976710656 = 281474976710656 := by
    have h1 := kt_ge 0 281474976710656
    have h2 := kt_le48 (b := 0) (t := 281474976710656) (by decide) (by decide)
    omega
  obtain ⟨v0, e1, e2, e3, e4, _, _⟩ := e_yes (b := 0) (t := 281474976710656) (by decide) (by decide)
  rw [hkb, hkt, eq2_refl'] at e4
  obtain ⟨n1, n2, n3⟩ := near_steps (b := 0) (t := 281474976710656) (a := 0) (by decide) (by decide) (by decide) (by rw [qd_def]; exact Nat.le_add_right _ _) (by rw [qd_def]; omega)
  rw [hkb] at n2
  rw [hkt] at n3
  rw [mk_def, e1, e2, e3, e4, n1, n2, n3, eq2_refl']; rfl
theorem mM_all : mM 0 281474976710656 511 0 0 = 2197211316224 := by
  obtain ⟨v0, e1, e2, e3, e4, _, _⟩ := e_yes (b := 0) (t := 281474976710656) (by decide) (by decide)
  have hfb : fB 0 281474976710656 = 0 := by unfold fB; rw [ex_all, qd_def]
  have hft : fT 0 281474976710656 = 0 := by unfold fT; rw [ex_all, qu_def, qd_def]
  rw [mM_def, if_pos mk_all, e1, e2, e3, hfb, hft, ex_all, mt_def, wd_def]
theorem all_root (w : World) :
    Calls Try.prog 12 #[.agg #[.int .u64 0, .int .u64 281474976710656], .int .u64 511] w fun r w' =>
      r = .returned (.tuple #[.agg #[.bool true, .int .u64 2197211316224, .int .u64 0], .bool true]) ∧ Below w.heap.size w w' := by
  have h := root_any 0 281474976710656 511 (by decide) w
  have hA : mA 0 281474976710656 511 0 0 = 0 := by rw [mA_def, if_pos mk_all]
  rw [mk_all, mM_all, hA] at h
  exact h
theorem pw_low (p : Nat) (hp : p < 512) : pw p 511 = true := by
  have h : p &&& (2 ^ 64 - 1 - 511) = 0 := by
    apply Nat.eq_of_testBit_eq
    intro i
    have e1 : 2 ^ 64 - 1 - 511 = 2 ^ 64 - (511 + 1) := by omega
    rw [Nat.testBit_and, e1, Nat.testBit_two_pow_sub_succ (by omega), Nat.zero_testBit]
    by_cases hi : i < 9
    · have : Nat.testBit 511 i = true := by rw [show (511 : Nat) = 2 ^ 9 - 1 from rfl, Nat.testBit_two_pow_sub_one]; simp [hi]
      rw [this]; simp
    · have : p.testBit i = false := Nat.testBit_lt_two_pow (Nat.lt_of_lt_of_le hp (Nat.pow_le_pow_right (n := 2) (i := 9) (by decide) (by omega)))
      rw [this]; simp
  have e : bits .andNot .u64 (p : Int) ((511 : Nat) : Int) = ((p &&& (2 ^ 64 - 1 - 511) : Nat) : Int) := u64_andNot_nat p 511 (by omega) (by decide)
  rw [pw_def, e, h]; rfl
theorem wi_all (m a : Nat) : wi m a 2197211316224 0 = ri m a := by
  have hb := mk_back mk_all
  rw [mM_all] at hb
  obtain ⟨_, _, h1, h2, h3, h4, h5, h6, _⟩ := hb
  rw [wi_def, h1, h2, h4, h6, pw_low _ (pm_lt m)]
  cases hr : ri m a
  · rfl
  · rw [ri_def] at hr
    simp only [Bool.and_eq_true, decide_eq_true_eq] at hr
    have ho := hr.1
    rw [lOk_def] at ho
    have ht := (told_fields ho).2.1
    rw [← lT_def] at ht
    simp [ht]
theorem mk_root (b t p : Nat) : mk b t p 0 b = (eX b t && (decide (p ≤ 511) && decide (b < 281474976710656))) := by
  rw [mk_def]
  by_cases hv : b ≤ t ∧ t ≤ 281474976710656
  · obtain ⟨v0, e1, e2, e3, e4, _, _⟩ := e_yes hv.1 hv.2
    rw [e1, e2, e3, e4]
    cases hx : eq2 (kb b t) (kt b t) b t
    · rfl
    · rw [eq2_iff] at hx
      by_cases h48 : b < 281474976710656
      · have hp := pow_pos2 (ex b t - 1)
        have hq := hx.1
        rw [kb_def] at hq
        have hd : b / 2 ^ (ex b t - 1) = qd b (ex b t - 1) := (qd_def _ _).symm
        obtain ⟨n1, n2, n3⟩ := near_steps (a := b) hv.1 hv.2 h48 (by rw [hd]; omega) (by rw [hd]; omega)
        rw [n1, n2, n3, hx.1, hx.2, eq2_refl']
        simp [h48]
      · have : dOk (fB b t) (fT b t) (ex b t) b = false := by
          rw [dOk_eq]
          have : decide (b < 281474976710656) = false := decide_eq_false h48
          rw [this]; simp
        rw [this]
        simp [h48]
  · obtain ⟨v0, e1, e2, e3, e4, _, _⟩ := e_no hv
    rw [e4]; rfl

set_option maxHeartbeats 4000000 in
theorem roots_walk (b t p : Nat) (tg : Bool) (m a B T E M1 : Nat) (x1 x4 x5 k r1 : Bool)
    (q1 : ∀ w, Calls Try.prog 18 #[.agg #[.int .u64 b, .int .u64 t]] w fun r w' => r = .returned (.tuple #[.agg #[.int .u64 B, .int .u64 T, .int .u64 E], .bool x1]) ∧ Below w.heap.size w w')
    (g4 : decide ((p : Int) ≤ 511) = x4) (g5 : decide ((b : Int) < 281474976710656) = x5)
    (A1 : Nat) (q2 : ∀ w, Calls Try.prog 12 #[.agg #[.int .u64 b, .int .u64 t], .int .u64 p] w fun r w' => r = .returned (.tuple #[.agg #[.bool k, .int .u64 M1, .int .u64 A1], .bool k]) ∧ Below w.heap.size w w')
    (hk : k = (x1 && (x4 && x5)))
    (hq : k = true → A1 = b ∧ (∀ w, Calls Try.prog 15 #[.agg #[.bool true, .int .u64 M1, .int .u64 b]] w fun r w' => r = .returned (.tuple #[.agg #[.int .u64 b, .int .u64 t, .int .u64 p, .int .u64 0], .bool true]) ∧ Below w.heap.size w w'))
    (q5 : ∀ w, Calls Try.prog 17 #[.agg #[.bool tg, .int .u64 m, .int .u64 a], .agg #[.bool true, .int .u64 2197211316224, .int .u64 0]] w fun r w' => r = .returned (.bool r1) ∧ Below w.heap.size w w')
    (q6 : ∀ w, Calls Try.prog 16 #[.agg #[.bool tg, .int .u64 m, .int .u64 a]] w fun r w' => r = .returned (.bool r1) ∧ Below w.heap.size w w') (w : World) :
    Calls Try.prog 6 #[.agg #[.int .u64 b, .int .u64 t], .int .u64 p, .agg #[.bool tg, .int .u64 m, .int .u64 a]] w fun e w' => e = .returned (.bool true) ∧ Below w.heap.size w w' := by
  have hne := run_ne2 b t b t
  rw [eq2_refl'] at hne
  simp only [Bool.not_true] at hne
  have Q1 := Lib.hid q1; clear q1
  have Q2 := Lib.hid q2; clear q2
  have Q4 := Lib.hid all_root
  have Q5 := Lib.hid q5; clear q5
  have Q6 := Lib.hid q6; clear q6
  have hc : (k = false ∧ x1 = false) ∨ (k = false ∧ x1 = true ∧ x4 = false) ∨ (k = false ∧ x1 = true ∧ x4 = true ∧ x5 = false) ∨ (k = true ∧ x1 = true ∧ x4 = true ∧ x5 = true) := by
    cases x1 <;> cases x4 <;> cases x5 <;> simp_all
  clear hk
  rcases hc with ⟨rfl, rfl⟩ | ⟨rfl, rfl, rfl⟩ | ⟨rfl, rfl, rfl, rfl⟩ | ⟨rfl, rfl, rfl, rfl⟩
  rotate_right
  · obtain ⟨rfl, q3⟩ := hq rfl
    clear hq
    have Q3 := Lib.hid q3; clear q3
    go_enter Try.func6, Try.ntmps6
    go_wp2_with (fail)
    (go_at_call 18; refine (Q1.out _).mono ?_; rintro e w1 ⟨rfl, hb1⟩; obtain ⟨hc1, hf1⟩ := bcell hb1; have hq1 : Below w.heap.size w w1 := (by refine Below.trans ?_ (hb1.mono ?_); exact (by repeat' (first | (with_reducible exact Below.refl _ _) | (with_reducible assumption) | (with_reducible refine Below.alloc ?_ ?_ _) | (with_reducible refine Below.setCell ?_ ?_ _) | (with_reducible refine Below.drew ?_) | (with_reducible refine below_drewN ?_ _) | go_size)); go_size); have hs1 := hq1.size; have hz1w1 : w.heap.size + 1 < w1.heap.size := (by have := hb1.size; (try simp at this); omega); have hz1w0 : w.heap.size < w1.heap.size := (by have := hb1.size; (try simp at this); omega))
    go_wp2_with (fail)
    (go_at_call 12; refine (Q2.out _).mono ?_; rintro e w2 ⟨rfl, hb2⟩; obtain ⟨hc2, hf2⟩ := bcell hb2; have hq2 : Below w.heap.size w w2 := (by refine Below.trans ?_ (hb2.mono ?_); exact (by repeat' (first | (with_reducible exact Below.refl _ _) | (with_reducible assumption) | (with_reducible refine Below.alloc ?_ ?_ _) | (with_reducible refine Below.setCell ?_ ?_ _) | (with_reducible refine Below.drew ?_) | (with_reducible refine below_drewN ?_ _) | go_size)); go_size); have hs2 := hq2.size; have hz2w10 : w1.heap.size < w2.heap.size := (by have := hb2.size; (try simp at this); omega); have hz2w1 : w.heap.size + 1 < w2.heap.size := (by have := hb2.size; (try simp at this); omega); have hz2w0 : w.heap.size < w2.heap.size := (by have := hb2.size; (try simp at this); omega))
    go_wp2_with (fail)
    (go_at_call 15; refine (Q3.out _).mono ?_; rintro e w3 ⟨rfl, hb3⟩; obtain ⟨hc3, hf3⟩ := bcell hb3; have hq3 : Below w.heap.size w w3 := (by refine Below.trans ?_ (hb3.mono ?_); exact (by repeat' (first | (with_reducible exact Below.refl _ _) | (with_reducible assumption) | (with_reducible refine Below.alloc ?_ ?_ _) | (with_reducible refine Below.setCell ?_ ?_ _) | (with_reducible refine Below.drew ?_) | (with_reducible refine below_drewN ?_ _) | go_size)); go_size); have hs3 := hq3.size; have hz3w20 : w2.heap.size < w3.heap.size := (by have := hb3.size; (try simp at this); omega); have hz3w10 : w1.heap.size < w3.heap.size := (by have := hb3.size; (try simp at this); omega); have hz3w1 : w.heap.size + 1 < w3.heap.size := (by have := hb3.size; (try simp at this); omega); have hz3w0 : w.heap.size < w3.heap.size := (by have := hb3.size; (try simp at this); omega))
    go_wp2_with (fail)
    (go_at_call 12; refine (Q4.out _).mono ?_; rintro e w4 ⟨rfl, hb4⟩; obtain ⟨hc4, hf4⟩ := bcell hb4; have hq4 : Below w.heap.size w w4 := (by refine Below.trans ?_ (hb4.mono ?_); exact (by repeat' (first | (with_reducible exact Below.refl _ _) | (with_reducible assumption) | (with_reducible refine Below.alloc ?_ ?_ _) | (with_reducible refine Below.setCell ?_ ?_ _) | (with_reducible refine Below.drew ?_) | (with_reducible refine below_drewN ?_ _) | go_size)); go_size); have hs4 := hq4.size; have hz4w10 : w1.heap.size < w4.heap.size := (by have := hb4.size; (try simp at this); omega); have hz4w1 : w.heap.size + 1 < w4.heap.size := (by have := hb4.size; (try simp at this); omega); have hz4w0 : w.heap.size < w4.heap.size := (by have := hb4.size; (try simp at this); omega))
    go_wp2
    ((first | refine wp_at (fun W5 hW5 => ?_) | refine calls_at (fun W5 hW5 => ?_)); have hB5 : Below w.heap.size w W5 := (by rw [← hW5]; exact (by repeat' (first | (with_reducible exact Below.refl _ _) | (with_reducible assumption) | (with_reducible refine Below.alloc ?_ ?_ _) | (with_reducible refine Below.setCell ?_ ?_ _) | (with_reducible refine Below.drew ?_) | (with_reducible refine below_drewN ?_ _) | go_size))); have hz5w40 : w4.heap.size < W5.heap.size := (by rw [← hW5]; first | go_size | (simp; omega)); have hz5w1 : w.heap.size + 1 < W5.heap.size := (by rw [← hW5]; first | go_size | (simp; omega)); have hz5w0 : w.heap.size < W5.heap.size := (by rw [← hW5]; first | go_size | (simp; omega)); have c5_0 : W5.cell? ⟨w4.heap.size, 0, none⟩ = some (.bool true) := (by rw [← hW5]; clear hW5; first | (simp [go_sem, *]; done) | (rw [World.cell?_setCell_same' _ _ _ (by simp [go_sem, *])])); have f5_0 : W5.frozen? ⟨w4.heap.size, 0, none⟩ = false := (by rw [← hW5]; clear hW5; simp [go_sem, *]); have c5_1 : W5.cell? ⟨w4.heap.size, 1, none⟩ = some (.int .u64 2197211316224) := (by rw [← hW5]; clear hW5; first | (simp [go_sem, *]; done) | (rw [World.cell?_setCell_same' _ _ _ (by simp [go_sem, *])])); have f5_1 : W5.frozen? ⟨w4.heap.size, 1, none⟩ = false := (by rw [← hW5]; clear hW5; simp [go_sem, *]); have c5_2 : W5.cell? ⟨w4.heap.size, 2, none⟩ = some (.int .u64 0) := (by rw [← hW5]; clear hW5; first | (simp [go_sem, *]; done) | (rw [World.cell?_setCell_same' _ _ _ (by simp [go_sem, *])])); have f5_2 : W5.frozen? ⟨w4.heap.size, 2, none⟩ = false := (by rw [← hW5]; clear hW5; simp [go_sem, *]); have c5_3 : W5.cell? ⟨w.heap.size + 1, 0, none⟩ = some (.bool tg) := (by rw [← hW5]; clear hW5; first | (simp [go_sem, *]; done) | (rw [World.cell?_setCell_same' _ _ _ (by simp [go_sem, *])])); have f5_3 : W5.frozen? ⟨w.heap.size + 1, 0, none⟩ = false := (by rw [← hW5]; clear hW5; simp [go_sem, *]); have c5_4 : W5.cell? ⟨w.heap.size + 1, 1, none⟩ = some (.int .u64 m) := (by rw [← hW5]; clear hW5; first | (simp [go_sem, *]; done) | (rw [World.cell?_setCell_same' _ _ _ (by simp [go_sem, *])])); have f5_4 : W5.frozen? ⟨w.heap.size + 1, 1, none⟩ = false := (by rw [← hW5]; clear hW5; simp [go_sem, *]); have c5_5 : W5.cell? ⟨w.heap.size + 1, 2, none⟩ = some (.int .u64 a) := (by rw [← hW5]; clear hW5; first | (simp [go_sem, *]; done) | (rw [World.cell?_setCell_same' _ _ _ (by simp [go_sem, *])])); have f5_5 : W5.frozen? ⟨w.heap.size + 1, 2, none⟩ = false := (by rw [← hW5]; clear hW5; simp [go_sem, *]); clear hW5)
    (have k5_0 := cell_regrown c5_0; have k5_1 := cell_regrown c5_1; have k5_2 := cell_regrown c5_2; have k5_3 := cell_regrown c5_3; have k5_4 := cell_regrown c5_4; have k5_5 := cell_regrown c5_5; refine wp_region_quiet_below (by kernel_rfl) (by kernel_rfl) ?_; (repeat (go_big_quiet_step (first| (go_at_call 17; exact Calls.regrown_of (Q5.out _)) | (go_at_call 16; exact Calls.regrown_of (Q6.out _)) | (go_at_call 14; exact Calls.regrown_of (one_any _))))); refine wpQuiet_nil ?_; intro W6 hW6; obtain ⟨pq, hpq⟩ := hW6; have hb6 : Below W5.heap.size W5 W6 := (by rw [hpq]; exact below_regrown _ _ _); clear hpq; have hB6 : Below w.heap.size w W6 := (hB5.trans (hb6.mono hB5.size)); clear k5_0; clear k5_1; clear k5_2; clear k5_3; clear k5_4; clear k5_5; have c6_0 := (hb6.cell (by first | assumption | (simp; omega))).trans c5_0; have f6_0 := (hb6.frozen (by first | assumption | (simp; omega))).trans f5_0; have c6_1 := (hb6.cell (by first | assumption | (simp; omega))).trans c5_1; have f6_1 := (hb6.frozen (by first | assumption | (simp; omega))).trans f5_1; have c6_2 := (hb6.cell (by first | assumption | (simp; omega))).trans c5_2; have f6_2 := (hb6.frozen (by first | assumption | (simp; omega))).trans f5_2; have c6_3 := (hb6.cell (by first | assumption | (simp; omega))).trans c5_3; have f6_3 := (hb6.frozen (by first | assumption | (simp; omega))).trans f5_3; have c6_4 := (hb6.cell (by first | assumption | (simp; omega))).trans c5_4; have f6_4 := (hb6.frozen (by first | assumption | (simp; omega))).trans f5_4; have c6_5 := (hb6.cell (by first | assumption | (simp; omega))).trans c5_5; have f6_5 := (hb6.frozen (by first | assumption | (simp; omega))).trans f5_5)
    go_wp2
    go_ret
    exact ⟨by simp, (by repeat' (first | (with_reducible exact Below.refl _ _) | (with_reducible assumption) | (with_reducible refine Below.alloc ?_ ?_ _) | (with_reducible refine Below.setCell ?_ ?_ _) | (with_reducible refine Below.drew ?_) | (with_reducible refine below_drewN ?_ _) | go_size))⟩
  all_goals
    clear hq
    go_enter Try.func6, Try.ntmps6
    go_wp2_with (fail)
    (go_at_call 18; refine (Q1.out _).mono ?_; rintro e w1 ⟨rfl, hb1⟩; obtain ⟨hc1, hf1⟩ := bcell hb1; have hq1 : Below w.heap.size w w1 := (by refine Below.trans ?_ (hb1.mono ?_); exact (by repeat' (first | (with_reducible exact Below.refl _ _) | (with_reducible assumption) | (with_reducible refine Below.alloc ?_ ?_ _) | (with_reducible refine Below.setCell ?_ ?_ _) | (with_reducible refine Below.drew ?_) | (with_reducible refine below_drewN ?_ _) | go_size)); go_size); have hs1 := hq1.size; have hz1w1 : w.heap.size + 1 < w1.heap.size := (by have := hb1.size; (try simp at this); omega); have hz1w0 : w.heap.size < w1.heap.size := (by have := hb1.size; (try simp at this); omega))
    go_wp2_with (fail)
    (go_at_call 12; refine (Q2.out _).mono ?_; rintro e w2 ⟨rfl, hb2⟩; obtain ⟨hc2, hf2⟩ := bcell hb2; have hq2 : Below w.heap.size w w2 := (by refine Below.trans ?_ (hb2.mono ?_); exact (by repeat' (first | (with_reducible exact Below.refl _ _) | (with_reducible assumption) | (with_reducible refine Below.alloc ?_ ?_ _) | (with_reducible refine Below.setCell ?_ ?_ _) | (with_reducible refine Below.drew ?_) | (with_reducible refine below_drewN ?_ _) | go_size)); go_size); have hs2 := hq2.size; have hz2w10 : w1.heap.size < w2.heap.size := (by have := hb2.size; (try simp at this); omega); have hz2w1 : w.heap.size + 1 < w2.heap.size := (by have := hb2.size; (try simp at this); omega); have hz2w0 : w.heap.size < w2.heap.size := (by have := hb2.size; (try simp at this); omega))
    go_wp2_with (fail)
    (go_at_call 12; refine (Q4.out _).mono ?_; rintro e w4 ⟨rfl, hb4⟩; obtain ⟨hc4, hf4⟩ := bcell hb4; have hq4 : Below w.heap.size w w4 := (by refine Below.trans ?_ (hb4.mono ?_); exact (by repeat' (first | (with_reducible exact Below.refl _ _) | (with_reducible assumption) | (with_reducible refine Below.alloc ?_ ?_ _) | (with_reducible refine Below.setCell ?_ ?_ _) | (with_reducible refine Below.drew ?_) | (with_reducible refine below_drewN ?_ _) | go_size)); go_size); have hs4 := hq4.size; have hz4w10 : w1.heap.size < w4.heap.size := (by have := hb4.size; (try simp at this); omega); have hz4w1 : w.heap.size + 1 < w4.heap.size := (by have := hb4.size; (try simp at this); omega); have hz4w0 : w.heap.size < w4.heap.size := (by have := hb4.size; (try simp at this); omega))
    go_wp2
    ((first | refine wp_at (fun W5 hW5 => ?_) | refine calls_at (fun W5 hW5 => ?_)); have hB5 : Below w.heap.size w W5 := (by rw [← hW5]; exact (by repeat' (first | (with_reducible exact Below.refl _ _) | (with_reducible assumption) | (with_reducible refine Below.alloc ?_ ?_ _) | (with_reducible refine Below.setCell ?_ ?_ _) | (with_reducible refine Below.drew ?_) | (with_reducible refine below_drewN ?_ _) | go_size))); have hz5w40 : w4.heap.size < W5.heap.size := (by rw [← hW5]; first | go_size | (simp; omega)); have hz5w1 : w.heap.size + 1 < W5.heap.size := (by rw [← hW5]; first | go_size | (simp; omega)); have hz5w0 : w.heap.size < W5.heap.size := (by rw [← hW5]; first | go_size | (simp; omega)); have c5_0 : W5.cell? ⟨w4.heap.size, 0, none⟩ = some (.bool true) := (by rw [← hW5]; clear hW5; first | (simp [go_sem, *]; done) | (rw [World.cell?_setCell_same' _ _ _ (by simp [go_sem, *])])); have f5_0 : W5.frozen? ⟨w4.heap.size, 0, none⟩ = false := (by rw [← hW5]; clear hW5; simp [go_sem, *]); have c5_1 : W5.cell? ⟨w4.heap.size, 1, none⟩ = some (.int .u64 2197211316224) := (by rw [← hW5]; clear hW5; first | (simp [go_sem, *]; done) | (rw [World.cell?_setCell_same' _ _ _ (by simp [go_sem, *])])); have f5_1 : W5.frozen? ⟨w4.heap.size, 1, none⟩ = false := (by rw [← hW5]; clear hW5; simp [go_sem, *]); have c5_2 : W5.cell? ⟨w4.heap.size, 2, none⟩ = some (.int .u64 0) := (by rw [← hW5]; clear hW5; first | (simp [go_sem, *]; done) | (rw [World.cell?_setCell_same' _ _ _ (by simp [go_sem, *])])); have f5_2 : W5.frozen? ⟨w4.heap.size, 2, none⟩ = false := (by rw [← hW5]; clear hW5; simp [go_sem, *]); have c5_3 : W5.cell? ⟨w.heap.size + 1, 0, none⟩ = some (.bool tg) := (by rw [← hW5]; clear hW5; first | (simp [go_sem, *]; done) | (rw [World.cell?_setCell_same' _ _ _ (by simp [go_sem, *])])); have f5_3 : W5.frozen? ⟨w.heap.size + 1, 0, none⟩ = false := (by rw [← hW5]; clear hW5; simp [go_sem, *]); have c5_4 : W5.cell? ⟨w.heap.size + 1, 1, none⟩ = some (.int .u64 m) := (by rw [← hW5]; clear hW5; first | (simp [go_sem, *]; done) | (rw [World.cell?_setCell_same' _ _ _ (by simp [go_sem, *])])); have f5_4 : W5.frozen? ⟨w.heap.size + 1, 1, none⟩ = false := (by rw [← hW5]; clear hW5; simp [go_sem, *]); have c5_5 : W5.cell? ⟨w.heap.size + 1, 2, none⟩ = some (.int .u64 a) := (by rw [← hW5]; clear hW5; first | (simp [go_sem, *]; done) | (rw [World.cell?_setCell_same' _ _ _ (by simp [go_sem, *])])); have f5_5 : W5.frozen? ⟨w.heap.size + 1, 2, none⟩ = false := (by rw [← hW5]; clear hW5; simp [go_sem, *]); clear hW5)
    (have k5_0 := cell_regrown c5_0; have k5_1 := cell_regrown c5_1; have k5_2 := cell_regrown c5_2; have k5_3 := cell_regrown c5_3; have k5_4 := cell_regrown c5_4; have k5_5 := cell_regrown c5_5; refine wp_region_quiet_below (by kernel_rfl) (by kernel_rfl) ?_; (repeat (go_big_quiet_step (first| (go_at_call 17; exact Calls.regrown_of (Q5.out _)) | (go_at_call 16; exact Calls.regrown_of (Q6.out _)) | (go_at_call 14; exact Calls.regrown_of (one_any _))))); refine wpQuiet_nil ?_; intro W6 hW6; obtain ⟨pq, hpq⟩ := hW6; have hb6 : Below W5.heap.size W5 W6 := (by rw [hpq]; exact below_regrown _ _ _); clear hpq; have hB6 : Below w.heap.size w W6 := (hB5.trans (hb6.mono hB5.size)); clear k5_0; clear k5_1; clear k5_2; clear k5_3; clear k5_4; clear k5_5; have c6_0 := (hb6.cell (by first | assumption | (simp; omega))).trans c5_0; have f6_0 := (hb6.frozen (by first | assumption | (simp; omega))).trans f5_0; have c6_1 := (hb6.cell (by first | assumption | (simp; omega))).trans c5_1; have f6_1 := (hb6.frozen (by first | assumption | (simp; omega))).trans f5_1; have c6_2 := (hb6.cell (by first | assumption | (simp; omega))).trans c5_2; have f6_2 := (hb6.frozen (by first | assumption | (simp; omega))).trans f5_2; have c6_3 := (hb6.cell (by first | assumption | (simp; omega))).trans c5_3; have f6_3 := (hb6.frozen (by first | assumption | (simp; omega))).trans f5_3; have c6_4 := (hb6.cell (by first | assumption | (simp; omega))).trans c5_4; have f6_4 := (hb6.frozen (by first | assumption | (simp; omega))).trans f5_4; have c6_5 := (hb6.cell (by first | assumption | (simp; omega))).trans c5_5; have f6_5 := (hb6.frozen (by first | assumption | (simp; omega))).trans f5_5)
    go_wp2
    go_ret
    exact ⟨by simp, (by repeat' (first | (with_reducible exact Below.refl _ _) | (with_reducible assumption) | (with_reducible refine Below.alloc ?_ ?_ _) | (with_reducible refine Below.setCell ?_ ?_ _) | (with_reducible refine Below.drew ?_) | (with_reducible refine below_drewN ?_ _) | go_size))⟩

theorem walk_CapabRoots (b t : Nat) (hb : b < 18446744073709551616) (ht : t < 18446744073709551616) (p : Nat) (hp : p < 18446744073709551616) (tg : Bool) (m a : Nat) (hm : m < 18446744073709551616) (ha : a < 18446744073709551616) (w : World) :
    Calls Try.prog 6 #[.agg #[.int .u64 b, .int .u64 t], .int .u64 p, .agg #[.bool tg, .int .u64 m, .int .u64 a]] w fun e w' => e = .returned (.bool true) ∧ Below w.heap.size w w' := by
  have q5 := within_any tg m a hm true 2197211316224 0 (by decide)
  rw [wi_all] at q5
  refine roots_walk b t p tg m a _ _ _ _ _ _ _ (encode_all b t) (x4 := decide (p ≤ 511)) (x5 := decide (b < 281474976710656)) (by apply decide_eq_decide.2; omega) (by apply decide_eq_decide.2; omega) _ (root_any b t p hp) (mk_root b t p) (fun h => ?_) q5 (right_any tg m a hm) w
  obtain ⟨hA, hM, r1, r2, r3, r4, r5, r6, r7⟩ := mk_back h
  refine ⟨hA, ?_⟩
  have c1 := look_any true (mM b t p 0 b) b hM
  rw [r1, r2, r3, r4, r5] at c1
  exact c1
end Go.Proofs.Ytinckicchakifaa
