/-
  The closed capability of the chapter's laws; what a made capability tells; small facts of the law's words.
-/
import Derived.Test.YtcpamlnlolidkaaA9
import Derived.Test.YtcpamlnlolidkaaWCapabRoots
set_option linter.unusedSimpArgs false
set_option linter.unusedVariables false
namespace Go.Proofs.Ytcpamlnlolidkaa
open Go.RowKit Go.Sort

theorem mk_at {b t p y a : Nat} (h : mk b t p y a = true) :
    mA b t p y a = a ∧ mM b t p y a < 18446744073709551616 ∧ lB (mM b t p y a) a = b ∧ lT (mM b t p y a) a = t ∧ lOk (mM b t p y a) a = true ∧ pm (mM b t p y a) = p ∧ ty (mM b t p y a) = y ∧ ri (mM b t p y a) a = true := by
  have hA : mA b t p y a = a := by rw [mA_def, if_pos h]
  have hM : mM b t p y a = mt (eB b t) (eT b t) (eE b t) p y := by rw [mM_def, if_pos h]
  rw [hA, hM]
  rw [mk_def] at h
  simp only [Bool.and_eq_true, decide_eq_true_eq] at h
  obtain ⟨h1, h2, h3, h4, h5⟩ := h
  rw [eq2_iff] at h3
  have l1 := eB_lt b t; have l2 := eT_lt b t; have l3 := eE_le b t
  have lm := mt_lt (eB b t) (eT b t) (eE b t) p y
  generalize eB b t = B at *
  generalize eT b t = T at *
  generalize eE b t = E at *
  have o1 : oB (mt B T E p y) = B := by rw [oB_def, mt_def, wd_def]; omega
  have o2 : oT (mt B T E p y) = T := by rw [oT_def, mt_def, wd_def]; omega
  have o3 : oE (mt B T E p y) = E := by rw [oE_def, mt_def, wd_def]; omega
  have o4 : pm (mt B T E p y) = p := by rw [pm_def, mt_def, wd_def]; omega
  have o5 : ty (mt B T E p y) = y := by rw [ty_def, mt_def, wd_def]; omega
  have r1 : lB (mt B T E p y) a = b := by rw [lB_def, o1, o2, o3]; exact h3.1
  have r2 : lT (mt B T E p y) a = t := by rw [lT_def, o1, o2, o3]; exact h3.2
  have r3 : lOk (mt B T E p y) a = true := by rw [lOk_def, o1, o2, o3]; exact h2
  have r4 : ri (mt B T E p y) a = true := by rw [ri_def, r3, o1, o2, o3, o4, o5]; simp
  exact ⟨rfl, by omega, r1, r2, r3, o4, o5, r4⟩

/-- a span that is kept as it is makes a capability beside an address near it. -/
theorem mk_near {b t p y a : Nat} (hb : b ≤ t) (ht : t ≤ 281474976710656) (h1 : kb b t = b) (h2 : kt b t = t) (ha : a < 281474976710656) (hp : p ≤ 511) (hy : y ≤ 4095)
    (h3 : qd b (ex b t - 1) ≤ a / 2 ^ (ex b t - 1) + 4096) (h4 : a / 2 ^ (ex b t - 1) < qd b (ex b t - 1) + 12288) : mk b t p y a = true := by
  obtain ⟨v0, e1, e2, e3, e4, _, _⟩ := e_yes hb ht
  obtain ⟨n1, n2, n3⟩ := near_steps hb ht ha h3 h4
  rw [h1] at n2
  rw [h2] at n3
  rw [h1, h2, eq2_refl'] at e4
  rw [mk_def, e1, e2, e3, e4, n1, n2, n3, eq2_refl']
  simp [hp, hy]
theorem kb_all : kb 0 281474976710656 = 0 := by have := kb_le 0 281474976710656; omega
theorem kt_all : kt 0 281474976710656 = 281474976710656 := by
  have h1 := kt_ge 0 281474976710656
  have h2 := kt_le48 (b := 0) (t := 281474976710656) (by decide) (by decide)
  omega
theorem all_at (a : Nat) (ha : a < 281474976710656) : lB 2197211316224 a = 0 ∧ lT 2197211316224 a = 281474976710656 ∧ lOk 2197211316224 a = true ∧ ri 2197211316224 a = true ∧ pm 2197211316224 = 511 ∧ ty 2197211316224 = 0 := by
  have hk : mk 0 281474976710656 511 0 a = true := by
    refine mk_near (by decide) (by decide) kb_all kt_all ha (by decide) (by decide) ?_ ?_
    · rw [ex_all, qd_def]; exact Nat.zero_le _
    · rw [ex_all, qd_def]
      have : a / 2 ^ (37 - 1) < 4096 := Nat.div_lt_of_lt_mul (by omega)
      omega
  have hM : mM 0 281474976710656 511 0 a = 2197211316224 := by
    have h0 := mM_all
    rw [mM_def, if_pos mk_all] at h0
    rw [mM_def, if_pos hk]; exact h0
  obtain ⟨_, _, r1, r2, r3, r4, r5, r6⟩ := mk_at hk
  rw [hM] at r1 r2 r3 r4 r5 r6
  exact ⟨r1, r2, r3, r6, r4, r5⟩
theorem small_kept {b t : Nat} (h : t - b < 4096) : kb b t = b ∧ kt b t = t := by
  rw [kb_def, kt_def, ex_zero h]
  simp [qd_zero, qu_zero]
theorem mk_one : mk 4096 4112 511 0 4096 = true := by
  obtain ⟨h1, h2⟩ := small_kept (b := 4096) (t := 4112) (by decide)
  refine mk_near (by decide) (by decide) h1 h2 (by decide) (by decide) (by decide) ?_ ?_
  · rw [ex_zero (by decide), qd_def]; decide
  · rw [ex_zero (by decide), qd_def]; decide
theorem kB_one : kB 4096 4112 = 4096 ∧ kT 4096 4112 = 4112 ∧ vOk 4096 4112 = true := by
  obtain ⟨v0, _, _, _, _, e5, e6⟩ := e_yes (b := 4096) (t := 4112) (by decide) (by decide)
  obtain ⟨h1, h2⟩ := small_kept (b := 4096) (t := 4112) (by decide)
  rw [e5, e6, h1, h2]; exact ⟨rfl, rfl, v0⟩
theorem opn_all (a : Nat) (ha : a < 281474976710656) : opn true 2197211316224 a = true := by
  obtain ⟨_, _, _, h, _, h5⟩ := all_at a ha
  rw [opn_def, lv_def, h, h5]; rfl
theorem one_address (w : World) : Calls Try.prog 12 #[.agg #[.bool true, .int .u64 (2197211316224 : Nat), .int .u64 (0 : Nat)], .int .u64 4096] w fun r w' => r = .returned (.agg #[.bool true, .int .u64 (2197211316224 : Nat), .int .u64 (4096 : Nat)]) ∧ Below w.heap.size w w' := by
  have h := address_any true 2197211316224 0 4096 (by decide) w
  obtain ⟨a1, a2, _⟩ := all_at 0 (by decide)
  obtain ⟨b1, b2, b3, _⟩ := all_at 4096 (by decide)
  rw [aT_def, opn_all 0 (by decide), a1, a2, b1, b2, b3, eq2_refl'] at h
  exact h
theorem one_bound (w : World) : Calls Try.prog 13 #[.agg #[.bool true, .int .u64 (2197211316224 : Nat), .int .u64 (4096 : Nat)], .int .u64 16, .bool true] w fun r w' => r = .returned (.agg #[.bool true, .int .u64 (mM 4096 4112 511 0 4096 : Nat), .int .u64 (4096 : Nat)]) ∧ Below w.heap.size w w' := by
  have h := bound_any true 2197211316224 4096 16 true (by decide) w
  obtain ⟨b1, b2, b3, _, b5, b6⟩ := all_at 4096 (by decide)
  obtain ⟨k1, k2, k3⟩ := kB_one
  have e : ad 4096 16 = 4112 := by rw [ad_def]
  have hK : bK 2197211316224 4096 16 = true := by rw [bK_def, e, k1, k2, k3, b5, b6, mk_one]; rfl
  rw [bT_def, bM_def, hK, if_pos rfl, e, k1, k2, b1, b2, b5, b6, opn_all 4096 (by decide), eq2_refl'] at h
  exact h
set_option maxRecDepth 100000 in
theorem one_any6 (w : World) : Calls Try.prog 11 #[] w fun r w' => r = .returned (.bool true) ∧ Below w.heap.size w w' := by
  obtain ⟨_, hM, r1, r2, r3, r4, r5, r6⟩ := mk_at mk_one
  have q4 := abase_any true (mM 4096 4112 511 0 4096) 4096 hM
  have q5 := atop_any true (mM 4096 4112 511 0 4096) 4096 hM
  rw [r1] at q4
  rw [r2] at q5
  have Q2 := Lib.hid one_address
  have Q3 := Lib.hid one_bound
  have Q4 := Lib.hid q4; clear q4
  have Q5 := Lib.hid q5; clear q5
  clear hM r1 r2 r3 r4 r5 r6
  generalize mM 4096 4112 511 0 4096 = M at *
  go_enter Try.func11, Try.ntmps11
  go_wp2_with (fail)
  (go_at_call 43; refine (all_root _).mono ?_; rintro e w1 ⟨rfl, hb1⟩; obtain ⟨hc1, hf1⟩ := bcell hb1; have hq1 : Below w.heap.size w w1 := (by refine Below.trans ?_ (hb1.mono ?_); exact (by repeat' (first | (with_reducible exact Below.refl _ _) | (with_reducible assumption) | (with_reducible refine Below.alloc ?_ ?_ _) | (with_reducible refine Below.setCell ?_ ?_ _) | (with_reducible refine Below.drew ?_) | (with_reducible refine below_drewN ?_ _) | go_size)); go_size); have hs1 := hq1.size)
  go_wp2_with (fail)
  (go_at_call 12; refine (Q2.out _).mono ?_; rintro e w2 ⟨rfl, hb2⟩; obtain ⟨hc2, hf2⟩ := bcell hb2; have hq2 : Below w.heap.size w w2 := (by refine Below.trans ?_ (hb2.mono ?_); exact (by repeat' (first | (with_reducible exact Below.refl _ _) | (with_reducible assumption) | (with_reducible refine Below.alloc ?_ ?_ _) | (with_reducible refine Below.setCell ?_ ?_ _) | (with_reducible refine Below.drew ?_) | (with_reducible refine below_drewN ?_ _) | go_size)); go_size); have hs2 := hq2.size; have hz2w10 : w1.heap.size < w2.heap.size := (by have := hb2.size; (try simp at this); omega); have hm2w10 := Nat.ne_of_gt hz2w10; have hn2w10 := Nat.ne_of_lt hz2w10)
  go_wp2_with (fail)
  (go_at_call 13; refine (Q3.out _).mono ?_; rintro e w3 ⟨rfl, hb3⟩; obtain ⟨hc3, hf3⟩ := bcell hb3; have hq3 : Below w.heap.size w w3 := (by refine Below.trans ?_ (hb3.mono ?_); exact (by repeat' (first | (with_reducible exact Below.refl _ _) | (with_reducible assumption) | (with_reducible refine Below.alloc ?_ ?_ _) | (with_reducible refine Below.setCell ?_ ?_ _) | (with_reducible refine Below.drew ?_) | (with_reducible refine below_drewN ?_ _) | go_size)); go_size); have hs3 := hq3.size; have hz3w10 : w1.heap.size < w3.heap.size := (by have := hb3.size; (try simp at this); omega); have hm3w10 := Nat.ne_of_gt hz3w10; have hn3w10 := Nat.ne_of_lt hz3w10)
  go_wp2_with (fail)
  (go_at_call 26; refine (Q4.out _).mono ?_; rintro e w4 ⟨rfl, hb4⟩; obtain ⟨hc4, hf4⟩ := bcell hb4; have hq4 : Below w.heap.size w w4 := (by refine Below.trans ?_ (hb4.mono ?_); exact (by repeat' (first | (with_reducible exact Below.refl _ _) | (with_reducible assumption) | (with_reducible refine Below.alloc ?_ ?_ _) | (with_reducible refine Below.setCell ?_ ?_ _) | (with_reducible refine Below.drew ?_) | (with_reducible refine below_drewN ?_ _) | go_size)); go_size); have hs4 := hq4.size; obtain ⟨hz4w30, hz4w10⟩ : w3.heap.size < w4.heap.size ∧ w1.heap.size < w4.heap.size := (by refine ⟨?_, ?_⟩ <;> (have := hb4.size; (try simp at this); omega)); have hm4w30 := Nat.ne_of_gt hz4w30; have hn4w30 := Nat.ne_of_lt hz4w30; have hm4w10 := Nat.ne_of_gt hz4w10; have hn4w10 := Nat.ne_of_lt hz4w10)
  go_wp2_with (fail)
  (go_at_call 44; refine (Q5.out _).mono ?_; rintro e w5 ⟨rfl, hb5⟩; obtain ⟨hc5, hf5⟩ := bcell hb5; have hq5 : Below w.heap.size w w5 := (by refine Below.trans ?_ (hb5.mono ?_); exact (by repeat' (first | (with_reducible exact Below.refl _ _) | (with_reducible assumption) | (with_reducible refine Below.alloc ?_ ?_ _) | (with_reducible refine Below.setCell ?_ ?_ _) | (with_reducible refine Below.drew ?_) | (with_reducible refine below_drewN ?_ _) | go_size)); go_size); have hs5 := hq5.size; obtain ⟨hz5w30, hz5w10⟩ : w3.heap.size < w5.heap.size ∧ w1.heap.size < w5.heap.size := (by refine ⟨?_, ?_⟩ <;> (have := hb5.size; (try simp at this); omega)); have hm5w30 := Nat.ne_of_gt hz5w30; have hn5w30 := Nat.ne_of_lt hz5w30; have hm5w10 := Nat.ne_of_gt hz5w10; have hn5w10 := Nat.ne_of_lt hz5w10)
  go_wp2
  go_ret
  exact ⟨rfl, (by repeat' (first | (with_reducible exact Below.refl _ _) | (with_reducible assumption) | (with_reducible refine Below.alloc ?_ ?_ _) | (with_reducible refine Below.setCell ?_ ?_ _) | (with_reducible refine Below.drew ?_) | (with_reducible refine below_drewN ?_ _) | go_size))⟩
end Go.Proofs.Ytcpamlnlolidkaa
