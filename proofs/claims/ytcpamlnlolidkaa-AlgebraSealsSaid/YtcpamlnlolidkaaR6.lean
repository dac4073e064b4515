/-
  Contracts of the reference's small functions of chapter 06: lives, kind, perms, IsOpen, Clear, typed, may: of any capability: the same answers as the program's.
-/
import Derived.Test.YtcpamlnlolidkaaR5b
import Derived.Test.YtcpamlnlolidkaaA9
set_option linter.unusedSimpArgs false
set_option linter.unusedVariables false
namespace Go.Proofs.Ytcpamlnlolidkaa
open Go.RowKit Go.Sort

theorem rkind_any (tg : Bool) (m a : Nat) (w : World) : Calls Try.prog 65 #[.agg #[.bool tg, .int .u64 (m : Nat), .int .u64 (a : Nat)]] w fun r w' => r = .returned (.int .u64 (ty m : Nat)) ∧ Below w.heap.size w w' := by
  have e3 : ((m : Int) / 281474976710656) % 4096 = ((ty m : Nat) : Int) := by rw [ty_def]; omega
  have f3 : ((m : Int) / 281474976710656).tmod 4096 = ((ty m : Nat) : Int) := by rw [Int.tmod_eq_emod_of_nonneg (by omega), e3]
  go_enter Try.func65, Try.ntmps65
  go_wp2
  go_ret
  exact ⟨rfl, (by repeat' (first | (with_reducible exact Below.refl _ _) | (with_reducible assumption) | (with_reducible refine Below.alloc ?_ ?_ _) | (with_reducible refine Below.setCell ?_ ?_ _) | (with_reducible refine Below.drew ?_) | (with_reducible refine below_drewN ?_ _) | go_size))⟩
theorem rperms_any (tg : Bool) (m a : Nat) (w : World) : Calls Try.prog 58 #[.agg #[.bool tg, .int .u64 (m : Nat), .int .u64 (a : Nat)]] w fun r w' => r = .returned (.int .u64 (pm m : Nat)) ∧ Below w.heap.size w w' := by
  have e2 : ((m : Int) / 4294967296) % 512 = ((pm m : Nat) : Int) := by rw [pm_def]; omega
  have f2 : ((m : Int) / 4294967296).tmod 512 = ((pm m : Nat) : Int) := by rw [Int.tmod_eq_emod_of_nonneg (by omega), e2]
  go_enter Try.func58, Try.ntmps58
  go_wp2
  go_ret
  exact ⟨rfl, (by repeat' (first | (with_reducible exact Below.refl _ _) | (with_reducible assumption) | (with_reducible refine Below.alloc ?_ ?_ _) | (with_reducible refine Below.setCell ?_ ?_ _) | (with_reducible refine Below.drew ?_) | (with_reducible refine below_drewN ?_ _) | go_size))⟩
theorem rlives_walk (tg : Bool) (m a : Nat) (o : Bool) (q1 : ∀ w, Calls Try.prog 85 #[.agg #[.bool tg, .int .u64 (m : Nat), .int .u64 (a : Nat)]] w fun r w' => r = .returned (.bool o) ∧ Below w.heap.size w w') (w : World) :
    Calls Try.prog 62 #[.agg #[.bool tg, .int .u64 (m : Nat), .int .u64 (a : Nat)]] w fun r w' => r = .returned (.bool (tg && o)) ∧ Below w.heap.size w w' := by
  have Q1 := Lib.hid q1; clear q1
  cases tg
  all_goals
    go_enter Try.func62, Try.ntmps62
    go_wp2_with (go_at_call 85; refine (Q1.out _).mono ?_; rintro e w1 ⟨rfl, hb1⟩; obtain ⟨hc1, hf1⟩ := bcell hb1; have hq1 : Below w.heap.size w w1 := (by refine Below.trans ?_ (hb1.mono ?_); exact (by repeat' (first | (with_reducible exact Below.refl _ _) | (with_reducible assumption) | (with_reducible refine Below.alloc ?_ ?_ _) | (with_reducible refine Below.setCell ?_ ?_ _) | (with_reducible refine Below.drew ?_) | (with_reducible refine below_drewN ?_ _) | go_size)); go_size); have hs1 := hq1.size; have hz1w0 : w.heap.size < w1.heap.size := (by have := hb1.size; (try simp at this); omega))
    go_ret
    exact ⟨rfl, (by repeat' (first | (with_reducible exact Below.refl _ _) | (with_reducible assumption) | (with_reducible refine Below.alloc ?_ ?_ _) | (with_reducible refine Below.setCell ?_ ?_ _) | (with_reducible refine Below.drew ?_) | (with_reducible refine below_drewN ?_ _) | go_size))⟩
theorem rlives_any (tg : Bool) (m a : Nat) (hm : m < 18446744073709551616) (w : World) : Calls Try.prog 62 #[.agg #[.bool tg, .int .u64 (m : Nat), .int .u64 (a : Nat)]] w fun r w' => r = .returned (.bool (lv tg m a)) ∧ Below w.heap.size w w' := by
  rw [lv_def]
  exact rlives_walk tg m a _ (rright_any tg m a hm) w
theorem rLives_any (tg : Bool) (m a : Nat) (hm : m < 18446744073709551616) (w : World) : Calls Try.prog 29 #[.agg #[.bool tg, .int .u64 (m : Nat), .int .u64 (a : Nat)]] w fun r w' => r = .returned (.bool (lv tg m a)) ∧ Below w.heap.size w w' := by
  have Q1 := Lib.hid (rlives_any tg m a hm)
  clear hm
  go_enter Try.func29, Try.ntmps29
  go_wp2_with (go_at_call 62; refine (Q1.out _).mono ?_; rintro e w1 ⟨rfl, hb1⟩; obtain ⟨hc1, hf1⟩ := bcell hb1; have hq1 : Below w.heap.size w w1 := (by refine Below.trans ?_ (hb1.mono ?_); exact (by repeat' (first | (with_reducible exact Below.refl _ _) | (with_reducible assumption) | (with_reducible refine Below.alloc ?_ ?_ _) | (with_reducible refine Below.setCell ?_ ?_ _) | (with_reducible refine Below.drew ?_) | (with_reducible refine below_drewN ?_ _) | go_size)); go_size); have hs1 := hq1.size; have hz1w0 : w.heap.size < w1.heap.size := (by have := hb1.size; (try simp at this); omega))
  go_ret
  exact ⟨rfl, (by repeat' (first | (with_reducible exact Below.refl _ _) | (with_reducible assumption) | (with_reducible refine Below.alloc ?_ ?_ _) | (with_reducible refine Below.setCell ?_ ?_ _) | (with_reducible refine Below.drew ?_) | (with_reducible refine below_drewN ?_ _) | go_size))⟩
theorem risopen_walk (tg : Bool) (m a y : Nat) (o o2 : Bool) (q1 : ∀ w, Calls Try.prog 62 #[.agg #[.bool tg, .int .u64 (m : Nat), .int .u64 (a : Nat)]] w fun r w' => r = .returned (.bool o) ∧ Below w.heap.size w w') (q2 : ∀ w, Calls Try.prog 65 #[.agg #[.bool tg, .int .u64 (m : Nat), .int .u64 (a : Nat)]] w fun r w' => r = .returned (.int .u64 (y : Nat)) ∧ Below w.heap.size w w') (g : ((y : Int) == 0) = o2) (w : World) :
    Calls Try.prog 55 #[.agg #[.bool tg, .int .u64 (m : Nat), .int .u64 (a : Nat)]] w fun r w' => r = .returned (.bool (o && o2)) ∧ Below w.heap.size w w' := by
  have Q1 := Lib.hid q1; clear q1
  have Q2 := Lib.hid q2; clear q2
  cases o
  · clear g
    go_enter Try.func55, Try.ntmps55
    go_wp2_with (first | (go_at_call 62; refine (Q1.out _).mono ?_; rintro e w1 ⟨rfl, hb1⟩; obtain ⟨hc1, hf1⟩ := bcell hb1; have hq1 : Below w.heap.size w w1 := (by refine Below.trans ?_ (hb1.mono ?_); exact (by repeat' (first | (with_reducible exact Below.refl _ _) | (with_reducible assumption) | (with_reducible refine Below.alloc ?_ ?_ _) | (with_reducible refine Below.setCell ?_ ?_ _) | (with_reducible refine Below.drew ?_) | (with_reducible refine below_drewN ?_ _) | go_size)); go_size); have hs1 := hq1.size; have hz1w0 : w.heap.size < w1.heap.size := (by have := hb1.size; (try simp at this); omega)) | (go_at_call 65; refine (Q2.out _).mono ?_; rintro e w2 ⟨rfl, hb2⟩; obtain ⟨hc2, hf2⟩ := bcell hb2; have hq2 : Below w.heap.size w w2 := (by refine Below.trans ?_ (hb2.mono ?_); exact (by repeat' (first | (with_reducible exact Below.refl _ _) | (with_reducible assumption) | (with_reducible refine Below.alloc ?_ ?_ _) | (with_reducible refine Below.setCell ?_ ?_ _) | (with_reducible refine Below.drew ?_) | (with_reducible refine below_drewN ?_ _) | go_size)); go_size); have hs2 := hq2.size; have hz2w0 : w.heap.size < w2.heap.size := (by have := hb2.size; (try simp at this); omega)))
    go_ret
    exact ⟨rfl, (by repeat' (first | (with_reducible exact Below.refl _ _) | (with_reducible assumption) | (with_reducible refine Below.alloc ?_ ?_ _) | (with_reducible refine Below.setCell ?_ ?_ _) | (with_reducible refine Below.drew ?_) | (with_reducible refine below_drewN ?_ _) | go_size))⟩
  cases o2
  all_goals
    go_enter Try.func55, Try.ntmps55
    go_wp2_with (first | (go_at_call 62; refine (Q1.out _).mono ?_; rintro e w1 ⟨rfl, hb1⟩; obtain ⟨hc1, hf1⟩ := bcell hb1; have hq1 : Below w.heap.size w w1 := (by refine Below.trans ?_ (hb1.mono ?_); exact (by repeat' (first | (with_reducible exact Below.refl _ _) | (with_reducible assumption) | (with_reducible refine Below.alloc ?_ ?_ _) | (with_reducible refine Below.setCell ?_ ?_ _) | (with_reducible refine Below.drew ?_) | (with_reducible refine below_drewN ?_ _) | go_size)); go_size); have hs1 := hq1.size; have hz1w0 : w.heap.size < w1.heap.size := (by have := hb1.size; (try simp at this); omega)) | (go_at_call 65; refine (Q2.out _).mono ?_; rintro e w2 ⟨rfl, hb2⟩; obtain ⟨hc2, hf2⟩ := bcell hb2; have hq2 : Below w.heap.size w w2 := (by refine Below.trans ?_ (hb2.mono ?_); exact (by repeat' (first | (with_reducible exact Below.refl _ _) | (with_reducible assumption) | (with_reducible refine Below.alloc ?_ ?_ _) | (with_reducible refine Below.setCell ?_ ?_ _) | (with_reducible refine Below.drew ?_) | (with_reducible refine below_drewN ?_ _) | go_size)); go_size); have hs2 := hq2.size; have hz2w0 : w.heap.size < w2.heap.size := (by have := hb2.size; (try simp at this); omega)))
    go_ret
    exact ⟨rfl, (by repeat' (first | (with_reducible exact Below.refl _ _) | (with_reducible assumption) | (with_reducible refine Below.alloc ?_ ?_ _) | (with_reducible refine Below.setCell ?_ ?_ _) | (with_reducible refine Below.drew ?_) | (with_reducible refine below_drewN ?_ _) | go_size))⟩
theorem risopen_any (tg : Bool) (m a : Nat) (hm : m < 18446744073709551616) (w : World) : Calls Try.prog 55 #[.agg #[.bool tg, .int .u64 (m : Nat), .int .u64 (a : Nat)]] w fun r w' => r = .returned (.bool (opn tg m a)) ∧ Below w.heap.size w w' := by
  rw [opn_def]
  exact risopen_walk tg m a _ _ _ (rlives_any tg m a hm) (rkind_any tg m a) (int_nat_beq (ty m) 0) w
theorem rclear_any (tg : Bool) (m a : Nat) (w : World) : Calls Try.prog 20 #[.agg #[.bool tg, .int .u64 (m : Nat), .int .u64 (a : Nat)]] w fun r w' => r = .returned (.agg #[.bool false, .int .u64 (m : Nat), .int .u64 (a : Nat)]) ∧ Below w.heap.size w w' := by
  go_enter Try.func20, Try.ntmps20
  go_wp2
  refine bodyPost_ret (v := .agg #[.bool false, .int .u64 (m : Nat), .int .u64 (a : Nat)]) (by simp [results, Try.results20, go_sem]) rfl ⟨rfl, (by repeat' (first | (with_reducible exact Below.refl _ _) | (with_reducible assumption) | (with_reducible refine Below.alloc ?_ ?_ _) | (with_reducible refine Below.setCell ?_ ?_ _) | (with_reducible refine Below.drew ?_) | (with_reducible refine below_drewN ?_ _) | go_size))⟩
set_option maxHeartbeats 4000000 in
set_option maxRecDepth 100000 in
theorem rtyped_walk (tg : Bool) (m a k y s1 s2 s3 M : Nat) (q1 : ∀ w, Calls Try.prog 65 #[.agg #[.bool tg, .int .u64 (m : Nat), .int .u64 (a : Nat)]] w fun r w' => r = .returned (.int .u64 (y : Nat)) ∧ Below w.heap.size w w')
    (h1 : IntKind.u64.wrap ((y : Int) * 281474976710656) = (s1 : Int)) (h2 : IntKind.u64.wrap ((m : Int) - s1) = (s2 : Int)) (h3 : IntKind.u64.wrap ((k : Int) * 281474976710656) = (s3 : Int)) (h4 : IntKind.u64.wrap ((s2 : Int) + s3) = (M : Int)) (w : World) :
    Calls Try.prog 64 #[.agg #[.bool tg, .int .u64 (m : Nat), .int .u64 (a : Nat)], .int .u64 (k : Nat)] w fun r w' => r = .returned (.agg #[.bool true, .int .u64 (M : Nat), .int .u64 (a : Nat)]) ∧ Below w.heap.size w w' := by
  have Q1 := Lib.hid q1; clear q1
  go_enter Try.func64, Try.ntmps64
  go_wp2
  ((first | refine wp_at (fun W2 hW2 => ?_) | refine calls_at (fun W2 hW2 => ?_)); have hB2 : Below w.heap.size w W2 := (by rw [← hW2]; exact (by repeat' (first | (with_reducible exact Below.refl _ _) | (with_reducible assumption) | (with_reducible refine Below.alloc ?_ ?_ _) | (with_reducible refine Below.setCell ?_ ?_ _) | (with_reducible refine Below.drew ?_) | (with_reducible refine below_drewN ?_ _) | go_size))); have hz2w1 : w.heap.size + 1 < W2.heap.size := (by rw [← hW2]; first | go_size | (simp; omega)); have hz2w0 : w.heap.size < W2.heap.size := (by rw [← hW2]; first | go_size | (simp; omega)); obtain ⟨c2_0, c2_1, c2_2, c2_3, c2_4, c2_5⟩ : W2.cell? ⟨w.heap.size, 0, none⟩ = some (.bool tg) ∧ W2.cell? ⟨w.heap.size, 1, none⟩ = some (.int .u64 m) ∧ W2.cell? ⟨w.heap.size, 2, none⟩ = some (.int .u64 a) ∧ W2.cell? ⟨w.heap.size + 1, 0, none⟩ = some (.bool false) ∧ W2.cell? ⟨w.heap.size + 1, 1, none⟩ = some (.int .u64 0) ∧ W2.cell? ⟨w.heap.size + 1, 2, none⟩ = some (.int .u64 0) := (by refine ⟨?_, ?_, ?_, ?_, ?_, ?_⟩ <;> (rw [← hW2]; clear hW2; (repeat' (first | (with_reducible assumption) | (with_reducible apply rd_set_eq) | ((with_reducible refine rd_set_ne ?_ ?_); focus (first | (refine Or.inr ?_; simp; done) | (refine Or.inl ?_; first | (simp; done) | (simp; omega)))) | ((with_reducible refine rd_alloc ?_ ?_); focus go_size) | (with_reducible refine rd_drewN ?_) | (with_reducible refine rd_drew ?_) | (simp [go_sem]; done))))); obtain ⟨f2_0, f2_1, f2_2, f2_3, f2_4, f2_5⟩ : W2.frozen? ⟨w.heap.size, 0, none⟩ = false ∧ W2.frozen? ⟨w.heap.size, 1, none⟩ = false ∧ W2.frozen? ⟨w.heap.size, 2, none⟩ = false ∧ W2.frozen? ⟨w.heap.size + 1, 0, none⟩ = false ∧ W2.frozen? ⟨w.heap.size + 1, 1, none⟩ = false ∧ W2.frozen? ⟨w.heap.size + 1, 2, none⟩ = false := (by refine ⟨?_, ?_, ?_, ?_, ?_, ?_⟩ <;> (rw [← hW2]; clear hW2; (repeat' (first | (with_reducible assumption) | (with_reducible refine fz_set ?_) | ((with_reducible refine fz_alloc ?_ ?_); focus go_size) | (with_reducible refine fz_drewN ?_) | (with_reducible refine fz_drew ?_) | (simp [go_sem]; done))))); clear hW2)
  (have k2_0 := cell_regrown c2_0; have k2_1 := cell_regrown c2_1; have k2_2 := cell_regrown c2_2; have k2_3 := cell_regrown c2_3; have k2_4 := cell_regrown c2_4; have k2_5 := cell_regrown c2_5; refine wp_region_tail 12 (by kernel_rfl) (by kernel_rfl) ?_; simp only [List.take_succ_cons, List.take_zero, List.drop_succ_cons, List.drop_zero]; (repeat (go_big_quiet_step (first| (go_at_call 65; exact Calls.regrown_of (Q1.out _))))); refine wpQuiet_nil ?_; intro W5 hW5; obtain ⟨pq, hpq⟩ := hW5; have hb5 : Below W2.heap.size W2 W5 := (by rw [hpq]; exact below_regrown _ _ _); clear hpq; have hB5 : Below w.heap.size w W5 := (hB2.trans (hb5.mono hB2.size)); clear k2_0; clear k2_1; clear k2_2; clear k2_3; clear k2_4; clear k2_5; have hz5w1 : w.heap.size + 1 < W5.heap.size := (by have := hb5.size; omega); have hz5w0 : w.heap.size < W5.heap.size := (by have := hb5.size; omega); have c5_0 := (hb5.cell (by first | assumption | (simp; omega))).trans c2_0; have f5_0 := (hb5.frozen (by first | assumption | (simp; omega))).trans f2_0; have c5_1 := (hb5.cell (by first | assumption | (simp; omega))).trans c2_1; have f5_1 := (hb5.frozen (by first | assumption | (simp; omega))).trans f2_1; have c5_2 := (hb5.cell (by first | assumption | (simp; omega))).trans c2_2; have f5_2 := (hb5.frozen (by first | assumption | (simp; omega))).trans f2_2; have c5_3 := (hb5.cell (by first | assumption | (simp; omega))).trans c2_3; have f5_3 := (hb5.frozen (by first | assumption | (simp; omega))).trans f2_3; have c5_4 := (hb5.cell (by first | assumption | (simp; omega))).trans c2_4; have f5_4 := (hb5.frozen (by first | assumption | (simp; omega))).trans f2_4; have c5_5 := (hb5.cell (by first | assumption | (simp; omega))).trans c2_5; have f5_5 := (hb5.frozen (by first | assumption | (simp; omega))).trans f2_5)
  go_wp2
  refine bodyPost_ret (v := .agg #[.bool true, .int .u64 (M : Nat), .int .u64 (a : Nat)]) (by simp [results, Try.results64, go_sem, c5_3, c5_4, c5_5, hz5w1]) rfl ⟨rfl, (by repeat' (first | (with_reducible exact Below.refl _ _) | (with_reducible assumption) | (with_reducible refine Below.alloc ?_ ?_ _) | (with_reducible refine Below.setCell ?_ ?_ _) | (with_reducible refine Below.drew ?_) | (with_reducible refine below_drewN ?_ _) | go_size))⟩
theorem rtyped_any (tg : Bool) (m a k : Nat) (hm : m < 18446744073709551616) (hk : k < 4096) (w : World) :
    Calls Try.prog 64 #[.agg #[.bool tg, .int .u64 (m : Nat), .int .u64 (a : Nat)], .int .u64 (k : Nat)] w fun r w' => r = .returned (.agg #[.bool true, .int .u64 (tM m k : Nat), .int .u64 (a : Nat)]) ∧ Below w.heap.size w w' := by
  have hy := ty_lt m
  have h := (typed_word m k hm hk).2.2
  refine rtyped_walk tg m a k (ty m) (ty m * 281474976710656) (m - ty m * 281474976710656) (k * 281474976710656) (tM m k) (rkind_any tg m a) ?_ ?_ ?_ ?_ w
  · rw [IntKind.wrap_u64]; omega
  · rw [IntKind.wrap_u64]; omega
  · rw [IntKind.wrap_u64]; omega
  · have e : tM m k = m - ty m * 281474976710656 + k * 281474976710656 := by unfold tM; rfl
    have l := tM_lt m k hm hk
    rw [e] at l ⊢
    rw [IntKind.wrap_u64]; omega
end Go.Proofs.Ytcpamlnlolidkaa
