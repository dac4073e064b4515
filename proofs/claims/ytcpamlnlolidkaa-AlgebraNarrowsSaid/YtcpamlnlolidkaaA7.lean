/-
  Contracts of perm.Needs, scale.In, algebra.Check: of any capability and use.
-/
import Derived.Test.YtcpamlnlolidkaaA3
import Derived.IntWalk
set_option linter.unusedSimpArgs false
set_option linter.unusedVariables false
namespace Go.Proofs.Ytcpamlnlolidkaa
open Go.RowKit Go.Sort

/-- the permissions that a use wants. -/
def nd (k : Int) : Nat := if k = 0 then 4 else if k = 1 then 1 else if k = 2 then 2 else if k = 3 then 9 else if k = 4 then 18 else 511
theorem nd_def (k : Int) : nd k = if k = 0 then 4 else if k = 1 then 1 else if k = 2 then 2 else if k = 3 then 9 else if k = 4 then 18 else 511 := rfl
attribute [irreducible] nd
theorem nd_lt (k : Int) : nd k < 512 := by rw [nd_def]; split <;> (try split) <;> (try split) <;> (try split) <;> (try split) <;> omega
theorem needs_any (k : Int) (w : World) : Calls Try.prog 49 #[.int .i64 k] w fun r w' => r = .returned (.int .u64 (nd k : Nat)) ∧ w' = w := by
  by_cases h0 : k = 0
  · subst h0
    have e : nd 0 = 4 := by rw [nd_def]; rfl
    rw [e]
    go_enter Try.func49, Try.ntmps49
    go_wp2
    go_ret
    exact ⟨rfl, rfl⟩
  by_cases h1 : k = 1
  · subst h1
    have e : nd 1 = 1 := by rw [nd_def]; rfl
    rw [e]
    clear h0
    go_enter Try.func49, Try.ntmps49
    go_wp2
    go_ret
    exact ⟨rfl, rfl⟩
  by_cases h2 : k = 2
  · subst h2
    have e : nd 2 = 2 := by rw [nd_def]; rfl
    rw [e]
    clear h0 h1
    go_enter Try.func49, Try.ntmps49
    go_wp2
    go_ret
    exact ⟨rfl, rfl⟩
  by_cases h3 : k = 3
  · subst h3
    have e : nd 3 = 9 := by rw [nd_def]; rfl
    rw [e]
    clear h0 h1 h2
    go_enter Try.func49, Try.ntmps49
    go_wp2
    go_ret
    exact ⟨rfl, rfl⟩
  by_cases h4 : k = 4
  · subst h4
    have e : nd 4 = 18 := by rw [nd_def]; rfl
    rw [e]
    clear h0 h1 h2 h3
    go_enter Try.func49, Try.ntmps49
    go_wp2
    go_ret
    exact ⟨rfl, rfl⟩
  · have e : nd k = 511 := by rw [nd_def, if_neg h0, if_neg h1, if_neg h2, if_neg h3, if_neg h4]
    rw [e]
    have g0 : (k == 0) = false := by simp; exact h0
    have g1 : (k == 1) = false := by simp; exact h1
    have g2 : (k == 2) = false := by simp; exact h2
    have g3 : (k == 3) = false := by simp; exact h3
    have g4 : (k == 4) = false := by simp; exact h4
    clear h0 h1 h2 h3 h4
    go_enter Try.func49, Try.ntmps49
    go_wp2
    go_ret
    exact ⟨rfl, rfl⟩

/-- are some bytes from an address on within a span? -/
def inn (a n b t : Nat) : Bool := !decide (18446744073709551616 ≤ a + n) && (decide (b ≤ a) && decide (ad a n ≤ t))
theorem inn_def (a n b t : Nat) : inn a n b t = (!decide (18446744073709551616 ≤ a + n) && (decide (b ≤ a) && decide (ad a n ≤ t))) := rfl
attribute [irreducible] inn
theorem in_walk (a n b t s : Nat) (o o2 o3 : Bool) (q : ∀ w, Calls Try.prog 45 #[.int .u64 a, .int .u64 n] w fun r w' => r = .returned (.tuple #[.int .u64 (s : Nat), .bool o]) ∧ ∃ k, w' = w.drewN k)
    (g2 : decide (b ≤ a) = o2) (g3 : decide (s ≤ t) = o3) (w : World) :
    Calls Try.prog 50 #[.int .u64 a, .int .u64 n, .int .u64 b, .int .u64 t] w fun r w' => r = .returned (.bool (!o && (o2 && o3))) ∧ ∃ k, w' = w.drewN k := by
  have Q := Lib.hid q; clear q
  cases o
  · cases o2
    · clear g3
      go_enter Try.func50, Try.ntmps50
      go_wp2_with (go_at_call 45; refine (Q.out _).mono ?_; rintro e w' ⟨rfl, k2, rfl⟩)
      go_ret
      exact ⟨rfl, _, rfl⟩
    · cases o3
      all_goals
        go_enter Try.func50, Try.ntmps50
        go_wp2_with (go_at_call 45; refine (Q.out _).mono ?_; rintro e w' ⟨rfl, k2, rfl⟩)
        go_ret
        exact ⟨rfl, _, rfl⟩
  · clear g2 g3
    go_enter Try.func50, Try.ntmps50
    go_wp2_with (go_at_call 45; refine (Q.out _).mono ?_; rintro e w' ⟨rfl, k2, rfl⟩)
    go_ret
    exact ⟨rfl, _, rfl⟩
theorem in_any (a n b t : Nat) (w : World) :
    Calls Try.prog 50 #[.int .u64 a, .int .u64 n, .int .u64 b, .int .u64 t] w fun r w' => r = .returned (.bool (inn a n b t)) ∧ ∃ k, w' = w.drewN k := by
  rw [inn_def]
  refine in_walk a n b t (ad a n) _ _ _ (fun W => ?_) rfl rfl w
  rw [ad_def]
  exact add_any a n W

def ckv (ok o o2 o3 : Bool) : Int := if ok = true then (if o = true then (if o2 = true then (if o3 = true then 0 else 4) else 3) else 2) else 1
set_option maxHeartbeats 4000000 in
theorem check_walk (t : Bool) (m a B T p y n N : Nat) (k : Int) (ok o o2 o3 : Bool)
    (q1 : ∀ w, Calls Try.prog 39 #[.agg #[.bool t, .int .u64 (m : Nat), .int .u64 (a : Nat)]] w fun r w' => r = .returned (.agg #[.bool t, .int .u64 (m : Nat), .int .u64 (a : Nat), .int .u64 (B : Nat), .int .u64 (T : Nat), .int .u64 (p : Nat), .int .u64 (y : Nat), .bool ok]) ∧ Below w.heap.size w w')
    (q2 : ∀ w, Calls Try.prog 41 #[.agg #[.bool t, .int .u64 (m : Nat), .int .u64 (a : Nat), .int .u64 (B : Nat), .int .u64 (T : Nat), .int .u64 (p : Nat), .int .u64 (y : Nat), .bool ok]] w fun r w' => r = .returned (.bool o) ∧ Below w.heap.size w w')
    (q3 : ∀ w, Calls Try.prog 49 #[.int .i64 k] w fun r w' => r = .returned (.int .u64 (N : Nat)) ∧ w' = w)
    (q4 : ∀ w, Calls Try.prog 48 #[.int .u64 N, .int .u64 p] w fun r w' => r = .returned (.bool o2) ∧ w' = w)
    (q5 : ∀ w, Calls Try.prog 50 #[.int .u64 a, .int .u64 n, .int .u64 B, .int .u64 T] w fun r w' => r = .returned (.bool o3) ∧ ∃ k, w' = w.drewN k) (w : World) :
    Calls Try.prog 16 #[.agg #[.bool t, .int .u64 (m : Nat), .int .u64 (a : Nat)], .int .i64 k, .int .u64 n] w fun r w' => r = .returned (.int .i64 (ckv ok o o2 o3)) ∧ Below w.heap.size w w' := by
  have Q1 := Lib.hid q1; clear q1
  have Q2 := Lib.hid q2; clear q2
  have Q3 := Lib.hid q3; clear q3
  have Q4 := Lib.hid q4; clear q4
  have Q5 := Lib.hid q5; clear q5
  cases ok
  · go_enter Try.func16, Try.ntmps16
    go_wp2_with (fail)
    (go_at_call 39; refine (Q1.out _).mono ?_; rintro e w1 ⟨rfl, hb1⟩; obtain ⟨hc1, hf1⟩ := bcell hb1; have hq1 : Below w.heap.size w w1 := (by refine Below.trans ?_ (hb1.mono ?_); exact (by repeat' (first | (with_reducible exact Below.refl _ _) | (with_reducible assumption) | (with_reducible refine Below.alloc ?_ ?_ _) | (with_reducible refine Below.setCell ?_ ?_ _) | (with_reducible refine Below.drew ?_) | (with_reducible refine below_drewN ?_ _) | go_size)); go_size); have hs1 := hq1.size; have hz1w0 : w.heap.size < w1.heap.size := (by have := hb1.size; (try simp at this); omega); have hm1w0 := Nat.ne_of_gt hz1w0; have hn1w0 := Nat.ne_of_lt hz1w0)
    go_wp2
    go_ret
    exact ⟨rfl, (by repeat' (first | (with_reducible exact Below.refl _ _) | (with_reducible assumption) | (with_reducible refine Below.alloc ?_ ?_ _) | (with_reducible refine Below.setCell ?_ ?_ _) | (with_reducible refine Below.drew ?_) | (with_reducible refine below_drewN ?_ _) | go_size))⟩
  cases o
  · go_enter Try.func16, Try.ntmps16
    go_wp2_with (fail)
    (go_at_call 39; refine (Q1.out _).mono ?_; rintro e w1 ⟨rfl, hb1⟩; obtain ⟨hc1, hf1⟩ := bcell hb1; have hq1 : Below w.heap.size w w1 := (by refine Below.trans ?_ (hb1.mono ?_); exact (by repeat' (first | (with_reducible exact Below.refl _ _) | (with_reducible assumption) | (with_reducible refine Below.alloc ?_ ?_ _) | (with_reducible refine Below.setCell ?_ ?_ _) | (with_reducible refine Below.drew ?_) | (with_reducible refine below_drewN ?_ _) | go_size)); go_size); have hs1 := hq1.size; have hz1w0 : w.heap.size < w1.heap.size := (by have := hb1.size; (try simp at this); omega); have hm1w0 := Nat.ne_of_gt hz1w0; have hn1w0 := Nat.ne_of_lt hz1w0)
    go_wp2_with (fail)
    (go_at_call 41; refine (Q2.out _).mono ?_; rintro e w2 ⟨rfl, hb2⟩; obtain ⟨hc2, hf2⟩ := bcell hb2; have hq2 : Below w.heap.size w w2 := (by refine Below.trans ?_ (hb2.mono ?_); exact (by repeat' (first | (with_reducible exact Below.refl _ _) | (with_reducible assumption) | (with_reducible refine Below.alloc ?_ ?_ _) | (with_reducible refine Below.setCell ?_ ?_ _) | (with_reducible refine Below.drew ?_) | (with_reducible refine below_drewN ?_ _) | go_size)); go_size); have hs2 := hq2.size; obtain ⟨hz2w10, hz2w0⟩ : w1.heap.size < w2.heap.size ∧ w.heap.size < w2.heap.size := (by refine ⟨?_, ?_⟩ <;> (have := hb2.size; (try simp at this); omega)); have hm2w10 := Nat.ne_of_gt hz2w10; have hn2w10 := Nat.ne_of_lt hz2w10; have hm2w0 := Nat.ne_of_gt hz2w0; have hn2w0 := Nat.ne_of_lt hz2w0)
    go_wp2
    go_ret
    exact ⟨rfl, (by repeat' (first | (with_reducible exact Below.refl _ _) | (with_reducible assumption) | (with_reducible refine Below.alloc ?_ ?_ _) | (with_reducible refine Below.setCell ?_ ?_ _) | (with_reducible refine Below.drew ?_) | (with_reducible refine below_drewN ?_ _) | go_size))⟩
  cases o2
  · go_enter Try.func16, Try.ntmps16
    go_wp2_with (fail)
    (go_at_call 39; refine (Q1.out _).mono ?_; rintro e w1 ⟨rfl, hb1⟩; obtain ⟨hc1, hf1⟩ := bcell hb1; have hq1 : Below w.heap.size w w1 := (by refine Below.trans ?_ (hb1.mono ?_); exact (by repeat' (first | (with_reducible exact Below.refl _ _) | (with_reducible assumption) | (with_reducible refine Below.alloc ?_ ?_ _) | (with_reducible refine Below.setCell ?_ ?_ _) | (with_reducible refine Below.drew ?_) | (with_reducible refine below_drewN ?_ _) | go_size)); go_size); have hs1 := hq1.size; have hz1w0 : w.heap.size < w1.heap.size := (by have := hb1.size; (try simp at this); omega); have hm1w0 := Nat.ne_of_gt hz1w0; have hn1w0 := Nat.ne_of_lt hz1w0)
    go_wp2_with (fail)
    (go_at_call 41; refine (Q2.out _).mono ?_; rintro e w2 ⟨rfl, hb2⟩; obtain ⟨hc2, hf2⟩ := bcell hb2; have hq2 : Below w.heap.size w w2 := (by refine Below.trans ?_ (hb2.mono ?_); exact (by repeat' (first | (with_reducible exact Below.refl _ _) | (with_reducible assumption) | (with_reducible refine Below.alloc ?_ ?_ _) | (with_reducible refine Below.setCell ?_ ?_ _) | (with_reducible refine Below.drew ?_) | (with_reducible refine below_drewN ?_ _) | go_size)); go_size); have hs2 := hq2.size; obtain ⟨hz2w10, hz2w0⟩ : w1.heap.size < w2.heap.size ∧ w.heap.size < w2.heap.size := (by refine ⟨?_, ?_⟩ <;> (have := hb2.size; (try simp at this); omega)); have hm2w10 := Nat.ne_of_gt hz2w10; have hn2w10 := Nat.ne_of_lt hz2w10; have hm2w0 := Nat.ne_of_gt hz2w0; have hn2w0 := Nat.ne_of_lt hz2w0)
    go_wp2
    ((first | refine wp_at (fun W3 hW3 => ?_) | refine calls_at (fun W3 hW3 => ?_)); have hB3 : Below w.heap.size w W3 := (by rw [← hW3]; exact (by repeat' (first | (with_reducible exact Below.refl _ _) | (with_reducible assumption) | (with_reducible refine Below.alloc ?_ ?_ _) | (with_reducible refine Below.setCell ?_ ?_ _) | (with_reducible refine Below.drew ?_) | (with_reducible refine below_drewN ?_ _) | go_size))); have hz3w0 : w.heap.size < W3.heap.size := (by rw [← hW3]; first | go_size | (simp; omega)); have hz3w10 : w1.heap.size < W3.heap.size := (by rw [← hW3]; first | go_size | (simp; omega)); have c3_0 : W3.cell? ⟨w1.heap.size, 0, none⟩ = some (.bool t) := (by rw [← hW3]; clear hW3; first | (simp [go_sem, *]; done) | (rw [World.cell?_setCell_same' _ _ _ (by simp [go_sem, *])])); have f3_0 : W3.frozen? ⟨w1.heap.size, 0, none⟩ = false := (by rw [← hW3]; clear hW3; simp [go_sem, *]); have c3_1 : W3.cell? ⟨w1.heap.size, 1, none⟩ = some (.int .u64 m) := (by rw [← hW3]; clear hW3; first | (simp [go_sem, *]; done) | (rw [World.cell?_setCell_same' _ _ _ (by simp [go_sem, *])])); have f3_1 : W3.frozen? ⟨w1.heap.size, 1, none⟩ = false := (by rw [← hW3]; clear hW3; simp [go_sem, *]); have c3_2 : W3.cell? ⟨w1.heap.size, 2, none⟩ = some (.int .u64 a) := (by rw [← hW3]; clear hW3; first | (simp [go_sem, *]; done) | (rw [World.cell?_setCell_same' _ _ _ (by simp [go_sem, *])])); have f3_2 : W3.frozen? ⟨w1.heap.size, 2, none⟩ = false := (by rw [← hW3]; clear hW3; simp [go_sem, *]); have c3_3 : W3.cell? ⟨w1.heap.size, 3, none⟩ = some (.int .u64 B) := (by rw [← hW3]; clear hW3; first | (simp [go_sem, *]; done) | (rw [World.cell?_setCell_same' _ _ _ (by simp [go_sem, *])])); have f3_3 : W3.frozen? ⟨w1.heap.size, 3, none⟩ = false := (by rw [← hW3]; clear hW3; simp [go_sem, *]); have c3_4 : W3.cell? ⟨w1.heap.size, 4, none⟩ = some (.int .u64 T) := (by rw [← hW3]; clear hW3; first | (simp [go_sem, *]; done) | (rw [World.cell?_setCell_same' _ _ _ (by simp [go_sem, *])])); have f3_4 : W3.frozen? ⟨w1.heap.size, 4, none⟩ = false := (by rw [← hW3]; clear hW3; simp [go_sem, *]); have c3_5 : W3.cell? ⟨w1.heap.size, 5, none⟩ = some (.int .u64 p) := (by rw [← hW3]; clear hW3; first | (simp [go_sem, *]; done) | (rw [World.cell?_setCell_same' _ _ _ (by simp [go_sem, *])])); have f3_5 : W3.frozen? ⟨w1.heap.size, 5, none⟩ = false := (by rw [← hW3]; clear hW3; simp [go_sem, *]); have c3_6 : W3.cell? ⟨w1.heap.size, 6, none⟩ = some (.int .u64 y) := (by rw [← hW3]; clear hW3; first | (simp [go_sem, *]; done) | (rw [World.cell?_setCell_same' _ _ _ (by simp [go_sem, *])])); have f3_6 : W3.frozen? ⟨w1.heap.size, 6, none⟩ = false := (by rw [← hW3]; clear hW3; simp [go_sem, *]); have c3_7 : W3.cell? ⟨w1.heap.size, 7, none⟩ = some (.bool true) := (by rw [← hW3]; clear hW3; first | (simp [go_sem, *]; done) | (rw [World.cell?_setCell_same' _ _ _ (by simp [go_sem, *])])); have f3_7 : W3.frozen? ⟨w1.heap.size, 7, none⟩ = false := (by rw [← hW3]; clear hW3; simp [go_sem, *]); have c3_8 : W3.cell? ⟨w.heap.size, 2, none⟩ = some (.int .u64 a) := (by rw [← hW3]; clear hW3; first | (simp [go_sem, *]; done) | (rw [World.cell?_setCell_same' _ _ _ (by simp [go_sem, *])])); have f3_8 : W3.frozen? ⟨w.heap.size, 2, none⟩ = false := (by rw [← hW3]; clear hW3; simp [go_sem, *]); clear hW3)
    (have k3_0 := cell_regrown c3_0; have k3_1 := cell_regrown c3_1; have k3_2 := cell_regrown c3_2; have k3_3 := cell_regrown c3_3; have k3_4 := cell_regrown c3_4; have k3_5 := cell_regrown c3_5; have k3_6 := cell_regrown c3_6; have k3_7 := cell_regrown c3_7; have k3_8 := cell_regrown c3_8; refine wp_region_quiet_below (by kernel_rfl) (by kernel_rfl) ?_; (repeat (go_big_quiet_step (first| (go_at_call 49; exact Calls.regrown_of (below_same (Q3.out _))) | (go_at_call 48; exact Calls.regrown_of (below_same (Q4.out _)))))); refine wpQuiet_nil ?_; intro W4 hW4; obtain ⟨pq, hpq⟩ := hW4; have hb4 : Below W3.heap.size W3 W4 := (by rw [hpq]; exact below_regrown _ _ _); clear hpq; have hB4 : Below w.heap.size w W4 := (hB3.trans (hb4.mono hB3.size)); clear k3_0; clear k3_1; clear k3_2; clear k3_3; clear k3_4; clear k3_5; clear k3_6; clear k3_7; clear k3_8; have hz4w0 : w.heap.size < W4.heap.size := (by have := hb4.size; omega); have hz4w10 : w1.heap.size < W4.heap.size := (by have := hb4.size; omega); have c4_0 := (hb4.cell (by first | assumption | (simp; omega))).trans c3_0; have f4_0 := (hb4.frozen (by first | assumption | (simp; omega))).trans f3_0; have c4_1 := (hb4.cell (by first | assumption | (simp; omega))).trans c3_1; have f4_1 := (hb4.frozen (by first | assumption | (simp; omega))).trans f3_1; have c4_2 := (hb4.cell (by first | assumption | (simp; omega))).trans c3_2; have f4_2 := (hb4.frozen (by first | assumption | (simp; omega))).trans f3_2; have c4_3 := (hb4.cell (by first | assumption | (simp; omega))).trans c3_3; have f4_3 := (hb4.frozen (by first | assumption | (simp; omega))).trans f3_3; have c4_4 := (hb4.cell (by first | assumption | (simp; omega))).trans c3_4; have f4_4 := (hb4.frozen (by first | assumption | (simp; omega))).trans f3_4; have c4_5 := (hb4.cell (by first | assumption | (simp; omega))).trans c3_5; have f4_5 := (hb4.frozen (by first | assumption | (simp; omega))).trans f3_5; have c4_6 := (hb4.cell (by first | assumption | (simp; omega))).trans c3_6; have f4_6 := (hb4.frozen (by first | assumption | (simp; omega))).trans f3_6; have c4_7 := (hb4.cell (by first | assumption | (simp; omega))).trans c3_7; have f4_7 := (hb4.frozen (by first | assumption | (simp; omega))).trans f3_7; have c4_8 := (hb4.cell (by first | assumption | (simp; omega))).trans c3_8; have f4_8 := (hb4.frozen (by first | assumption | (simp; omega))).trans f3_8)
    go_wp2
    go_ret
    exact ⟨rfl, (by repeat' (first | (with_reducible exact Below.refl _ _) | (with_reducible assumption) | (with_reducible refine Below.alloc ?_ ?_ _) | (with_reducible refine Below.setCell ?_ ?_ _) | (with_reducible refine Below.drew ?_) | (with_reducible refine below_drewN ?_ _) | go_size))⟩
  cases o3
  all_goals
    go_enter Try.func16, Try.ntmps16
    go_wp2_with (fail)
    (go_at_call 39; refine (Q1.out _).mono ?_; rintro e w1 ⟨rfl, hb1⟩; obtain ⟨hc1, hf1⟩ := bcell hb1; have hq1 : Below w.heap.size w w1 := (by refine Below.trans ?_ (hb1.mono ?_); exact (by repeat' (first | (with_reducible exact Below.refl _ _) | (with_reducible assumption) | (with_reducible refine Below.alloc ?_ ?_ _) | (with_reducible refine Below.setCell ?_ ?_ _) | (with_reducible refine Below.drew ?_) | (with_reducible refine below_drewN ?_ _) | go_size)); go_size); have hs1 := hq1.size; have hz1w0 : w.heap.size < w1.heap.size := (by have := hb1.size; (try simp at this); omega); have hm1w0 := Nat.ne_of_gt hz1w0; have hn1w0 := Nat.ne_of_lt hz1w0)
    go_wp2_with (fail)
    (go_at_call 41; refine (Q2.out _).mono ?_; rintro e w2 ⟨rfl, hb2⟩; obtain ⟨hc2, hf2⟩ := bcell hb2; have hq2 : Below w.heap.size w w2 := (by refine Below.trans ?_ (hb2.mono ?_); exact (by repeat' (first | (with_reducible exact Below.refl _ _) | (with_reducible assumption) | (with_reducible refine Below.alloc ?_ ?_ _) | (with_reducible refine Below.setCell ?_ ?_ _) | (with_reducible refine Below.drew ?_) | (with_reducible refine below_drewN ?_ _) | go_size)); go_size); have hs2 := hq2.size; obtain ⟨hz2w10, hz2w0⟩ : w1.heap.size < w2.heap.size ∧ w.heap.size < w2.heap.size := (by refine ⟨?_, ?_⟩ <;> (have := hb2.size; (try simp at this); omega)); have hm2w10 := Nat.ne_of_gt hz2w10; have hn2w10 := Nat.ne_of_lt hz2w10; have hm2w0 := Nat.ne_of_gt hz2w0; have hn2w0 := Nat.ne_of_lt hz2w0)
    go_wp2
    ((first | refine wp_at (fun W3 hW3 => ?_) | refine calls_at (fun W3 hW3 => ?_)); have hB3 : Below w.heap.size w W3 := (by rw [← hW3]; exact (by repeat' (first | (with_reducible exact Below.refl _ _) | (with_reducible assumption) | (with_reducible refine Below.alloc ?_ ?_ _) | (with_reducible refine Below.setCell ?_ ?_ _) | (with_reducible refine Below.drew ?_) | (with_reducible refine below_drewN ?_ _) | go_size))); have hz3w0 : w.heap.size < W3.heap.size := (by rw [← hW3]; first | go_size | (simp; omega)); have hz3w10 : w1.heap.size < W3.heap.size := (by rw [← hW3]; first | go_size | (simp; omega)); have c3_0 : W3.cell? ⟨w1.heap.size, 0, none⟩ = some (.bool t) := (by rw [← hW3]; clear hW3; first | (simp [go_sem, *]; done) | (rw [World.cell?_setCell_same' _ _ _ (by simp [go_sem, *])])); have f3_0 : W3.frozen? ⟨w1.heap.size, 0, none⟩ = false := (by rw [← hW3]; clear hW3; simp [go_sem, *]); have c3_1 : W3.cell? ⟨w1.heap.size, 1, none⟩ = some (.int .u64 m) := (by rw [← hW3]; clear hW3; first | (simp [go_sem, *]; done) | (rw [World.cell?_setCell_same' _ _ _ (by simp [go_sem, *])])); have f3_1 : W3.frozen? ⟨w1.heap.size, 1, none⟩ = false := (by rw [← hW3]; clear hW3; simp [go_sem, *]); have c3_2 : W3.cell? ⟨w1.heap.size, 2, none⟩ = some (.int .u64 a) := (by rw [← hW3]; clear hW3; first | (simp [go_sem, *]; done) | (rw [World.cell?_setCell_same' _ _ _ (by simp [go_sem, *])])); have f3_2 : W3.frozen? ⟨w1.heap.size, 2, none⟩ = false := (by rw [← hW3]; clear hW3; simp [go_sem, *]); have c3_3 : W3.cell? ⟨w1.heap.size, 3, none⟩ = some (.int .u64 B) := (by rw [← hW3]; clear hW3; first | (simp [go_sem, *]; done) | (rw [World.cell?_setCell_same' _ _ _ (by simp [go_sem, *])])); have f3_3 : W3.frozen? ⟨w1.heap.size, 3, none⟩ = false := (by rw [← hW3]; clear hW3; simp [go_sem, *]); have c3_4 : W3.cell? ⟨w1.heap.size, 4, none⟩ = some (.int .u64 T) := (by rw [← hW3]; clear hW3; first | (simp [go_sem, *]; done) | (rw [World.cell?_setCell_same' _ _ _ (by simp [go_sem, *])])); have f3_4 : W3.frozen? ⟨w1.heap.size, 4, none⟩ = false := (by rw [← hW3]; clear hW3; simp [go_sem, *]); have c3_5 : W3.cell? ⟨w1.heap.size, 5, none⟩ = some (.int .u64 p) := (by rw [← hW3]; clear hW3; first | (simp [go_sem, *]; done) | (rw [World.cell?_setCell_same' _ _ _ (by simp [go_sem, *])])); have f3_5 : W3.frozen? ⟨w1.heap.size, 5, none⟩ = false := (by rw [← hW3]; clear hW3; simp [go_sem, *]); have c3_6 : W3.cell? ⟨w1.heap.size, 6, none⟩ = some (.int .u64 y) := (by rw [← hW3]; clear hW3; first | (simp [go_sem, *]; done) | (rw [World.cell?_setCell_same' _ _ _ (by simp [go_sem, *])])); have f3_6 : W3.frozen? ⟨w1.heap.size, 6, none⟩ = false := (by rw [← hW3]; clear hW3; simp [go_sem, *]); have c3_7 : W3.cell? ⟨w1.heap.size, 7, none⟩ = some (.bool true) := (by rw [← hW3]; clear hW3; first | (simp [go_sem, *]; done) | (rw [World.cell?_setCell_same' _ _ _ (by simp [go_sem, *])])); have f3_7 : W3.frozen? ⟨w1.heap.size, 7, none⟩ = false := (by rw [← hW3]; clear hW3; simp [go_sem, *]); have c3_8 : W3.cell? ⟨w.heap.size, 2, none⟩ = some (.int .u64 a) := (by rw [← hW3]; clear hW3; first | (simp [go_sem, *]; done) | (rw [World.cell?_setCell_same' _ _ _ (by simp [go_sem, *])])); have f3_8 : W3.frozen? ⟨w.heap.size, 2, none⟩ = false := (by rw [← hW3]; clear hW3; simp [go_sem, *]); clear hW3)
    (have k3_0 := cell_regrown c3_0; have k3_1 := cell_regrown c3_1; have k3_2 := cell_regrown c3_2; have k3_3 := cell_regrown c3_3; have k3_4 := cell_regrown c3_4; have k3_5 := cell_regrown c3_5; have k3_6 := cell_regrown c3_6; have k3_7 := cell_regrown c3_7; have k3_8 := cell_regrown c3_8; refine wp_region_quiet_below (by kernel_rfl) (by kernel_rfl) ?_; (repeat (go_big_quiet_step (first| (go_at_call 49; exact Calls.regrown_of (below_same (Q3.out _))) | (go_at_call 48; exact Calls.regrown_of (below_same (Q4.out _)))))); refine wpQuiet_nil ?_; intro W4 hW4; obtain ⟨pq, hpq⟩ := hW4; have hb4 : Below W3.heap.size W3 W4 := (by rw [hpq]; exact below_regrown _ _ _); clear hpq; have hB4 : Below w.heap.size w W4 := (hB3.trans (hb4.mono hB3.size)); clear k3_0; clear k3_1; clear k3_2; clear k3_3; clear k3_4; clear k3_5; clear k3_6; clear k3_7; clear k3_8; have hz4w0 : w.heap.size < W4.heap.size := (by have := hb4.size; omega); have hz4w10 : w1.heap.size < W4.heap.size := (by have := hb4.size; omega); have c4_0 := (hb4.cell (by first | assumption | (simp; omega))).trans c3_0; have f4_0 := (hb4.frozen (by first | assumption | (simp; omega))).trans f3_0; have c4_1 := (hb4.cell (by first | assumption | (simp; omega))).trans c3_1; have f4_1 := (hb4.frozen (by first | assumption | (simp; omega))).trans f3_1; have c4_2 := (hb4.cell (by first | assumption | (simp; omega))).trans c3_2; have f4_2 := (hb4.frozen (by first | assumption | (simp; omega))).trans f3_2; have c4_3 := (hb4.cell (by first | assumption | (simp; omega))).trans c3_3; have f4_3 := (hb4.frozen (by first | assumption | (simp; omega))).trans f3_3; have c4_4 := (hb4.cell (by first | assumption | (simp; omega))).trans c3_4; have f4_4 := (hb4.frozen (by first | assumption | (simp; omega))).trans f3_4; have c4_5 := (hb4.cell (by first | assumption | (simp; omega))).trans c3_5; have f4_5 := (hb4.frozen (by first | assumption | (simp; omega))).trans f3_5; have c4_6 := (hb4.cell (by first | assumption | (simp; omega))).trans c3_6; have f4_6 := (hb4.frozen (by first | assumption | (simp; omega))).trans f3_6; have c4_7 := (hb4.cell (by first | assumption | (simp; omega))).trans c3_7; have f4_7 := (hb4.frozen (by first | assumption | (simp; omega))).trans f3_7; have c4_8 := (hb4.cell (by first | assumption | (simp; omega))).trans c3_8; have f4_8 := (hb4.frozen (by first | assumption | (simp; omega))).trans f3_8)
    go_wp2_with (go_at_call 50; refine (Q5.out _).mono ?_; rintro e w' ⟨rfl, k2, rfl⟩)
    go_ret
    exact ⟨rfl, (by repeat' (first | (with_reducible exact Below.refl _ _) | (with_reducible assumption) | (with_reducible refine Below.alloc ?_ ?_ _) | (with_reducible refine Below.setCell ?_ ?_ _) | (with_reducible refine Below.drew ?_) | (with_reducible refine below_drewN ?_ _) | go_size))⟩
/-- what is wrong with a use? -/
def ck (tg : Bool) (m a : Nat) (k : Int) (n : Nat) : Int := ckv (lv tg m a) (opn tg m a) (pw (nd k) (pm m)) (inn a n (lB m a) (lT m a))
theorem ck_def (tg : Bool) (m a : Nat) (k : Int) (n : Nat) : ck tg m a k n = ckv (lv tg m a) (opn tg m a) (pw (nd k) (pm m)) (inn a n (lB m a) (lT m a)) := rfl
attribute [irreducible] ck
theorem check_any (tg : Bool) (m a : Nat) (hm : m < 18446744073709551616) (k : Int) (n : Nat) (w : World) :
    Calls Try.prog 16 #[.agg #[.bool tg, .int .u64 (m : Nat), .int .u64 (a : Nat)], .int .i64 k, .int .u64 n] w fun r w' => r = .returned (.int .i64 (ck tg m a k n)) ∧ Below w.heap.size w w' := by
  rw [ck_def]
  exact check_walk tg m a _ _ _ _ n _ k _ _ _ _ (aof_any tg m a hm) (aopen_any tg m a) (needs_any k) (pw_any _ _) (in_any _ _ _ _) w
end Go.Proofs.Ytcpamlnlolidkaa
