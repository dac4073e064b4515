/-
  Contracts of capab.Right, perm.Within, capab.Within, of any capabilities.
-/
import Derived.Test.YtinckicchakifaaC2
import Derived.Test.YtinckicchakifaaC3
import Derived.Deep.RegionWith
set_option linter.unusedSimpArgs false
set_option linter.unusedVariables false
namespace Go.Proofs.Ytinckicchakifaa
open Go.RowKit Go.Sort

theorem pm_lt (m : Nat) : pm m < 512 := by rw [pm_def]; omega
theorem ty_lt (m : Nat) : ty m < 4096 := by rw [ty_def]; omega
theorem meta_of (m a : Nat) (w : World) :
    Calls Try.prog 27 #[.agg #[.int .u64 (oB m : Nat), .int .u64 (oT m : Nat), .int .u64 (oE m : Nat)], .agg #[.int .u64 (lB m a : Nat), .int .u64 (lT m a : Nat), .int .u64 (pm m : Nat), .int .u64 (ty m : Nat)]] w fun r w' =>
      r = .returned (.int .u64 (mt (oB m) (oT m) (oE m) (pm m) (ty m) : Nat)) ∧ Below w.heap.size w w' := by
  have h1 := oB_lt m; have h2 := oT_lt m; have h3 := oE_lt m; have h4 := pm_lt m; have h5 := ty_lt m
  exact meta_all _ _ _ _ _ _ _ (by omega) (by omega) (by omega) (by omega) (by omega) w

set_option maxHeartbeats 1000000 in
theorem right_any (tg : Bool) (m a : Nat) (hm : m < 18446744073709551616) (w : World) :
    Calls Try.prog 16 #[.agg #[.bool tg, .int .u64 m, .int .u64 a]] w fun r w' => r = .returned (.bool (ri m a)) ∧ Below w.heap.size w w' := by
  have q1 := look_any tg m a hm
  have q2 := of_any m hm
  have q3 := meta_of m a
  have hr := ri_def m a
  have e : ((((mt (oB m) (oT m) (oE m) (pm m) (ty m)) : Nat) : Int) == (m : Int)) = decide (mt (oB m) (oT m) (oE m) (pm m) (ty m) = m) := by
    rw [Bool.eq_iff_iff]; simp; omega
  generalize decide (mt (oB m) (oT m) (oE m) (pm m) (ty m) = m) = o2 at *
  generalize mt (oB m) (oT m) (oE m) (pm m) (ty m) = M at *
  rw [hr]
  clear hr
  generalize lOk m a = o1 at *
  have Q1 := Lib.hid q1; clear q1
  have Q2 := Lib.hid q2; clear q2
  have Q3 := Lib.hid q3; clear q3
  clear hm
  cases o1
  all_goals
    go_enter Try.func16, Try.ntmps16
    go_wp2_with (fail)
    (go_at_call 15; refine (Q1.out _).mono ?_; rintro e w1 ⟨rfl, hb1⟩; obtain ⟨hc1, hf1⟩ := bcell hb1; have hq1 : Below w.heap.size w w1 := (by refine Below.trans ?_ (hb1.mono ?_); exact (by repeat' (first | (with_reducible exact Below.refl _ _) | (with_reducible assumption) | (with_reducible refine Below.alloc ?_ ?_ _) | (with_reducible refine Below.setCell ?_ ?_ _) | (with_reducible refine Below.drew ?_) | (with_reducible refine below_drewN ?_ _) | go_size)); go_size); have hs1 := hq1.size; have hz1w0 : w.heap.size < w1.heap.size := (by have := hb1.size; (try simp at this); omega))
    go_wp2
    ((first | refine wp_at (fun W2 hW2 => ?_) | refine calls_at (fun W2 hW2 => ?_)); have hB2 : Below w.heap.size w W2 := (by rw [← hW2]; exact (by repeat' (first | (with_reducible exact Below.refl _ _) | (with_reducible assumption) | (with_reducible refine Below.alloc ?_ ?_ _) | (with_reducible refine Below.setCell ?_ ?_ _) | (with_reducible refine Below.drew ?_) | (with_reducible refine below_drewN ?_ _) | go_size))); have hz2w10 : w1.heap.size < W2.heap.size := (by rw [← hW2]; first | go_size | (simp; omega)); have hz2w0 : w.heap.size < W2.heap.size := (by rw [← hW2]; first | go_size | (simp; omega)); have c2_0 : W2.cell? ⟨w.heap.size, 0, none⟩ = some (.bool tg) := (by rw [← hW2]; clear hW2; first | (simp [go_sem, *]; done) | (rw [World.cell?_setCell_same' _ _ _ (by simp [go_sem, *])])); have f2_0 : W2.frozen? ⟨w.heap.size, 0, none⟩ = false := (by rw [← hW2]; clear hW2; simp [go_sem, *]); have c2_1 : W2.cell? ⟨w.heap.size, 1, none⟩ = some (.int .u64 m) := (by rw [← hW2]; clear hW2; first | (simp [go_sem, *]; done) | (rw [World.cell?_setCell_same' _ _ _ (by simp [go_sem, *])])); have f2_1 : W2.frozen? ⟨w.heap.size, 1, none⟩ = false := (by rw [← hW2]; clear hW2; simp [go_sem, *]); have c2_2 : W2.cell? ⟨w.heap.size, 2, none⟩ = some (.int .u64 a) := (by rw [← hW2]; clear hW2; first | (simp [go_sem, *]; done) | (rw [World.cell?_setCell_same' _ _ _ (by simp [go_sem, *])])); have f2_2 : W2.frozen? ⟨w.heap.size, 2, none⟩ = false := (by rw [← hW2]; clear hW2; simp [go_sem, *]); have c2_3 : W2.cell? ⟨w1.heap.size, 0, none⟩ = some (.int .u64 (lB m a : Nat)) := (by rw [← hW2]; clear hW2; first | (simp [go_sem, *]; done) | (rw [World.cell?_setCell_same' _ _ _ (by simp [go_sem, *])])); have f2_3 : W2.frozen? ⟨w1.heap.size, 0, none⟩ = false := (by rw [← hW2]; clear hW2; simp [go_sem, *]); have c2_4 : W2.cell? ⟨w1.heap.size, 1, none⟩ = some (.int .u64 (lT m a : Nat)) := (by rw [← hW2]; clear hW2; first | (simp [go_sem, *]; done) | (rw [World.cell?_setCell_same' _ _ _ (by simp [go_sem, *])])); have f2_4 : W2.frozen? ⟨w1.heap.size, 1, none⟩ = false := (by rw [← hW2]; clear hW2; simp [go_sem, *]); have c2_5 : W2.cell? ⟨w1.heap.size, 2, none⟩ = some (.int .u64 (pm m : Nat)) := (by rw [← hW2]; clear hW2; first | (simp [go_sem, *]; done) | (rw [World.cell?_setCell_same' _ _ _ (by simp [go_sem, *])])); have f2_5 : W2.frozen? ⟨w1.heap.size, 2, none⟩ = false := (by rw [← hW2]; clear hW2; simp [go_sem, *]); have c2_6 : W2.cell? ⟨w1.heap.size, 3, none⟩ = some (.int .u64 (ty m : Nat)) := (by rw [← hW2]; clear hW2; first | (simp [go_sem, *]; done) | (rw [World.cell?_setCell_same' _ _ _ (by simp [go_sem, *])])); have f2_6 : W2.frozen? ⟨w1.heap.size, 3, none⟩ = false := (by rw [← hW2]; clear hW2; simp [go_sem, *]); clear hW2)
    (have k2_0 := cell_regrown c2_0; have k2_1 := cell_regrown c2_1; have k2_2 := cell_regrown c2_2; have k2_3 := cell_regrown c2_3; have k2_4 := cell_regrown c2_4; have k2_5 := cell_regrown c2_5; have k2_6 := cell_regrown c2_6; refine wp_region_quiet_below (by kernel_rfl) (by kernel_rfl) ?_; (repeat (go_big_quiet_step (first| (go_at_call 30; exact Calls.regrown_of (Q2.out _)) | (go_at_call 27; exact Calls.regrown_of (Q3.out _))))); refine wpQuiet_nil ?_; intro W3 hW3; obtain ⟨pq, hpq⟩ := hW3; have hb3 : Below W2.heap.size W2 W3 := (by rw [hpq]; exact below_regrown _ _ _); clear hpq; have hB3 : Below w.heap.size w W3 := (hB2.trans (hb3.mono hB2.size)); clear k2_0; clear k2_1; clear k2_2; clear k2_3; clear k2_4; clear k2_5; clear k2_6; have c3_0 := (hb3.cell (by first | assumption | (simp; omega))).trans c2_0; have f3_0 := (hb3.frozen (by first | assumption | (simp; omega))).trans f2_0; have c3_1 := (hb3.cell (by first | assumption | (simp; omega))).trans c2_1; have f3_1 := (hb3.frozen (by first | assumption | (simp; omega))).trans f2_1; have c3_2 := (hb3.cell (by first | assumption | (simp; omega))).trans c2_2; have f3_2 := (hb3.frozen (by first | assumption | (simp; omega))).trans f2_2; have c3_3 := (hb3.cell (by first | assumption | (simp; omega))).trans c2_3; have f3_3 := (hb3.frozen (by first | assumption | (simp; omega))).trans f2_3; have c3_4 := (hb3.cell (by first | assumption | (simp; omega))).trans c2_4; have f3_4 := (hb3.frozen (by first | assumption | (simp; omega))).trans f2_4; have c3_5 := (hb3.cell (by first | assumption | (simp; omega))).trans c2_5; have f3_5 := (hb3.frozen (by first | assumption | (simp; omega))).trans f2_5; have c3_6 := (hb3.cell (by first | assumption | (simp; omega))).trans c2_6; have f3_6 := (hb3.frozen (by first | assumption | (simp; omega))).trans f2_6)
    go_wp2
    go_ret
    exact ⟨by simp, (by repeat' (first | (with_reducible exact Below.refl _ _) | (with_reducible assumption) | (with_reducible refine Below.alloc ?_ ?_ _) | (with_reducible refine Below.setCell ?_ ?_ _) | (with_reducible refine Below.drew ?_) | (with_reducible refine below_drewN ?_ _) | go_size))⟩

def pw (p q : Nat) : Bool := bits .andNot .u64 (p : Int) (q : Int) == 0
theorem pw_def (p q : Nat) : pw p q = (bits .andNot .u64 (p : Int) (q : Int) == 0) := rfl
attribute [irreducible] pw
theorem pw_any (p q : Nat) (w : World) : Calls Try.prog 32 #[.int .u64 p, .int .u64 q] w fun r w' => r = .returned (.bool (pw p q)) ∧ w' = w := by
  have h := (pw_def p q).symm
  go_enter Try.func32, Try.ntmps32
  go_wp2
  go_ret
  exact ⟨rfl, rfl⟩

def wi (m a n b : Nat) : Bool := ri m a && (ri n b && (decide (lB n b ≤ lB m a) && (decide (lT m a ≤ lT n b) && pw (pm m) (pm n))))
theorem wi_def (m a n b : Nat) : wi m a n b = (ri m a && (ri n b && (decide (lB n b ≤ lB m a) && (decide (lT m a ≤ lT n b) && pw (pm m) (pm n))))) := rfl
attribute [irreducible] wi

set_option maxHeartbeats 2000000 in
theorem within_any (t1 : Bool) (m a : Nat) (hm : m < 18446744073709551616) (t2 : Bool) (n b : Nat) (hn : n < 18446744073709551616) (w : World) :
    Calls Try.prog 17 #[.agg #[.bool t1, .int .u64 m, .int .u64 a], .agg #[.bool t2, .int .u64 n, .int .u64 b]] w fun r w' => r = .returned (.bool (wi m a n b)) ∧ Below w.heap.size w w' := by
  have q1 := look_any t1 m a hm
  have q2 := look_any t2 n b hn
  have q3 := right_any t1 m a hm
  have q4 := right_any t2 n b hn
  rw [wi_def]
  generalize ri m a = o1 at *
  generalize ri n b = o2 at *
  obtain ⟨o3, g3⟩ : ∃ o, decide (lB n b ≤ lB m a) = o := ⟨_, rfl⟩
  obtain ⟨o4, g4⟩ : ∃ o, decide (lT m a ≤ lT n b) = o := ⟨_, rfl⟩
  rw [g3, g4]
  have Q1 := Lib.hid q1; clear q1
  have Q2 := Lib.hid q2; clear q2
  have Q3 := Lib.hid q3; clear q3
  have Q4 := Lib.hid q4; clear q4
  clear hm hn
  cases o1
  · clear g3 g4
    go_enter Try.func17, Try.ntmps17
    go_wp2_with (fail)
    (go_at_call 15; refine (Q1.out _).mono ?_; rintro e w1 ⟨rfl, hb1⟩; obtain ⟨hc1, hf1⟩ := bcell hb1; have hq1 : Below w.heap.size w w1 := (by refine Below.trans ?_ (hb1.mono ?_); exact (by repeat' (first | (with_reducible exact Below.refl _ _) | (with_reducible assumption) | (with_reducible refine Below.alloc ?_ ?_ _) | (with_reducible refine Below.setCell ?_ ?_ _) | (with_reducible refine Below.drew ?_) | (with_reducible refine below_drewN ?_ _) | go_size)); go_size); have hs1 := hq1.size; have hz1w1 : w.heap.size + 1 < w1.heap.size := (by have := hb1.size; (try simp at this); omega); have hz1w0 : w.heap.size < w1.heap.size := (by have := hb1.size; (try simp at this); omega))
    go_wp2_with (fail)
    (go_at_call 15; refine (Q2.out _).mono ?_; rintro e w2 ⟨rfl, hb2⟩; obtain ⟨hc2, hf2⟩ := bcell hb2; have hq2 : Below w.heap.size w w2 := (by refine Below.trans ?_ (hb2.mono ?_); exact (by repeat' (first | (with_reducible exact Below.refl _ _) | (with_reducible assumption) | (with_reducible refine Below.alloc ?_ ?_ _) | (with_reducible refine Below.setCell ?_ ?_ _) | (with_reducible refine Below.drew ?_) | (with_reducible refine below_drewN ?_ _) | go_size)); go_size); have hs2 := hq2.size; have hz2w10 : w1.heap.size < w2.heap.size := (by have := hb2.size; (try simp at this); omega); have hz2w1 : w.heap.size + 1 < w2.heap.size := (by have := hb2.size; (try simp at this); omega); have hz2w0 : w.heap.size < w2.heap.size := (by have := hb2.size; (try simp at this); omega))
    go_wp2_with (fail)
    (go_at_call 16; refine (Q3.out _).mono ?_; rintro e w3 ⟨rfl, hb3⟩; obtain ⟨hc3, hf3⟩ := bcell hb3; have hq3 : Below w.heap.size w w3 := (by refine Below.trans ?_ (hb3.mono ?_); exact (by repeat' (first | (with_reducible exact Below.refl _ _) | (with_reducible assumption) | (with_reducible refine Below.alloc ?_ ?_ _) | (with_reducible refine Below.setCell ?_ ?_ _) | (with_reducible refine Below.drew ?_) | (with_reducible refine below_drewN ?_ _) | go_size)); go_size); have hs3 := hq3.size; have hz3w20 : w2.heap.size < w3.heap.size := (by have := hb3.size; (try simp at this); omega); have hz3w10 : w1.heap.size < w3.heap.size := (by have := hb3.size; (try simp at this); omega); have hz3w1 : w.heap.size + 1 < w3.heap.size := (by have := hb3.size; (try simp at this); omega); have hz3w0 : w.heap.size < w3.heap.size := (by have := hb3.size; (try simp at this); omega))
    go_wp2_with (first | (go_at_call 16; refine (Q4.out _).mono ?_; rintro e w4 ⟨rfl, hb4⟩; obtain ⟨hc4, hf4⟩ := bcell hb4; have hq4 : Below w.heap.size w w4 := (by refine Below.trans ?_ (hb4.mono ?_); exact (by repeat' (first | (with_reducible exact Below.refl _ _) | (with_reducible assumption) | (with_reducible refine Below.alloc ?_ ?_ _) | (with_reducible refine Below.setCell ?_ ?_ _) | (with_reducible refine Below.drew ?_) | (with_reducible refine below_drewN ?_ _) | go_size)); go_size); have hs4 := hq4.size; have hz4w20 : w2.heap.size < w4.heap.size := (by have := hb4.size; (try simp at this); omega); have hz4w10 : w1.heap.size < w4.heap.size := (by have := hb4.size; (try simp at this); omega); have hz4w1 : w.heap.size + 1 < w4.heap.size := (by have := hb4.size; (try simp at this); omega); have hz4w0 : w.heap.size < w4.heap.size := (by have := hb4.size; (try simp at this); omega)) | (go_at_call 32; refine (pw_any _ _ _).mono ?_; rintro e w' ⟨rfl, rfl⟩))
    go_ret
    exact ⟨by simp, (by repeat' (first | (with_reducible exact Below.refl _ _) | (with_reducible assumption) | (with_reducible refine Below.alloc ?_ ?_ _) | (with_reducible refine Below.setCell ?_ ?_ _) | (with_reducible refine Below.drew ?_) | (with_reducible refine below_drewN ?_ _) | go_size))⟩
  cases o2
  · clear g3 g4
    go_enter Try.func17, Try.ntmps17
    go_wp2_with (fail)
    (go_at_call 15; refine (Q1.out _).mono ?_; rintro e w1 ⟨rfl, hb1⟩; obtain ⟨hc1, hf1⟩ := bcell hb1; have hq1 : Below w.heap.size w w1 := (by refine Below.trans ?_ (hb1.mono ?_); exact (by repeat' (first | (with_reducible exact Below.refl _ _) | (with_reducible assumption) | (with_reducible refine Below.alloc ?_ ?_ _) | (with_reducible refine Below.setCell ?_ ?_ _) | (with_reducible refine Below.drew ?_) | (with_reducible refine below_drewN ?_ _) | go_size)); go_size); have hs1 := hq1.size; have hz1w1 : w.heap.size + 1 < w1.heap.size := (by have := hb1.size; (try simp at this); omega); have hz1w0 : w.heap.size < w1.heap.size := (by have := hb1.size; (try simp at this); omega))
    go_wp2_with (fail)
    (go_at_call 15; refine (Q2.out _).mono ?_; rintro e w2 ⟨rfl, hb2⟩; obtain ⟨hc2, hf2⟩ := bcell hb2; have hq2 : Below w.heap.size w w2 := (by refine Below.trans ?_ (hb2.mono ?_); exact (by repeat' (first | (with_reducible exact Below.refl _ _) | (with_reducible assumption) | (with_reducible refine Below.alloc ?_ ?_ _) | (with_reducible refine Below.setCell ?_ ?_ _) | (with_reducible refine Below.drew ?_) | (with_reducible refine below_drewN ?_ _) | go_size)); go_size); have hs2 := hq2.size; have hz2w10 : w1.heap.size < w2.heap.size := (by have := hb2.size; (try simp at this); omega); have hz2w1 : w.heap.size + 1 < w2.heap.size := (by have := hb2.size; (try simp at this); omega); have hz2w0 : w.heap.size < w2.heap.size := (by have := hb2.size; (try simp at this); omega))
    go_wp2_with (fail)
    (go_at_call 16; refine (Q3.out _).mono ?_; rintro e w3 ⟨rfl, hb3⟩; obtain ⟨hc3, hf3⟩ := bcell hb3; have hq3 : Below w.heap.size w w3 := (by refine Below.trans ?_ (hb3.mono ?_); exact (by repeat' (first | (with_reducible exact Below.refl _ _) | (with_reducible assumption) | (with_reducible refine Below.alloc ?_ ?_ _) | (with_reducible refine Below.setCell ?_ ?_ _) | (with_reducible refine Below.drew ?_) | (with_reducible refine below_drewN ?_ _) | go_size)); go_size); have hs3 := hq3.size; have hz3w20 : w2.heap.size < w3.heap.size := (by have := hb3.size; (try simp at this); omega); have hz3w10 : w1.heap.size < w3.heap.size := (by have := hb3.size; (try simp at this); omega); have hz3w1 : w.heap.size + 1 < w3.heap.size := (by have := hb3.size; (try simp at this); omega); have hz3w0 : w.heap.size < w3.heap.size := (by have := hb3.size; (try simp at this); omega))
    go_wp2_with (first | (go_at_call 16; refine (Q4.out _).mono ?_; rintro e w4 ⟨rfl, hb4⟩; obtain ⟨hc4, hf4⟩ := bcell hb4; have hq4 : Below w.heap.size w w4 := (by refine Below.trans ?_ (hb4.mono ?_); exact (by repeat' (first | (with_reducible exact Below.refl _ _) | (with_reducible assumption) | (with_reducible refine Below.alloc ?_ ?_ _) | (with_reducible refine Below.setCell ?_ ?_ _) | (with_reducible refine Below.drew ?_) | (with_reducible refine below_drewN ?_ _) | go_size)); go_size); have hs4 := hq4.size; have hz4w20 : w2.heap.size < w4.heap.size := (by have := hb4.size; (try simp at this); omega); have hz4w10 : w1.heap.size < w4.heap.size := (by have := hb4.size; (try simp at this); omega); have hz4w1 : w.heap.size + 1 < w4.heap.size := (by have := hb4.size; (try simp at this); omega); have hz4w0 : w.heap.size < w4.heap.size := (by have := hb4.size; (try simp at this); omega)) | (go_at_call 32; refine (pw_any _ _ _).mono ?_; rintro e w' ⟨rfl, rfl⟩))
    go_ret
    exact ⟨by simp, (by repeat' (first | (with_reducible exact Below.refl _ _) | (with_reducible assumption) | (with_reducible refine Below.alloc ?_ ?_ _) | (with_reducible refine Below.setCell ?_ ?_ _) | (with_reducible refine Below.drew ?_) | (with_reducible refine below_drewN ?_ _) | go_size))⟩
  cases o3
  · clear g4
    go_enter Try.func17, Try.ntmps17
    go_wp2_with (fail)
    (go_at_call 15; refine (Q1.out _).mono ?_; rintro e w1 ⟨rfl, hb1⟩; obtain ⟨hc1, hf1⟩ := bcell hb1; have hq1 : Below w.heap.size w w1 := (by refine Below.trans ?_ (hb1.mono ?_); exact (by repeat' (first | (with_reducible exact Below.refl _ _) | (with_reducible assumption) | (with_reducible refine Below.alloc ?_ ?_ _) | (with_reducible refine Below.setCell ?_ ?_ _) | (with_reducible refine Below.drew ?_) | (with_reducible refine below_drewN ?_ _) | go_size)); go_size); have hs1 := hq1.size; have hz1w1 : w.heap.size + 1 < w1.heap.size := (by have := hb1.size; (try simp at this); omega); have hz1w0 : w.heap.size < w1.heap.size := (by have := hb1.size; (try simp at this); omega))
    go_wp2_with (fail)
    (go_at_call 15; refine (Q2.out _).mono ?_; rintro e w2 ⟨rfl, hb2⟩; obtain ⟨hc2, hf2⟩ := bcell hb2; have hq2 : Below w.heap.size w w2 := (by refine Below.trans ?_ (hb2.mono ?_); exact (by repeat' (first | (with_reducible exact Below.refl _ _) | (with_reducible assumption) | (with_reducible refine Below.alloc ?_ ?_ _) | (with_reducible refine Below.setCell ?_ ?_ _) | (with_reducible refine Below.drew ?_) | (with_reducible refine below_drewN ?_ _) | go_size)); go_size); have hs2 := hq2.size; have hz2w10 : w1.heap.size < w2.heap.size := (by have := hb2.size; (try simp at this); omega); have hz2w1 : w.heap.size + 1 < w2.heap.size := (by have := hb2.size; (try simp at this); omega); have hz2w0 : w.heap.size < w2.heap.size := (by have := hb2.size; (try simp at this); omega))
    go_wp2_with (fail)
    (go_at_call 16; refine (Q3.out _).mono ?_; rintro e w3 ⟨rfl, hb3⟩; obtain ⟨hc3, hf3⟩ := bcell hb3; have hq3 : Below w.heap.size w w3 := (by refine Below.trans ?_ (hb3.mono ?_); exact (by repeat' (first | (with_reducible exact Below.refl _ _) | (with_reducible assumption) | (with_reducible refine Below.alloc ?_ ?_ _) | (with_reducible refine Below.setCell ?_ ?_ _) | (with_reducible refine Below.drew ?_) | (with_reducible refine below_drewN ?_ _) | go_size)); go_size); have hs3 := hq3.size; have hz3w20 : w2.heap.size < w3.heap.size := (by have := hb3.size; (try simp at this); omega); have hz3w10 : w1.heap.size < w3.heap.size := (by have := hb3.size; (try simp at this); omega); have hz3w1 : w.heap.size + 1 < w3.heap.size := (by have := hb3.size; (try simp at this); omega); have hz3w0 : w.heap.size < w3.heap.size := (by have := hb3.size; (try simp at this); omega))
    go_wp2_with (first | (go_at_call 16; refine (Q4.out _).mono ?_; rintro e w4 ⟨rfl, hb4⟩; obtain ⟨hc4, hf4⟩ := bcell hb4; have hq4 : Below w.heap.size w w4 := (by refine Below.trans ?_ (hb4.mono ?_); exact (by repeat' (first | (with_reducible exact Below.refl _ _) | (with_reducible assumption) | (with_reducible refine Below.alloc ?_ ?_ _) | (with_reducible refine Below.setCell ?_ ?_ _) | (with_reducible refine Below.drew ?_) | (with_reducible refine below_drewN ?_ _) | go_size)); go_size); have hs4 := hq4.size; have hz4w20 : w2.heap.size < w4.heap.size := (by have := hb4.size; (try simp at this); omega); have hz4w10 : w1.heap.size < w4.heap.size := (by have := hb4.size; (try simp at this); omega); have hz4w1 : w.heap.size + 1 < w4.heap.size := (by have := hb4.size; (try simp at this); omega); have hz4w0 : w.heap.size < w4.heap.size := (by have := hb4.size; (try simp at this); omega)) | (go_at_call 32; refine (pw_any _ _ _).mono ?_; rintro e w' ⟨rfl, rfl⟩))
    go_ret
    exact ⟨by simp, (by repeat' (first | (with_reducible exact Below.refl _ _) | (with_reducible assumption) | (with_reducible refine Below.alloc ?_ ?_ _) | (with_reducible refine Below.setCell ?_ ?_ _) | (with_reducible refine Below.drew ?_) | (with_reducible refine below_drewN ?_ _) | go_size))⟩
  cases o4
  all_goals
    go_enter Try.func17, Try.ntmps17
    go_wp2_with (fail)
    (go_at_call 15; refine (Q1.out _).mono ?_; rintro e w1 ⟨rfl, hb1⟩; obtain ⟨hc1, hf1⟩ := bcell hb1; have hq1 : Below w.heap.size w w1 := (by refine Below.trans ?_ (hb1.mono ?_); exact (by repeat' (first | (with_reducible exact Below.refl _ _) | (with_reducible assumption) | (with_reducible refine Below.alloc ?_ ?_ _) | (with_reducible refine Below.setCell ?_ ?_ _) | (with_reducible refine Below.drew ?_) | (with_reducible refine below_drewN ?_ _) | go_size)); go_size); have hs1 := hq1.size; have hz1w1 : w.heap.size + 1 < w1.heap.size := (by have := hb1.size; (try simp at this); omega); have hz1w0 : w.heap.size < w1.heap.size := (by have := hb1.size; (try simp at this); omega))
    go_wp2_with (fail)
    (go_at_call 15; refine (Q2.out _).mono ?_; rintro e w2 ⟨rfl, hb2⟩; obtain ⟨hc2, hf2⟩ := bcell hb2; have hq2 : Below w.heap.size w w2 := (by refine Below.trans ?_ (hb2.mono ?_); exact (by repeat' (first | (with_reducible exact Below.refl _ _) | (with_reducible assumption) | (with_reducible refine Below.alloc ?_ ?_ _) | (with_reducible refine Below.setCell ?_ ?_ _) | (with_reducible refine Below.drew ?_) | (with_reducible refine below_drewN ?_ _) | go_size)); go_size); have hs2 := hq2.size; have hz2w10 : w1.heap.size < w2.heap.size := (by have := hb2.size; (try simp at this); omega); have hz2w1 : w.heap.size + 1 < w2.heap.size := (by have := hb2.size; (try simp at this); omega); have hz2w0 : w.heap.size < w2.heap.size := (by have := hb2.size; (try simp at this); omega))
    go_wp2_with (fail)
    (go_at_call 16; refine (Q3.out _).mono ?_; rintro e w3 ⟨rfl, hb3⟩; obtain ⟨hc3, hf3⟩ := bcell hb3; have hq3 : Below w.heap.size w w3 := (by refine Below.trans ?_ (hb3.mono ?_); exact (by repeat' (first | (with_reducible exact Below.refl _ _) | (with_reducible assumption) | (with_reducible refine Below.alloc ?_ ?_ _) | (with_reducible refine Below.setCell ?_ ?_ _) | (with_reducible refine Below.drew ?_) | (with_reducible refine below_drewN ?_ _) | go_size)); go_size); have hs3 := hq3.size; have hz3w20 : w2.heap.size < w3.heap.size := (by have := hb3.size; (try simp at this); omega); have hz3w10 : w1.heap.size < w3.heap.size := (by have := hb3.size; (try simp at this); omega); have hz3w1 : w.heap.size + 1 < w3.heap.size := (by have := hb3.size; (try simp at this); omega); have hz3w0 : w.heap.size < w3.heap.size := (by have := hb3.size; (try simp at this); omega))
    go_wp2_with (first | (go_at_call 16; refine (Q4.out _).mono ?_; rintro e w4 ⟨rfl, hb4⟩; obtain ⟨hc4, hf4⟩ := bcell hb4; have hq4 : Below w.heap.size w w4 := (by refine Below.trans ?_ (hb4.mono ?_); exact (by repeat' (first | (with_reducible exact Below.refl _ _) | (with_reducible assumption) | (with_reducible refine Below.alloc ?_ ?_ _) | (with_reducible refine Below.setCell ?_ ?_ _) | (with_reducible refine Below.drew ?_) | (with_reducible refine below_drewN ?_ _) | go_size)); go_size); have hs4 := hq4.size; have hz4w20 : w2.heap.size < w4.heap.size := (by have := hb4.size; (try simp at this); omega); have hz4w10 : w1.heap.size < w4.heap.size := (by have := hb4.size; (try simp at this); omega); have hz4w1 : w.heap.size + 1 < w4.heap.size := (by have := hb4.size; (try simp at this); omega); have hz4w0 : w.heap.size < w4.heap.size := (by have := hb4.size; (try simp at this); omega)) | (go_at_call 32; refine (pw_any _ _ _).mono ?_; rintro e w' ⟨rfl, rfl⟩))
    go_ret
    exact ⟨by simp, (by repeat' (first | (with_reducible exact Below.refl _ _) | (with_reducible assumption) | (with_reducible refine Below.alloc ?_ ?_ _) | (with_reducible refine Below.setCell ?_ ?_ _) | (with_reducible refine Below.drew ?_) | (with_reducible refine below_drewN ?_ _) | go_size))⟩
end Go.Proofs.Ytinckicchakifaa
