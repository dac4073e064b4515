/-
  Contracts of field.Lay on three parts, and of capab.meta.
-/
import Derived.Test.YtinckicchakifaaC1
import Derived.Deep.RegionHeld3
set_option linter.unusedSimpArgs false
set_option linter.unusedVariables false
namespace Go.Proofs.Ytinckicchakifaa
open Go.RowKit Go.Sort

theorem lay1_any (at' n v x y : Int) (b : Nat) (q0 : ∀ w, Calls Try.prog 48 #[.int .u64 x, .int .i64 at', .int .i64 n, .int .u64 v] w fun r w' => r = .returned (.int .u64 y) ∧ ∃ k, w' = w.drewN k) (w : World) (hb : b < w.heap.size)
    (hc : w.cell? ⟨b, 0, none⟩ = some (.int .u64 x)) (hf : w.frozen? ⟨b, 0, none⟩ = false) :
    Calls Try.prog 49 #[.agg #[.int .i64 at', .int .i64 n, .int .u64 v], .pointer (some ⟨b, 0, none⟩)] w fun r w' =>
      r = .returned (.tuple #[]) ∧ ∃ k, w' = (((w.alloc (Obj.cells #[.int .i64 at', .int .i64 n, .int .u64 v] 87)).drewN k).setCell ⟨b, 0, none⟩ (.int .u64 y)) := by
  have q := Lib.hid q0
  clear q0
  go_enter Try.func49, Try.ntmps49
  go_wp2_with (go_at_call 48; refine (q.out _).mono ?_; rintro e w' ⟨rfl, k1, rfl⟩)
  go_end0
  exact ⟨rfl, _, rfl⟩

set_option maxHeartbeats 1000000 in
theorem lay3 (W1 p y M1 M2 : Nat) (B : World)
    (q2 : ∀ w, Calls Try.prog 48 #[.int .u64 0, .int .i64 0, .int .i64 32, .int .u64 W1] w fun r w' => r = .returned (.int .u64 W1) ∧ ∃ k, w' = w.drewN k)
    (q3 : ∀ w, Calls Try.prog 48 #[.int .u64 W1, .int .i64 32, .int .i64 9, .int .u64 p] w fun r w' => r = .returned (.int .u64 M1) ∧ ∃ k, w' = w.drewN k)
    (q4 : ∀ w, Calls Try.prog 48 #[.int .u64 M1, .int .i64 48, .int .i64 12, .int .u64 y] w fun r w' => r = .returned (.int .u64 M2) ∧ ∃ k, w' = w.drewN k) (w : World) (hb : B.heap.size < w.heap.size)
    (c0 : w.cell? ⟨B.heap.size, 0, none⟩ = some (.int .i64 0)) (c1 : w.cell? ⟨B.heap.size, 1, none⟩ = some (.int .i64 32)) (c2 : w.cell? ⟨B.heap.size, 2, none⟩ = some (.int .u64 W1))
    (c3 : w.cell? ⟨B.heap.size, 3, none⟩ = some (.int .i64 32)) (c4 : w.cell? ⟨B.heap.size, 4, none⟩ = some (.int .i64 9)) (c5 : w.cell? ⟨B.heap.size, 5, none⟩ = some (.int .u64 p))
    (c6 : w.cell? ⟨B.heap.size, 6, none⟩ = some (.int .i64 48)) (c7 : w.cell? ⟨B.heap.size, 7, none⟩ = some (.int .i64 12)) (c8 : w.cell? ⟨B.heap.size, 8, none⟩ = some (.int .u64 y)) :
    Calls Try.prog 39 #[.slice (some ⟨B.heap.size, 0, none⟩) 3 3] w fun r w' => r = .returned (.int .u64 M2) ∧ Below w.heap.size w w' := by
  have Q2 := Lib.hid q2; clear q2
  have Q3 := Lib.hid q3; clear q3
  have Q4 := Lib.hid q4; clear q4
  have ne1 : ¬ (B.heap.size = w.heap.size) := by omega
  have ne3 : ¬ (B.heap.size = w.heap.size + 1) := by omega
  have hb1 : B.heap.size < w.heap.size + 1 := by omega
  have hb2 : B.heap.size < w.heap.size + 1 + 1 := by omega
  have hb3 : B.heap.size < w.heap.size + 2 := by omega
  have ne2 : ¬ (w.heap.size = B.heap.size) := by omega
  go_enter Try.func39, Try.ntmps39
  go_wp2
  refine wp_loop_rounds 4 ?_
  rw [rounds_succ]
  go_wp2_with (fail)
  go_at_call 49
  refine (lay1_any 0 32 W1 0 W1 _ Q2.out _ ?_ ?_ ?_).mono ?_
  · go_size
  · simp [go_sem, *]
  · simp [go_sem, *]
  rintro e w' ⟨rfl, k1, rfl⟩
  go_wp2
  rw [rounds_succ]
  ((first | refine wp_at (fun W11 hW11 => ?_) | refine calls_at (fun W11 hW11 => ?_)); have hB11 : Below w.heap.size w W11 := (by rw [← hW11]; exact (by repeat' (first | (with_reducible exact Below.refl _ _) | (with_reducible assumption) | (with_reducible refine Below.alloc ?_ ?_ _) | (with_reducible refine Below.setCell ?_ ?_ _) | (with_reducible refine Below.drew ?_) | (with_reducible refine below_drewN ?_ _) | go_size))); have hz11w0 : w.heap.size < W11.heap.size := (by rw [← hW11]; first | go_size | (simp; omega)); have hz11B0 : B.heap.size < W11.heap.size := (by rw [← hW11]; first | go_size | (simp; omega)); have c11_0 : W11.cell? ⟨w.heap.size, 0, none⟩ = some (.int .u64 W1) := (by rw [← hW11]; clear hW11; first | (simp [go_sem, *]; done) | (rw [World.cell?_setCell_same' _ _ _ (by simp [go_sem, *])])); have f11_0 : W11.frozen? ⟨w.heap.size, 0, none⟩ = false := (by rw [← hW11]; clear hW11; simp [go_sem, *]); have c11_1 : W11.cell? ⟨B.heap.size, 3, none⟩ = some (.int .i64 32) := (by rw [← hW11]; clear hW11; first | (simp [go_sem, *]; done) | (rw [World.cell?_setCell_same' _ _ _ (by simp [go_sem, *])])); have c11_2 : W11.cell? ⟨B.heap.size, 4, none⟩ = some (.int .i64 9) := (by rw [← hW11]; clear hW11; first | (simp [go_sem, *]; done) | (rw [World.cell?_setCell_same' _ _ _ (by simp [go_sem, *])])); have c11_3 : W11.cell? ⟨B.heap.size, 5, none⟩ = some (.int .u64 p) := (by rw [← hW11]; clear hW11; first | (simp [go_sem, *]; done) | (rw [World.cell?_setCell_same' _ _ _ (by simp [go_sem, *])])); have c11_4 : W11.cell? ⟨B.heap.size, 6, none⟩ = some (.int .i64 48) := (by rw [← hW11]; clear hW11; first | (simp [go_sem, *]; done) | (rw [World.cell?_setCell_same' _ _ _ (by simp [go_sem, *])])); have c11_5 : W11.cell? ⟨B.heap.size, 7, none⟩ = some (.int .i64 12) := (by rw [← hW11]; clear hW11; first | (simp [go_sem, *]; done) | (rw [World.cell?_setCell_same' _ _ _ (by simp [go_sem, *])])); have c11_6 : W11.cell? ⟨B.heap.size, 8, none⟩ = some (.int .u64 y) := (by rw [← hW11]; clear hW11; first | (simp [go_sem, *]; done) | (rw [World.cell?_setCell_same' _ _ _ (by simp [go_sem, *])])); clear hW11)
  have hb411 : B.heap.size < W11.heap.size + 1 := by omega
  have hb511 : B.heap.size < W11.heap.size + 1 + 1 := by omega
  go_wp2_with (fail)
  go_at_call 49
  refine (lay1_any 32 9 p W1 M1 _ Q3.out _ ?_ ?_ ?_).mono ?_
  · go_size
  · simp [go_sem, *]
  · simp [go_sem, *]
  rintro e w' ⟨rfl, k2, rfl⟩
  go_wp2
  rw [rounds_succ]
  ((first | refine wp_at (fun W12 hW12 => ?_) | refine calls_at (fun W12 hW12 => ?_)); have hB12 : Below w.heap.size w W12 := (by rw [← hW12]; exact (by repeat' (first | (with_reducible exact Below.refl _ _) | (with_reducible assumption) | (with_reducible refine Below.alloc ?_ ?_ _) | (with_reducible refine Below.setCell ?_ ?_ _) | (with_reducible refine Below.drew ?_) | (with_reducible refine below_drewN ?_ _) | go_size))); have hz12w0 : w.heap.size < W12.heap.size := (by rw [← hW12]; first | go_size | (simp; omega)); have hz12B0 : B.heap.size < W12.heap.size := (by rw [← hW12]; first | go_size | (simp; omega)); have c12_0 : W12.cell? ⟨w.heap.size, 0, none⟩ = some (.int .u64 M1) := (by rw [← hW12]; clear hW12; first | (simp [go_sem, *]; done) | (rw [World.cell?_setCell_same' _ _ _ (by simp [go_sem, *])])); have f12_0 : W12.frozen? ⟨w.heap.size, 0, none⟩ = false := (by rw [← hW12]; clear hW12; simp [go_sem, *]); have c12_1 : W12.cell? ⟨B.heap.size, 6, none⟩ = some (.int .i64 48) := (by rw [← hW12]; clear hW12; first | (simp [go_sem, *]; done) | (rw [World.cell?_setCell_same' _ _ _ (by simp [go_sem, *])])); have c12_2 : W12.cell? ⟨B.heap.size, 7, none⟩ = some (.int .i64 12) := (by rw [← hW12]; clear hW12; first | (simp [go_sem, *]; done) | (rw [World.cell?_setCell_same' _ _ _ (by simp [go_sem, *])])); have c12_3 : W12.cell? ⟨B.heap.size, 8, none⟩ = some (.int .u64 y) := (by rw [← hW12]; clear hW12; first | (simp [go_sem, *]; done) | (rw [World.cell?_setCell_same' _ _ _ (by simp [go_sem, *])])); clear hW12)
  have hb412 : B.heap.size < W12.heap.size + 1 := by omega
  have hb512 : B.heap.size < W12.heap.size + 1 + 1 := by omega
  go_wp2_with (fail)
  go_at_call 49
  refine (lay1_any 48 12 y M1 M2 _ Q4.out _ ?_ ?_ ?_).mono ?_
  · go_size
  · simp [go_sem, *]
  · simp [go_sem, *]
  rintro e w' ⟨rfl, k3, rfl⟩
  go_wp2
  rw [rounds_succ]
  ((first | refine wp_at (fun W13 hW13 => ?_) | refine calls_at (fun W13 hW13 => ?_)); have hB13 : Below w.heap.size w W13 := (by rw [← hW13]; exact (by repeat' (first | (with_reducible exact Below.refl _ _) | (with_reducible assumption) | (with_reducible refine Below.alloc ?_ ?_ _) | (with_reducible refine Below.setCell ?_ ?_ _) | (with_reducible refine Below.drew ?_) | (with_reducible refine below_drewN ?_ _) | go_size))); have hz13w0 : w.heap.size < W13.heap.size := (by rw [← hW13]; first | go_size | (simp; omega)); have c13_0 : W13.cell? ⟨w.heap.size, 0, none⟩ = some (.int .u64 M2) := (by rw [← hW13]; clear hW13; first | (simp [go_sem, *]; done) | (rw [World.cell?_setCell_same' _ _ _ (by simp [go_sem, *])])); have f13_0 : W13.frozen? ⟨w.heap.size, 0, none⟩ = false := (by rw [← hW13]; clear hW13; simp [go_sem, *]); clear hW13)
  go_wp2
  go_ret
  exact ⟨rfl, (by repeat' (first | (with_reducible exact Below.refl _ _) | (with_reducible assumption) | (with_reducible refine Below.alloc ?_ ?_ _) | (with_reducible refine Below.setCell ?_ ?_ _) | (with_reducible refine Below.drew ?_) | (with_reducible refine below_drewN ?_ _) | go_size))⟩

theorem lay_put0 (v : Nat) (hv : v < 4294967296) (w : World) : Calls Try.prog 48 #[.int .u64 0, .int .i64 0, .int .i64 32, .int .u64 v] w fun r w' => r = .returned (.int .u64 v) ∧ ∃ k, w' = w.drewN k := by
  have h := put_any 0 0 32 v (by decide) (by decide) (by decide) (by decide) (by omega) w
  have e : 0 + v % 2 ^ 32 * 2 ^ 0 = v := by omega
  rw [e] at h
  exact h
theorem lay_put1 (v p : Nat) (hv : v < 4294967296) (hp : p < 18446744073709551616) (w : World) : Calls Try.prog 48 #[.int .u64 v, .int .i64 32, .int .i64 9, .int .u64 p] w fun r w' => r = .returned (.int .u64 (v + p % 512 * 4294967296 : Nat)) ∧ ∃ k, w' = w.drewN k :=
  put_any v 32 9 p (by omega) (by decide) (by decide) (by decide) hp w
theorem lay_put2 (v y : Nat) (hv : v < 281474976710656) (hp : y < 18446744073709551616) (w : World) : Calls Try.prog 48 #[.int .u64 v, .int .i64 48, .int .i64 12, .int .u64 y] w fun r w' => r = .returned (.int .u64 (v + y % 4096 * 281474976710656 : Nat)) ∧ ∃ k, w' = w.drewN k :=
  put_any v 48 12 y (by omega) (by decide) (by decide) (by decide) hp w

theorem lay3_new (W1 p y M1 M2 : Nat)
    (q2 : ∀ w, Calls Try.prog 48 #[.int .u64 0, .int .i64 0, .int .i64 32, .int .u64 W1] w fun r w' => r = .returned (.int .u64 W1) ∧ ∃ k, w' = w.drewN k)
    (q3 : ∀ w, Calls Try.prog 48 #[.int .u64 W1, .int .i64 32, .int .i64 9, .int .u64 p] w fun r w' => r = .returned (.int .u64 M1) ∧ ∃ k, w' = w.drewN k)
    (q4 : ∀ w, Calls Try.prog 48 #[.int .u64 M1, .int .i64 48, .int .i64 12, .int .u64 y] w fun r w' => r = .returned (.int .u64 M2) ∧ ∃ k, w' = w.drewN k) (w : World) :
    Calls Try.prog 39 #[.slice (some ⟨w.heap.size, 0, none⟩) 3 3] (w.alloc (Obj.cells #[.int .i64 0, .int .i64 32, .int .u64 W1, .int .i64 32, .int .i64 9, .int .u64 p, .int .i64 48, .int .i64 12, .int .u64 y] 87))
      fun r w' => r = .returned (.int .u64 M2) ∧ Below (w.alloc (Obj.cells #[.int .i64 0, .int .i64 32, .int .u64 W1, .int .i64 32, .int .i64 9, .int .u64 p, .int .i64 48, .int .i64 12, .int .u64 y] 87)).heap.size (w.alloc (Obj.cells #[.int .i64 0, .int .i64 32, .int .u64 W1, .int .i64 32, .int .i64 9, .int .u64 p, .int .i64 48, .int .i64 12, .int .u64 y] 87)) w' := by
  refine lay3 W1 p y M1 M2 w q2 q3 q4 _ (by go_size) ?_ ?_ ?_ ?_ ?_ ?_ ?_ ?_ ?_ <;> simp [go_sem]

set_option maxHeartbeats 1000000 in
theorem meta_any (fb ft fe x1 x2 p y W1 M1 M2 : Nat)
    (q1 : ∀ w, Calls Try.prog 38 #[.agg #[.int .u64 fb, .int .u64 ft, .int .u64 fe]] w fun r w' => r = .returned (.int .u64 W1) ∧ Below w.heap.size w w')
    (q2 : ∀ w, Calls Try.prog 48 #[.int .u64 0, .int .i64 0, .int .i64 32, .int .u64 W1] w fun r w' => r = .returned (.int .u64 W1) ∧ ∃ k, w' = w.drewN k)
    (q3 : ∀ w, Calls Try.prog 48 #[.int .u64 W1, .int .i64 32, .int .i64 9, .int .u64 p] w fun r w' => r = .returned (.int .u64 M1) ∧ ∃ k, w' = w.drewN k)
    (q4 : ∀ w, Calls Try.prog 48 #[.int .u64 M1, .int .i64 48, .int .i64 12, .int .u64 y] w fun r w' => r = .returned (.int .u64 M2) ∧ ∃ k, w' = w.drewN k) (w : World) :
    Calls Try.prog 27 #[.agg #[.int .u64 fb, .int .u64 ft, .int .u64 fe], .agg #[.int .u64 x1, .int .u64 x2, .int .u64 p, .int .u64 y]] w fun r w' =>
      r = .returned (.int .u64 M2) ∧ Below w.heap.size w w' := by
  have Q1 := Lib.hid q1; clear q1
  have Q2 := Lib.hid q2; clear q2
  have Q3 := Lib.hid q3; clear q3
  have Q4 := Lib.hid q4; clear q4
  go_enter Try.func27, Try.ntmps27
  go_wp2
  ((first | refine wp_at (fun W1 hW1 => ?_) | refine calls_at (fun W1 hW1 => ?_)); have hB1 : Below w.heap.size w W1 := (by rw [← hW1]; exact (by repeat' (first | (with_reducible exact Below.refl _ _) | (with_reducible assumption) | (with_reducible refine Below.alloc ?_ ?_ _) | (with_reducible refine Below.setCell ?_ ?_ _) | (with_reducible refine Below.drew ?_) | (with_reducible refine below_drewN ?_ _) | go_size))); have hz1w1 : w.heap.size + 1 < W1.heap.size := (by rw [← hW1]; first | go_size | (simp; omega)); have hz1w0 : w.heap.size < W1.heap.size := (by rw [← hW1]; first | go_size | (simp; omega)); have c1_0 : W1.cell? ⟨w.heap.size, 0, none⟩ = some (.int .u64 fb) := (by rw [← hW1]; clear hW1; first | (simp [go_sem]; done) | (rw [World.cell?_setCell_same' _ _ _ (by simp [go_sem, *])])); have f1_0 : W1.frozen? ⟨w.heap.size, 0, none⟩ = false := (by rw [← hW1]; clear hW1; simp [go_sem]); have c1_1 : W1.cell? ⟨w.heap.size, 1, none⟩ = some (.int .u64 ft) := (by rw [← hW1]; clear hW1; first | (simp [go_sem]; done) | (rw [World.cell?_setCell_same' _ _ _ (by simp [go_sem, *])])); have f1_1 : W1.frozen? ⟨w.heap.size, 1, none⟩ = false := (by rw [← hW1]; clear hW1; simp [go_sem]); have c1_2 : W1.cell? ⟨w.heap.size, 2, none⟩ = some (.int .u64 fe) := (by rw [← hW1]; clear hW1; first | (simp [go_sem]; done) | (rw [World.cell?_setCell_same' _ _ _ (by simp [go_sem, *])])); have f1_2 : W1.frozen? ⟨w.heap.size, 2, none⟩ = false := (by rw [← hW1]; clear hW1; simp [go_sem]); have c1_3 : W1.cell? ⟨w.heap.size + 1, 2, none⟩ = some (.int .u64 p) := (by rw [← hW1]; clear hW1; first | (simp [go_sem]; done) | (rw [World.cell?_setCell_same' _ _ _ (by simp [go_sem, *])])); have f1_3 : W1.frozen? ⟨w.heap.size + 1, 2, none⟩ = false := (by rw [← hW1]; clear hW1; simp [go_sem]); have c1_4 : W1.cell? ⟨w.heap.size + 1, 3, none⟩ = some (.int .u64 y) := (by rw [← hW1]; clear hW1; first | (simp [go_sem]; done) | (rw [World.cell?_setCell_same' _ _ _ (by simp [go_sem, *])])); have f1_4 : W1.frozen? ⟨w.heap.size + 1, 3, none⟩ = false := (by rw [← hW1]; clear hW1; simp [go_sem]); clear hW1)
  go_region_held3 (fun W => Below W1.heap.size W1 W ∧ W.cell? ⟨w.heap.size, 0, none⟩ = some (.int .u64 fb) ∧ W.cell? ⟨w.heap.size, 1, none⟩ = some (.int .u64 ft) ∧ W.cell? ⟨w.heap.size, 2, none⟩ = some (.int .u64 fe) ∧ W.cell? ⟨w.heap.size + 1, 2, none⟩ = some (.int .u64 p) ∧ W.cell? ⟨w.heap.size + 1, 3, none⟩ = some (.int .u64 y))
    ((first | (refine held_and ?_ (fun hk => ?_); rotate_left; (refine ⟨?_, ?_, ?_, ?_, ?_⟩ <;> exact (hk.cell (by first | assumption | (simp; omega))).trans (by assumption)); with_reducible assumption) | (rename Below W1.heap.size W1 _ ∧ _ => hob; have s0 := hob.1; have sz0 := s0.size; refine held_and ?_ (fun hk => ?_); rotate_left; (refine ⟨?_, ?_, ?_, ?_, ?_⟩ <;> exact (hk.cell (by first | assumption | (simp; omega))).trans (by assumption)); (repeat' (first | (with_reducible exact Below.refl _ _) | (with_reducible assumption) | (with_reducible refine Below.alloc ?_ ?_ _) | (with_reducible refine Below.setCell ?_ ?_ _) | (with_reducible refine Below.drew ?_) | (with_reducible refine below_drewN ?_ _) | go_size)); done) | (refine held_and ?_ (fun hk => ?_); rotate_left; (refine ⟨?_, ?_, ?_, ?_, ?_⟩ <;> exact (hk.cell (by first | assumption | (simp; omega))).trans (by assumption)); (repeat' (first | (with_reducible exact Below.refl _ _) | (with_reducible assumption) | (with_reducible refine Below.alloc ?_ ?_ _) | (with_reducible refine Below.setCell ?_ ?_ _) | (with_reducible refine Below.drew ?_) | (with_reducible refine below_drewN ?_ _) | go_size)); done)))
    (first
      | (go_at_call 38; refine (Q1.out _).mono ?_; rintro e w2 ⟨rfl, hb2⟩; obtain ⟨hc2, hf2⟩ := bcell hb2; have hn2 := hb2.size; (try simp at hn2); (try have ho2 := Nat.lt_of_succ_le hn2); rename Below W1.heap.size W1 _ ∧ _ => hob; have s0 := hob.1; have sz0 := s0.size; have hq2 := Below.trans s0 (hb2.mono s0.size); have sz2 := hq2.size; clear s0 sz0)
      | (go_at_call 39; refine (lay3_new _ _ _ _ _ Q2.out Q3.out Q4.out _).mono ?_; rintro e w3 ⟨rfl, hb3⟩; obtain ⟨hc3, hf3⟩ := bcell hb3; have hn3 := hb3.size; (try simp at hn3); (try have ho3 := Nat.lt_of_succ_le hn3); rename Below W1.heap.size W1 _ ∧ _ => hob; have s0 := hob.1; have sz0 := s0.size; have hq3 := Below.trans s0 (hb3.mono s0.size); have sz3 := hq3.size; clear s0 sz0))
  go_wp2
  go_ret
  exact ⟨rfl, hB1.trans (hq3.mono hB1.size)⟩
theorem wd_lt32 (b t e : Nat) : wd b t e < 4294967296 := by rw [wd_def]; omega
theorem meta_all (fb ft fe x1 x2 p y : Nat) (h1 : fb < 18446744073709551616) (h2 : ft < 18446744073709551616) (h3 : fe < 18446744073709551616) (hp : p < 18446744073709551616) (hy : y < 18446744073709551616) (w : World) :
    Calls Try.prog 27 #[.agg #[.int .u64 fb, .int .u64 ft, .int .u64 fe], .agg #[.int .u64 x1, .int .u64 x2, .int .u64 p, .int .u64 y]] w fun r w' =>
      r = .returned (.int .u64 (mt fb ft fe p y : Nat)) ∧ Below w.heap.size w w' := by
  have hw := wd_lt32 fb ft fe
  rw [mt_def]
  exact meta_any fb ft fe x1 x2 p y (wd fb ft fe) _ _ (word_any fb ft fe h1 h2 h3) (lay_put0 _ hw) (lay_put1 _ p hw hp) (lay_put2 _ y (by omega) hy) w
end Go.Proofs.Ytinckicchakifaa
