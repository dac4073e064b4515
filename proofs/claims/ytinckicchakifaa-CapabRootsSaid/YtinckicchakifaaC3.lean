/-
  Contracts of capab.Look, of any capability.
-/
import Derived.Test.YtinckicchakifaaC1
import Derived.Deep.RegionHeld3
set_option linter.unusedSimpArgs false
set_option linter.unusedVariables false
namespace Go.Proofs.Ytinckicchakifaa
open Go.RowKit Go.Sort

theorem get_pm (m : Nat) (hm : m < 18446744073709551616) (w : World) : Calls Try.prog 31 #[.int .u64 m, .int .i64 32, .int .i64 9] w fun r w' => r = .returned (.int .u64 (pm m : Nat)) ∧ ∃ k, w' = w.drewN k := by
  have h := get_any m 32 9 hm (by decide) (by decide) (by decide) w
  rw [pm_def]; exact h
theorem get_ty (m : Nat) (hm : m < 18446744073709551616) (w : World) : Calls Try.prog 31 #[.int .u64 m, .int .i64 48, .int .i64 12] w fun r w' => r = .returned (.int .u64 (ty m : Nat)) ∧ ∃ k, w' = w.drewN k := by
  have h := get_any m 48 12 hm (by decide) (by decide) (by decide) w
  rw [ty_def]; exact h
theorem look_decode (m a : Nat) (w : World) :
    Calls Try.prog 26 #[.agg #[.int .u64 (oB m : Nat), .int .u64 (oT m : Nat), .int .u64 (oE m : Nat)], .int .u64 a] w fun r w' =>
      r = .returned (.tuple #[.agg #[.int .u64 (lB m a : Nat), .int .u64 (lT m a : Nat)], .bool (lOk m a)]) ∧ Below w.heap.size w w' := by
  have h1 := oB_lt m; have h2 := oT_lt m; have h3 := oE_lt m
  have h := decode_any (oB m) (oT m) (oE m) a (by omega) (by omega) (by omega) w
  rw [lB_def, lT_def, lOk_def]; exact h

set_option maxHeartbeats 1000000 in
theorem look_any (tg : Bool) (m a : Nat) (hm : m < 18446744073709551616) (w : World) :
    Calls Try.prog 15 #[.agg #[.bool tg, .int .u64 m, .int .u64 a]] w fun r w' =>
      r = .returned (.tuple #[.agg #[.int .u64 (lB m a : Nat), .int .u64 (lT m a : Nat), .int .u64 (pm m : Nat), .int .u64 (ty m : Nat)], .bool (lOk m a)]) ∧ Below w.heap.size w w' := by
  have q1 := Lib.hid (of_any m hm)
  have q2 := Lib.hid (look_decode m a)
  have q3 := Lib.hid (get_pm m hm)
  have q4 := Lib.hid (get_ty m hm)
  clear hm
  go_enter Try.func15, Try.ntmps15
  go_wp2
  ((first | refine wp_at (fun W1 hW1 => ?_) | refine calls_at (fun W1 hW1 => ?_)); have hB1 : Below w.heap.size w W1 := (by rw [← hW1]; exact (by repeat' (first | (with_reducible exact Below.refl _ _) | (with_reducible assumption) | (with_reducible refine Below.alloc ?_ ?_ _) | (with_reducible refine Below.setCell ?_ ?_ _) | (with_reducible refine Below.drew ?_) | (with_reducible refine below_drewN ?_ _) | go_size))); have hz1w1 : w.heap.size + 1 < W1.heap.size := (by rw [← hW1]; first | go_size | (simp; omega)); have hz1w0 : w.heap.size < W1.heap.size := (by rw [← hW1]; first | go_size | (simp; omega)); have c1_0 : W1.cell? ⟨w.heap.size, 1, none⟩ = some (.int .u64 m) := (by rw [← hW1]; clear hW1; simp [go_sem]); have f1_0 : W1.frozen? ⟨w.heap.size, 1, none⟩ = false := (by rw [← hW1]; clear hW1; simp [go_sem]); have c1_1 : W1.cell? ⟨w.heap.size, 2, none⟩ = some (.int .u64 a) := (by rw [← hW1]; clear hW1; simp [go_sem]); have f1_1 : W1.frozen? ⟨w.heap.size, 2, none⟩ = false := (by rw [← hW1]; clear hW1; simp [go_sem]); have c1_2 : W1.cell? ⟨w.heap.size + 1, 0, none⟩ = some (.int .u64 0) := (by rw [← hW1]; clear hW1; simp [go_sem]); have f1_2 : W1.frozen? ⟨w.heap.size + 1, 0, none⟩ = false := (by rw [← hW1]; clear hW1; simp [go_sem]); have c1_3 : W1.cell? ⟨w.heap.size + 1, 1, none⟩ = some (.int .u64 0) := (by rw [← hW1]; clear hW1; simp [go_sem]); have f1_3 : W1.frozen? ⟨w.heap.size + 1, 1, none⟩ = false := (by rw [← hW1]; clear hW1; simp [go_sem]); have c1_4 : W1.cell? ⟨w.heap.size + 1, 2, none⟩ = some (.int .u64 0) := (by rw [← hW1]; clear hW1; simp [go_sem]); have f1_4 : W1.frozen? ⟨w.heap.size + 1, 2, none⟩ = false := (by rw [← hW1]; clear hW1; simp [go_sem]); have c1_5 : W1.cell? ⟨w.heap.size + 1, 3, none⟩ = some (.int .u64 0) := (by rw [← hW1]; clear hW1; simp [go_sem]); have f1_5 : W1.frozen? ⟨w.heap.size + 1, 3, none⟩ = false := (by rw [← hW1]; clear hW1; simp [go_sem]); clear hW1)
  go_region_held3 (fun W => Below W1.heap.size W1 W ∧ W.cell? ⟨w.heap.size, 1, none⟩ = some (.int .u64 m) ∧ W.cell? ⟨w.heap.size, 2, none⟩ = some (.int .u64 a))
    ((first | (refine held_and ?_ (fun hk => ?_); rotate_left; (refine ⟨?_, ?_⟩ <;> exact (hk.cell (by first | assumption | (simp; omega))).trans (by assumption)); with_reducible assumption) | (rename Below W1.heap.size W1 _ ∧ _ => hob; have s0 := hob.1; have sz0 := s0.size; refine held_and ?_ (fun hk => ?_); rotate_left; (refine ⟨?_, ?_⟩ <;> exact (hk.cell (by first | assumption | (simp; omega))).trans (by assumption)); (repeat' (first | (with_reducible exact Below.refl _ _) | (with_reducible assumption) | (with_reducible refine Below.alloc ?_ ?_ _) | (with_reducible refine Below.setCell ?_ ?_ _) | (with_reducible refine Below.drew ?_) | (with_reducible refine below_drewN ?_ _) | go_size)); done) | (refine held_and ?_ (fun hk => ?_); rotate_left; (refine ⟨?_, ?_⟩ <;> exact (hk.cell (by first | assumption | (simp; omega))).trans (by assumption)); (repeat' (first | (with_reducible exact Below.refl _ _) | (with_reducible assumption) | (with_reducible refine Below.alloc ?_ ?_ _) | (with_reducible refine Below.setCell ?_ ?_ _) | (with_reducible refine Below.drew ?_) | (with_reducible refine below_drewN ?_ _) | go_size)); done)))
    (first
      | (go_at_call 30; refine (q1.out _).mono ?_; rintro e w2 ⟨rfl, hb2⟩; obtain ⟨hc2, hf2⟩ := bcell hb2; have hn2 := hb2.size; (try simp at hn2); (try have ho2 := Nat.lt_of_succ_le hn2); rename Below W1.heap.size W1 _ ∧ _ => hob; have s0 := hob.1; have sz0 := s0.size; have hq2 := Below.trans s0 (hb2.mono s0.size); have sz2 := hq2.size; (try have m2_0 : w2.cell? ⟨W1.heap.size, 0, none⟩ = some (.int .u64 0) := (by simp [go_sem, *]; done)); (try have n2_0 : w2.frozen? ⟨W1.heap.size, 0, none⟩ = false := (by simp [go_sem, *]; done)); (try have m2_1 : w2.cell? ⟨W1.heap.size, 1, none⟩ = some (.int .u64 0) := (by simp [go_sem, *]; done)); (try have n2_1 : w2.frozen? ⟨W1.heap.size, 1, none⟩ = false := (by simp [go_sem, *]; done)); clear s0 sz0)
      | (go_at_call 26; refine (q2.out _).mono ?_; rintro e w3 ⟨rfl, hb3⟩; obtain ⟨hc3, hf3⟩ := bcell hb3; have hn3 := hb3.size; (try simp at hn3); (try have ho3 := Nat.lt_of_succ_le hn3); rename Below W1.heap.size W1 _ ∧ _ => hob; have s0 := hob.1; have sz0 := s0.size; have hq3 := Below.trans s0 (hb3.mono s0.size); have sz3 := hq3.size; (try have m3_0 : w3.cell? ⟨W1.heap.size, 0, none⟩ = some (.int .u64 0) := (by simp [go_sem, *]; done)); (try have n3_0 : w3.frozen? ⟨W1.heap.size, 0, none⟩ = false := (by simp [go_sem, *]; done)); (try have m3_1 : w3.cell? ⟨W1.heap.size, 1, none⟩ = some (.int .u64 0) := (by simp [go_sem, *]; done)); (try have n3_1 : w3.frozen? ⟨W1.heap.size, 1, none⟩ = false := (by simp [go_sem, *]; done)); clear s0 sz0))
  · go_wp2
    obtain ⟨hc9, hf9⟩ := bcell hq3
    have hw3 := hB1.trans (hq3.mono hB1.size)
    have hs3 := hw3.size
    have hx1 := Nat.lt_of_lt_of_le hz1w1 sz3
    have hx0 := Nat.lt_of_lt_of_le hz1w0 sz3
    clear hob
    ((first | refine wp_at (fun W4 hW4 => ?_) | refine calls_at (fun W4 hW4 => ?_)); have hB4 : Below w.heap.size w W4 := (by rw [← hW4]; exact (by repeat' (first | (with_reducible exact Below.refl _ _) | (with_reducible assumption) | (with_reducible refine Below.alloc ?_ ?_ _) | (with_reducible refine Below.setCell ?_ ?_ _) | (with_reducible refine Below.drew ?_) | (with_reducible refine below_drewN ?_ _) | go_size))); have hz4w1 : w.heap.size + 1 < W4.heap.size := (by rw [← hW4]; first | go_size | (simp; omega)); have hz4w0 : w.heap.size < W4.heap.size := (by rw [← hW4]; first | go_size | (simp; omega)); have hz4w30 : w3.heap.size < W4.heap.size := (by rw [← hW4]; first | go_size | (simp; omega)); have c4_0 : W4.cell? ⟨w.heap.size, 1, none⟩ = some (.int .u64 m) := (by rw [← hW4]; clear hW4; simp [go_sem, *]); have f4_0 : W4.frozen? ⟨w.heap.size, 1, none⟩ = false := (by rw [← hW4]; clear hW4; simp [go_sem, *]); have c4_1 : W4.cell? ⟨w3.heap.size, 0, none⟩ = some (.int .u64 (lB m a : Nat)) := (by rw [← hW4]; clear hW4; simp [go_sem, *]); have f4_1 : W4.frozen? ⟨w3.heap.size, 0, none⟩ = false := (by rw [← hW4]; clear hW4; simp [go_sem, *]); have c4_2 : W4.cell? ⟨w3.heap.size, 1, none⟩ = some (.int .u64 (lT m a : Nat)) := (by rw [← hW4]; clear hW4; simp [go_sem, *]); have f4_2 : W4.frozen? ⟨w3.heap.size, 1, none⟩ = false := (by rw [← hW4]; clear hW4; simp [go_sem, *]); have c4_3 : W4.cell? ⟨w.heap.size + 1, 0, none⟩ = some (.int .u64 0) := (by rw [← hW4]; clear hW4; simp [go_sem, *]); have f4_3 : W4.frozen? ⟨w.heap.size + 1, 0, none⟩ = false := (by rw [← hW4]; clear hW4; simp [go_sem, *]); have c4_4 : W4.cell? ⟨w.heap.size + 1, 1, none⟩ = some (.int .u64 0) := (by rw [← hW4]; clear hW4; simp [go_sem, *]); have f4_4 : W4.frozen? ⟨w.heap.size + 1, 1, none⟩ = false := (by rw [← hW4]; clear hW4; simp [go_sem, *]); have c4_5 : W4.cell? ⟨w.heap.size + 1, 2, none⟩ = some (.int .u64 0) := (by rw [← hW4]; clear hW4; simp [go_sem, *]); have f4_5 : W4.frozen? ⟨w.heap.size + 1, 2, none⟩ = false := (by rw [← hW4]; clear hW4; simp [go_sem, *]); have c4_6 : W4.cell? ⟨w.heap.size + 1, 3, none⟩ = some (.int .u64 0) := (by rw [← hW4]; clear hW4; simp [go_sem, *]); have f4_6 : W4.frozen? ⟨w.heap.size + 1, 3, none⟩ = false := (by rw [← hW4]; clear hW4; simp [go_sem, *]); clear hW4)
    have ne1 : ¬ (w3.heap.size = w.heap.size + 1) := (by omega)
    have ne2 : ¬ (w.heap.size + 1 = w3.heap.size) := (by omega)
    go_region_held3 (fun W => W.cell? ⟨w.heap.size, 1, none⟩ = some (.int .u64 m) ∧ W.cell? ⟨w3.heap.size, 0, none⟩ = some (.int .u64 (lB m a : Nat)) ∧ W.cell? ⟨w3.heap.size, 1, none⟩ = some (.int .u64 (lT m a : Nat)))
    ((first | (refine ⟨?_, ?_, ?_⟩ <;> (with_reducible assumption)) | (refine ⟨?_, ?_, ?_⟩ <;> (simp [go_sem, c4_0, c4_1, c4_2, ne1, ne2]; done))))
    (first
      | (go_at_call_of 31 (Value.int .i64 32); refine (q3.out _).mono ?_; rintro e w' ⟨rfl, k5, rfl⟩)
      | (go_at_call_of 31 (Value.int .i64 48); refine (q4.out _).mono ?_; rintro e w' ⟨rfl, k6, rfl⟩))
    go_wp2
    refine bodyPost_ret (v := .tuple #[.agg #[.int .u64 (lB m a : Nat), .int .u64 (lT m a : Nat), .int .u64 (pm m : Nat), .int .u64 (ty m : Nat)], .bool (lOk m a)]) (by simp [results, Try.results15, go_sem, c4_3, c4_4, c4_5, c4_6, hz4w1, hz4w0]) rfl ⟨rfl, (by repeat' (first | (with_reducible exact Below.refl _ _) | (with_reducible assumption) | (with_reducible refine Below.alloc ?_ ?_ _) | (with_reducible refine Below.setCell ?_ ?_ _) | (with_reducible refine Below.drew ?_) | (with_reducible refine below_drewN ?_ _) | go_size))⟩
  · go_wp2
    obtain ⟨hc9, hf9⟩ := bcell hq3
    have hw3 := hB1.trans (hq3.mono hB1.size)
    have hs3 := hw3.size
    have hx1 := Nat.lt_of_lt_of_le hz1w1 sz3
    have hx0 := Nat.lt_of_lt_of_le hz1w0 sz3
    clear hob
    ((first | refine wp_at (fun W4 hW4 => ?_) | refine calls_at (fun W4 hW4 => ?_)); have hB4 : Below w.heap.size w W4 := (by rw [← hW4]; exact (by repeat' (first | (with_reducible exact Below.refl _ _) | (with_reducible assumption) | (with_reducible refine Below.alloc ?_ ?_ _) | (with_reducible refine Below.setCell ?_ ?_ _) | (with_reducible refine Below.drew ?_) | (with_reducible refine below_drewN ?_ _) | go_size))); have hz4w1 : w.heap.size + 1 < W4.heap.size := (by rw [← hW4]; first | go_size | (simp; omega)); have hz4w0 : w.heap.size < W4.heap.size := (by rw [← hW4]; first | go_size | (simp; omega)); have hz4w20 : w2.heap.size < W4.heap.size := (by rw [← hW4]; first | go_size | (simp; omega)); have c4_0 : W4.cell? ⟨w.heap.size, 1, none⟩ = some (.int .u64 m) := (by rw [← hW4]; clear hW4; simp [go_sem, *]); have f4_0 : W4.frozen? ⟨w.heap.size, 1, none⟩ = false := (by rw [← hW4]; clear hW4; simp [go_sem, *]); have c4_1 : W4.cell? ⟨w2.heap.size, 0, none⟩ = some (.int .u64 (lB m a : Nat)) := (by rw [← hW4]; clear hW4; simp [go_sem, *]); have f4_1 : W4.frozen? ⟨w2.heap.size, 0, none⟩ = false := (by rw [← hW4]; clear hW4; simp [go_sem, *]); have c4_2 : W4.cell? ⟨w2.heap.size, 1, none⟩ = some (.int .u64 (lT m a : Nat)) := (by rw [← hW4]; clear hW4; simp [go_sem, *]); have f4_2 : W4.frozen? ⟨w2.heap.size, 1, none⟩ = false := (by rw [← hW4]; clear hW4; simp [go_sem, *]); have c4_3 : W4.cell? ⟨w.heap.size + 1, 0, none⟩ = some (.int .u64 0) := (by rw [← hW4]; clear hW4; simp [go_sem, *]); have f4_3 : W4.frozen? ⟨w.heap.size + 1, 0, none⟩ = false := (by rw [← hW4]; clear hW4; simp [go_sem, *]); have c4_4 : W4.cell? ⟨w.heap.size + 1, 1, none⟩ = some (.int .u64 0) := (by rw [← hW4]; clear hW4; simp [go_sem, *]); have f4_4 : W4.frozen? ⟨w.heap.size + 1, 1, none⟩ = false := (by rw [← hW4]; clear hW4; simp [go_sem, *]); have c4_5 : W4.cell? ⟨w.heap.size + 1, 2, none⟩ = some (.int .u64 0) := (by rw [← hW4]; clear hW4; simp [go_sem, *]); have f4_5 : W4.frozen? ⟨w.heap.size + 1, 2, none⟩ = false := (by rw [← hW4]; clear hW4; simp [go_sem, *]); have c4_6 : W4.cell? ⟨w.heap.size + 1, 3, none⟩ = some (.int .u64 0) := (by rw [← hW4]; clear hW4; simp [go_sem, *]); have f4_6 : W4.frozen? ⟨w.heap.size + 1, 3, none⟩ = false := (by rw [← hW4]; clear hW4; simp [go_sem, *]); clear hW4)
    have ne1 : ¬ (w2.heap.size = w.heap.size + 1) := (by omega)
    have ne2 : ¬ (w.heap.size + 1 = w2.heap.size) := (by omega)
    go_region_held3 (fun W => W.cell? ⟨w.heap.size, 1, none⟩ = some (.int .u64 m) ∧ W.cell? ⟨w2.heap.size, 0, none⟩ = some (.int .u64 (lB m a : Nat)) ∧ W.cell? ⟨w2.heap.size, 1, none⟩ = some (.int .u64 (lT m a : Nat)))
    ((first | (refine ⟨?_, ?_, ?_⟩ <;> (with_reducible assumption)) | (refine ⟨?_, ?_, ?_⟩ <;> (simp [go_sem, c4_0, c4_1, c4_2, ne1, ne2]; done))))
    (first
      | (go_at_call_of 31 (Value.int .i64 32); refine (q3.out _).mono ?_; rintro e w' ⟨rfl, k5, rfl⟩)
      | (go_at_call_of 31 (Value.int .i64 48); refine (q4.out _).mono ?_; rintro e w' ⟨rfl, k6, rfl⟩))
    go_wp2
    refine bodyPost_ret (v := .tuple #[.agg #[.int .u64 (lB m a : Nat), .int .u64 (lT m a : Nat), .int .u64 (pm m : Nat), .int .u64 (ty m : Nat)], .bool (lOk m a)]) (by simp [results, Try.results15, go_sem, c4_3, c4_4, c4_5, c4_6, hz4w1, hz4w0]) rfl ⟨rfl, (by repeat' (first | (with_reducible exact Below.refl _ _) | (with_reducible assumption) | (with_reducible refine Below.alloc ?_ ?_ _) | (with_reducible refine Below.setCell ?_ ?_ _) | (with_reducible refine Below.drew ?_) | (with_reducible refine below_drewN ?_ _) | go_size))⟩
  · go_wp2
    obtain ⟨hc9, hf9⟩ := bcell hq3
    have hw3 := hB1.trans (hq3.mono hB1.size)
    have hs3 := hw3.size
    have hx1 := Nat.lt_of_lt_of_le hz1w1 sz3
    have hx0 := Nat.lt_of_lt_of_le hz1w0 sz3
    clear hob
    have hz9 := Nat.lt_of_lt_of_le ho2 hn3
    ((first | refine wp_at (fun W4 hW4 => ?_) | refine calls_at (fun W4 hW4 => ?_)); have hB4 : Below w.heap.size w W4 := (by rw [← hW4]; exact (by repeat' (first | (with_reducible exact Below.refl _ _) | (with_reducible assumption) | (with_reducible refine Below.alloc ?_ ?_ _) | (with_reducible refine Below.setCell ?_ ?_ _) | (with_reducible refine Below.drew ?_) | (with_reducible refine below_drewN ?_ _) | go_size))); have hz4w1 : w.heap.size + 1 < W4.heap.size := (by rw [← hW4]; first | go_size | (simp; omega)); have hz4w0 : w.heap.size < W4.heap.size := (by rw [← hW4]; first | go_size | (simp; omega)); have hz4W10 : W1.heap.size < W4.heap.size := (by rw [← hW4]; first | go_size | (simp; omega)); have c4_0 : W4.cell? ⟨w.heap.size, 1, none⟩ = some (.int .u64 m) := (by rw [← hW4]; clear hW4; simp [go_sem, *]); have f4_0 : W4.frozen? ⟨w.heap.size, 1, none⟩ = false := (by rw [← hW4]; clear hW4; simp [go_sem, *]); have c4_1 : W4.cell? ⟨W1.heap.size, 0, none⟩ = some (.int .u64 (lB m a : Nat)) := (by rw [← hW4]; clear hW4; simp [go_sem, *]); have f4_1 : W4.frozen? ⟨W1.heap.size, 0, none⟩ = false := (by rw [← hW4]; clear hW4; simp [go_sem, *]); have c4_2 : W4.cell? ⟨W1.heap.size, 1, none⟩ = some (.int .u64 (lT m a : Nat)) := (by rw [← hW4]; clear hW4; simp [go_sem, *]); have f4_2 : W4.frozen? ⟨W1.heap.size, 1, none⟩ = false := (by rw [← hW4]; clear hW4; simp [go_sem, *]); have c4_3 : W4.cell? ⟨w.heap.size + 1, 0, none⟩ = some (.int .u64 0) := (by rw [← hW4]; clear hW4; simp [go_sem, *]); have f4_3 : W4.frozen? ⟨w.heap.size + 1, 0, none⟩ = false := (by rw [← hW4]; clear hW4; simp [go_sem, *]); have c4_4 : W4.cell? ⟨w.heap.size + 1, 1, none⟩ = some (.int .u64 0) := (by rw [← hW4]; clear hW4; simp [go_sem, *]); have f4_4 : W4.frozen? ⟨w.heap.size + 1, 1, none⟩ = false := (by rw [← hW4]; clear hW4; simp [go_sem, *]); have c4_5 : W4.cell? ⟨w.heap.size + 1, 2, none⟩ = some (.int .u64 0) := (by rw [← hW4]; clear hW4; simp [go_sem, *]); have f4_5 : W4.frozen? ⟨w.heap.size + 1, 2, none⟩ = false := (by rw [← hW4]; clear hW4; simp [go_sem, *]); have c4_6 : W4.cell? ⟨w.heap.size + 1, 3, none⟩ = some (.int .u64 0) := (by rw [← hW4]; clear hW4; simp [go_sem, *]); have f4_6 : W4.frozen? ⟨w.heap.size + 1, 3, none⟩ = false := (by rw [← hW4]; clear hW4; simp [go_sem, *]); clear hW4)
    have ne1 : ¬ (W1.heap.size = w.heap.size + 1) := (by omega)
    have ne2 : ¬ (w.heap.size + 1 = W1.heap.size) := (by omega)
    go_region_held3 (fun W => W.cell? ⟨w.heap.size, 1, none⟩ = some (.int .u64 m) ∧ W.cell? ⟨W1.heap.size, 0, none⟩ = some (.int .u64 (lB m a : Nat)) ∧ W.cell? ⟨W1.heap.size, 1, none⟩ = some (.int .u64 (lT m a : Nat)))
    ((first | (refine ⟨?_, ?_, ?_⟩ <;> (with_reducible assumption)) | (refine ⟨?_, ?_, ?_⟩ <;> (simp [go_sem, c4_0, c4_1, c4_2, ne1, ne2]; done))))
    (first
      | (go_at_call_of 31 (Value.int .i64 32); refine (q3.out _).mono ?_; rintro e w' ⟨rfl, k5, rfl⟩)
      | (go_at_call_of 31 (Value.int .i64 48); refine (q4.out _).mono ?_; rintro e w' ⟨rfl, k6, rfl⟩))
    go_wp2
    refine bodyPost_ret (v := .tuple #[.agg #[.int .u64 (lB m a : Nat), .int .u64 (lT m a : Nat), .int .u64 (pm m : Nat), .int .u64 (ty m : Nat)], .bool (lOk m a)]) (by simp [results, Try.results15, go_sem, c4_3, c4_4, c4_5, c4_6, hz4w1, hz4w0]) rfl ⟨rfl, (by repeat' (first | (with_reducible exact Below.refl _ _) | (with_reducible assumption) | (with_reducible refine Below.alloc ?_ ?_ _) | (with_reducible refine Below.setCell ?_ ?_ _) | (with_reducible refine Below.drew ?_) | (with_reducible refine below_drewN ?_ _) | go_size))⟩
end Go.Proofs.Ytinckicchakifaa
