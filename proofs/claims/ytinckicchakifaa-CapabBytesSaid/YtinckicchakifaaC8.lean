/-
  Contracts of capab.number and capab.Of on the bytes of a capability; capab.Null.
-/
import Derived.Test.YtinckicchakifaaC7
import Derived.Test.YtinckicchakifaaQ0
set_option linter.unusedSimpArgs false
set_option linter.unusedVariables false
namespace Go.Proofs.Ytinckicchakifaa
open Go.RowKit Go.Sort

theorem by8_lt (x i : Nat) : by8 x i < 256 := by rw [by8_def]; omega
def lo8 (x i : Nat) : Nat := x % 2 ^ (8 * i)
theorem lo8_def (x i : Nat) : lo8 x i = x % 2 ^ (8 * i) := rfl
theorem lo8_lt (x i : Nat) : lo8 x i < 2 ^ (8 * i) := by rw [lo8_def]; exact Nat.mod_lt _ (Nat.pow_pos (by decide))
theorem lo8_succ (x i : Nat) : lo8 x (i + 1) = lo8 x i + by8 x i * 2 ^ (8 * i) := by
  rw [lo8_def, lo8_def, by8_def, Nat.mul_add, Nat.pow_add, show (8 * 1) = 8 from rfl, Nat.mod_mul, Nat.mul_comm (2 ^ (8 * i))]
theorem lo8_or (x i : Nat) (hi : i < 8) : bits .or .u64 ((lo8 x i : Nat) : Int) ((by8 x i * 2 ^ (8 * i) : Nat) : Int) = ((lo8 x (i + 1) : Nat) : Int) := by
  have h1 := lo8_lt x i
  have h2 := by8_lt x i
  have h3 : 2 ^ (8 * i) ≤ 2 ^ 56 := Nat.pow_le_pow_right (by decide) (by omega)
  have h4 : by8 x i * 2 ^ (8 * i) ≤ 255 * 2 ^ 56 := Nat.mul_le_mul (by omega) h3
  rw [u64_or_nat _ _ (by omega) (by omega), or_join _ (8 * i) _ h1 (Nat.mul_mod_left _ _), lo8_succ]
theorem lo8_all (x : Nat) (hx : x < 18446744073709551616) : lo8 x 8 = x := by rw [lo8_def]; omega
theorem lo8_zero (x : Nat) : lo8 x 0 = 0 := by rw [lo8_def, Nat.mul_zero, Nat.pow_zero, Nat.mod_one]
attribute [irreducible] lo8
set_option maxHeartbeats 4000000 in
theorem number8_walk (B y0 y1 y2 y3 y4 y5 y6 y7 s1 s2 s3 s4 s5 s6 s7 p2 p3 p4 p5 p6 p7 p8 : Nat) (g0 : IntKind.u64.wrap (y0 : Int) = (y0 : Int)) (g1 : IntKind.u64.wrap (y1 : Int) = (y1 : Int)) (g2 : IntKind.u64.wrap (y2 : Int) = (y2 : Int)) (g3 : IntKind.u64.wrap (y3 : Int) = (y3 : Int)) (g4 : IntKind.u64.wrap (y4 : Int) = (y4 : Int)) (g5 : IntKind.u64.wrap (y5 : Int) = (y5 : Int)) (g6 : IntKind.u64.wrap (y6 : Int) = (y6 : Int)) (g7 : IntKind.u64.wrap (y7 : Int) = (y7 : Int)) (k1 : IntKind.u64.wrap ((y1 : Int) * 256) = (s1 : Int)) (k2 : IntKind.u64.wrap ((y2 : Int) * 65536) = (s2 : Int)) (k3 : IntKind.u64.wrap ((y3 : Int) * 16777216) = (s3 : Int)) (k4 : IntKind.u64.wrap ((y4 : Int) * 4294967296) = (s4 : Int)) (k5 : IntKind.u64.wrap ((y5 : Int) * 1099511627776) = (s5 : Int)) (k6 : IntKind.u64.wrap ((y6 : Int) * 281474976710656) = (s6 : Int)) (k7 : IntKind.u64.wrap ((y7 : Int) * 72057594037927936) = (s7 : Int))
    (h0 : bits .or .u64 0 (y0 : Int) = (y0 : Int)) (h1 : bits .or .u64 (y0 : Int) (s1 : Int) = (p2 : Int)) (h2 : bits .or .u64 (p2 : Int) (s2 : Int) = (p3 : Int)) (h3 : bits .or .u64 (p3 : Int) (s3 : Int) = (p4 : Int)) (h4 : bits .or .u64 (p4 : Int) (s4 : Int) = (p5 : Int)) (h5 : bits .or .u64 (p5 : Int) (s5 : Int) = (p6 : Int)) (h6 : bits .or .u64 (p6 : Int) (s6 : Int) = (p7 : Int)) (h7 : bits .or .u64 (p7 : Int) (s7 : Int) = (p8 : Int)) (w : World)
    (c0 : w.cell? ⟨B, 8, none⟩ = some (.int .u8 (y0 : Nat))) (c1 : w.cell? ⟨B, 9, none⟩ = some (.int .u8 (y1 : Nat))) (c2 : w.cell? ⟨B, 10, none⟩ = some (.int .u8 (y2 : Nat))) (c3 : w.cell? ⟨B, 11, none⟩ = some (.int .u8 (y3 : Nat))) (c4 : w.cell? ⟨B, 12, none⟩ = some (.int .u8 (y4 : Nat))) (c5 : w.cell? ⟨B, 13, none⟩ = some (.int .u8 (y5 : Nat))) (c6 : w.cell? ⟨B, 14, none⟩ = some (.int .u8 (y6 : Nat))) (c7 : w.cell? ⟨B, 15, none⟩ = some (.int .u8 (y7 : Nat))) :
    Calls Try.prog 36 #[.slice (some ⟨B, 8, none⟩) 8 8] w fun r w' => r = .returned (.int .u64 (p8 : Nat)) ∧ w' = w := by
  go_enter Try.func36, Try.ntmps36
  go_wp2
  refine wp_loop_rounds 9 ?_
  rw [rounds_succ]
  go_wp2
  rw [rounds_succ]
  go_wp2
  rw [rounds_succ]
  go_wp2
  rw [rounds_succ]
  go_wp2
  rw [rounds_succ]
  go_wp2
  rw [rounds_succ]
  go_wp2
  rw [rounds_succ]
  go_wp2
  rw [rounds_succ]
  go_wp2
  rw [rounds_succ]
  go_wp2
  go_ret
  exact ⟨rfl, rfl⟩
theorem number8_any (B x : Nat) (hx : x < 18446744073709551616) (w : World) (c0 : w.cell? ⟨B, 8, none⟩ = some (.int .u8 (by8 x 0 : Nat))) (c1 : w.cell? ⟨B, 9, none⟩ = some (.int .u8 (by8 x 1 : Nat))) (c2 : w.cell? ⟨B, 10, none⟩ = some (.int .u8 (by8 x 2 : Nat))) (c3 : w.cell? ⟨B, 11, none⟩ = some (.int .u8 (by8 x 3 : Nat))) (c4 : w.cell? ⟨B, 12, none⟩ = some (.int .u8 (by8 x 4 : Nat))) (c5 : w.cell? ⟨B, 13, none⟩ = some (.int .u8 (by8 x 5 : Nat))) (c6 : w.cell? ⟨B, 14, none⟩ = some (.int .u8 (by8 x 6 : Nat))) (c7 : w.cell? ⟨B, 15, none⟩ = some (.int .u8 (by8 x 7 : Nat))) :
    Calls Try.prog 36 #[.slice (some ⟨B, 8, none⟩) 8 8] w fun r w' => r = .returned (.int .u64 (x : Nat)) ∧ w' = w := by
  have hp := lo8_all x hx
  have hz := lo8_zero x
  have l : ∀ i, by8 x i < 256 := by8_lt x
  have o0 := lo8_or x 0 (by decide)
  have o1 := lo8_or x 1 (by decide)
  have o2 := lo8_or x 2 (by decide)
  have o3 := lo8_or x 3 (by decide)
  have o4 := lo8_or x 4 (by decide)
  have o5 := lo8_or x 5 (by decide)
  have o6 := lo8_or x 6 (by decide)
  have o7 := lo8_or x 7 (by decide)
  rw [hz] at o0
  have e1 : lo8 x 1 = by8 x 0 := by have := lo8_succ x 0; rw [hz] at this; simpa using this
  rw [hp] at o7
  rw [e1] at o0 o1
  refine number8_walk B (by8 x 0) (by8 x 1) (by8 x 2) (by8 x 3) (by8 x 4) (by8 x 5) (by8 x 6) (by8 x 7) (by8 x 1 * 256) (by8 x 2 * 65536) (by8 x 3 * 16777216) (by8 x 4 * 4294967296) (by8 x 5 * 1099511627776) (by8 x 6 * 281474976710656) (by8 x 7 * 72057594037927936) (lo8 x 2) (lo8 x 3) (lo8 x 4) (lo8 x 5) (lo8 x 6) (lo8 x 7) x (by rw [IntKind.wrap_u64]; have := l 0; omega) (by rw [IntKind.wrap_u64]; have := l 1; omega) (by rw [IntKind.wrap_u64]; have := l 2; omega) (by rw [IntKind.wrap_u64]; have := l 3; omega) (by rw [IntKind.wrap_u64]; have := l 4; omega) (by rw [IntKind.wrap_u64]; have := l 5; omega) (by rw [IntKind.wrap_u64]; have := l 6; omega) (by rw [IntKind.wrap_u64]; have := l 7; omega) (by rw [IntKind.wrap_u64]; have := l 1; omega) (by rw [IntKind.wrap_u64]; have := l 2; omega) (by rw [IntKind.wrap_u64]; have := l 3; omega) (by rw [IntKind.wrap_u64]; have := l 4; omega) (by rw [IntKind.wrap_u64]; have := l 5; omega) (by rw [IntKind.wrap_u64]; have := l 6; omega) (by rw [IntKind.wrap_u64]; have := l 7; omega) (by simpa using o0) (by simpa using o1) (by simpa using o2) (by simpa using o3) (by simpa using o4) (by simpa using o5) (by simpa using o6) (by simpa using o7) w c0 c1 c2 c3 c4 c5 c6 c7
set_option maxHeartbeats 4000000 in
theorem number0_walk (B y0 y1 y2 y3 y4 y5 y6 y7 s1 s2 s3 s4 s5 s6 s7 p2 p3 p4 p5 p6 p7 p8 : Nat) (g0 : IntKind.u64.wrap (y0 : Int) = (y0 : Int)) (g1 : IntKind.u64.wrap (y1 : Int) = (y1 : Int)) (g2 : IntKind.u64.wrap (y2 : Int) = (y2 : Int)) (g3 : IntKind.u64.wrap (y3 : Int) = (y3 : Int)) (g4 : IntKind.u64.wrap (y4 : Int) = (y4 : Int)) (g5 : IntKind.u64.wrap (y5 : Int) = (y5 : Int)) (g6 : IntKind.u64.wrap (y6 : Int) = (y6 : Int)) (g7 : IntKind.u64.wrap (y7 : Int) = (y7 : Int)) (k1 : IntKind.u64.wrap ((y1 : Int) * 256) = (s1 : Int)) (k2 : IntKind.u64.wrap ((y2 : Int) * 65536) = (s2 : Int)) (k3 : IntKind.u64.wrap ((y3 : Int) * 16777216) = (s3 : Int)) (k4 : IntKind.u64.wrap ((y4 : Int) * 4294967296) = (s4 : Int)) (k5 : IntKind.u64.wrap ((y5 : Int) * 1099511627776) = (s5 : Int)) (k6 : IntKind.u64.wrap ((y6 : Int) * 281474976710656) = (s6 : Int)) (k7 : IntKind.u64.wrap ((y7 : Int) * 72057594037927936) = (s7 : Int))
    (h0 : bits .or .u64 0 (y0 : Int) = (y0 : Int)) (h1 : bits .or .u64 (y0 : Int) (s1 : Int) = (p2 : Int)) (h2 : bits .or .u64 (p2 : Int) (s2 : Int) = (p3 : Int)) (h3 : bits .or .u64 (p3 : Int) (s3 : Int) = (p4 : Int)) (h4 : bits .or .u64 (p4 : Int) (s4 : Int) = (p5 : Int)) (h5 : bits .or .u64 (p5 : Int) (s5 : Int) = (p6 : Int)) (h6 : bits .or .u64 (p6 : Int) (s6 : Int) = (p7 : Int)) (h7 : bits .or .u64 (p7 : Int) (s7 : Int) = (p8 : Int)) (w : World)
    (c0 : w.cell? ⟨B, 0, none⟩ = some (.int .u8 (y0 : Nat))) (c1 : w.cell? ⟨B, 1, none⟩ = some (.int .u8 (y1 : Nat))) (c2 : w.cell? ⟨B, 2, none⟩ = some (.int .u8 (y2 : Nat))) (c3 : w.cell? ⟨B, 3, none⟩ = some (.int .u8 (y3 : Nat))) (c4 : w.cell? ⟨B, 4, none⟩ = some (.int .u8 (y4 : Nat))) (c5 : w.cell? ⟨B, 5, none⟩ = some (.int .u8 (y5 : Nat))) (c6 : w.cell? ⟨B, 6, none⟩ = some (.int .u8 (y6 : Nat))) (c7 : w.cell? ⟨B, 7, none⟩ = some (.int .u8 (y7 : Nat))) :
    Calls Try.prog 36 #[.slice (some ⟨B, 0, none⟩) 8 16] w fun r w' => r = .returned (.int .u64 (p8 : Nat)) ∧ w' = w := by
  go_enter Try.func36, Try.ntmps36
  go_wp2
  refine wp_loop_rounds 9 ?_
  rw [rounds_succ]
  go_wp2
  rw [rounds_succ]
  go_wp2
  rw [rounds_succ]
  go_wp2
  rw [rounds_succ]
  go_wp2
  rw [rounds_succ]
  go_wp2
  rw [rounds_succ]
  go_wp2
  rw [rounds_succ]
  go_wp2
  rw [rounds_succ]
  go_wp2
  rw [rounds_succ]
  go_wp2
  go_ret
  exact ⟨rfl, rfl⟩
theorem number0_any (B x : Nat) (hx : x < 18446744073709551616) (w : World) (c0 : w.cell? ⟨B, 0, none⟩ = some (.int .u8 (by8 x 0 : Nat))) (c1 : w.cell? ⟨B, 1, none⟩ = some (.int .u8 (by8 x 1 : Nat))) (c2 : w.cell? ⟨B, 2, none⟩ = some (.int .u8 (by8 x 2 : Nat))) (c3 : w.cell? ⟨B, 3, none⟩ = some (.int .u8 (by8 x 3 : Nat))) (c4 : w.cell? ⟨B, 4, none⟩ = some (.int .u8 (by8 x 4 : Nat))) (c5 : w.cell? ⟨B, 5, none⟩ = some (.int .u8 (by8 x 5 : Nat))) (c6 : w.cell? ⟨B, 6, none⟩ = some (.int .u8 (by8 x 6 : Nat))) (c7 : w.cell? ⟨B, 7, none⟩ = some (.int .u8 (by8 x 7 : Nat))) :
    Calls Try.prog 36 #[.slice (some ⟨B, 0, none⟩) 8 16] w fun r w' => r = .returned (.int .u64 (x : Nat)) ∧ w' = w := by
  have hp := lo8_all x hx
  have hz := lo8_zero x
  have l : ∀ i, by8 x i < 256 := by8_lt x
  have o0 := lo8_or x 0 (by decide)
  have o1 := lo8_or x 1 (by decide)
  have o2 := lo8_or x 2 (by decide)
  have o3 := lo8_or x 3 (by decide)
  have o4 := lo8_or x 4 (by decide)
  have o5 := lo8_or x 5 (by decide)
  have o6 := lo8_or x 6 (by decide)
  have o7 := lo8_or x 7 (by decide)
  rw [hz] at o0
  have e1 : lo8 x 1 = by8 x 0 := by have := lo8_succ x 0; rw [hz] at this; simpa using this
  rw [hp] at o7
  rw [e1] at o0 o1
  refine number0_walk B (by8 x 0) (by8 x 1) (by8 x 2) (by8 x 3) (by8 x 4) (by8 x 5) (by8 x 6) (by8 x 7) (by8 x 1 * 256) (by8 x 2 * 65536) (by8 x 3 * 16777216) (by8 x 4 * 4294967296) (by8 x 5 * 1099511627776) (by8 x 6 * 281474976710656) (by8 x 7 * 72057594037927936) (lo8 x 2) (lo8 x 3) (lo8 x 4) (lo8 x 5) (lo8 x 6) (lo8 x 7) x (by rw [IntKind.wrap_u64]; have := l 0; omega) (by rw [IntKind.wrap_u64]; have := l 1; omega) (by rw [IntKind.wrap_u64]; have := l 2; omega) (by rw [IntKind.wrap_u64]; have := l 3; omega) (by rw [IntKind.wrap_u64]; have := l 4; omega) (by rw [IntKind.wrap_u64]; have := l 5; omega) (by rw [IntKind.wrap_u64]; have := l 6; omega) (by rw [IntKind.wrap_u64]; have := l 7; omega) (by rw [IntKind.wrap_u64]; have := l 1; omega) (by rw [IntKind.wrap_u64]; have := l 2; omega) (by rw [IntKind.wrap_u64]; have := l 3; omega) (by rw [IntKind.wrap_u64]; have := l 4; omega) (by rw [IntKind.wrap_u64]; have := l 5; omega) (by rw [IntKind.wrap_u64]; have := l 6; omega) (by rw [IntKind.wrap_u64]; have := l 7; omega) (by simpa using o0) (by simpa using o1) (by simpa using o2) (by simpa using o3) (by simpa using o4) (by simpa using o5) (by simpa using o6) (by simpa using o7) w c0 c1 c2 c3 c4 c5 c6 c7
set_option maxHeartbeats 4000000 in
set_option maxRecDepth 100000 in
theorem of_bytes (tg : Bool) (m a : Nat) (hm : m < 18446744073709551616) (ha : a < 18446744073709551616) (w : World) :
    Calls Try.prog 21 #[.agg #[.int .u8 (by8 a 0 : Nat), .int .u8 (by8 a 1 : Nat), .int .u8 (by8 a 2 : Nat), .int .u8 (by8 a 3 : Nat), .int .u8 (by8 a 4 : Nat), .int .u8 (by8 a 5 : Nat), .int .u8 (by8 a 6 : Nat), .int .u8 (by8 a 7 : Nat), .int .u8 (by8 m 0 : Nat), .int .u8 (by8 m 1 : Nat), .int .u8 (by8 m 2 : Nat), .int .u8 (by8 m 3 : Nat), .int .u8 (by8 m 4 : Nat), .int .u8 (by8 m 5 : Nat), .int .u8 (by8 m 6 : Nat), .int .u8 (by8 m 7 : Nat)], .bool tg] w fun r w' => r = .returned (.agg #[.bool tg, .int .u64 (m : Nat), .int .u64 (a : Nat)]) ∧ Below w.heap.size w w' := by
  have Hm := Lib.hid hm; clear hm
  have Ha := Lib.hid ha; clear ha
  go_enter Try.func21, Try.ntmps21
  go_wp2
  ((first | refine wp_at (fun W2 hW2 => ?_) | refine calls_at (fun W2 hW2 => ?_)); have hB2 : Below w.heap.size w W2 := (by rw [← hW2]; exact (by repeat' (first | (with_reducible exact Below.refl _ _) | (with_reducible assumption) | (with_reducible refine Below.alloc ?_ ?_ _) | (with_reducible refine Below.setCell ?_ ?_ _) | (with_reducible refine Below.drew ?_) | (with_reducible refine below_drewN ?_ _) | go_size))); have hz2w1 : w.heap.size + 1 < W2.heap.size := (by rw [← hW2]; first | go_size | (simp; omega)); have hz2w0 : w.heap.size < W2.heap.size := (by rw [← hW2]; first | go_size | (simp; omega)); obtain ⟨c2_0, c2_1, c2_2, c2_3, c2_4, c2_5, c2_6, c2_7, c2_8, c2_9, c2_10, c2_11, c2_12, c2_13, c2_14, c2_15, c2_16, c2_17, c2_18⟩ : W2.cell? ⟨w.heap.size, 0, none⟩ = some (.int .u8 (by8 a 0 : Nat)) ∧ W2.cell? ⟨w.heap.size, 1, none⟩ = some (.int .u8 (by8 a 1 : Nat)) ∧ W2.cell? ⟨w.heap.size, 2, none⟩ = some (.int .u8 (by8 a 2 : Nat)) ∧ W2.cell? ⟨w.heap.size, 3, none⟩ = some (.int .u8 (by8 a 3 : Nat)) ∧ W2.cell? ⟨w.heap.size, 4, none⟩ = some (.int .u8 (by8 a 4 : Nat)) ∧ W2.cell? ⟨w.heap.size, 5, none⟩ = some (.int .u8 (by8 a 5 : Nat)) ∧ W2.cell? ⟨w.heap.size, 6, none⟩ = some (.int .u8 (by8 a 6 : Nat)) ∧ W2.cell? ⟨w.heap.size, 7, none⟩ = some (.int .u8 (by8 a 7 : Nat)) ∧ W2.cell? ⟨w.heap.size, 8, none⟩ = some (.int .u8 (by8 m 0 : Nat)) ∧ W2.cell? ⟨w.heap.size, 9, none⟩ = some (.int .u8 (by8 m 1 : Nat)) ∧ W2.cell? ⟨w.heap.size, 10, none⟩ = some (.int .u8 (by8 m 2 : Nat)) ∧ W2.cell? ⟨w.heap.size, 11, none⟩ = some (.int .u8 (by8 m 3 : Nat)) ∧ W2.cell? ⟨w.heap.size, 12, none⟩ = some (.int .u8 (by8 m 4 : Nat)) ∧ W2.cell? ⟨w.heap.size, 13, none⟩ = some (.int .u8 (by8 m 5 : Nat)) ∧ W2.cell? ⟨w.heap.size, 14, none⟩ = some (.int .u8 (by8 m 6 : Nat)) ∧ W2.cell? ⟨w.heap.size, 15, none⟩ = some (.int .u8 (by8 m 7 : Nat)) ∧ W2.cell? ⟨w.heap.size + 1, 0, none⟩ = some (.bool false) ∧ W2.cell? ⟨w.heap.size + 1, 1, none⟩ = some (.int .u64 0) ∧ W2.cell? ⟨w.heap.size + 1, 2, none⟩ = some (.int .u64 0) := (by refine ⟨?_, ?_, ?_, ?_, ?_, ?_, ?_, ?_, ?_, ?_, ?_, ?_, ?_, ?_, ?_, ?_, ?_, ?_, ?_⟩ <;> (rw [← hW2]; clear hW2; (repeat' (first | (with_reducible assumption) | (with_reducible apply rd_set_eq) | ((with_reducible refine rd_set_ne ?_ ?_); focus (first | (refine Or.inr ?_; simp; done) | (refine Or.inl ?_; first | (simp; done) | (simp; omega)))) | ((with_reducible refine rd_alloc ?_ ?_); focus go_size) | (with_reducible refine rd_drewN ?_) | (with_reducible refine rd_drew ?_) | (simp [go_sem]; done))))); obtain ⟨f2_0, f2_1, f2_2, f2_3, f2_4, f2_5, f2_6, f2_7, f2_8, f2_9, f2_10, f2_11, f2_12, f2_13, f2_14, f2_15, f2_16, f2_17, f2_18⟩ : W2.frozen? ⟨w.heap.size, 0, none⟩ = false ∧ W2.frozen? ⟨w.heap.size, 1, none⟩ = false ∧ W2.frozen? ⟨w.heap.size, 2, none⟩ = false ∧ W2.frozen? ⟨w.heap.size, 3, none⟩ = false ∧ W2.frozen? ⟨w.heap.size, 4, none⟩ = false ∧ W2.frozen? ⟨w.heap.size, 5, none⟩ = false ∧ W2.frozen? ⟨w.heap.size, 6, none⟩ = false ∧ W2.frozen? ⟨w.heap.size, 7, none⟩ = false ∧ W2.frozen? ⟨w.heap.size, 8, none⟩ = false ∧ W2.frozen? ⟨w.heap.size, 9, none⟩ = false ∧ W2.frozen? ⟨w.heap.size, 10, none⟩ = false ∧ W2.frozen? ⟨w.heap.size, 11, none⟩ = false ∧ W2.frozen? ⟨w.heap.size, 12, none⟩ = false ∧ W2.frozen? ⟨w.heap.size, 13, none⟩ = false ∧ W2.frozen? ⟨w.heap.size, 14, none⟩ = false ∧ W2.frozen? ⟨w.heap.size, 15, none⟩ = false ∧ W2.frozen? ⟨w.heap.size + 1, 0, none⟩ = false ∧ W2.frozen? ⟨w.heap.size + 1, 1, none⟩ = false ∧ W2.frozen? ⟨w.heap.size + 1, 2, none⟩ = false := (by refine ⟨?_, ?_, ?_, ?_, ?_, ?_, ?_, ?_, ?_, ?_, ?_, ?_, ?_, ?_, ?_, ?_, ?_, ?_, ?_⟩ <;> (rw [← hW2]; clear hW2; (repeat' (first | (with_reducible assumption) | (with_reducible refine fz_set ?_) | ((with_reducible refine fz_alloc ?_ ?_); focus go_size) | (with_reducible refine fz_drewN ?_) | (with_reducible refine fz_drew ?_) | (simp [go_sem]; done))))); clear hW2)
  (have k2_0 := cell_regrown c2_0; have k2_1 := cell_regrown c2_1; have k2_2 := cell_regrown c2_2; have k2_3 := cell_regrown c2_3; have k2_4 := cell_regrown c2_4; have k2_5 := cell_regrown c2_5; have k2_6 := cell_regrown c2_6; have k2_7 := cell_regrown c2_7; have k2_8 := cell_regrown c2_8; have k2_9 := cell_regrown c2_9; have k2_10 := cell_regrown c2_10; have k2_11 := cell_regrown c2_11; have k2_12 := cell_regrown c2_12; have k2_13 := cell_regrown c2_13; have k2_14 := cell_regrown c2_14; have k2_15 := cell_regrown c2_15; have k2_16 := cell_regrown c2_16; have k2_17 := cell_regrown c2_17; have k2_18 := cell_regrown c2_18; refine wp_region_tail 6 (by kernel_rfl) (by kernel_rfl) ?_; simp only [List.take_succ_cons, List.take_zero, List.drop_succ_cons, List.drop_zero]; (repeat (go_big_quiet_step (first| (go_at_call_of 36 (Value.slice (some ⟨w.heap.size, 8, none⟩) 8 8); exact Calls.regrown_of (below_same (number8_any _ m Hm.out _ (k2_8 _ _) (k2_9 _ _) (k2_10 _ _) (k2_11 _ _) (k2_12 _ _) (k2_13 _ _) (k2_14 _ _) (k2_15 _ _)))) | (go_at_call_of 36 (Value.slice (some ⟨w.heap.size, 0, none⟩) 8 16); exact Calls.regrown_of (below_same (number0_any _ a Ha.out _ (k2_0 _ _) (k2_1 _ _) (k2_2 _ _) (k2_3 _ _) (k2_4 _ _) (k2_5 _ _) (k2_6 _ _) (k2_7 _ _))))))); refine wpQuiet_nil ?_; intro W5 hW5; obtain ⟨pq, hpq⟩ := hW5; have hb5 : Below W2.heap.size W2 W5 := (by rw [hpq]; exact below_regrown _ _ _); clear hpq; have hB5 : Below w.heap.size w W5 := (hB2.trans (hb5.mono hB2.size)); clear k2_0; clear k2_1; clear k2_2; clear k2_3; clear k2_4; clear k2_5; clear k2_6; clear k2_7; clear k2_8; clear k2_9; clear k2_10; clear k2_11; clear k2_12; clear k2_13; clear k2_14; clear k2_15; clear k2_16; clear k2_17; clear k2_18; have hz5w1 : w.heap.size + 1 < W5.heap.size := (by have := hb5.size; omega); have hz5w0 : w.heap.size < W5.heap.size := (by have := hb5.size; omega); have c5_0 := (hb5.cell (by first | assumption | (simp; omega))).trans c2_0; have f5_0 := (hb5.frozen (by first | assumption | (simp; omega))).trans f2_0; have c5_1 := (hb5.cell (by first | assumption | (simp; omega))).trans c2_1; have f5_1 := (hb5.frozen (by first | assumption | (simp; omega))).trans f2_1; have c5_2 := (hb5.cell (by first | assumption | (simp; omega))).trans c2_2; have f5_2 := (hb5.frozen (by first | assumption | (simp; omega))).trans f2_2; have c5_3 := (hb5.cell (by first | assumption | (simp; omega))).trans c2_3; have f5_3 := (hb5.frozen (by first | assumption | (simp; omega))).trans f2_3; have c5_4 := (hb5.cell (by first | assumption | (simp; omega))).trans c2_4; have f5_4 := (hb5.frozen (by first | assumption | (simp; omega))).trans f2_4; have c5_5 := (hb5.cell (by first | assumption | (simp; omega))).trans c2_5; have f5_5 := (hb5.frozen (by first | assumption | (simp; omega))).trans f2_5; have c5_6 := (hb5.cell (by first | assumption | (simp; omega))).trans c2_6; have f5_6 := (hb5.frozen (by first | assumption | (simp; omega))).trans f2_6; have c5_7 := (hb5.cell (by first | assumption | (simp; omega))).trans c2_7; have f5_7 := (hb5.frozen (by first | assumption | (simp; omega))).trans f2_7; have c5_8 := (hb5.cell (by first | assumption | (simp; omega))).trans c2_8; have f5_8 := (hb5.frozen (by first | assumption | (simp; omega))).trans f2_8; have c5_9 := (hb5.cell (by first | assumption | (simp; omega))).trans c2_9; have f5_9 := (hb5.frozen (by first | assumption | (simp; omega))).trans f2_9; have c5_10 := (hb5.cell (by first | assumption | (simp; omega))).trans c2_10; have f5_10 := (hb5.frozen (by first | assumption | (simp; omega))).trans f2_10; have c5_11 := (hb5.cell (by first | assumption | (simp; omega))).trans c2_11; have f5_11 := (hb5.frozen (by first | assumption | (simp; omega))).trans f2_11; have c5_12 := (hb5.cell (by first | assumption | (simp; omega))).trans c2_12; have f5_12 := (hb5.frozen (by first | assumption | (simp; omega))).trans f2_12; have c5_13 := (hb5.cell (by first | assumption | (simp; omega))).trans c2_13; have f5_13 := (hb5.frozen (by first | assumption | (simp; omega))).trans f2_13; have c5_14 := (hb5.cell (by first | assumption | (simp; omega))).trans c2_14; have f5_14 := (hb5.frozen (by first | assumption | (simp; omega))).trans f2_14; have c5_15 := (hb5.cell (by first | assumption | (simp; omega))).trans c2_15; have f5_15 := (hb5.frozen (by first | assumption | (simp; omega))).trans f2_15; have c5_16 := (hb5.cell (by first | assumption | (simp; omega))).trans c2_16; have f5_16 := (hb5.frozen (by first | assumption | (simp; omega))).trans f2_16; have c5_17 := (hb5.cell (by first | assumption | (simp; omega))).trans c2_17; have f5_17 := (hb5.frozen (by first | assumption | (simp; omega))).trans f2_17; have c5_18 := (hb5.cell (by first | assumption | (simp; omega))).trans c2_18; have f5_18 := (hb5.frozen (by first | assumption | (simp; omega))).trans f2_18)
  go_wp2
  refine bodyPost_ret (v := .agg #[.bool tg, .int .u64 (m : Nat), .int .u64 (a : Nat)]) (by simp [results, Try.results21, go_sem, c5_16, c5_17, c5_18, hz5w1]) rfl ⟨rfl, (by repeat' (first | (with_reducible exact Below.refl _ _) | (with_reducible assumption) | (with_reducible refine Below.alloc ?_ ?_ _) | (with_reducible refine Below.setCell ?_ ?_ _) | (with_reducible refine Below.drew ?_) | (with_reducible refine below_drewN ?_ _) | go_size))⟩
theorem null_any (n : Nat) (w : World) : Calls Try.prog 19 #[.int .u64 (n : Nat)] w fun r w' => r = .returned (.agg #[.bool false, .int .u64 0, .int .u64 (n : Nat)]) ∧ Below w.heap.size w w' := by
  go_enter Try.func19, Try.ntmps19
  go_wp2
  refine bodyPost_ret (v := .agg #[.bool false, .int .u64 0, .int .u64 (n : Nat)]) (by simp [results, Try.results19, go_sem]) rfl ⟨rfl, (by repeat' (first | (with_reducible exact Below.refl _ _) | (with_reducible assumption) | (with_reducible refine Below.alloc ?_ ?_ _) | (with_reducible refine Below.setCell ?_ ?_ _) | (with_reducible refine Below.drew ?_) | (with_reducible refine below_drewN ?_ _) | go_size))⟩
end Go.Proofs.Ytinckicchakifaa
