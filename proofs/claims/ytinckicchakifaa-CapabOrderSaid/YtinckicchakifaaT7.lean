/-
  Contracts of bounds.Encode, bounds.Rounded: of every span.
-/
import Derived.Test.YtinckicchakifaaT6
set_option linter.unusedSimpArgs false
namespace Go.Proofs.Ytinckicchakifaa
open Go.RowKit

theorem may_yes (b t : Nat) (hb : b ≤ t) (ht : t ≤ 281474976710656) (w : World) :
    Calls Try.prog 33 #[.agg #[.int .u64 b, .int .u64 t]] w fun r w' => r = .returned (.bool true) ∧ Below w.heap.size w w' :=
  (may_any b t w).mono fun r w' ⟨hr, hw⟩ => ⟨by rw [hr, decide_eq_true hb, decide_eq_true ht]; rfl, hw⟩
theorem may_no (b t : Nat) (h : ¬ (b ≤ t ∧ t ≤ 281474976710656)) (w : World) :
    Calls Try.prog 33 #[.agg #[.int .u64 b, .int .u64 t]] w fun r w' => r = .returned (.bool false) ∧ Below w.heap.size w w' :=
  (may_any b t w).mono fun r w' ⟨hr, hw⟩ => ⟨by rw [hr, ← Bool.decide_and, decide_eq_false h], hw⟩

theorem encode_no (b t : Nat) (h : ¬ (b ≤ t ∧ t ≤ 281474976710656)) (w : World) :
    Calls Try.prog 18 #[.agg #[.int .u64 b, .int .u64 t]] w fun r w' =>
      r = .returned (.tuple #[.agg #[.int .u64 0, .int .u64 0, .int .u64 0], .bool false]) ∧ Below w.heap.size w w' := by
  go_enter Try.func18, Try.ntmps18
  go_wp2_with (go_at_call 33; refine (may_no b t h _).mono ?_; rintro e w1 ⟨rfl, hb1⟩; obtain ⟨hc1, hf1⟩ := bcell hb1; have hq1 : Below w.heap.size w w1 := (by refine Below.trans ?_ (hb1.mono ?_); exact (by repeat' (first | (with_reducible exact Below.refl _ _) | (with_reducible assumption) | (with_reducible refine Below.alloc ?_ ?_ _) | (with_reducible refine Below.setCell ?_ ?_ _) | (with_reducible refine Below.drew ?_) | (with_reducible refine below_drewN ?_ _) | go_size)); go_size); have hs1 := hq1.size; have hz1w1 : w.heap.size + 1 < w1.heap.size := (by have := hb1.size; (try simp at this); omega); have hz1w0 : w.heap.size < w1.heap.size := (by have := hb1.size; (try simp at this); omega))
  refine bodyPost_ret (v := .tuple #[.agg #[.int .u64 0, .int .u64 0, .int .u64 0], .bool false]) (by simp [results, Try.results18, go_sem, hc1, hz1w0, hz1w1]) rfl ⟨rfl, (by repeat' (first | (with_reducible exact Below.refl _ _) | (with_reducible assumption) | (with_reducible refine Below.alloc ?_ ?_ _) | (with_reducible refine Below.setCell ?_ ?_ _) | (with_reducible refine Below.drew ?_) | (with_reducible refine below_drewN ?_ _) | go_size))⟩

/-- two spans are one. -/
def eq2 (a b c d : Nat) : Bool := decide (a = c) && decide (b = d)
theorem run_eq2 (a b c d : Nat) (W : World) : (binOp .eql 24 (.agg #[.int .u64 a, .int .u64 b]) (.agg #[.int .u64 c, .int .u64 d])).run Try.prog W = .ok (.bool (eq2 a b c d)) W := by
  by_cases h1 : a = c
  · by_cases h2 : b = d
    · simp [go_sem, eq2, h1, h2]
    · have h2' : ¬ ((b : Int) = d) := by omega
      simp [go_sem, eq2, h1, h2, h2']
  · have h1' : ¬ ((a : Int) = c) := by omega
    simp [go_sem, eq2, h1, h1']
attribute [irreducible] eq2

/-- the lowest bits of how many steps. -/
theorem low_bits (k x q n : Nat) (m : Int) (hk : k = q * 2 ^ x) (hk2 : k < 18446744073709551616) (hn : n < 64) (hm : m = ((2 ^ n - 1 : Nat) : Int)) :
    bits .and .u64 ((k : Int) / 2 ^ x) m = ((q % 2 ^ n : Nat) : Int) := by
  have h := get_bits k x n hk2 hn
  rw [hm, h, hk, Nat.mul_div_cancel _ (pow_pos2 x)]
theorem fB_bits (b t : Nat) (hb : b ≤ t) (ht : t ≤ 281474976710656) : bits .and .u64 (((kb b t : Nat) : Int) / 2 ^ (ex b t - 1)) 16383 = ((fB b t : Nat) : Int) := by
  have h1 := kb_le b t
  rw [low_bits (kb b t) (ex b t - 1) (qd b (ex b t - 1)) 14 16383 (kb_def b t) (by omega) (by decide) (by decide)]
  unfold fB; rfl
theorem fT_bits (b t : Nat) (hb : b ≤ t) (ht : t ≤ 281474976710656) : bits .and .u64 (((kt b t : Nat) : Int) / 2 ^ (ex b t - 1)) 4095 = ((fT b t : Nat) : Int) := by
  have h1 := kt_le48 hb ht
  rw [low_bits (kt b t) (ex b t - 1) (qu t (ex b t - 1)) 12 4095 (kt_def b t) (by omega) (by decide) (by decide)]
  unfold fT; rfl

theorem encode_yes (b t : Nat) (hb : b ≤ t) (ht : t ≤ 281474976710656) (w : World) :
    Calls Try.prog 18 #[.agg #[.int .u64 b, .int .u64 t]] w fun r w' =>
      r = .returned (.tuple #[.agg #[.int .u64 (fB b t : Nat), .int .u64 (fT b t : Nat), .int .u64 (ex b t : Nat)], .bool (eq2 (kb b t) (kt b t) b t)]) ∧ Below w.heap.size w w' := by
  have hle := ex_le hb ht
  have hcmp := run_eq2 (kb b t) (kt b t) b t
  go_enter Try.func18, Try.ntmps18
  go_wp2_with (first
    | (go_at_call 33; refine (may_yes b t hb ht _).mono ?_; rintro e w1 ⟨rfl, hb1⟩; obtain ⟨hc1, hf1⟩ := bcell hb1; have hq1 : Below w.heap.size w w1 := (by refine Below.trans ?_ (hb1.mono ?_); exact (by repeat' (first | (with_reducible exact Below.refl _ _) | (with_reducible assumption) | (with_reducible refine Below.alloc ?_ ?_ _) | (with_reducible refine Below.setCell ?_ ?_ _) | (with_reducible refine Below.drew ?_) | (with_reducible refine below_drewN ?_ _) | go_size)); go_size); have hs1 := hq1.size; have hz1w1 : w.heap.size + 1 < w1.heap.size := (by have := hb1.size; (try simp at this); omega); have hz1w0 : w.heap.size < w1.heap.size := (by have := hb1.size; (try simp at this); omega))
    | (go_at_call 34; refine (choose_any b t hb ht _).mono ?_; rintro e w2 ⟨rfl, hb2⟩; obtain ⟨hc2, hf2⟩ := bcell hb2; have hq2 : Below w.heap.size w w2 := (by refine Below.trans ?_ (hb2.mono ?_); exact (by repeat' (first | (with_reducible exact Below.refl _ _) | (with_reducible assumption) | (with_reducible refine Below.alloc ?_ ?_ _) | (with_reducible refine Below.setCell ?_ ?_ _) | (with_reducible refine Below.drew ?_) | (with_reducible refine below_drewN ?_ _) | go_size)); go_size); have hs2 := hq2.size; have hz2w1 : w.heap.size + 1 < w2.heap.size := (by have := hb2.size; (try simp at this); omega); have hz2w0 : w.heap.size < w2.heap.size := (by have := hb2.size; (try simp at this); omega))
    | (go_at_call 35; refine (shift_any _ (by omega) _).mono ?_; rintro e w' ⟨rfl, rfl⟩))
  go_region
  go_wp2
  refine bodyPost_ret (v := .tuple #[.agg #[.int .u64 (fB b t : Nat), .int .u64 (fT b t : Nat), .int .u64 (ex b t : Nat)], .bool (eq2 (kb b t) (kt b t) b t)]) (by simp [results, Try.results18, go_sem, (bcell hb1).1, hz1w0, hz1w1, (bcell hb2).1, hz2w0, hz2w1, fB_bits b t hb ht, fT_bits b t hb ht]) rfl ⟨rfl, (by repeat' (first | (with_reducible exact Below.refl _ _) | (with_reducible assumption) | (with_reducible refine Below.alloc ?_ ?_ _) | (with_reducible refine Below.setCell ?_ ?_ _) | (with_reducible refine Below.drew ?_) | (with_reducible refine below_drewN ?_ _) | go_size))⟩
end Go.Proofs.Ytinckicchakifaa
