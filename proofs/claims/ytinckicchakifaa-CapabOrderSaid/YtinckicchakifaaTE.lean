/-
  Contract of the reference's Encode, of a span that may be.
-/
import Derived.Test.YtinckicchakifaaTD
set_option linter.unusedSimpArgs false
namespace Go.Proofs.Ytinckicchakifaa
open Go.RowKit Go.Sort

theorem run_req2 (a b c d : Nat) (W : World) : (binOp .eql 34 (.agg #[.int .u64 a, .int .u64 b]) (.agg #[.int .u64 c, .int .u64 d])).run Try.prog W = .ok (.bool (eq2 a b c d)) W := by
  have e : eq2 a b c d = (decide (a = c) && decide (b = d)) := by unfold eq2; rfl
  rw [e]
  by_cases h1 : a = c
  · by_cases h2 : b = d
    · simp [go_sem, h1, h2]
    · have h2' : ¬ ((b : Int) = d) := by omega
      simp [go_sem, h1, h2, h2']
  · have h1' : ¬ ((a : Int) = c) := by omega
    simp [go_sem, h1, h1']
theorem fB_rem (b t : Nat) : (((kb b t : Nat) : Int) / 2 ^ (ex b t - 1)) % 16384 = ((fB b t : Nat) : Int) := by
  have e : fB b t = qd b (ex b t - 1) % 16384 := by unfold fB; rfl
  have e2 : (2 : Int) ^ (ex b t - 1) = ((2 ^ (ex b t - 1) : Nat) : Int) := by simp
  rw [e, kb_def, e2, ← Int.natCast_ediv, Nat.mul_div_cancel _ (pow_pos2 _)]
  omega
theorem fT_rem (b t : Nat) : (((kt b t : Nat) : Int) / 2 ^ (ex b t - 1)) % 4096 = ((fT b t : Nat) : Int) := by
  have e : fT b t = qu t (ex b t - 1) % 4096 := by unfold fT; rfl
  have e2 : (2 : Int) ^ (ex b t - 1) = ((2 ^ (ex b t - 1) : Nat) : Int) := by simp
  rw [e, kt_def, e2, ← Int.natCast_ediv, Nat.mul_div_cancel _ (pow_pos2 _)]
  omega

theorem div_nonneg (a x : Nat) : (0 : Int) ≤ (a : Int) / 2 ^ x := by
  have e2 : (2 : Int) ^ x = ((2 ^ x : Nat) : Int) := by simp
  rw [e2, ← Int.natCast_ediv]; exact Int.natCast_nonneg _
theorem fB_tmod (b t : Nat) : (((kb b t : Nat) : Int) / 2 ^ (ex b t - 1)).tmod 16384 = ((fB b t : Nat) : Int) := by
  rw [Int.tmod_eq_emod_of_nonneg (div_nonneg _ _), fB_rem]
theorem fT_tmod (b t : Nat) : (((kt b t : Nat) : Int) / 2 ^ (ex b t - 1)).tmod 4096 = ((fT b t : Nat) : Int) := by
  rw [Int.tmod_eq_emod_of_nonneg (div_nonneg _ _), fT_rem]

theorem rencode_yes (b t : Nat) (hb : b ≤ t) (ht : t ≤ 281474976710656) (w : World) :
    Calls Try.prog 28 #[.agg #[.int .u64 b, .int .u64 t]] w fun r w' =>
      r = .returned (.tuple #[.agg #[.int .u64 (fB b t : Nat), .int .u64 (fT b t : Nat), .int .u64 (ex b t : Nat)], .bool (eq2 (kb b t) (kt b t) b t)]) ∧ Below w.heap.size w w' := by
  have hle := ex_le hb ht
  go_enter Try.func28, Try.ntmps28
  go_wp2
  go_loopw [4] (fun v wr => ∃ k : Nat, k ≤ ex b t ∧ v = .int .u64 k ∧ Below w.heap.size w wr ∧ w.heap.size + 1 < wr.heap.size ∧ w.heap.size < wr.heap.size ∧
      wr.cell? ⟨w.heap.size, 0, none⟩ = some (.int .u64 b) ∧ wr.cell? ⟨w.heap.size, 1, none⟩ = some (.int .u64 t) ∧
      wr.cell? ⟨w.heap.size + 1, 0, none⟩ = some (.int .u64 0) ∧ wr.cell? ⟨w.heap.size + 1, 1, none⟩ = some (.int .u64 0) ∧ wr.cell? ⟨w.heap.size + 1, 2, none⟩ = some (.int .u64 0) ∧
      wr.frozen? ⟨w.heap.size + 1, 0, none⟩ = false ∧ wr.frozen? ⟨w.heap.size + 1, 1, none⟩ = false ∧ wr.frozen? ⟨w.heap.size + 1, 2, none⟩ = false)
    (fun v _ => 40 - (intOf v).toNat)
  case atStart => exact ⟨0, Nat.zero_le _, rfl, (by repeat' (first | (with_reducible exact Below.refl _ _) | (with_reducible assumption) | (with_reducible refine Below.alloc ?_ ?_ _) | (with_reducible refine Below.setCell ?_ ?_ _) | (with_reducible refine Below.drew ?_) | (with_reducible refine below_drewN ?_ _) | go_size)), by simp, by simp; omega, by simp [go_sem], by simp [go_sem], by simp [go_sem], by simp [go_sem], by simp [go_sem], by simp [go_sem], by simp [go_sem], by simp [go_sem]⟩
  case round =>
    obtain ⟨k, hk, rfl, hB, hz1, hz0, c0, c1, c2, c3, c4, f2, f3, f4⟩ := hrel
    have hg : decide ((k : Int) ≤ 37) = true := by simp; omega
    by_cases hlt : k < ex b t
    · have hno := rk_no hb hlt
      have hkept := rkept_any b t k hb ht (by omega)
      rw [hno] at hkept
      clear hno
      have HK := Lib.hid hkept; clear hkept
      go_wp2_with (first
        | (go_at_call 40; refine (rmay_yes b t hb ht _).mono ?_; rintro e w1 ⟨rfl, hb1⟩; obtain ⟨hc1, hf1⟩ := bcell hb1; have hq1 : Below w.heap.size w w1 := (by refine Below.trans ?_ (hb1.mono ?_); exact (by repeat' (first | (with_reducible exact Below.refl _ _) | (with_reducible assumption) | (with_reducible refine Below.alloc ?_ ?_ _) | (with_reducible refine Below.setCell ?_ ?_ _) | (with_reducible refine Below.drew ?_) | (with_reducible refine below_drewN ?_ _) | go_size)); go_size); have hs1 := hq1.size; have hz1w1 : w.heap.size + 1 < w1.heap.size := (by have := hb1.size; (try simp at this); omega); have hz1w0 : w.heap.size < w1.heap.size := (by have := hb1.size; (try simp at this); omega))
        | (go_at_call 41; refine (HK.out _).mono ?_; rintro e w2 ⟨rfl, hb2⟩; obtain ⟨hc2, hf2⟩ := bcell hb2; have hq2 : Below w.heap.size w w2 := (by refine Below.trans ?_ (hb2.mono ?_); exact (by repeat' (first | (with_reducible exact Below.refl _ _) | (with_reducible assumption) | (with_reducible refine Below.alloc ?_ ?_ _) | (with_reducible refine Below.setCell ?_ ?_ _) | (with_reducible refine Below.drew ?_) | (with_reducible refine below_drewN ?_ _) | go_size)); go_size); have hs2 := hq2.size; have hz2w1 : w.heap.size + 1 < w2.heap.size := (by have := hb2.size; (try simp at this); omega); have hz2w0 : w.heap.size < w2.heap.size := (by have := hb2.size; (try simp at this); omega)))
      go_roundw
      case rel => exact ⟨k + 1, by omega, by go_num, (by repeat' (first | (with_reducible exact Below.refl _ _) | (with_reducible assumption) | (with_reducible refine Below.alloc ?_ ?_ _) | (with_reducible refine Below.setCell ?_ ?_ _) | (with_reducible refine Below.drew ?_) | (with_reducible refine below_drewN ?_ _) | go_size)), by first | go_size | (simp; omega), by first | go_size | (simp; omega), by simp [go_sem, *], by simp [go_sem, *], by simp [go_sem, *], by simp [go_sem, *], by simp [go_sem, *], by simp [go_sem, *], by simp [go_sem, *], by simp [go_sem, *]⟩
      case measure => simp [intOf]; omega
    · obtain rfl : k = ex b t := by omega
      have hkept := rkept_any b t (ex b t) hb ht (by omega)
      rw [rk_yes hb, kb_fl, kt_ce] at hkept
      have HK := Lib.hid hkept; clear hkept
      go_wp2_with (first
        | (go_at_call 40; refine (rmay_yes b t hb ht _).mono ?_; rintro e w1 ⟨rfl, hb1⟩; obtain ⟨hc1, hf1⟩ := bcell hb1; have hq1 : Below w.heap.size w w1 := (by refine Below.trans ?_ (hb1.mono ?_); exact (by repeat' (first | (with_reducible exact Below.refl _ _) | (with_reducible assumption) | (with_reducible refine Below.alloc ?_ ?_ _) | (with_reducible refine Below.setCell ?_ ?_ _) | (with_reducible refine Below.drew ?_) | (with_reducible refine below_drewN ?_ _) | go_size)); go_size); have hs1 := hq1.size; have hz1w1 : w.heap.size + 1 < w1.heap.size := (by have := hb1.size; (try simp at this); omega); have hz1w0 : w.heap.size < w1.heap.size := (by have := hb1.size; (try simp at this); omega))
        | (go_at_call 41; refine (HK.out _).mono ?_; rintro e w2 ⟨rfl, hb2⟩; obtain ⟨hc2, hf2⟩ := bcell hb2; have hq2 : Below w.heap.size w w2 := (by refine Below.trans ?_ (hb2.mono ?_); exact (by repeat' (first | (with_reducible exact Below.refl _ _) | (with_reducible assumption) | (with_reducible refine Below.alloc ?_ ?_ _) | (with_reducible refine Below.setCell ?_ ?_ _) | (with_reducible refine Below.drew ?_) | (with_reducible refine below_drewN ?_ _) | go_size)); go_size); have hs2 := hq2.size; have hz2w1 : w.heap.size + 1 < w2.heap.size := (by have := hb2.size; (try simp at this); omega); have hz2w0 : w.heap.size < w2.heap.size := (by have := hb2.size; (try simp at this); omega))
        | (go_at_call 42; refine (rexp_any _ (by omega) _).mono ?_; rintro e w' ⟨rfl, rfl⟩))
      have hcmp := run_req2 (kb b t) (kt b t) b t
      have q1 := fB_tmod b t
      have q2 := fT_tmod b t
      go_region
      go_wp2
      refine bodyPost_ret (v := .tuple #[.agg #[.int .u64 (fB b t : Nat), .int .u64 (fT b t : Nat), .int .u64 (ex b t : Nat)], .bool (eq2 (kb b t) (kt b t) b t)]) (by simp [results, Try.results28, go_sem, (bcell hb1).1, (bcell hb2).1, q1, q2, *]) rfl ⟨rfl, (by repeat' (first | (with_reducible exact Below.refl _ _) | (with_reducible assumption) | (with_reducible refine Below.alloc ?_ ?_ _) | (with_reducible refine Below.setCell ?_ ?_ _) | (with_reducible refine Below.drew ?_) | (with_reducible refine below_drewN ?_ _) | go_size))⟩
end Go.Proofs.Ytinckicchakifaa
