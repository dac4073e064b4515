/-
  Contract of the reference's Rounded: of every span.
-/
import Derived.Test.YtcpamlnlolidkaaTC
set_option linter.unusedSimpArgs false
namespace Go.Proofs.Ytcpamlnlolidkaa
open Go.RowKit Go.Sort

theorem rk_no {b t k : Nat} (hb : b ≤ t) (h : k < ex b t) : rk b t k = false := by
  by_cases hn : t - b < 4096
  · rw [ex_zero hn] at h; omega
  · rw [rk_def]
    by_cases h0 : k = 0
    · rw [if_pos h0]; simpa using hn
    · rw [if_neg h0]
      have := ex_least hb (by omega) k (by omega) h
      rw [decide_eq_false (by omega : ¬ stp b t (k - 1) < 8192), Bool.and_false]
theorem rk_yes {b t : Nat} (hb : b ≤ t) : rk b t (ex b t) = true := by
  by_cases hn : t - b < 4096
  · rw [ex_zero hn, rk_def, if_pos rfl]; simpa using hn
  · obtain ⟨h1, h2, h3⟩ := ex_pos_steps hb (by omega)
    rw [rk_def, if_neg (by omega), decide_eq_true h2, decide_eq_true h3]; rfl
theorem kb_fl (b t : Nat) : fl b (ex b t - 1) = kb b t := by rw [fl_def, kb_def]
theorem kt_ce (b t : Nat) : ce t (ex b t - 1) = kt b t := by rw [ce_def, kt_def]

theorem rrounded_no (b t : Nat) (h : ¬ (b ≤ t ∧ t ≤ 281474976710656)) (w : World) :
    Calls Try.prog 56 #[.agg #[.int .u64 b, .int .u64 t]] w fun r w' =>
      r = .returned (.tuple #[.agg #[.int .u64 0, .int .u64 0], .bool false]) ∧ Below w.heap.size w w' := by
  go_enter Try.func56, Try.ntmps56
  go_wp2
  refine wp_loop_rounds 1 ?_
  rw [rounds_succ]
  go_wp2_with (go_at_call 80; refine (rmay_no b t h _).mono ?_; rintro e w1 ⟨rfl, hb1⟩; obtain ⟨hc1, hf1⟩ := bcell hb1; have hq1 : Below w.heap.size w w1 := (by refine Below.trans ?_ (hb1.mono ?_); exact (by repeat' (first | (with_reducible exact Below.refl _ _) | (with_reducible assumption) | (with_reducible refine Below.alloc ?_ ?_ _) | (with_reducible refine Below.setCell ?_ ?_ _) | (with_reducible refine Below.drew ?_) | (with_reducible refine below_drewN ?_ _) | go_size)); go_size); have hs1 := hq1.size; have hz1w1 : w.heap.size + 1 < w1.heap.size := (by have := hb1.size; (try simp at this); omega); have hz1w0 : w.heap.size < w1.heap.size := (by have := hb1.size; (try simp at this); omega))
  refine bodyPost_ret (v := .tuple #[.agg #[.int .u64 0, .int .u64 0], .bool false]) (by simp [results, Try.results56, go_sem, hc1, hz1w0, hz1w1]) rfl ⟨rfl, (by repeat' (first | (with_reducible exact Below.refl _ _) | (with_reducible assumption) | (with_reducible refine Below.alloc ?_ ?_ _) | (with_reducible refine Below.setCell ?_ ?_ _) | (with_reducible refine Below.drew ?_) | (with_reducible refine below_drewN ?_ _) | go_size))⟩
theorem rencode_no (b t : Nat) (h : ¬ (b ≤ t ∧ t ≤ 281474976710656)) (w : World) :
    Calls Try.prog 82 #[.agg #[.int .u64 b, .int .u64 t]] w fun r w' =>
      r = .returned (.tuple #[.agg #[.int .u64 0, .int .u64 0, .int .u64 0], .bool false]) ∧ Below w.heap.size w w' := by
  go_enter Try.func82, Try.ntmps82
  go_wp2
  refine wp_loop_rounds 1 ?_
  rw [rounds_succ]
  go_wp2_with (go_at_call 80; refine (rmay_no b t h _).mono ?_; rintro e w1 ⟨rfl, hb1⟩; obtain ⟨hc1, hf1⟩ := bcell hb1; have hq1 : Below w.heap.size w w1 := (by refine Below.trans ?_ (hb1.mono ?_); exact (by repeat' (first | (with_reducible exact Below.refl _ _) | (with_reducible assumption) | (with_reducible refine Below.alloc ?_ ?_ _) | (with_reducible refine Below.setCell ?_ ?_ _) | (with_reducible refine Below.drew ?_) | (with_reducible refine below_drewN ?_ _) | go_size)); go_size); have hs1 := hq1.size; have hz1w1 : w.heap.size + 1 < w1.heap.size := (by have := hb1.size; (try simp at this); omega); have hz1w0 : w.heap.size < w1.heap.size := (by have := hb1.size; (try simp at this); omega))
  refine bodyPost_ret (v := .tuple #[.agg #[.int .u64 0, .int .u64 0, .int .u64 0], .bool false]) (by simp [results, Try.results82, go_sem, hc1, hz1w0, hz1w1]) rfl ⟨rfl, (by repeat' (first | (with_reducible exact Below.refl _ _) | (with_reducible assumption) | (with_reducible refine Below.alloc ?_ ?_ _) | (with_reducible refine Below.setCell ?_ ?_ _) | (with_reducible refine Below.drew ?_) | (with_reducible refine below_drewN ?_ _) | go_size))⟩

theorem rrounded_yes (b t : Nat) (hb : b ≤ t) (ht : t ≤ 281474976710656) (w : World) :
    Calls Try.prog 56 #[.agg #[.int .u64 b, .int .u64 t]] w fun r w' =>
      r = .returned (.tuple #[.agg #[.int .u64 (kb b t : Nat), .int .u64 (kt b t : Nat)], .bool true]) ∧ Below w.heap.size w w' := by
  have hle := ex_le hb ht
  go_enter Try.func56, Try.ntmps56
  go_wp2
  go_loopw [4] (fun v wr => ∃ k : Nat, k ≤ ex b t ∧ v = .int .u64 k ∧ Below w.heap.size w wr ∧ w.heap.size + 1 < wr.heap.size ∧ w.heap.size < wr.heap.size ∧
      wr.cell? ⟨w.heap.size, 0, none⟩ = some (.int .u64 b) ∧ wr.cell? ⟨w.heap.size, 1, none⟩ = some (.int .u64 t) ∧
      wr.cell? ⟨w.heap.size + 1, 0, none⟩ = some (.int .u64 0) ∧ wr.cell? ⟨w.heap.size + 1, 1, none⟩ = some (.int .u64 0) ∧
      wr.frozen? ⟨w.heap.size + 1, 0, none⟩ = false ∧ wr.frozen? ⟨w.heap.size + 1, 1, none⟩ = false)
    (fun v _ => 40 - (intOf v).toNat)
  case atStart => exact ⟨0, Nat.zero_le _, rfl, (by repeat' (first | (with_reducible exact Below.refl _ _) | (with_reducible assumption) | (with_reducible refine Below.alloc ?_ ?_ _) | (with_reducible refine Below.setCell ?_ ?_ _) | (with_reducible refine Below.drew ?_) | (with_reducible refine below_drewN ?_ _) | go_size)), by simp, by simp; omega, by simp [go_sem], by simp [go_sem], by simp [go_sem], by simp [go_sem], by simp [go_sem], by simp [go_sem]⟩
  case round =>
    obtain ⟨k, hk, rfl, hB, hz1, hz0, c0, c1, c2, c3, f2, f3⟩ := hrel
    have hg : decide ((k : Int) ≤ 37) = true := by simp; omega
    by_cases hlt : k < ex b t
    · have hno := rk_no hb hlt
      have hkept := rkept_any b t k hb ht (by omega)
      rw [hno] at hkept
      clear hno
      have HK := Lib.hid hkept; clear hkept
      go_wp2_with (first
        | (go_at_call 80; refine (rmay_yes b t hb ht _).mono ?_; rintro e w1 ⟨rfl, hb1⟩; obtain ⟨hc1, hf1⟩ := bcell hb1; have hq1 : Below w.heap.size w w1 := (by refine Below.trans ?_ (hb1.mono ?_); exact (by repeat' (first | (with_reducible exact Below.refl _ _) | (with_reducible assumption) | (with_reducible refine Below.alloc ?_ ?_ _) | (with_reducible refine Below.setCell ?_ ?_ _) | (with_reducible refine Below.drew ?_) | (with_reducible refine below_drewN ?_ _) | go_size)); go_size); have hs1 := hq1.size; have hz1w1 : w.heap.size + 1 < w1.heap.size := (by have := hb1.size; (try simp at this); omega); have hz1w0 : w.heap.size < w1.heap.size := (by have := hb1.size; (try simp at this); omega))
        | (go_at_call 81; refine (HK.out _).mono ?_; rintro e w2 ⟨rfl, hb2⟩; obtain ⟨hc2, hf2⟩ := bcell hb2; have hq2 : Below w.heap.size w w2 := (by refine Below.trans ?_ (hb2.mono ?_); exact (by repeat' (first | (with_reducible exact Below.refl _ _) | (with_reducible assumption) | (with_reducible refine Below.alloc ?_ ?_ _) | (with_reducible refine Below.setCell ?_ ?_ _) | (with_reducible refine Below.drew ?_) | (with_reducible refine below_drewN ?_ _) | go_size)); go_size); have hs2 := hq2.size; have hz2w1 : w.heap.size + 1 < w2.heap.size := (by have := hb2.size; (try simp at this); omega); have hz2w0 : w.heap.size < w2.heap.size := (by have := hb2.size; (try simp at this); omega)))
      go_roundw
      case rel => exact ⟨k + 1, by omega, by go_num, (by repeat' (first | (with_reducible exact Below.refl _ _) | (with_reducible assumption) | (with_reducible refine Below.alloc ?_ ?_ _) | (with_reducible refine Below.setCell ?_ ?_ _) | (with_reducible refine Below.drew ?_) | (with_reducible refine below_drewN ?_ _) | go_size)), by first | go_size | (simp; omega), by first | go_size | (simp; omega), by simp [go_sem, *], by simp [go_sem, *], by simp [go_sem, *], by simp [go_sem, *], by simp [go_sem, *], by simp [go_sem, *]⟩
      case measure => simp [intOf]; omega
    · obtain rfl : k = ex b t := by omega
      have hkept := rkept_any b t (ex b t) hb ht (by omega)
      rw [rk_yes hb, kb_fl, kt_ce] at hkept
      have HK := Lib.hid hkept; clear hkept
      go_wp2_with (first
        | (go_at_call 80; refine (rmay_yes b t hb ht _).mono ?_; rintro e w1 ⟨rfl, hb1⟩; obtain ⟨hc1, hf1⟩ := bcell hb1; have hq1 : Below w.heap.size w w1 := (by refine Below.trans ?_ (hb1.mono ?_); exact (by repeat' (first | (with_reducible exact Below.refl _ _) | (with_reducible assumption) | (with_reducible refine Below.alloc ?_ ?_ _) | (with_reducible refine Below.setCell ?_ ?_ _) | (with_reducible refine Below.drew ?_) | (with_reducible refine below_drewN ?_ _) | go_size)); go_size); have hs1 := hq1.size; have hz1w1 : w.heap.size + 1 < w1.heap.size := (by have := hb1.size; (try simp at this); omega); have hz1w0 : w.heap.size < w1.heap.size := (by have := hb1.size; (try simp at this); omega))
        | (go_at_call 81; refine (HK.out _).mono ?_; rintro e w2 ⟨rfl, hb2⟩; obtain ⟨hc2, hf2⟩ := bcell hb2; have hq2 : Below w.heap.size w w2 := (by refine Below.trans ?_ (hb2.mono ?_); exact (by repeat' (first | (with_reducible exact Below.refl _ _) | (with_reducible assumption) | (with_reducible refine Below.alloc ?_ ?_ _) | (with_reducible refine Below.setCell ?_ ?_ _) | (with_reducible refine Below.drew ?_) | (with_reducible refine below_drewN ?_ _) | go_size)); go_size); have hs2 := hq2.size; have hz2w1 : w.heap.size + 1 < w2.heap.size := (by have := hb2.size; (try simp at this); omega); have hz2w0 : w.heap.size < w2.heap.size := (by have := hb2.size; (try simp at this); omega)))
      refine bodyPost_ret (v := .tuple #[.agg #[.int .u64 (kb b t : Nat), .int .u64 (kt b t : Nat)], .bool true]) (by simp [results, Try.results56, go_sem, *]) rfl ⟨rfl, (by repeat' (first | (with_reducible exact Below.refl _ _) | (with_reducible assumption) | (with_reducible refine Below.alloc ?_ ?_ _) | (with_reducible refine Below.setCell ?_ ?_ _) | (with_reducible refine Below.drew ?_) | (with_reducible refine below_drewN ?_ _) | go_size))⟩
end Go.Proofs.Ytcpamlnlolidkaa
