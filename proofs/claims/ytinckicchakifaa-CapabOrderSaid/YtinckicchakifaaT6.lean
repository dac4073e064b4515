/-
  Contract of bounds.choose: the E that keeps a span that may be, and what it keeps.
-/
import Derived.Test.YtinckicchakifaaT5
set_option linter.unusedSimpArgs false
namespace Go.Proofs.Ytinckicchakifaa
open Go.RowKit

theorem choose_any (b t : Nat) (hb : b ≤ t) (ht : t ≤ 281474976710656) (w : World) :
    Calls Try.prog 34 #[.agg #[.int .u64 b, .int .u64 t]] w fun r w' =>
      r = .returned (.tuple #[.int .u64 (ex b t : Nat), .agg #[.int .u64 (kb b t : Nat), .int .u64 (kt b t : Nat)]]) ∧ Below w.heap.size w w' := by
  by_cases hn : t - b < 4096
  · have e0 := ex_zero hn
    have e1 : kb b t = b := by unfold kb; rw [e0]; simp [qd_def]
    have e2 : kt b t = t := by unfold kt; rw [e0]; simp [qu_def, qd_def]
    rw [e0, e1, e2]
    clear e0 e1 e2
    go_enter Try.func34, Try.ntmps34
    go_wp2
    go_region
    go_wp2
    refine bodyPost_ret (v := .tuple #[.int .u64 (0 : Nat), .agg #[.int .u64 b, .int .u64 t]]) (by simp [results, Try.results34, go_sem]) rfl ⟨rfl, (by repeat' (first | (with_reducible exact Below.refl _ _) | (with_reducible assumption) | (with_reducible refine Below.alloc ?_ ?_ _) | (with_reducible refine Below.setCell ?_ ?_ _) | (with_reducible refine Below.drew ?_) | (with_reducible refine below_drewN ?_ _) | go_size))⟩
  · have h12 := log2_ge (n := t - b) (by omega)
    have h48 : Nat.log2 (t - b) < 49 := (Nat.log2_lt (by omega)).2 (by omega)
    have hlog : ∀ W, Calls Try.prog 46 #[.int .u64 ((t : Int) - (b : Int))] W fun e w' => e = .returned (.int .i64 (Nat.log2 (t - b) : Nat)) ∧ ∃ k, w' = W.drewN k := by
      intro W
      rw [show (t : Int) - (b : Int) = ((t - b : Nat) : Int) from by omega]
      exact log_any (t - b) (by omega) (by omega) W
    have hex : ex b t = if stp b t (Nat.log2 (t - b) - 12) < 8192 then Nat.log2 (t - b) - 12 + 1 else Nat.log2 (t - b) - 12 + 2 := by
      unfold ex; rw [if_neg hn]
    generalize Nat.log2 (t - b) = L at *
    obtain ⟨x, hx⟩ : ∃ x, x = L - 12 := ⟨_, rfl⟩
    rw [← hx] at hex
    have HL := Lib.hid hlog; clear hlog
    have E12 : Hid ((L : Int) - 12 = (x : Int)) := Lib.hid (by omega)
    have hx2 : x < 37 := by omega
    clear hx
    have hnI : decide ((t : Int) - (b : Int) < 4096) = false := by simp; omega
    clear hn
    by_cases hs : stp b t x < 8192
    · rw [if_pos hs] at hex
      have hk1 : kb b t = fl b x := by rw [kb_def, hex, fl_def]; rfl
      have hk2 : kt b t = ce t x := by rw [kt_def, hex, ce_def]; rfl
      rw [hex, hk1, hk2]
      have hsI : decide ((8192 : Int) ≤ ((stp b t x : Nat) : Int)) = false := by simp; omega
      clear hex hk1 hk2 hs
      go_enter Try.func34, Try.ntmps34
      go_wp2_with (first
        | (go_at_call 46; refine (HL.out _).mono ?_; rintro e w' ⟨rfl, k1, rfl⟩)
        | (go_at_call 47; rw [E12.out]; (go_at_call 47; refine (kept_any _ _ x hb ht (by omega) _).mono ?_; rintro e w1 ⟨rfl, hb1⟩; obtain ⟨hc1, hf1⟩ := bcell hb1; have hq1 : Below w.heap.size w w1 := (by refine Below.trans ?_ (hb1.mono ?_); exact (by repeat' (first | (with_reducible exact Below.refl _ _) | (with_reducible assumption) | (with_reducible refine Below.alloc ?_ ?_ _) | (with_reducible refine Below.setCell ?_ ?_ _) | (with_reducible refine Below.drew ?_) | (with_reducible refine below_drewN ?_ _) | go_size)); go_size); have hs1 := hq1.size; have hz1w1 : w.heap.size + 1 < w1.heap.size := (by have := hb1.size; (try simp at this); omega); have hz1w0 : w.heap.size < w1.heap.size := (by have := hb1.size; (try simp at this); omega))))
      have e1 : IntKind.u64.wrap ((x : Int) + 1) = x + 1 := by rw [IntKind.wrap_u64]; omega
      go_region
      clear e1
      go_wp2
      obtain ⟨hc1, hf1⟩ := bcell hb1
      refine bodyPost_ret (v := .tuple #[.int .u64 (x + 1 : Nat), .agg #[.int .u64 (fl b x : Nat), .int .u64 (ce t x : Nat)]]) (by simp [results, Try.results34, go_sem, hc1, hz1w0, hz1w1]) rfl ⟨rfl, (by repeat' (first | (with_reducible exact Below.refl _ _) | (with_reducible assumption) | (with_reducible refine Below.alloc ?_ ?_ _) | (with_reducible refine Below.setCell ?_ ?_ _) | (with_reducible refine Below.drew ?_) | (with_reducible refine below_drewN ?_ _) | go_size))⟩
    · rw [if_neg hs] at hex
      have hk1 : kb b t = fl b (x + 1) := by rw [kb_def, hex, fl_def]; rfl
      have hk2 : kt b t = ce t (x + 1) := by rw [kt_def, hex, ce_def]; rfl
      rw [hex, hk1, hk2]
      have hsI : decide ((8192 : Int) ≤ ((stp b t x : Nat) : Int)) = true := by simp; omega
      clear hex hk1 hk2 hs
      go_enter Try.func34, Try.ntmps34
      go_wp2_with (first
        | (go_at_call 46; refine (HL.out _).mono ?_; rintro e w' ⟨rfl, k1, rfl⟩)
        | (go_at_call 47; rw [E12.out]; (go_at_call 47; refine (kept_any _ _ x hb ht (by omega) _).mono ?_; rintro e w1 ⟨rfl, hb1⟩; obtain ⟨hc1, hf1⟩ := bcell hb1; have hq1 : Below w.heap.size w w1 := (by refine Below.trans ?_ (hb1.mono ?_); exact (by repeat' (first | (with_reducible exact Below.refl _ _) | (with_reducible assumption) | (with_reducible refine Below.alloc ?_ ?_ _) | (with_reducible refine Below.setCell ?_ ?_ _) | (with_reducible refine Below.drew ?_) | (with_reducible refine below_drewN ?_ _) | go_size)); go_size); have hs1 := hq1.size; have hz1w1 : w.heap.size + 1 < w1.heap.size := (by have := hb1.size; (try simp at this); omega); have hz1w0 : w.heap.size < w1.heap.size := (by have := hb1.size; (try simp at this); omega)))
        | (go_at_call 47; refine (kept_any _ _ (x + 1) hb ht (by omega) _).mono ?_; rintro e w2 ⟨rfl, hb2⟩; obtain ⟨hc2, hf2⟩ := bcell hb2; have hq2 : Below w.heap.size w w2 := (by refine Below.trans ?_ (hb2.mono ?_); exact (by repeat' (first | (with_reducible exact Below.refl _ _) | (with_reducible assumption) | (with_reducible refine Below.alloc ?_ ?_ _) | (with_reducible refine Below.setCell ?_ ?_ _) | (with_reducible refine Below.drew ?_) | (with_reducible refine below_drewN ?_ _) | go_size)); go_size); have hs2 := hq2.size; have hz2w10 : w1.heap.size < w2.heap.size := (by have := hb2.size; (try simp at this); omega); have hz2w1 : w.heap.size + 1 < w2.heap.size := (by have := hb2.size; (try simp at this); omega); have hz2w0 : w.heap.size < w2.heap.size := (by have := hb2.size; (try simp at this); omega)))
      have e1 : IntKind.u64.wrap ((x : Int) + 1 + 1) = x + 2 := by rw [IntKind.wrap_u64]; omega
      go_region
      clear e1
      go_wp2
      obtain ⟨hc1, hf1⟩ := bcell hb1
      obtain ⟨hc2, hf2⟩ := bcell hb2
      refine bodyPost_ret (v := .tuple #[.int .u64 (x + 2 : Nat), .agg #[.int .u64 (fl b (x + 1) : Nat), .int .u64 (ce t (x + 1) : Nat)]]) (by simp [results, Try.results34, go_sem, hc1, hz1w0, hz1w1, hc2, hz2w10, hz2w1]) rfl ⟨rfl, (by repeat' (first | (with_reducible exact Below.refl _ _) | (with_reducible assumption) | (with_reducible refine Below.alloc ?_ ?_ _) | (with_reducible refine Below.setCell ?_ ?_ _) | (with_reducible refine Below.drew ?_) | (with_reducible refine below_drewN ?_ _) | go_size))⟩
end Go.Proofs.Ytinckicchakifaa
