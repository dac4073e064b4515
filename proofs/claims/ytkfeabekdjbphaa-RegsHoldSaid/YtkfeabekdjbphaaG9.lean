
/-
  The walk of RegsSweeps.
-/
import Derived.Test.YtkfeabekdjbphaaG8
import Derived.Deep.CutRange
set_option linter.unusedSimpArgs false
set_option linter.unusedVariables false
namespace Go.Proofs.Ytkfeabekdjbphaa
open Go.RowKit Go.Sort

/-- the contract of Swept, in words of swF and swN. -/
theorem swept2 (f : Nat → Cp) (hM : ∀ i, (f i).m < 18446744073709551616) (g : Nat) (caps : Array Value) (p : Nat → Bool) (w : World) (eg : ∀ args w, (callFunc g args).run Try.prog w = .ok (.enter g args) w)
    (hG : ∀ (b : Nat) (W : World), Below w.heap.size w W → Calls Try.prog g (#[.int .u64 (b : Nat)] ++ caps) W fun r W' => r = .returned (.bool (p b)) ∧ Below W.heap.size W W') :
    Calls Try.prog 11 #[.agg (enc f), .func (.func g) #[] caps] w fun r w' => r = .returned (.tuple #[.agg (enc (swF p f)), .int .i64 (swN p f : Nat)]) ∧ Below w.heap.size w w' := by
  have h := swept_any f hM g caps p w eg hG
  rw [out_sw, cnt_sw] at h
  exact h
def rng (x y b : Nat) : Bool := decide (x ≤ b) && decide (b < y)
theorem c1_any (B x y : Nat) (b : Nat) (w : World) (h0 : w.cell? ⟨B, 0, none⟩ = some (.int .u64 (x : Nat))) (h1 : w.cell? ⟨B, 1, none⟩ = some (.int .u64 (y : Nat))) :
    Calls Try.prog 16 #[.int .u64 (b : Nat), .pointer (some ⟨B, 0, none⟩)] w fun r w' => r = .returned (.bool (rng x y b)) ∧ Below w.heap.size w w' := by
  unfold rng
  cases g1 : decide (x ≤ b)
  · go_enter Try.func16, Try.ntmps16
    go_wp2
    go_ret
    exact ⟨rfl, (by repeat' (first | (with_reducible exact Below.refl _ _) | (with_reducible assumption) | (with_reducible refine Below.alloc ?_ ?_ _) | (with_reducible refine Below.setCell ?_ ?_ _) | (with_reducible refine Below.drew ?_) | (with_reducible refine below_drewN ?_ _) | go_size))⟩
  · go_enter Try.func16, Try.ntmps16
    go_wp2
    go_ret
    exact ⟨rfl, (by repeat' (first | (with_reducible exact Below.refl _ _) | (with_reducible assumption) | (with_reducible refine Below.alloc ?_ ?_ _) | (with_reducible refine Below.setCell ?_ ?_ _) | (with_reducible refine Below.drew ?_) | (with_reducible refine below_drewN ?_ _) | go_size))⟩
theorem c2_any (B x y : Nat) (b : Nat) (w : World) (h0 : w.cell? ⟨B, 2, none⟩ = some (.int .u64 (x : Nat))) (h1 : w.cell? ⟨B, 3, none⟩ = some (.int .u64 (y : Nat))) :
    Calls Try.prog 17 #[.int .u64 (b : Nat), .pointer (some ⟨B, 0, none⟩)] w fun r w' => r = .returned (.bool (rng x y b)) ∧ Below w.heap.size w w' := by
  unfold rng
  cases g1 : decide (x ≤ b)
  · go_enter Try.func17, Try.ntmps17
    go_wp2
    go_ret
    exact ⟨rfl, (by repeat' (first | (with_reducible exact Below.refl _ _) | (with_reducible assumption) | (with_reducible refine Below.alloc ?_ ?_ _) | (with_reducible refine Below.setCell ?_ ?_ _) | (with_reducible refine Below.drew ?_) | (with_reducible refine below_drewN ?_ _) | go_size))⟩
  · go_enter Try.func17, Try.ntmps17
    go_wp2
    go_ret
    exact ⟨rfl, (by repeat' (first | (with_reducible exact Below.refl _ _) | (with_reducible assumption) | (with_reducible refine Below.alloc ?_ ?_ _) | (with_reducible refine Below.setCell ?_ ?_ _) | (with_reducible refine Below.drew ?_) | (with_reducible refine below_drewN ?_ _) | go_size))⟩
theorem c3_any (B B5 B6 x y z u : Nat) (b : Nat) (w : World) (h0 : w.cell? ⟨B, 0, none⟩ = some (.int .u64 (x : Nat))) (h1 : w.cell? ⟨B, 1, none⟩ = some (.int .u64 (y : Nat)))
    (h2 : w.cell? ⟨B, 2, none⟩ = some (.int .u64 (z : Nat))) (h3 : w.cell? ⟨B, 3, none⟩ = some (.int .u64 (u : Nat)))
    (h5 : w.cell? ⟨B5, 0, none⟩ = some (.func (.func 16) #[] #[.pointer (some ⟨B, 0, none⟩)])) (h6 : w.cell? ⟨B6, 0, none⟩ = some (.func (.func 17) #[] #[.pointer (some ⟨B, 0, none⟩)])) :
    Calls Try.prog 18 #[.int .u64 (b : Nat), .pointer (some ⟨B5, 0, none⟩), .pointer (some ⟨B6, 0, none⟩)] w fun r w' => r = .returned (.bool (rng x y b || rng z u b)) ∧ Below w.heap.size w w' := by
  have Q1 := Lib.hid (c1_any B x y b w h0 h1)
  have hz := block_lt_of_cell h0
  have hz6 := block_lt_of_cell h6
  have H2 := Lib.hid h2
  have H3 := Lib.hid h3
  have H6 := Lib.hid h6
  cases g1 : rng x y b
  · rw [g1] at Q1
    go_enter Try.func18, Try.ntmps18
    go_wp2_with (fail)
    (go_at_call 16; refine Q1.out.mono ?_; rintro e w1 ⟨rfl, hb1⟩)
    have k2 := (hb1.cell (p := ⟨B, 2, none⟩) hz).trans H2.out
    have k3 := (hb1.cell (p := ⟨B, 3, none⟩) hz).trans H3.out
    have k6 := (hb1.cell (p := ⟨B6, 0, none⟩) hz6).trans H6.out
    have Q2 := Lib.hid (c2_any B z u b w1 k2 k3)
    go_wp2_with (fail)
    (go_at_call 17; refine Q2.out.mono ?_; rintro e w2 ⟨rfl, hb2⟩)
    go_wp2
    go_ret
    exact ⟨rfl, hb1.trans (hb2.mono hb1.size)⟩
  · rw [g1] at Q1
    go_enter Try.func18, Try.ntmps18
    go_wp2_with (fail)
    (go_at_call 16; refine Q1.out.mono ?_; rintro e w1 ⟨rfl, hb1⟩)
    go_wp2
    go_ret
    exact ⟨rfl, hb1⟩
end Go.Proofs.Ytkfeabekdjbphaa
