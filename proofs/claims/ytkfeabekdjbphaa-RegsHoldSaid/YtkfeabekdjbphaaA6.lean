
/-
  Contracts of algebra.Base, Top, Length, Offset, Under: of any capability.
-/
import Derived.Test.YtkfeabekdjbphaaA3
set_option linter.unusedSimpArgs false
set_option linter.unusedVariables false
namespace Go.Proofs.Ytkfeabekdjbphaa
open Go.RowKit Go.Sort

theorem ends_base (B T : Nat) (w : World) : Calls Try.prog 36 #[.agg #[.int .u64 (B : Nat), .int .u64 (T : Nat)]] w fun r w' => r = .returned (.int .u64 (B : Nat)) ∧ Below w.heap.size w w' := by
  go_enter Try.func36, Try.ntmps36
  go_wp2
  go_ret
  exact ⟨rfl, (by repeat' (first | (with_reducible exact Below.refl _ _) | (with_reducible assumption) | (with_reducible refine Below.alloc ?_ ?_ _) | (with_reducible refine Below.setCell ?_ ?_ _) | (with_reducible refine Below.drew ?_) | (with_reducible refine below_drewN ?_ _) | go_size))⟩
theorem ends_length (B T n : Nat) (h : IntKind.u64.wrap ((T : Int) - B) = (n : Int)) (w : World) : Calls Try.prog 30 #[.agg #[.int .u64 (B : Nat), .int .u64 (T : Nat)]] w fun r w' => r = .returned (.int .u64 (n : Nat)) ∧ Below w.heap.size w w' := by
  go_enter Try.func30, Try.ntmps30
  go_wp2
  go_ret
  exact ⟨rfl, (by repeat' (first | (with_reducible exact Below.refl _ _) | (with_reducible assumption) | (with_reducible refine Below.alloc ?_ ?_ _) | (with_reducible refine Below.setCell ?_ ?_ _) | (with_reducible refine Below.drew ?_) | (with_reducible refine below_drewN ?_ _) | go_size))⟩
theorem told1_base (B T n b : Nat) (q : ∀ w, Calls Try.prog 36 #[.agg #[.int .u64 (B : Nat), .int .u64 (T : Nat)]] w fun r w' => r = .returned (.int .u64 (n : Nat)) ∧ Below w.heap.size w w') (w : World) (hb : b < w.heap.size) (hc : w.cell? ⟨b, 0, none⟩ = some (.func (.func 36) #[] #[])) :
    Calls Try.prog 35 #[.agg #[.int .u64 (B : Nat), .int .u64 (T : Nat)], .pointer (some ⟨b, 0, none⟩)] w fun r w' => r = .returned (.int .u64 (n : Nat)) ∧ Below w.heap.size w w' := by
  have Q := Lib.hid q; clear q
  go_enter Try.func35, Try.ntmps35
  go_wp2_with (fail)
  (go_at_call 36; refine (Q.out _).mono ?_; rintro e w1 ⟨rfl, hb1⟩; obtain ⟨hc1, hf1⟩ := bcell hb1; have hq1 : Below w.heap.size w w1 := (by refine Below.trans ?_ (hb1.mono ?_); exact (by repeat' (first | (with_reducible exact Below.refl _ _) | (with_reducible assumption) | (with_reducible refine Below.alloc ?_ ?_ _) | (with_reducible refine Below.setCell ?_ ?_ _) | (with_reducible refine Below.drew ?_) | (with_reducible refine below_drewN ?_ _) | go_size)); go_size); have hs1 := hq1.size; have hz1w0 : w.heap.size < w1.heap.size := (by have := hb1.size; (try simp at this); omega))
  go_wp2
  go_ret
  exact ⟨rfl, (by repeat' (first | (with_reducible exact Below.refl _ _) | (with_reducible assumption) | (with_reducible refine Below.alloc ?_ ?_ _) | (with_reducible refine Below.setCell ?_ ?_ _) | (with_reducible refine Below.drew ?_) | (with_reducible refine below_drewN ?_ _) | go_size))⟩
theorem seen_base (t : Bool) (m a B T p y n b : Nat) (ok : Bool) (q1 : ∀ w, Calls Try.prog 38 #[.agg #[.bool t, .int .u64 (m : Nat), .int .u64 (a : Nat)]] w fun r w' => r = .returned (.tuple #[.agg #[.int .u64 (B : Nat), .int .u64 (T : Nat), .int .u64 (p : Nat), .int .u64 (y : Nat)], .bool ok]) ∧ Below w.heap.size w w')
    (q : ∀ w, Calls Try.prog 36 #[.agg #[.int .u64 (B : Nat), .int .u64 (T : Nat)]] w fun r w' => r = .returned (.int .u64 (n : Nat)) ∧ Below w.heap.size w w') (w : World) (hb : b < w.heap.size) (hc : w.cell? ⟨b, 0, none⟩ = some (.func (.func 36) #[] #[])) :
    Calls Try.prog 34 #[.agg #[.bool t, .int .u64 (m : Nat), .int .u64 (a : Nat)], .func (.func 35) #[] #[.pointer (some ⟨b, 0, none⟩)]] w fun r w' => r = .returned (.int .u64 (n : Nat)) ∧ Below w.heap.size w w' := by
  have Q1 := Lib.hid q1; clear q1
  have Q := Lib.hid q; clear q
  go_enter Try.func34, Try.ntmps34
  go_wp2_with (fail)
  (go_at_call 38; refine (Q1.out _).mono ?_; rintro e w1 ⟨rfl, hb1⟩; obtain ⟨hc1, hf1⟩ := bcell hb1; have hq1 : Below w.heap.size w w1 := (by refine Below.trans ?_ (hb1.mono ?_); exact (by repeat' (first | (with_reducible exact Below.refl _ _) | (with_reducible assumption) | (with_reducible refine Below.alloc ?_ ?_ _) | (with_reducible refine Below.setCell ?_ ?_ _) | (with_reducible refine Below.drew ?_) | (with_reducible refine below_drewN ?_ _) | go_size)); go_size); have hs1 := hq1.size; have hz1w0 : w.heap.size < w1.heap.size := (by have := hb1.size; (try simp at this); omega))
  have hbw : b < w1.heap.size := Nat.lt_trans hb hz1w0
  have x1 : w1.cell? ⟨b, 0, none⟩ = some (.func (.func 36) #[] #[]) := by refine rd_below hb1 ?_ (rd_alloc hb hc); go_size
  go_wp2_with (fail)
  go_at_call 35
  refine (told1_base B T n b Q.out _ ?_ ?_).mono ?_
  · go_size
  · exact rd_alloc hbw x1
  rintro e w2 ⟨rfl, hb2⟩
  have hq2 : Below w.heap.size w w2 := (by refine Below.trans ?_ (hb2.mono ?_); exact (by repeat' (first | (with_reducible exact Below.refl _ _) | (with_reducible assumption) | (with_reducible refine Below.alloc ?_ ?_ _) | (with_reducible refine Below.setCell ?_ ?_ _) | (with_reducible refine Below.drew ?_) | (with_reducible refine below_drewN ?_ _) | go_size)); go_size)
  go_wp2
  go_ret
  exact ⟨rfl, hq2⟩
theorem told_base (t : Bool) (m a B T p y n : Nat) (ok : Bool) (q1 : ∀ w, Calls Try.prog 38 #[.agg #[.bool t, .int .u64 (m : Nat), .int .u64 (a : Nat)]] w fun r w' => r = .returned (.tuple #[.agg #[.int .u64 (B : Nat), .int .u64 (T : Nat), .int .u64 (p : Nat), .int .u64 (y : Nat)], .bool ok]) ∧ Below w.heap.size w w')
    (q : ∀ w, Calls Try.prog 36 #[.agg #[.int .u64 (B : Nat), .int .u64 (T : Nat)]] w fun r w' => r = .returned (.int .u64 (n : Nat)) ∧ Below w.heap.size w w') (w : World) :
    Calls Try.prog 29 #[.agg #[.bool t, .int .u64 (m : Nat), .int .u64 (a : Nat)], .func (.func 36) #[] #[]] w fun r w' => r = .returned (.int .u64 (n : Nat)) ∧ Below w.heap.size w w' := by
  have Q1 := Lib.hid q1; clear q1
  have Q := Lib.hid q; clear q
  go_enter Try.func29, Try.ntmps29
  go_wp2_with (fail)
  go_at_call 34
  refine (seen_base t m a B T p y n _ ok Q1.out Q.out _ ?_ ?_).mono ?_
  · go_size
  · simp [go_sem]
  rintro e w2 ⟨rfl, hb2⟩
  have hq2 : Below w.heap.size w w2 := (by refine Below.trans ?_ (hb2.mono ?_); exact (by repeat' (first | (with_reducible exact Below.refl _ _) | (with_reducible assumption) | (with_reducible refine Below.alloc ?_ ?_ _) | (with_reducible refine Below.setCell ?_ ?_ _) | (with_reducible refine Below.drew ?_) | (with_reducible refine below_drewN ?_ _) | go_size)); go_size)
  go_wp2
  go_ret
  exact ⟨rfl, hq2⟩
theorem abase_walk (t : Bool) (m a B T p y n : Nat) (ok : Bool) (q1 : ∀ w, Calls Try.prog 38 #[.agg #[.bool t, .int .u64 (m : Nat), .int .u64 (a : Nat)]] w fun r w' => r = .returned (.tuple #[.agg #[.int .u64 (B : Nat), .int .u64 (T : Nat), .int .u64 (p : Nat), .int .u64 (y : Nat)], .bool ok]) ∧ Below w.heap.size w w')
    (q : ∀ w, Calls Try.prog 36 #[.agg #[.int .u64 (B : Nat), .int .u64 (T : Nat)]] w fun r w' => r = .returned (.int .u64 (n : Nat)) ∧ Below w.heap.size w w') (w : World) :
    Calls Try.prog 31 #[.agg #[.bool t, .int .u64 (m : Nat), .int .u64 (a : Nat)]] w fun r w' => r = .returned (.int .u64 (n : Nat)) ∧ Below w.heap.size w w' := by
  have Q := Lib.hid (told_base t m a B T p y n ok q1 q); clear q q1
  go_enter Try.func31, Try.ntmps31
  go_wp2_with (fail)
  (go_at_call 29; refine (Q.out _).mono ?_; rintro e w1 ⟨rfl, hb1⟩; obtain ⟨hc1, hf1⟩ := bcell hb1; have hq1 : Below w.heap.size w w1 := (by refine Below.trans ?_ (hb1.mono ?_); exact (by repeat' (first | (with_reducible exact Below.refl _ _) | (with_reducible assumption) | (with_reducible refine Below.alloc ?_ ?_ _) | (with_reducible refine Below.setCell ?_ ?_ _) | (with_reducible refine Below.drew ?_) | (with_reducible refine below_drewN ?_ _) | go_size)); go_size); have hs1 := hq1.size; have hz1w0 : w.heap.size < w1.heap.size := (by have := hb1.size; (try simp at this); omega))
  go_wp2
  go_ret
  exact ⟨rfl, (by repeat' (first | (with_reducible exact Below.refl _ _) | (with_reducible assumption) | (with_reducible refine Below.alloc ?_ ?_ _) | (with_reducible refine Below.setCell ?_ ?_ _) | (with_reducible refine Below.drew ?_) | (with_reducible refine below_drewN ?_ _) | go_size))⟩
theorem told1_length (B T n b : Nat) (q : ∀ w, Calls Try.prog 30 #[.agg #[.int .u64 (B : Nat), .int .u64 (T : Nat)]] w fun r w' => r = .returned (.int .u64 (n : Nat)) ∧ Below w.heap.size w w') (w : World) (hb : b < w.heap.size) (hc : w.cell? ⟨b, 0, none⟩ = some (.func (.func 30) #[] #[])) :
    Calls Try.prog 35 #[.agg #[.int .u64 (B : Nat), .int .u64 (T : Nat)], .pointer (some ⟨b, 0, none⟩)] w fun r w' => r = .returned (.int .u64 (n : Nat)) ∧ Below w.heap.size w w' := by
  have Q := Lib.hid q; clear q
  go_enter Try.func35, Try.ntmps35
  go_wp2_with (fail)
  (go_at_call 30; refine (Q.out _).mono ?_; rintro e w1 ⟨rfl, hb1⟩; obtain ⟨hc1, hf1⟩ := bcell hb1; have hq1 : Below w.heap.size w w1 := (by refine Below.trans ?_ (hb1.mono ?_); exact (by repeat' (first | (with_reducible exact Below.refl _ _) | (with_reducible assumption) | (with_reducible refine Below.alloc ?_ ?_ _) | (with_reducible refine Below.setCell ?_ ?_ _) | (with_reducible refine Below.drew ?_) | (with_reducible refine below_drewN ?_ _) | go_size)); go_size); have hs1 := hq1.size; have hz1w0 : w.heap.size < w1.heap.size := (by have := hb1.size; (try simp at this); omega))
  go_wp2
  go_ret
  exact ⟨rfl, (by repeat' (first | (with_reducible exact Below.refl _ _) | (with_reducible assumption) | (with_reducible refine Below.alloc ?_ ?_ _) | (with_reducible refine Below.setCell ?_ ?_ _) | (with_reducible refine Below.drew ?_) | (with_reducible refine below_drewN ?_ _) | go_size))⟩
theorem seen_length (t : Bool) (m a B T p y n b : Nat) (ok : Bool) (q1 : ∀ w, Calls Try.prog 38 #[.agg #[.bool t, .int .u64 (m : Nat), .int .u64 (a : Nat)]] w fun r w' => r = .returned (.tuple #[.agg #[.int .u64 (B : Nat), .int .u64 (T : Nat), .int .u64 (p : Nat), .int .u64 (y : Nat)], .bool ok]) ∧ Below w.heap.size w w')
    (q : ∀ w, Calls Try.prog 30 #[.agg #[.int .u64 (B : Nat), .int .u64 (T : Nat)]] w fun r w' => r = .returned (.int .u64 (n : Nat)) ∧ Below w.heap.size w w') (w : World) (hb : b < w.heap.size) (hc : w.cell? ⟨b, 0, none⟩ = some (.func (.func 30) #[] #[])) :
    Calls Try.prog 34 #[.agg #[.bool t, .int .u64 (m : Nat), .int .u64 (a : Nat)], .func (.func 35) #[] #[.pointer (some ⟨b, 0, none⟩)]] w fun r w' => r = .returned (.int .u64 (n : Nat)) ∧ Below w.heap.size w w' := by
  have Q1 := Lib.hid q1; clear q1
  have Q := Lib.hid q; clear q
  go_enter Try.func34, Try.ntmps34
  go_wp2_with (fail)
  (go_at_call 38; refine (Q1.out _).mono ?_; rintro e w1 ⟨rfl, hb1⟩; obtain ⟨hc1, hf1⟩ := bcell hb1; have hq1 : Below w.heap.size w w1 := (by refine Below.trans ?_ (hb1.mono ?_); exact (by repeat' (first | (with_reducible exact Below.refl _ _) | (with_reducible assumption) | (with_reducible refine Below.alloc ?_ ?_ _) | (with_reducible refine Below.setCell ?_ ?_ _) | (with_reducible refine Below.drew ?_) | (with_reducible refine below_drewN ?_ _) | go_size)); go_size); have hs1 := hq1.size; have hz1w0 : w.heap.size < w1.heap.size := (by have := hb1.size; (try simp at this); omega))
  have hbw : b < w1.heap.size := Nat.lt_trans hb hz1w0
  have x1 : w1.cell? ⟨b, 0, none⟩ = some (.func (.func 30) #[] #[]) := by refine rd_below hb1 ?_ (rd_alloc hb hc); go_size
  go_wp2_with (fail)
  go_at_call 35
  refine (told1_length B T n b Q.out _ ?_ ?_).mono ?_
  · go_size
  · exact rd_alloc hbw x1
  rintro e w2 ⟨rfl, hb2⟩
  have hq2 : Below w.heap.size w w2 := (by refine Below.trans ?_ (hb2.mono ?_); exact (by repeat' (first | (with_reducible exact Below.refl _ _) | (with_reducible assumption) | (with_reducible refine Below.alloc ?_ ?_ _) | (with_reducible refine Below.setCell ?_ ?_ _) | (with_reducible refine Below.drew ?_) | (with_reducible refine below_drewN ?_ _) | go_size)); go_size)
  go_wp2
  go_ret
  exact ⟨rfl, hq2⟩
theorem told_length (t : Bool) (m a B T p y n : Nat) (ok : Bool) (q1 : ∀ w, Calls Try.prog 38 #[.agg #[.bool t, .int .u64 (m : Nat), .int .u64 (a : Nat)]] w fun r w' => r = .returned (.tuple #[.agg #[.int .u64 (B : Nat), .int .u64 (T : Nat), .int .u64 (p : Nat), .int .u64 (y : Nat)], .bool ok]) ∧ Below w.heap.size w w')
    (q : ∀ w, Calls Try.prog 30 #[.agg #[.int .u64 (B : Nat), .int .u64 (T : Nat)]] w fun r w' => r = .returned (.int .u64 (n : Nat)) ∧ Below w.heap.size w w') (w : World) :
    Calls Try.prog 29 #[.agg #[.bool t, .int .u64 (m : Nat), .int .u64 (a : Nat)], .func (.func 30) #[] #[]] w fun r w' => r = .returned (.int .u64 (n : Nat)) ∧ Below w.heap.size w w' := by
  have Q1 := Lib.hid q1; clear q1
  have Q := Lib.hid q; clear q
  go_enter Try.func29, Try.ntmps29
  go_wp2_with (fail)
  go_at_call 34
  refine (seen_length t m a B T p y n _ ok Q1.out Q.out _ ?_ ?_).mono ?_
  · go_size
  · simp [go_sem]
  rintro e w2 ⟨rfl, hb2⟩
  have hq2 : Below w.heap.size w w2 := (by refine Below.trans ?_ (hb2.mono ?_); exact (by repeat' (first | (with_reducible exact Below.refl _ _) | (with_reducible assumption) | (with_reducible refine Below.alloc ?_ ?_ _) | (with_reducible refine Below.setCell ?_ ?_ _) | (with_reducible refine Below.drew ?_) | (with_reducible refine below_drewN ?_ _) | go_size)); go_size)
  go_wp2
  go_ret
  exact ⟨rfl, hq2⟩
theorem alength_walk (t : Bool) (m a B T p y n : Nat) (ok : Bool) (q1 : ∀ w, Calls Try.prog 38 #[.agg #[.bool t, .int .u64 (m : Nat), .int .u64 (a : Nat)]] w fun r w' => r = .returned (.tuple #[.agg #[.int .u64 (B : Nat), .int .u64 (T : Nat), .int .u64 (p : Nat), .int .u64 (y : Nat)], .bool ok]) ∧ Below w.heap.size w w')
    (q : ∀ w, Calls Try.prog 30 #[.agg #[.int .u64 (B : Nat), .int .u64 (T : Nat)]] w fun r w' => r = .returned (.int .u64 (n : Nat)) ∧ Below w.heap.size w w') (w : World) :
    Calls Try.prog 9 #[.agg #[.bool t, .int .u64 (m : Nat), .int .u64 (a : Nat)]] w fun r w' => r = .returned (.int .u64 (n : Nat)) ∧ Below w.heap.size w w' := by
  have Q := Lib.hid (told_length t m a B T p y n ok q1 q); clear q q1
  go_enter Try.func9, Try.ntmps9
  go_wp2_with (fail)
  (go_at_call 29; refine (Q.out _).mono ?_; rintro e w1 ⟨rfl, hb1⟩; obtain ⟨hc1, hf1⟩ := bcell hb1; have hq1 : Below w.heap.size w w1 := (by refine Below.trans ?_ (hb1.mono ?_); exact (by repeat' (first | (with_reducible exact Below.refl _ _) | (with_reducible assumption) | (with_reducible refine Below.alloc ?_ ?_ _) | (with_reducible refine Below.setCell ?_ ?_ _) | (with_reducible refine Below.drew ?_) | (with_reducible refine below_drewN ?_ _) | go_size)); go_size); have hs1 := hq1.size; have hz1w0 : w.heap.size < w1.heap.size := (by have := hb1.size; (try simp at this); omega))
  go_wp2
  go_ret
  exact ⟨rfl, (by repeat' (first | (with_reducible exact Below.refl _ _) | (with_reducible assumption) | (with_reducible refine Below.alloc ?_ ?_ _) | (with_reducible refine Below.setCell ?_ ?_ _) | (with_reducible refine Below.drew ?_) | (with_reducible refine below_drewN ?_ _) | go_size))⟩
theorem abase_any (t : Bool) (m a : Nat) (hm : m < 18446744073709551616) (w : World) : Calls Try.prog 31 #[.agg #[.bool t, .int .u64 (m : Nat), .int .u64 (a : Nat)]] w fun r w' => r = .returned (.int .u64 (lB m a : Nat)) ∧ Below w.heap.size w w' :=
  abase_walk t m a _ _ _ _ _ _ (look_any t m a hm) (ends_base _ _) w
/-- a difference of two words. -/
def sb (a b : Nat) : Nat := (a + 18446744073709551616 - b % 18446744073709551616) % 18446744073709551616
theorem sb_def (a b : Nat) : sb a b = (a + 18446744073709551616 - b % 18446744073709551616) % 18446744073709551616 := rfl
theorem sb_wrap (a b : Nat) : IntKind.u64.wrap ((a : Int) - b) = ((sb a b : Nat) : Int) := by rw [sb_def, IntKind.wrap_u64]; omega
theorem sb_le {a b : Nat} (ha : a < 18446744073709551616) (h : b ≤ a) : sb a b = a - b := by rw [sb_def]; omega
attribute [irreducible] sb
theorem alength_any (t : Bool) (m a : Nat) (hm : m < 18446744073709551616) (w : World) : Calls Try.prog 9 #[.agg #[.bool t, .int .u64 (m : Nat), .int .u64 (a : Nat)]] w fun r w' => r = .returned (.int .u64 (sb (lT m a) (lB m a) : Nat)) ∧ Below w.heap.size w w' :=
  alength_walk t m a _ _ _ _ _ _ (look_any t m a hm) (ends_length _ _ _ (sb_wrap _ _)) w
end Go.Proofs.Ytkfeabekdjbphaa
