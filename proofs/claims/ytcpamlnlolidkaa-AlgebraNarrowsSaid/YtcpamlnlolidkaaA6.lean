/-
  Contracts of algebra.Base, Top, Length, Offset, Under: of any capability.
-/
import Derived.Test.YtcpamlnlolidkaaA3
set_option linter.unusedSimpArgs false
set_option linter.unusedVariables false
namespace Go.Proofs.Ytcpamlnlolidkaa
open Go.RowKit Go.Sort

theorem ends_base (B T : Nat) (w : World) : Calls Try.prog 61 #[.agg #[.int .u64 (B : Nat), .int .u64 (T : Nat)]] w fun r w' => r = .returned (.int .u64 (B : Nat)) ∧ Below w.heap.size w w' := by
  go_enter Try.func61, Try.ntmps61
  go_wp2
  go_ret
  exact ⟨rfl, (by repeat' (first | (with_reducible exact Below.refl _ _) | (with_reducible assumption) | (with_reducible refine Below.alloc ?_ ?_ _) | (with_reducible refine Below.setCell ?_ ?_ _) | (with_reducible refine Below.drew ?_) | (with_reducible refine below_drewN ?_ _) | go_size))⟩
theorem ends_top (B T : Nat) (w : World) : Calls Try.prog 68 #[.agg #[.int .u64 (B : Nat), .int .u64 (T : Nat)]] w fun r w' => r = .returned (.int .u64 (T : Nat)) ∧ Below w.heap.size w w' := by
  go_enter Try.func68, Try.ntmps68
  go_wp2
  go_ret
  exact ⟨rfl, (by repeat' (first | (with_reducible exact Below.refl _ _) | (with_reducible assumption) | (with_reducible refine Below.alloc ?_ ?_ _) | (with_reducible refine Below.setCell ?_ ?_ _) | (with_reducible refine Below.drew ?_) | (with_reducible refine below_drewN ?_ _) | go_size))⟩
theorem ends_length (B T n : Nat) (h : IntKind.u64.wrap ((T : Int) - B) = (n : Int)) (w : World) : Calls Try.prog 60 #[.agg #[.int .u64 (B : Nat), .int .u64 (T : Nat)]] w fun r w' => r = .returned (.int .u64 (n : Nat)) ∧ Below w.heap.size w w' := by
  go_enter Try.func60, Try.ntmps60
  go_wp2
  go_ret
  exact ⟨rfl, (by repeat' (first | (with_reducible exact Below.refl _ _) | (with_reducible assumption) | (with_reducible refine Below.alloc ?_ ?_ _) | (with_reducible refine Below.setCell ?_ ?_ _) | (with_reducible refine Below.drew ?_) | (with_reducible refine below_drewN ?_ _) | go_size))⟩
theorem told1_base (B T n b : Nat) (q : ∀ w, Calls Try.prog 61 #[.agg #[.int .u64 (B : Nat), .int .u64 (T : Nat)]] w fun r w' => r = .returned (.int .u64 (n : Nat)) ∧ Below w.heap.size w w') (w : World) (hb : b < w.heap.size) (hc : w.cell? ⟨b, 0, none⟩ = some (.func (.func 61) #[] #[])) :
    Calls Try.prog 84 #[.agg #[.int .u64 (B : Nat), .int .u64 (T : Nat)], .pointer (some ⟨b, 0, none⟩)] w fun r w' => r = .returned (.int .u64 (n : Nat)) ∧ Below w.heap.size w w' := by
  have Q := Lib.hid q; clear q
  go_enter Try.func84, Try.ntmps84
  go_wp2_with (fail)
  (go_at_call 61; refine (Q.out _).mono ?_; rintro e w1 ⟨rfl, hb1⟩; obtain ⟨hc1, hf1⟩ := bcell hb1; have hq1 : Below w.heap.size w w1 := (by refine Below.trans ?_ (hb1.mono ?_); exact (by repeat' (first | (with_reducible exact Below.refl _ _) | (with_reducible assumption) | (with_reducible refine Below.alloc ?_ ?_ _) | (with_reducible refine Below.setCell ?_ ?_ _) | (with_reducible refine Below.drew ?_) | (with_reducible refine below_drewN ?_ _) | go_size)); go_size); have hs1 := hq1.size; have hz1w0 : w.heap.size < w1.heap.size := (by have := hb1.size; (try simp at this); omega))
  go_wp2
  go_ret
  exact ⟨rfl, (by repeat' (first | (with_reducible exact Below.refl _ _) | (with_reducible assumption) | (with_reducible refine Below.alloc ?_ ?_ _) | (with_reducible refine Below.setCell ?_ ?_ _) | (with_reducible refine Below.drew ?_) | (with_reducible refine below_drewN ?_ _) | go_size))⟩
theorem seen_base (t : Bool) (m a B T p y n b : Nat) (ok : Bool) (q1 : ∀ w, Calls Try.prog 18 #[.agg #[.bool t, .int .u64 (m : Nat), .int .u64 (a : Nat)]] w fun r w' => r = .returned (.tuple #[.agg #[.int .u64 (B : Nat), .int .u64 (T : Nat), .int .u64 (p : Nat), .int .u64 (y : Nat)], .bool ok]) ∧ Below w.heap.size w w')
    (q : ∀ w, Calls Try.prog 61 #[.agg #[.int .u64 (B : Nat), .int .u64 (T : Nat)]] w fun r w' => r = .returned (.int .u64 (n : Nat)) ∧ Below w.heap.size w w') (w : World) (hb : b < w.heap.size) (hc : w.cell? ⟨b, 0, none⟩ = some (.func (.func 61) #[] #[])) :
    Calls Try.prog 83 #[.agg #[.bool t, .int .u64 (m : Nat), .int .u64 (a : Nat)], .func (.func 84) #[] #[.pointer (some ⟨b, 0, none⟩)]] w fun r w' => r = .returned (.int .u64 (n : Nat)) ∧ Below w.heap.size w w' := by
  have Q1 := Lib.hid q1; clear q1
  have Q := Lib.hid q; clear q
  go_enter Try.func83, Try.ntmps83
  go_wp2_with (fail)
  (go_at_call 18; refine (Q1.out _).mono ?_; rintro e w1 ⟨rfl, hb1⟩; obtain ⟨hc1, hf1⟩ := bcell hb1; have hq1 : Below w.heap.size w w1 := (by refine Below.trans ?_ (hb1.mono ?_); exact (by repeat' (first | (with_reducible exact Below.refl _ _) | (with_reducible assumption) | (with_reducible refine Below.alloc ?_ ?_ _) | (with_reducible refine Below.setCell ?_ ?_ _) | (with_reducible refine Below.drew ?_) | (with_reducible refine below_drewN ?_ _) | go_size)); go_size); have hs1 := hq1.size; have hz1w0 : w.heap.size < w1.heap.size := (by have := hb1.size; (try simp at this); omega))
  have hbw : b < w1.heap.size := Nat.lt_trans hb hz1w0
  have x1 : w1.cell? ⟨b, 0, none⟩ = some (.func (.func 61) #[] #[]) := by refine rd_below hb1 ?_ (rd_alloc hb hc); go_size
  go_wp2_with (fail)
  go_at_call 84
  refine (told1_base B T n b Q.out _ ?_ ?_).mono ?_
  · go_size
  · exact rd_alloc hbw x1
  rintro e w2 ⟨rfl, hb2⟩
  have hq2 : Below w.heap.size w w2 := (by refine Below.trans ?_ (hb2.mono ?_); exact (by repeat' (first | (with_reducible exact Below.refl _ _) | (with_reducible assumption) | (with_reducible refine Below.alloc ?_ ?_ _) | (with_reducible refine Below.setCell ?_ ?_ _) | (with_reducible refine Below.drew ?_) | (with_reducible refine below_drewN ?_ _) | go_size)); go_size)
  go_wp2
  go_ret
  exact ⟨rfl, hq2⟩
theorem told_base (t : Bool) (m a B T p y n : Nat) (ok : Bool) (q1 : ∀ w, Calls Try.prog 18 #[.agg #[.bool t, .int .u64 (m : Nat), .int .u64 (a : Nat)]] w fun r w' => r = .returned (.tuple #[.agg #[.int .u64 (B : Nat), .int .u64 (T : Nat), .int .u64 (p : Nat), .int .u64 (y : Nat)], .bool ok]) ∧ Below w.heap.size w w')
    (q : ∀ w, Calls Try.prog 61 #[.agg #[.int .u64 (B : Nat), .int .u64 (T : Nat)]] w fun r w' => r = .returned (.int .u64 (n : Nat)) ∧ Below w.heap.size w w') (w : World) :
    Calls Try.prog 59 #[.agg #[.bool t, .int .u64 (m : Nat), .int .u64 (a : Nat)], .func (.func 61) #[] #[]] w fun r w' => r = .returned (.int .u64 (n : Nat)) ∧ Below w.heap.size w w' := by
  have Q1 := Lib.hid q1; clear q1
  have Q := Lib.hid q; clear q
  go_enter Try.func59, Try.ntmps59
  go_wp2_with (fail)
  go_at_call 83
  refine (seen_base t m a B T p y n _ ok Q1.out Q.out _ ?_ ?_).mono ?_
  · go_size
  · simp [go_sem]
  rintro e w2 ⟨rfl, hb2⟩
  have hq2 : Below w.heap.size w w2 := (by refine Below.trans ?_ (hb2.mono ?_); exact (by repeat' (first | (with_reducible exact Below.refl _ _) | (with_reducible assumption) | (with_reducible refine Below.alloc ?_ ?_ _) | (with_reducible refine Below.setCell ?_ ?_ _) | (with_reducible refine Below.drew ?_) | (with_reducible refine below_drewN ?_ _) | go_size)); go_size)
  go_wp2
  go_ret
  exact ⟨rfl, hq2⟩
theorem abase_walk (t : Bool) (m a B T p y n : Nat) (ok : Bool) (q1 : ∀ w, Calls Try.prog 18 #[.agg #[.bool t, .int .u64 (m : Nat), .int .u64 (a : Nat)]] w fun r w' => r = .returned (.tuple #[.agg #[.int .u64 (B : Nat), .int .u64 (T : Nat), .int .u64 (p : Nat), .int .u64 (y : Nat)], .bool ok]) ∧ Below w.heap.size w w')
    (q : ∀ w, Calls Try.prog 61 #[.agg #[.int .u64 (B : Nat), .int .u64 (T : Nat)]] w fun r w' => r = .returned (.int .u64 (n : Nat)) ∧ Below w.heap.size w w') (w : World) :
    Calls Try.prog 26 #[.agg #[.bool t, .int .u64 (m : Nat), .int .u64 (a : Nat)]] w fun r w' => r = .returned (.int .u64 (n : Nat)) ∧ Below w.heap.size w w' := by
  have Q := Lib.hid (told_base t m a B T p y n ok q1 q); clear q q1
  go_enter Try.func26, Try.ntmps26
  go_wp2_with (fail)
  (go_at_call 59; refine (Q.out _).mono ?_; rintro e w1 ⟨rfl, hb1⟩; obtain ⟨hc1, hf1⟩ := bcell hb1; have hq1 : Below w.heap.size w w1 := (by refine Below.trans ?_ (hb1.mono ?_); exact (by repeat' (first | (with_reducible exact Below.refl _ _) | (with_reducible assumption) | (with_reducible refine Below.alloc ?_ ?_ _) | (with_reducible refine Below.setCell ?_ ?_ _) | (with_reducible refine Below.drew ?_) | (with_reducible refine below_drewN ?_ _) | go_size)); go_size); have hs1 := hq1.size; have hz1w0 : w.heap.size < w1.heap.size := (by have := hb1.size; (try simp at this); omega))
  go_wp2
  go_ret
  exact ⟨rfl, (by repeat' (first | (with_reducible exact Below.refl _ _) | (with_reducible assumption) | (with_reducible refine Below.alloc ?_ ?_ _) | (with_reducible refine Below.setCell ?_ ?_ _) | (with_reducible refine Below.drew ?_) | (with_reducible refine below_drewN ?_ _) | go_size))⟩
theorem told1_top (B T n b : Nat) (q : ∀ w, Calls Try.prog 68 #[.agg #[.int .u64 (B : Nat), .int .u64 (T : Nat)]] w fun r w' => r = .returned (.int .u64 (n : Nat)) ∧ Below w.heap.size w w') (w : World) (hb : b < w.heap.size) (hc : w.cell? ⟨b, 0, none⟩ = some (.func (.func 68) #[] #[])) :
    Calls Try.prog 84 #[.agg #[.int .u64 (B : Nat), .int .u64 (T : Nat)], .pointer (some ⟨b, 0, none⟩)] w fun r w' => r = .returned (.int .u64 (n : Nat)) ∧ Below w.heap.size w w' := by
  have Q := Lib.hid q; clear q
  go_enter Try.func84, Try.ntmps84
  go_wp2_with (fail)
  (go_at_call 68; refine (Q.out _).mono ?_; rintro e w1 ⟨rfl, hb1⟩; obtain ⟨hc1, hf1⟩ := bcell hb1; have hq1 : Below w.heap.size w w1 := (by refine Below.trans ?_ (hb1.mono ?_); exact (by repeat' (first | (with_reducible exact Below.refl _ _) | (with_reducible assumption) | (with_reducible refine Below.alloc ?_ ?_ _) | (with_reducible refine Below.setCell ?_ ?_ _) | (with_reducible refine Below.drew ?_) | (with_reducible refine below_drewN ?_ _) | go_size)); go_size); have hs1 := hq1.size; have hz1w0 : w.heap.size < w1.heap.size := (by have := hb1.size; (try simp at this); omega))
  go_wp2
  go_ret
  exact ⟨rfl, (by repeat' (first | (with_reducible exact Below.refl _ _) | (with_reducible assumption) | (with_reducible refine Below.alloc ?_ ?_ _) | (with_reducible refine Below.setCell ?_ ?_ _) | (with_reducible refine Below.drew ?_) | (with_reducible refine below_drewN ?_ _) | go_size))⟩
theorem seen_top (t : Bool) (m a B T p y n b : Nat) (ok : Bool) (q1 : ∀ w, Calls Try.prog 18 #[.agg #[.bool t, .int .u64 (m : Nat), .int .u64 (a : Nat)]] w fun r w' => r = .returned (.tuple #[.agg #[.int .u64 (B : Nat), .int .u64 (T : Nat), .int .u64 (p : Nat), .int .u64 (y : Nat)], .bool ok]) ∧ Below w.heap.size w w')
    (q : ∀ w, Calls Try.prog 68 #[.agg #[.int .u64 (B : Nat), .int .u64 (T : Nat)]] w fun r w' => r = .returned (.int .u64 (n : Nat)) ∧ Below w.heap.size w w') (w : World) (hb : b < w.heap.size) (hc : w.cell? ⟨b, 0, none⟩ = some (.func (.func 68) #[] #[])) :
    Calls Try.prog 83 #[.agg #[.bool t, .int .u64 (m : Nat), .int .u64 (a : Nat)], .func (.func 84) #[] #[.pointer (some ⟨b, 0, none⟩)]] w fun r w' => r = .returned (.int .u64 (n : Nat)) ∧ Below w.heap.size w w' := by
  have Q1 := Lib.hid q1; clear q1
  have Q := Lib.hid q; clear q
  go_enter Try.func83, Try.ntmps83
  go_wp2_with (fail)
  (go_at_call 18; refine (Q1.out _).mono ?_; rintro e w1 ⟨rfl, hb1⟩; obtain ⟨hc1, hf1⟩ := bcell hb1; have hq1 : Below w.heap.size w w1 := (by refine Below.trans ?_ (hb1.mono ?_); exact (by repeat' (first | (with_reducible exact Below.refl _ _) | (with_reducible assumption) | (with_reducible refine Below.alloc ?_ ?_ _) | (with_reducible refine Below.setCell ?_ ?_ _) | (with_reducible refine Below.drew ?_) | (with_reducible refine below_drewN ?_ _) | go_size)); go_size); have hs1 := hq1.size; have hz1w0 : w.heap.size < w1.heap.size := (by have := hb1.size; (try simp at this); omega))
  have hbw : b < w1.heap.size := Nat.lt_trans hb hz1w0
  have x1 : w1.cell? ⟨b, 0, none⟩ = some (.func (.func 68) #[] #[]) := by refine rd_below hb1 ?_ (rd_alloc hb hc); go_size
  go_wp2_with (fail)
  go_at_call 84
  refine (told1_top B T n b Q.out _ ?_ ?_).mono ?_
  · go_size
  · exact rd_alloc hbw x1
  rintro e w2 ⟨rfl, hb2⟩
  have hq2 : Below w.heap.size w w2 := (by refine Below.trans ?_ (hb2.mono ?_); exact (by repeat' (first | (with_reducible exact Below.refl _ _) | (with_reducible assumption) | (with_reducible refine Below.alloc ?_ ?_ _) | (with_reducible refine Below.setCell ?_ ?_ _) | (with_reducible refine Below.drew ?_) | (with_reducible refine below_drewN ?_ _) | go_size)); go_size)
  go_wp2
  go_ret
  exact ⟨rfl, hq2⟩
theorem told_top (t : Bool) (m a B T p y n : Nat) (ok : Bool) (q1 : ∀ w, Calls Try.prog 18 #[.agg #[.bool t, .int .u64 (m : Nat), .int .u64 (a : Nat)]] w fun r w' => r = .returned (.tuple #[.agg #[.int .u64 (B : Nat), .int .u64 (T : Nat), .int .u64 (p : Nat), .int .u64 (y : Nat)], .bool ok]) ∧ Below w.heap.size w w')
    (q : ∀ w, Calls Try.prog 68 #[.agg #[.int .u64 (B : Nat), .int .u64 (T : Nat)]] w fun r w' => r = .returned (.int .u64 (n : Nat)) ∧ Below w.heap.size w w') (w : World) :
    Calls Try.prog 59 #[.agg #[.bool t, .int .u64 (m : Nat), .int .u64 (a : Nat)], .func (.func 68) #[] #[]] w fun r w' => r = .returned (.int .u64 (n : Nat)) ∧ Below w.heap.size w w' := by
  have Q1 := Lib.hid q1; clear q1
  have Q := Lib.hid q; clear q
  go_enter Try.func59, Try.ntmps59
  go_wp2_with (fail)
  go_at_call 83
  refine (seen_top t m a B T p y n _ ok Q1.out Q.out _ ?_ ?_).mono ?_
  · go_size
  · simp [go_sem]
  rintro e w2 ⟨rfl, hb2⟩
  have hq2 : Below w.heap.size w w2 := (by refine Below.trans ?_ (hb2.mono ?_); exact (by repeat' (first | (with_reducible exact Below.refl _ _) | (with_reducible assumption) | (with_reducible refine Below.alloc ?_ ?_ _) | (with_reducible refine Below.setCell ?_ ?_ _) | (with_reducible refine Below.drew ?_) | (with_reducible refine below_drewN ?_ _) | go_size)); go_size)
  go_wp2
  go_ret
  exact ⟨rfl, hq2⟩
theorem atop_walk (t : Bool) (m a B T p y n : Nat) (ok : Bool) (q1 : ∀ w, Calls Try.prog 18 #[.agg #[.bool t, .int .u64 (m : Nat), .int .u64 (a : Nat)]] w fun r w' => r = .returned (.tuple #[.agg #[.int .u64 (B : Nat), .int .u64 (T : Nat), .int .u64 (p : Nat), .int .u64 (y : Nat)], .bool ok]) ∧ Below w.heap.size w w')
    (q : ∀ w, Calls Try.prog 68 #[.agg #[.int .u64 (B : Nat), .int .u64 (T : Nat)]] w fun r w' => r = .returned (.int .u64 (n : Nat)) ∧ Below w.heap.size w w') (w : World) :
    Calls Try.prog 44 #[.agg #[.bool t, .int .u64 (m : Nat), .int .u64 (a : Nat)]] w fun r w' => r = .returned (.int .u64 (n : Nat)) ∧ Below w.heap.size w w' := by
  have Q := Lib.hid (told_top t m a B T p y n ok q1 q); clear q q1
  go_enter Try.func44, Try.ntmps44
  go_wp2_with (fail)
  (go_at_call 59; refine (Q.out _).mono ?_; rintro e w1 ⟨rfl, hb1⟩; obtain ⟨hc1, hf1⟩ := bcell hb1; have hq1 : Below w.heap.size w w1 := (by refine Below.trans ?_ (hb1.mono ?_); exact (by repeat' (first | (with_reducible exact Below.refl _ _) | (with_reducible assumption) | (with_reducible refine Below.alloc ?_ ?_ _) | (with_reducible refine Below.setCell ?_ ?_ _) | (with_reducible refine Below.drew ?_) | (with_reducible refine below_drewN ?_ _) | go_size)); go_size); have hs1 := hq1.size; have hz1w0 : w.heap.size < w1.heap.size := (by have := hb1.size; (try simp at this); omega))
  go_wp2
  go_ret
  exact ⟨rfl, (by repeat' (first | (with_reducible exact Below.refl _ _) | (with_reducible assumption) | (with_reducible refine Below.alloc ?_ ?_ _) | (with_reducible refine Below.setCell ?_ ?_ _) | (with_reducible refine Below.drew ?_) | (with_reducible refine below_drewN ?_ _) | go_size))⟩
theorem told1_length (B T n b : Nat) (q : ∀ w, Calls Try.prog 60 #[.agg #[.int .u64 (B : Nat), .int .u64 (T : Nat)]] w fun r w' => r = .returned (.int .u64 (n : Nat)) ∧ Below w.heap.size w w') (w : World) (hb : b < w.heap.size) (hc : w.cell? ⟨b, 0, none⟩ = some (.func (.func 60) #[] #[])) :
    Calls Try.prog 84 #[.agg #[.int .u64 (B : Nat), .int .u64 (T : Nat)], .pointer (some ⟨b, 0, none⟩)] w fun r w' => r = .returned (.int .u64 (n : Nat)) ∧ Below w.heap.size w w' := by
  have Q := Lib.hid q; clear q
  go_enter Try.func84, Try.ntmps84
  go_wp2_with (fail)
  (go_at_call 60; refine (Q.out _).mono ?_; rintro e w1 ⟨rfl, hb1⟩; obtain ⟨hc1, hf1⟩ := bcell hb1; have hq1 : Below w.heap.size w w1 := (by refine Below.trans ?_ (hb1.mono ?_); exact (by repeat' (first | (with_reducible exact Below.refl _ _) | (with_reducible assumption) | (with_reducible refine Below.alloc ?_ ?_ _) | (with_reducible refine Below.setCell ?_ ?_ _) | (with_reducible refine Below.drew ?_) | (with_reducible refine below_drewN ?_ _) | go_size)); go_size); have hs1 := hq1.size; have hz1w0 : w.heap.size < w1.heap.size := (by have := hb1.size; (try simp at this); omega))
  go_wp2
  go_ret
  exact ⟨rfl, (by repeat' (first | (with_reducible exact Below.refl _ _) | (with_reducible assumption) | (with_reducible refine Below.alloc ?_ ?_ _) | (with_reducible refine Below.setCell ?_ ?_ _) | (with_reducible refine Below.drew ?_) | (with_reducible refine below_drewN ?_ _) | go_size))⟩
theorem seen_length (t : Bool) (m a B T p y n b : Nat) (ok : Bool) (q1 : ∀ w, Calls Try.prog 18 #[.agg #[.bool t, .int .u64 (m : Nat), .int .u64 (a : Nat)]] w fun r w' => r = .returned (.tuple #[.agg #[.int .u64 (B : Nat), .int .u64 (T : Nat), .int .u64 (p : Nat), .int .u64 (y : Nat)], .bool ok]) ∧ Below w.heap.size w w')
    (q : ∀ w, Calls Try.prog 60 #[.agg #[.int .u64 (B : Nat), .int .u64 (T : Nat)]] w fun r w' => r = .returned (.int .u64 (n : Nat)) ∧ Below w.heap.size w w') (w : World) (hb : b < w.heap.size) (hc : w.cell? ⟨b, 0, none⟩ = some (.func (.func 60) #[] #[])) :
    Calls Try.prog 83 #[.agg #[.bool t, .int .u64 (m : Nat), .int .u64 (a : Nat)], .func (.func 84) #[] #[.pointer (some ⟨b, 0, none⟩)]] w fun r w' => r = .returned (.int .u64 (n : Nat)) ∧ Below w.heap.size w w' := by
  have Q1 := Lib.hid q1; clear q1
  have Q := Lib.hid q; clear q
  go_enter Try.func83, Try.ntmps83
  go_wp2_with (fail)
  (go_at_call 18; refine (Q1.out _).mono ?_; rintro e w1 ⟨rfl, hb1⟩; obtain ⟨hc1, hf1⟩ := bcell hb1; have hq1 : Below w.heap.size w w1 := (by refine Below.trans ?_ (hb1.mono ?_); exact (by repeat' (first | (with_reducible exact Below.refl _ _) | (with_reducible assumption) | (with_reducible refine Below.alloc ?_ ?_ _) | (with_reducible refine Below.setCell ?_ ?_ _) | (with_reducible refine Below.drew ?_) | (with_reducible refine below_drewN ?_ _) | go_size)); go_size); have hs1 := hq1.size; have hz1w0 : w.heap.size < w1.heap.size := (by have := hb1.size; (try simp at this); omega))
  have hbw : b < w1.heap.size := Nat.lt_trans hb hz1w0
  have x1 : w1.cell? ⟨b, 0, none⟩ = some (.func (.func 60) #[] #[]) := by refine rd_below hb1 ?_ (rd_alloc hb hc); go_size
  go_wp2_with (fail)
  go_at_call 84
  refine (told1_length B T n b Q.out _ ?_ ?_).mono ?_
  · go_size
  · exact rd_alloc hbw x1
  rintro e w2 ⟨rfl, hb2⟩
  have hq2 : Below w.heap.size w w2 := (by refine Below.trans ?_ (hb2.mono ?_); exact (by repeat' (first | (with_reducible exact Below.refl _ _) | (with_reducible assumption) | (with_reducible refine Below.alloc ?_ ?_ _) | (with_reducible refine Below.setCell ?_ ?_ _) | (with_reducible refine Below.drew ?_) | (with_reducible refine below_drewN ?_ _) | go_size)); go_size)
  go_wp2
  go_ret
  exact ⟨rfl, hq2⟩
theorem told_length (t : Bool) (m a B T p y n : Nat) (ok : Bool) (q1 : ∀ w, Calls Try.prog 18 #[.agg #[.bool t, .int .u64 (m : Nat), .int .u64 (a : Nat)]] w fun r w' => r = .returned (.tuple #[.agg #[.int .u64 (B : Nat), .int .u64 (T : Nat), .int .u64 (p : Nat), .int .u64 (y : Nat)], .bool ok]) ∧ Below w.heap.size w w')
    (q : ∀ w, Calls Try.prog 60 #[.agg #[.int .u64 (B : Nat), .int .u64 (T : Nat)]] w fun r w' => r = .returned (.int .u64 (n : Nat)) ∧ Below w.heap.size w w') (w : World) :
    Calls Try.prog 59 #[.agg #[.bool t, .int .u64 (m : Nat), .int .u64 (a : Nat)], .func (.func 60) #[] #[]] w fun r w' => r = .returned (.int .u64 (n : Nat)) ∧ Below w.heap.size w w' := by
  have Q1 := Lib.hid q1; clear q1
  have Q := Lib.hid q; clear q
  go_enter Try.func59, Try.ntmps59
  go_wp2_with (fail)
  go_at_call 83
  refine (seen_length t m a B T p y n _ ok Q1.out Q.out _ ?_ ?_).mono ?_
  · go_size
  · simp [go_sem]
  rintro e w2 ⟨rfl, hb2⟩
  have hq2 : Below w.heap.size w w2 := (by refine Below.trans ?_ (hb2.mono ?_); exact (by repeat' (first | (with_reducible exact Below.refl _ _) | (with_reducible assumption) | (with_reducible refine Below.alloc ?_ ?_ _) | (with_reducible refine Below.setCell ?_ ?_ _) | (with_reducible refine Below.drew ?_) | (with_reducible refine below_drewN ?_ _) | go_size)); go_size)
  go_wp2
  go_ret
  exact ⟨rfl, hq2⟩
theorem alength_walk (t : Bool) (m a B T p y n : Nat) (ok : Bool) (q1 : ∀ w, Calls Try.prog 18 #[.agg #[.bool t, .int .u64 (m : Nat), .int .u64 (a : Nat)]] w fun r w' => r = .returned (.tuple #[.agg #[.int .u64 (B : Nat), .int .u64 (T : Nat), .int .u64 (p : Nat), .int .u64 (y : Nat)], .bool ok]) ∧ Below w.heap.size w w')
    (q : ∀ w, Calls Try.prog 60 #[.agg #[.int .u64 (B : Nat), .int .u64 (T : Nat)]] w fun r w' => r = .returned (.int .u64 (n : Nat)) ∧ Below w.heap.size w w') (w : World) :
    Calls Try.prog 25 #[.agg #[.bool t, .int .u64 (m : Nat), .int .u64 (a : Nat)]] w fun r w' => r = .returned (.int .u64 (n : Nat)) ∧ Below w.heap.size w w' := by
  have Q := Lib.hid (told_length t m a B T p y n ok q1 q); clear q q1
  go_enter Try.func25, Try.ntmps25
  go_wp2_with (fail)
  (go_at_call 59; refine (Q.out _).mono ?_; rintro e w1 ⟨rfl, hb1⟩; obtain ⟨hc1, hf1⟩ := bcell hb1; have hq1 : Below w.heap.size w w1 := (by refine Below.trans ?_ (hb1.mono ?_); exact (by repeat' (first | (with_reducible exact Below.refl _ _) | (with_reducible assumption) | (with_reducible refine Below.alloc ?_ ?_ _) | (with_reducible refine Below.setCell ?_ ?_ _) | (with_reducible refine Below.drew ?_) | (with_reducible refine below_drewN ?_ _) | go_size)); go_size); have hs1 := hq1.size; have hz1w0 : w.heap.size < w1.heap.size := (by have := hb1.size; (try simp at this); omega))
  go_wp2
  go_ret
  exact ⟨rfl, (by repeat' (first | (with_reducible exact Below.refl _ _) | (with_reducible assumption) | (with_reducible refine Below.alloc ?_ ?_ _) | (with_reducible refine Below.setCell ?_ ?_ _) | (with_reducible refine Below.drew ?_) | (with_reducible refine below_drewN ?_ _) | go_size))⟩
theorem abase_any (t : Bool) (m a : Nat) (hm : m < 18446744073709551616) (w : World) : Calls Try.prog 26 #[.agg #[.bool t, .int .u64 (m : Nat), .int .u64 (a : Nat)]] w fun r w' => r = .returned (.int .u64 (lB m a : Nat)) ∧ Below w.heap.size w w' :=
  abase_walk t m a _ _ _ _ _ _ (look_any t m a hm) (ends_base _ _) w
theorem atop_any (t : Bool) (m a : Nat) (hm : m < 18446744073709551616) (w : World) : Calls Try.prog 44 #[.agg #[.bool t, .int .u64 (m : Nat), .int .u64 (a : Nat)]] w fun r w' => r = .returned (.int .u64 (lT m a : Nat)) ∧ Below w.heap.size w w' :=
  atop_walk t m a _ _ _ _ _ _ (look_any t m a hm) (ends_top _ _) w
/-- a difference of two words. -/
def sb (a b : Nat) : Nat := (a + 18446744073709551616 - b % 18446744073709551616) % 18446744073709551616
theorem sb_def (a b : Nat) : sb a b = (a + 18446744073709551616 - b % 18446744073709551616) % 18446744073709551616 := rfl
theorem sb_wrap (a b : Nat) : IntKind.u64.wrap ((a : Int) - b) = ((sb a b : Nat) : Int) := by rw [sb_def, IntKind.wrap_u64]; omega
theorem sb_le {a b : Nat} (ha : a < 18446744073709551616) (h : b ≤ a) : sb a b = a - b := by rw [sb_def]; omega
attribute [irreducible] sb
theorem alength_any (t : Bool) (m a : Nat) (hm : m < 18446744073709551616) (w : World) : Calls Try.prog 25 #[.agg #[.bool t, .int .u64 (m : Nat), .int .u64 (a : Nat)]] w fun r w' => r = .returned (.int .u64 (sb (lT m a) (lB m a) : Nat)) ∧ Below w.heap.size w w' :=
  alength_walk t m a _ _ _ _ _ _ (look_any t m a hm) (ends_length _ _ _ (sb_wrap _ _)) w
theorem offset_walk (t : Bool) (m a B n : Nat) (q1 : ∀ w, Calls Try.prog 26 #[.agg #[.bool t, .int .u64 (m : Nat), .int .u64 (a : Nat)]] w fun r w' => r = .returned (.int .u64 (B : Nat)) ∧ Below w.heap.size w w') (h : IntKind.u64.wrap ((a : Int) - B) = (n : Int)) (w : World) :
    Calls Try.prog 27 #[.agg #[.bool t, .int .u64 (m : Nat), .int .u64 (a : Nat)]] w fun r w' => r = .returned (.int .u64 (n : Nat)) ∧ Below w.heap.size w w' := by
  have Q1 := Lib.hid q1; clear q1
  go_enter Try.func27, Try.ntmps27
  go_wp2
  ((first | refine wp_at (fun W2 hW2 => ?_) | refine calls_at (fun W2 hW2 => ?_)); have hB2 : Below w.heap.size w W2 := (by rw [← hW2]; exact (by repeat' (first | (with_reducible exact Below.refl _ _) | (with_reducible assumption) | (with_reducible refine Below.alloc ?_ ?_ _) | (with_reducible refine Below.setCell ?_ ?_ _) | (with_reducible refine Below.drew ?_) | (with_reducible refine below_drewN ?_ _) | go_size))); have hz2w0 : w.heap.size < W2.heap.size := (by rw [← hW2]; first | go_size | (simp; omega)); have c2_0 : W2.cell? ⟨w.heap.size, 0, none⟩ = some (.bool t) := (by rw [← hW2]; clear hW2; first | (simp [go_sem]; done) | (rw [World.cell?_setCell_same' _ _ _ (by simp [go_sem, *])])); have f2_0 : W2.frozen? ⟨w.heap.size, 0, none⟩ = false := (by rw [← hW2]; clear hW2; simp [go_sem]); have c2_1 : W2.cell? ⟨w.heap.size, 1, none⟩ = some (.int .u64 m) := (by rw [← hW2]; clear hW2; first | (simp [go_sem]; done) | (rw [World.cell?_setCell_same' _ _ _ (by simp [go_sem, *])])); have f2_1 : W2.frozen? ⟨w.heap.size, 1, none⟩ = false := (by rw [← hW2]; clear hW2; simp [go_sem]); have c2_2 : W2.cell? ⟨w.heap.size, 2, none⟩ = some (.int .u64 a) := (by rw [← hW2]; clear hW2; first | (simp [go_sem]; done) | (rw [World.cell?_setCell_same' _ _ _ (by simp [go_sem, *])])); have f2_2 : W2.frozen? ⟨w.heap.size, 2, none⟩ = false := (by rw [← hW2]; clear hW2; simp [go_sem]); clear hW2)
  (have k2_0 := cell_regrown c2_0; have k2_1 := cell_regrown c2_1; have k2_2 := cell_regrown c2_2; refine wp_region_quiet_below (by kernel_rfl) (by kernel_rfl) ?_; (repeat (go_big_quiet_step (first| (go_at_call 26; exact Calls.regrown_of (Q1.out _))))); refine wpQuiet_nil ?_; intro W3 hW3; obtain ⟨pq, hpq⟩ := hW3; have hb3 : Below W2.heap.size W2 W3 := (by rw [hpq]; exact below_regrown _ _ _); clear hpq; have hB3 : Below w.heap.size w W3 := (hB2.trans (hb3.mono hB2.size)); clear k2_0; clear k2_1; clear k2_2; have hz3w0 : w.heap.size < W3.heap.size := (by have := hb3.size; omega); have c3_0 := (hb3.cell (by first | assumption | (simp; omega))).trans c2_0; have f3_0 := (hb3.frozen (by first | assumption | (simp; omega))).trans f2_0; have c3_1 := (hb3.cell (by first | assumption | (simp; omega))).trans c2_1; have f3_1 := (hb3.frozen (by first | assumption | (simp; omega))).trans f2_1; have c3_2 := (hb3.cell (by first | assumption | (simp; omega))).trans c2_2; have f3_2 := (hb3.frozen (by first | assumption | (simp; omega))).trans f2_2)
  go_wp2
  go_ret
  exact ⟨rfl, (by repeat' (first | (with_reducible exact Below.refl _ _) | (with_reducible assumption) | (with_reducible refine Below.alloc ?_ ?_ _) | (with_reducible refine Below.setCell ?_ ?_ _) | (with_reducible refine Below.drew ?_) | (with_reducible refine below_drewN ?_ _) | go_size))⟩
theorem aoffset_any (t : Bool) (m a : Nat) (hm : m < 18446744073709551616) (w : World) : Calls Try.prog 27 #[.agg #[.bool t, .int .u64 (m : Nat), .int .u64 (a : Nat)]] w fun r w' => r = .returned (.int .u64 (sb a (lB m a) : Nat)) ∧ Below w.heap.size w w' :=
  offset_walk t m a _ _ (abase_any t m a hm) (sb_wrap _ _) w
theorem under_walk (t : Bool) (m a : Nat) (t2 : Bool) (m2 a2 : Nat) (o : Bool) (q1 : ∀ w, Calls Try.prog 38 #[.agg #[.bool t, .int .u64 (m : Nat), .int .u64 (a : Nat)], .agg #[.bool t2, .int .u64 (m2 : Nat), .int .u64 (a2 : Nat)]] w fun r w' => r = .returned (.bool o) ∧ Below w.heap.size w w') (w : World) :
    Calls Try.prog 28 #[.agg #[.bool t, .int .u64 (m : Nat), .int .u64 (a : Nat)], .agg #[.bool t2, .int .u64 (m2 : Nat), .int .u64 (a2 : Nat)]] w fun r w' => r = .returned (.bool ((t == t2) && o)) ∧ Below w.heap.size w w' := by
  have Q1 := Lib.hid q1; clear q1
  cases t <;> cases t2
  all_goals
    go_enter Try.func28, Try.ntmps28
    go_wp2_with (go_at_call 38; refine (Q1.out _).mono ?_; rintro e w1 ⟨rfl, hb1⟩; obtain ⟨hc1, hf1⟩ := bcell hb1; have hq1 : Below w.heap.size w w1 := (by refine Below.trans ?_ (hb1.mono ?_); exact (by repeat' (first | (with_reducible exact Below.refl _ _) | (with_reducible assumption) | (with_reducible refine Below.alloc ?_ ?_ _) | (with_reducible refine Below.setCell ?_ ?_ _) | (with_reducible refine Below.drew ?_) | (with_reducible refine below_drewN ?_ _) | go_size)); go_size); have hs1 := hq1.size)
    go_ret
    exact ⟨rfl, (by repeat' (first | (with_reducible exact Below.refl _ _) | (with_reducible assumption) | (with_reducible refine Below.alloc ?_ ?_ _) | (with_reducible refine Below.setCell ?_ ?_ _) | (with_reducible refine Below.drew ?_) | (with_reducible refine below_drewN ?_ _) | go_size))⟩
theorem aunder_any (t : Bool) (m a : Nat) (hm : m < 18446744073709551616) (t2 : Bool) (m2 a2 : Nat) (hm2 : m2 < 18446744073709551616) (w : World) :
    Calls Try.prog 28 #[.agg #[.bool t, .int .u64 (m : Nat), .int .u64 (a : Nat)], .agg #[.bool t2, .int .u64 (m2 : Nat), .int .u64 (a2 : Nat)]] w fun r w' => r = .returned (.bool ((t == t2) && wi m a m2 a2)) ∧ Below w.heap.size w w' :=
  under_walk t m a t2 m2 a2 _ (within_any t m a hm t2 m2 a2 hm2) w
end Go.Proofs.Ytcpamlnlolidkaa
