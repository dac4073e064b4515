/-
  Contracts of scale.unit, scale.Down, scale.Up, bounds.may: rounding to multiples of 2^e; conditions: e below 48, numbers up to 2^48.
-/
import Derived.Test.YtinckicchakifaaT1
import Derived.Test.YtinckicchakifaaT2
import Derived.Deep.RegionHeld3
import Derived.Below
namespace Go.Proofs.Ytinckicchakifaa
open Go.RowKit

/-- what a world above another one is good for in a walk. -/
theorem bcell {W w1 : World} (hb : Below W.heap.size W w1) : (∀ b o, b < W.heap.size → w1.cell? ⟨b, o, none⟩ = W.cell? ⟨b, o, none⟩) ∧ (∀ b o, b < W.heap.size → w1.frozen? ⟨b, o, none⟩ = W.frozen? ⟨b, o, none⟩) :=
  ⟨fun b o h => hb.cell (p := ⟨b, o, none⟩) h, fun b o h => hb.frozen (p := ⟨b, o, none⟩) h⟩
theorem ret_int {k : IntKind} {a b : Int} (h : a = b) : Ending.returned (.int k a) = .returned (.int k b) := by rw [h]
theorem ret_bool {a b : Bool} (h : a = b) : Ending.returned (.bool a) = .returned (.bool b) := by rw [h]

theorem unit_any (e : Nat) (h : e < 64) (w : World) :
    Calls Try.prog 53 #[.int .i64 e] w fun r w' => r = .returned (.int .u64 ((2 ^ e - 1 : Nat) : Int)) ∧ w' = w := by
  go_enter Try.func53, Try.ntmps53
  go_wp2
  · go_ret
    have h0 : e = 0 := by assumption
    subst h0
    exact ⟨rfl, rfl⟩
  · go_ret
    refine ⟨ret_int ?_, rfl⟩
    have h1 := pow64 h
    have h2 := pow_pos2 e
    have e1 : (2 : Int) ^ e = ((2 ^ e : Nat) : Int) := by simp
    rw [e1, IntKind.wrap_u64, IntKind.wrap_u64]
    omega

theorem andnot_unit (x e : Nat) (hx : x < 2 ^ 64) (h : e < 64) : x &&& (2 ^ 64 - 1 - (2 ^ e - 1)) = x / 2 ^ e * 2 ^ e := by
  have hp := pow_pos2 e
  have hlt : 2 ^ e - 1 < 2 ^ 64 := by have := pow64 h; omega
  apply Nat.eq_of_testBit_eq
  intro i
  have e1 : 2 ^ 64 - 1 - (2 ^ e - 1) = 2 ^ 64 - (2 ^ e - 1 + 1) := by omega
  rw [Nat.testBit_and, e1, Nat.testBit_two_pow_sub_succ hlt, Nat.testBit_two_pow_sub_one, Nat.mul_comm, Nat.testBit_two_pow_mul, Nat.testBit_div_two_pow]
  by_cases hi : i < e
  · simp [hi]; intro; omega
  · have : i - e + e = i := by omega
    by_cases h64 : i < 64
    · simp [hi, h64, this]; intro; omega
    · have : x.testBit i = false := Nat.testBit_lt_two_pow (Nat.lt_of_lt_of_le hx (Nat.pow_le_pow_right (by decide) (by omega)))
      simp [this, h64]
      intro; rename_i t _; rw [t]; assumption
theorem down_bits (x e : Nat) (hx : x < 18446744073709551616) (h : e < 64) : bits .andNot .u64 (x : Int) ((2 ^ e - 1 : Nat) : Int) = ((qd x e * 2 ^ e : Nat) : Int) := by
  have hlt := pow64 h
  have := andnot_unit x e hx h
  rw [u64_andNot_nat _ _ hx (by omega)]
  unfold qd
  rw [← this]

theorem down_any (x e : Nat) (hx : x < 18446744073709551616) (h : e < 64) (w : World) :
    Calls Try.prog 52 #[.int .u64 x, .int .i64 e] w fun r w' => r = .returned (.int .u64 (fl x e : Nat)) ∧ w' = w := by
  go_enter Try.func52, Try.ntmps52
  go_wp2_with (go_at_call 53; refine (unit_any _ h _).mono ?_; rintro e w' ⟨rfl, rfl⟩)
  go_ret
  exact ⟨ret_int (by rw [fl_def]; exact down_bits x e hx h), rfl⟩

theorem add_lt (x y s : Nat) (h : x + y = s) (hs : s < 18446744073709551616) (w : World) :
    Calls Try.prog 54 #[.int .u64 x, .int .u64 y] w fun e w' => e = .returned (.tuple #[.int .u64 s, .bool false]) ∧ ∃ k, w' = w.drewN k := by
  refine (add_any x y w).mono fun e w' ⟨he, hw⟩ => ⟨?_, hw⟩
  rw [he, h, Nat.mod_eq_of_lt hs, show decide (18446744073709551616 ≤ s) = false from by simp; omega]

theorem up_any (x e : Nat) (hx : x ≤ 281474976710656) (h : e < 48) (w : World) :
    Calls Try.prog 51 #[.int .u64 x, .int .i64 e] w fun r w' => r = .returned (.tuple #[.int .u64 (ce x e : Nat), .bool true]) ∧ ∃ k, w' = w.drewN k := by
  rw [ce_def]
  have hlt : 2 ^ e ≤ 281474976710656 := by
    have : (2 : Nat) ^ e ≤ 2 ^ 48 := Nat.pow_le_pow_right (by decide) (by omega)
    simpa using this
  have hp := pow_pos2 e
  have hand : bits .and .u64 (x : Int) ((2 ^ e - 1 : Nat) : Int) = ((x % 2 ^ e : Nat) : Int) := by rw [u64_and_nat _ _ (by omega) (by omega), and_mask]
  have hsum := down_bits (x + (2 ^ e - 1)) e (by omega) (by omega)
  have hq : qd (x + (2 ^ e - 1)) e = qu x e := (qu_def x e).symm
  rw [hq] at hsum
  obtain ⟨s, hs⟩ : ∃ s, x + (2 ^ e - 1) = s := ⟨_, rfl⟩
  have hs2 : s < 18446744073709551616 := by omega
  have hz : x % 2 ^ e = 0 → x = qu x e * 2 ^ e := by
    intro hz
    have h1 : x = x / 2 ^ e * 2 ^ e := by have := Nat.div_add_mod x (2 ^ e); rw [Nat.mul_comm] at this; omega
    have h2 := qu_mul (x / 2 ^ e) e
    rw [← h1] at h2
    rw [h2]; exact h1
  rw [hs] at hsum
  have hun := fun W => unit_any e (by omega) W
  have hadd := fun W => add_lt x (2 ^ e - 1) s hs hs2 W
  obtain ⟨u, hu⟩ : ∃ u, u = 2 ^ e - 1 := ⟨_, rfl⟩
  rw [← hu] at hand hsum
  simp only [← hu] at hun hadd
  have Hs := Lib.hid hsum
  clear hsum hs hu
  obtain ⟨r, hr⟩ : ∃ r, r = qu x e * 2 ^ e := ⟨_, rfl⟩
  rw [← hr] at Hs hz ⊢
  have HU := Lib.hid hun; clear hun
  have HA := Lib.hid hadd; clear hadd
  clear hr
  by_cases h0 : x % 2 ^ e = 0
  · have hxr := hz h0
    rw [h0] at hand
    have ha : bits .and .u64 (x : Int) (u : Int) = 0 := hand
    clear hand h0 hz
    have HR := Lib.hid hxr; clear hxr
    go_enter Try.func51, Try.ntmps51
    go_wp2_with (first
      | (go_at_call 53; refine (HU.out _).mono ?_; rintro e w' ⟨rfl, rfl⟩)
      | (go_at_call 54; refine (HA.out _).mono ?_; rintro e w' ⟨rfl, k1, rfl⟩))
    go_ret2
    refine ⟨?_, 0, rfl⟩
    show Ending.returned (Value.tuple #[.int .u64 (x : Int), .bool true]) = _
    rw [HR.out]
  · have ha : (bits .and .u64 (x : Int) (u : Int) == 0) = false := by
      rw [hand]
      generalize x % 2 ^ e = m at h0
      simp; omega
    clear hand h0 hz
    go_enter Try.func51, Try.ntmps51
    go_wp2_with (first
      | (go_at_call 53; refine (HU.out _).mono ?_; rintro e w' ⟨rfl, rfl⟩)
      | (go_at_call 54; refine (HA.out _).mono ?_; rintro e w' ⟨rfl, k1, rfl⟩))
    go_ret2
    refine ⟨?_, _, rfl⟩
    show Ending.returned (Value.tuple #[.int .u64 (bits .andNot .u64 (s : Int) (u : Int)), .bool true]) = _
    rw [Hs.out]

theorem may_any (b t : Nat) (w : World) :
    Calls Try.prog 33 #[.agg #[.int .u64 b, .int .u64 t]] w fun r w' => r = .returned (.bool (decide (b ≤ t) && decide (t ≤ 281474976710656))) ∧ Below w.heap.size w w' := by
  go_enter Try.func33, Try.ntmps33
  go_wp2
  all_goals
    go_ret
    exact ⟨ret_bool (by simp [*]; try omega), (Below.refl _ _).alloc (Nat.le_refl _) _⟩
end Go.Proofs.Ytinckicchakifaa
