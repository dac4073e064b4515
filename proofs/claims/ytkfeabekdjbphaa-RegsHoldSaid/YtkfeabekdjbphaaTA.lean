
/-
  Contract of bounds.Decode: of any fields and any address.
-/
import Derived.Test.YtkfeabekdjbphaaT9
set_option linter.unusedSimpArgs false
namespace Go.Proofs.Ytkfeabekdjbphaa
open Go.RowKit Go.Sort

theorem dOk_eq (fb ft fe a : Nat) : dOk fb ft fe a = (decide (fb < 16384) && decide (ft < 4096) && decide (fe ≤ 37) && decide (a < 281474976710656) && decide (dD fb fe a ≤ a / 2 ^ (fe - 1) + 4096) &&
    decide (dBase fb fe a + dN fb ft fe ≤ 281474976710656 / 2 ^ (fe - 1))) := by unfold dOk; rfl
theorem dB_no {fb ft fe a : Nat} (h : dOk fb ft fe a = false) : dB fb ft fe a = 0 := by unfold dB; rw [h]; rfl
theorem dT_no {fb ft fe a : Nat} (h : dOk fb ft fe a = false) : dT fb ft fe a = 0 := by unfold dT; rw [h]; rfl
theorem dB_yes {fb ft fe a : Nat} (h : dOk fb ft fe a = true) : dB fb ft fe a = dBase fb fe a * 2 ^ (fe - 1) := by unfold dB; rw [if_pos h]
theorem dT_yes {fb ft fe a : Nat} (h : dOk fb ft fe a = true) : dT fb ft fe a = (dBase fb fe a + dN fb ft fe) * 2 ^ (fe - 1) := by unfold dT; rw [if_pos h]
theorem dN_eq (fb ft fe : Nat) : dN fb ft fe = (ft + 16384 - fb) % 4096 + if fe = 0 then 0 else 4096 := by unfold dN; rfl
theorem dD_eq (fb fe a : Nat) : dD fb fe a = (a / 2 ^ (fe - 1) + 20480 - fb) % 16384 := by unfold dD; rfl
theorem dBase_eq (fb fe a : Nat) : dBase fb fe a = a / 2 ^ (fe - 1) + 4096 - dD fb fe a := by unfold dBase; rfl
theorem dT_le (fb ft fe a : Nat) : dT fb ft fe a ≤ 281474976710656 := by
  cases h : dOk fb ft fe a
  · rw [dT_no h]; omega
  · rw [dT_yes h]
    rw [dOk_eq] at h
    simp only [Bool.and_eq_true, decide_eq_true_eq] at h
    exact (Nat.le_div_iff_mul_le (pow_pos2 _)).1 h.2
theorem dB_le_dT (fb ft fe a : Nat) : dB fb ft fe a ≤ dT fb ft fe a := by
  cases h : dOk fb ft fe a
  · rw [dT_no h, dB_no h]; omega
  · rw [dT_yes h, dB_yes h]; exact Nat.mul_le_mul_right _ (Nat.le_add_right _ _)

theorem decode_any (fb ft fe a : Nat) (h1 : fb < 18446744073709551616) (h2 : ft < 18446744073709551616) (h3 : fe < 18446744073709551616) (w : World) :
    Calls Try.prog 40 #[.agg #[.int .u64 fb, .int .u64 ft, .int .u64 fe], .int .u64 a] w fun r w' =>
      r = .returned (.tuple #[.agg #[.int .u64 (dB fb ft fe a : Nat), .int .u64 (dT fb ft fe a : Nat)], .bool (dOk fb ft fe a)]) ∧ Below w.heap.size w w' := by
  have no : dOk fb ft fe a = false → (Calls Try.prog 40 #[.agg #[.int .u64 fb, .int .u64 ft, .int .u64 fe], .int .u64 a] w fun r w' =>
      r = .returned (.tuple #[.agg #[.int .u64 0, .int .u64 0], .bool false]) ∧ Below w.heap.size w w') → (Calls Try.prog 40 #[.agg #[.int .u64 fb, .int .u64 ft, .int .u64 fe], .int .u64 a] w fun r w' =>
      r = .returned (.tuple #[.agg #[.int .u64 (dB fb ft fe a : Nat), .int .u64 (dT fb ft fe a : Nat)], .bool (dOk fb ft fe a)]) ∧ Below w.heap.size w w') := fun hk hc => by
    rw [dB_no hk, dT_no hk, hk]; exact hc
  by_cases hl : fb < 16384 ∧ ft < 4096 ∧ fe < 64
  · obtain ⟨l1, l2, l3⟩ := hl
    by_cases hi : fe ≤ 37
    · by_cases ha : a < 281474976710656
      · have hA2 := Nat.div_le_self a (2 ^ (fe - 1))
        have H : DecAt fb ft fe a (a / 2 ^ (fe - 1)) ((ft + 16384 - fb) % 4096) (dN fb ft fe) (dD fb fe a) :=
          { h1 := l1, h2 := l2, h3 := hi, h := ha, hA := by simp, hN0 := n0_bits fb ft l1 l2
            hN := fun hf => by rw [dN_eq, if_neg (by omega)]; exact n1_bits _ (by omega)
            hD := by rw [dD_eq]; exact d_bits _ fb l1 (by omega)
            hA2 := by omega, hD2 := by rw [dD_eq]; omega
            hNN := fun hf => by rw [dN_eq, if_pos (by omega)]; omega
            hN2 := by rw [dN_eq]; split <;> omega }
        by_cases hd : dD fb fe a ≤ a / 2 ^ (fe - 1) + 4096
        · have hN2 := H.hN2
          have hD2 := H.hD2
          have hpw : 281474976710656 / 2 ^ (fe - 1) ≤ 281474976710656 := Nat.div_le_self _ _
          have E : DecEnd fe (a / 2 ^ (fe - 1)) (dN fb ft fe) (dD fb fe a) (dBase fb fe a) (dBase fb fe a + dN fb ft fe) (281474976710656 / 2 ^ (fe - 1)) :=
            { hB := by rw [dBase_eq, IntKind.wrap_u64]; omega
              hM := by rw [dBase_eq, IntKind.wrap_u64]; omega
              hT := top_div _ }
          by_cases hm : dBase fb fe a + dN fb ft fe ≤ 281474976710656 / 2 ^ (fe - 1)
          · have hk : dOk fb ft fe a = true := by
              rw [dOk_eq]; simp only [Bool.and_eq_true, decide_eq_true_eq]; exact ⟨⟨⟨⟨⟨l1, l2⟩, hi⟩, ha⟩, hd⟩, hm⟩
            have e1 := dT_le fb ft fe a
            have e2 := dB_le_dT fb ft fe a
            rw [dB_yes hk, dT_yes hk] at *
            rw [hk]
            have cb : ∀ B x : Nat, B * 2 ^ x ≤ 281474976710656 → IntKind.u64.wrap ((B : Int) * 2 ^ x) = ((B * 2 ^ x : Nat) : Int) := by
              intro B x h
              have : (B : Int) * 2 ^ x = ((B * 2 ^ x : Nat) : Int) := by rw [Int.natCast_mul]; simp
              rw [this, IntKind.wrap_u64]; omega
            exact decode_ok fb ft fe a _ _ _ _ _ _ _ _ _ H E hd hm (cb _ _ (by omega)) (cb _ _ (by omega)) w
          · refine no ?_ (decode_m fb ft fe a _ _ _ _ _ _ _ H E hd (by omega) w)
            rw [dOk_eq, decide_eq_false hm, Bool.and_false]
        · refine no ?_ (decode_d fb ft fe a _ _ _ _ H (by omega) w)
          rw [dOk_eq, decide_eq_false hd, Bool.and_false, Bool.false_and]
      · refine no ?_ (decode_far fb ft fe a l1 l2 hi (by omega) w)
        rw [dOk_eq, decide_eq_false ha, Bool.and_false, Bool.false_and, Bool.false_and]
    · refine no ?_ (decode_hi fb ft fe a l1 l2 l3 (by omega) w)
      rw [dOk_eq, decide_eq_false hi, Bool.and_false, Bool.false_and, Bool.false_and, Bool.false_and]
  · refine no ?_ (decode_not fb ft fe a h1 h2 h3 hl w)
    rw [dOk_eq]
    cases hb : (decide (fb < 16384) && decide (ft < 4096) && decide (fe ≤ 37))
    · simp
    · simp only [Bool.and_eq_true, decide_eq_true_eq] at hb; omega
end Go.Proofs.Ytkfeabekdjbphaa
