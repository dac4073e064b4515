/-
  The walk of the law BoundsNear: of any three numbers it returns true, and only makes new memory.
-/
import Derived.Test.YtbojalfjbmiokaaWBoundsNearA
import Derived.BigRegion
import Derived.BigQuiet
set_option linter.unusedSimpArgs false
set_option linter.unusedVariables false
namespace Go.Proofs.Ytbojalfjbmiokaa
open Go.RowKit Go.Sort

theorem near_plain {b t P : Nat} (at' : Nat) (hb : b ≤ t) (ht : t ≤ 281474976710656) (hP : P = 2 ^ (ex b t - 1)) :
    ∃ Hi Lo D R At : Nat, Lo = kb b t - 4096 * P ∧ Hi = min (kb b t + 12288 * P) 281474976710656 ∧ D = Hi - Lo ∧ 0 < D ∧ R = at' % D ∧ R < D ∧ At = Lo + R ∧ At < 281474976710656 ∧ kb b t ≤ 281474976710656 ∧ P ≤ 68719476736 ∧
      (dOk (fB b t) (fT b t) (ex b t) At = true ∧ dB (fB b t) (fT b t) (ex b t) At = kb b t ∧ dT (fB b t) (fT b t) (ex b t) At = kt b t) ∧
      (kb b t < 281474976710656 → dOk (fB b t) (fT b t) (ex b t) (kb b t) = true ∧ dB (fB b t) (fT b t) (ex b t) (kb b t) = kb b t ∧ dT (fB b t) (fT b t) (ex b t) (kb b t) = kt b t) := by
  have k1 := kb_le_kt hb
  have k2 := kt_le48 hb ht
  have hx := ex_le hb ht
  have hP0 : 0 < P := by rw [hP]; exact pow_pos2 _
  have hP36 : P ≤ 68719476736 := by
    rw [hP]
    have : (2 : Nat) ^ (ex b t - 1) ≤ 2 ^ 36 := Nat.pow_le_pow_right (by decide) (by omega)
    simpa using this
  have hk : kb b t = qd b (ex b t - 1) * P := by rw [kb_def, hP]
  refine ⟨_, _, _, _, _, rfl, rfl, rfl, by omega, rfl, Nat.mod_lt _ (by omega), rfl, ?_, by omega, hP36, ?_, ?_⟩
  · have := Nat.mod_lt at' (show min (kb b t + 12288 * P) 281474976710656 - (kb b t - 4096 * P) > 0 by omega)
    omega
  · have hm := Nat.mod_lt at' (show min (kb b t + 12288 * P) 281474976710656 - (kb b t - 4096 * P) > 0 by omega)
    generalize hA : kb b t - 4096 * P + at' % (min (kb b t + 12288 * P) 281474976710656 - (kb b t - 4096 * P)) = A
    have l1 : kb b t ≤ A + 4096 * P := by omega
    have l2 : A < kb b t + 12288 * P := by omega
    have l3 : A < 281474976710656 := by omega
    clear hA hm
    have d1 := Nat.div_mul_le_self A P
    have d2 := Nat.lt_div_mul_add (a := A) hP0
    rw [hk] at l1 l2
    refine near_steps hb ht l3 ?_ ?_
    · rw [← hP]
      refine Nat.le_of_not_lt fun h => ?_
      have := Nat.mul_le_mul_right P (show A / P + 4097 ≤ qd b (ex b t - 1) by omega)
      rw [Nat.add_mul] at this
      omega
    · rw [← hP]
      refine Nat.lt_of_not_le fun h => ?_
      have := Nat.mul_le_mul_right P h
      rw [Nat.add_mul] at this
      omega
  · intro hlt
    refine near_steps hb ht hlt ?_ ?_
    · rw [← hP, hk, Nat.mul_div_cancel _ hP0]; omega
    · rw [← hP, hk, Nat.mul_div_cancel _ hP0]; omega

theorem near_zero (KB Hi Lo D R At : Nat) (hLo : Lo = KB - 4096) (hHi : Hi = min (KB + 12288) 281474976710656) (hD : D = Hi - Lo) (hRD : R < D) (hAt : At = Lo + R) (hAt48 : At < 281474976710656) (hkb : KB ≤ 281474976710656) (hD0 : 0 < D) :
    IntKind.u64.wrap ((KB : Int) + 12288) = ((KB + 12288 : Nat) : Int) ∧
    ((decide ((4096 : Int) < (KB : Int)) = true ∧ IntKind.u64.wrap ((KB : Int) - 4096) = (Lo : Int)) ∨ (decide ((4096 : Int) < (KB : Int)) = false ∧ Lo = 0)) ∧
    (if (281474976710656 : Int) < ((KB + 12288 : Nat) : Int) then (281474976710656 : Int) else ((KB + 12288 : Nat) : Int)) = (Hi : Int) ∧
    decide (Hi ≤ Lo) = false ∧ IntKind.u64.wrap ((Hi : Int) - (Lo : Int)) = (D : Int) ∧ decide ((Hi : Int) ≤ 0) = false ∧ (Lo = 0 → Hi = D) ∧
    IntKind.u64.wrap ((Lo : Int) + (R : Int)) = (At : Int) ∧ (Lo = 0 → R = At) ∧ IntKind.u64.wrap (R : Int) = (R : Int) := by
  refine ⟨?_, ?_, ?_, decide_eq_false (by omega), ?_, decide_eq_false (by omega), by omega, ?_, by omega, ?_⟩
  · rw [IntKind.wrap_u64]; omega
  · by_cases h : 4096 < KB
    · left; exact ⟨decide_eq_true (by omega), by rw [IntKind.wrap_u64]; omega⟩
    · right; exact ⟨decide_eq_false (by omega), by omega⟩
  · split <;> omega
  · rw [IntKind.wrap_u64]; omega
  · rw [IntKind.wrap_u64]; omega
  · rw [IntKind.wrap_u64]; omega

theorem walk_BoundsNear (a : Nat) (b0 : a < 18446744073709551616) (b : Nat) (b1 : b < 18446744073709551616) (at' : Nat) (b2 : at' < 18446744073709551616) (w : World) :
    Calls Try.prog 9 #[.int .u64 a, .int .u64 b, .int .u64 at'] w fun e w' => e = .returned (.bool true) ∧ Below w.heap.size w w' := by
  have q1 := span_any a b
  have hb := s1_le a b
  have ht := s2_le a b
  generalize s1 a b = B at *
  generalize s2 a b = T at *
  have hx := ex_le hb ht
  have hfb := fB_lt B T
  have hft := fT_lt B T
  obtain ⟨P, hP⟩ : ∃ P, P = 2 ^ (ex B T - 1) := ⟨_, rfl⟩
  obtain ⟨Hi, Lo, D, R, At, hLo, hHi, hD, hD0, hR, hRD, hAt, hAt48, hkb, hP36, ⟨d1, d2, d3⟩, hn⟩ := near_plain at' hb ht hP
  have q2 := encode_yes B T hb ht
  have q3 := rounded_yes B T hb ht
  have q4 := decode_any (fB B T) (fT B T) (ex B T) At (by omega) (by omega) (by omega)
  rw [d1, d2, d3] at q4
  have q5 := near_any (fB B T) (fT B T) (ex B T) (kb B T) At (by omega) (by omega) (by omega)
  rw [d1, d2, d3] at q5
  have hk : (((kb B T : Nat) : Int) == 281474976710656) = true ∨ ((((kb B T : Nat) : Int) == 281474976710656) = false ∧
      (∀ w, Calls Try.prog 14 #[.agg #[.int .u64 (fB B T : Nat), .int .u64 (fT B T : Nat), .int .u64 (ex B T : Nat)], .int .u64 (kb B T : Nat), .int .u64 At] w fun r w' => r = .returned (.bool true) ∧ Below w.heap.size w w')) := by
    by_cases h : kb B T = 281474976710656
    · left; rw [h]; rfl
    · right
      obtain ⟨n1, n2, n3⟩ := hn (by omega)
      rw [n1, n2, n3, eq2_own] at q5
      refine ⟨?_, q5⟩
      simp; omega
  clear q5 d1 d2 d3 hn
  have tD : (at' : Int) % (D : Int) = (R : Int) := by rw [hR]; rfl
  have tD' : (at' : Int).tmod (D : Int) = (R : Int) := by rw [Int.tmod_eq_emod_of_nonneg (by omega), hR]; rfl
  clear hR
  by_cases hf : 0 < ex B T
  · have c0 : (2 : Int) ^ (12 + (ex B T - 1)) = 4096 * (P : Int) := by
      rw [Int.pow_add, hP]; simp
    generalize kb B T = KB at *
    generalize kt B T = KT at *
    refine near_walk a b at' B T (fB B T) (fT B T) KB KT (KB + 12288 * P) Hi Lo D R At (ex B T) (ex B T - 1) (12 + (ex B T - 1)) (4096 * P) (12288 * P) q1 _ q2 q3
      (decide_eq_true (by omega)) (by omega) (by omega) (by omega) ?_ ?_ ?_ ?_ ?_ (decide_eq_false (by omega)) ?_ (decide_eq_false (by omega)) (by omega) hD0 tD tD' ?_ (by omega) ?_ q4 hk w
    · rw [c0, IntKind.wrap_u64]; omega
    · rw [c0, IntKind.wrap_u64]; omega
    · rw [IntKind.wrap_u64]; omega
    · by_cases h : 4096 * P < KB
      · left; exact ⟨decide_eq_true h, by rw [IntKind.wrap_u64]; omega⟩
      · right; exact ⟨decide_eq_false h, by omega⟩
    · split <;> omega
    · rw [IntKind.wrap_u64]; omega
    · rw [IntKind.wrap_u64]; omega
    · rw [IntKind.wrap_u64]; omega
  · have e0 : ex B T = 0 := by omega
    have hP1 : P = 1 := by rw [hP, e0]
    rw [e0] at q2 q4 hk
    have hLo' : Lo = kb B T - 4096 := by rw [hP1] at hLo; simpa using hLo
    have hHi' : Hi = min (kb B T + 12288) 281474976710656 := by rw [hP1] at hHi; simpa using hHi
    clear hLo hHi hP hP1 hP36
    generalize kb B T = KB at *
    generalize kt B T = KT at *
    obtain ⟨f1, f2, f3, f4, f5, f6, f7, f8, f9, f10⟩ := near_zero KB Hi Lo D R At hLo' hHi' hD hRD hAt hAt48 hkb hD0
    exact near_walk0 a b at' B T (fB B T) (fT B T) KB KT (KB + 12288) Hi Lo D R At q1 _ q2 q3 f1 f2 f3 f4 f5 f6 f7 hD0 tD tD' f8 f9 f10 q4 hk w
end Go.Proofs.Ytbojalfjbmiokaa
