/-
  Contract of the reference's kept: of a span that may be and an E up to 37.
-/
import Derived.Test.YtinckicchakifaaTB
set_option linter.unusedSimpArgs false
namespace Go.Proofs.Ytinckicchakifaa
open Go.RowKit Go.Sort

set_option maxHeartbeats 1600000 in
theorem rkept_any (b t e : Nat) (hb : b ≤ t) (ht : t ≤ 281474976710656) (he : e ≤ 37) (w : World) :
    Calls Try.prog 41 #[.agg #[.int .u64 b, .int .u64 t], .int .u64 e] w fun r w' =>
      r = .returned (.tuple #[.agg #[.int .u64 (fl b (e - 1) : Nat), .int .u64 (ce t (e - 1) : Nat)], .bool (rk b t e)]) ∧ Below w.heap.size w w' := by
  have hx := rexp_any e (by omega)
  have hq : (b : Int) / 2 ^ (e - 1) = ((qd b (e - 1) : Nat) : Int) := by rw [qd_def]; simp
  obtain ⟨T0, hT0⟩ : ∃ T0, T0 = t / 2 ^ (e - 1) := ⟨_, rfl⟩
  have ht0 : (t : Int) / 2 ^ (e - 1) = (T0 : Int) := by rw [hT0]; simp
  have hZ : IntKind.u64.wrap ((T0 : Int) * 2 ^ (e - 1)) = ((T0 * 2 ^ (e - 1) : Nat) : Int) := by
    have : T0 * 2 ^ (e - 1) ≤ t := by rw [hT0]; exact Nat.div_mul_le_self _ _
    have e1 : (T0 : Int) * 2 ^ (e - 1) = ((T0 * 2 ^ (e - 1) : Nat) : Int) := by rw [Int.natCast_mul]; simp
    rw [e1, IntKind.wrap_u64]; omega
  have hqc := qu_cases t (e - 1)
  rw [← hT0] at hqc
  have hT0l : T0 ≤ t := by rw [hT0]; exact Nat.div_le_self _ _
  have hqle := qd_le_qu hb (e - 1)
  have hquL : qu t (e - 1) ≤ T0 + 1 := by
    by_cases h : T0 * 2 ^ (e - 1) < t
    · rw [hqc.1 h]; omega
    · rw [hqc.2 h]; omega
  have hstp : (qu t (e - 1) : Int) - (qd b (e - 1) : Nat) = ((stp b t (e - 1) : Nat) : Int) := by rw [stp_def]; omega
  have hfl : IntKind.u64.wrap (((qd b (e - 1) : Nat) : Int) * 2 ^ (e - 1)) = ((fl b (e - 1) : Nat) : Int) := by
    have := fl_le b (e - 1)
    rw [fl_def] at this ⊢
    have e1 : ((qd b (e - 1) : Nat) : Int) * 2 ^ (e - 1) = ((qd b (e - 1) * 2 ^ (e - 1) : Nat) : Int) := by rw [Int.natCast_mul]; simp
    rw [e1, IntKind.wrap_u64]; omega
  have hce : IntKind.u64.wrap (((qu t (e - 1) : Nat) : Int) * 2 ^ (e - 1)) = ((ce t (e - 1) : Nat) : Int) := by
    have := ce_le t (e - 1) ht (by omega)
    rw [ce_def] at this ⊢
    have e1 : ((qu t (e - 1) : Nat) : Int) * 2 ^ (e - 1) = ((qu t (e - 1) * 2 ^ (e - 1) : Nat) : Int) := by rw [Int.natCast_mul]; simp
    rw [e1, IntKind.wrap_u64]; omega
  obtain ⟨Z, eZ⟩ : ∃ Z, Z = T0 * 2 ^ (e - 1) := ⟨_, rfl⟩
  obtain ⟨Q, eQ⟩ : ∃ Q, Q = qd b (e - 1) := ⟨_, rfl⟩
  obtain ⟨U, eU⟩ : ∃ U, U = qu t (e - 1) := ⟨_, rfl⟩
  rw [← eZ] at hZ hqc
  rw [← eQ] at hq hqle hstp hfl
  rw [← eU] at hqle hquL hstp hce hqc
  have hUQ : IntKind.u64.wrap ((U : Int) - (Q : Int)) = ((stp b t (e - 1) : Nat) : Int) := by rw [hstp, IntKind.wrap_u64]; omega
  clear hstp
  have hs0 : e = 0 → fl b (e - 1) = b ∧ ce t (e - 1) = t ∧ stp b t (e - 1) = t - b ∧ Q = b ∧ U = t ∧ T0 = t := by
    intro h; subst h
    simp only [Nat.zero_sub] at *
    refine ⟨by rw [fl_def, qd_zero]; simp, by rw [ce_def, qu_zero]; simp, by rw [stp_def, qu_zero, qd_zero], by rw [eQ, qd_zero], by rw [eU, qu_zero], by rw [hT0]; simp⟩
  clear hT0 eZ eQ eU
  have HX := Lib.hid hx; clear hx
  by_cases hz : e = 0
  · obtain ⟨a1, a2, a3, a4, a5, a6⟩ := hs0 hz
    have hg : ((e : Int) == 0) = true := by simp; omega
    have hd : decide (Z < t) = false := by
      have h2 := hqc
      by_cases h3 : Z < t
      · have := hqc.1 h3; omega
      · simpa using h3
    have hn : (t : Int) - (b : Int) = ((t - b : Nat) : Int) := by omega
    have hrk : rk b t e = decide ((T0 : Int) - (Q : Int) < 4096) := by
      rw [rk_def, if_pos hz, a4, a6]; apply decide_eq_decide.2; omega
    have e1 : fl b (e - 1) = Q := by rw [a1, a4]
    have e2 : ce t (e - 1) = T0 := by rw [a2, a6]
    rw [hrk, e1, e2]
    have hqt : Q ≤ T0 := by omega
    clear hs0 hrk a1 a2 a3 a4 a5 a6 hqc hn e1 e2 hfl hce hUQ hquL hqle hz
    go_enter Try.func41, Try.ntmps41
    go_wp2_with (go_at_call 42; refine (HX.out _).mono ?_; rintro e w' ⟨rfl, rfl⟩)
    refine bodyPost_ret (v := .tuple #[.agg #[.int .u64 Q, .int .u64 T0], .bool (decide ((T0 : Int) - (Q : Int) < 4096))]) (by simp [results, Try.results41, go_sem]) rfl ⟨rfl, (by repeat' (first | (with_reducible exact Below.refl _ _) | (with_reducible assumption) | (with_reducible refine Below.alloc ?_ ?_ _) | (with_reducible refine Below.setCell ?_ ?_ _) | (with_reducible refine Below.drew ?_) | (with_reducible refine below_drewN ?_ _) | go_size))⟩
  · have hrk : rk b t e = (decide (4096 ≤ stp b t (e - 1)) && decide (stp b t (e - 1) < 8192)) := by rw [rk_def, if_neg hz]
    rw [hrk]
    have hg : ((e : Int) == 0) = false := by simp; omega
    clear hs0 hrk
    obtain ⟨S, eS⟩ : ∃ S, S = stp b t (e - 1) := ⟨_, rfl⟩
    rw [← eS] at hUQ ⊢
    clear eS hz
    have hS : (U : Int) - (Q : Int) = (S : Int) := by rw [← hUQ, IntKind.wrap_u64]; omega
    have three : (S < 4096 ∧ (decide (4096 ≤ S) && decide (S < 8192)) = false) ∨ (4096 ≤ S ∧ S < 8192 ∧ (decide (4096 ≤ S) && decide (S < 8192)) = true) ∨ (4096 ≤ S ∧ 8192 ≤ S ∧ (decide (4096 ≤ S) && decide (S < 8192)) = false) := by
      by_cases h1 : S < 4096
      · left; refine ⟨h1, ?_⟩; rw [decide_eq_false (by omega)]; rfl
      · by_cases h2 : S < 8192
        · right; left; refine ⟨by omega, h2, ?_⟩; rw [decide_eq_true (by omega), decide_eq_true h2]; rfl
        · right; right; refine ⟨by omega, by omega, ?_⟩; rw [decide_eq_false h2, Bool.and_false]
    clear hUQ
    by_cases hlt : Z < t
    · have hU := hqc.1 hlt
      subst hU
      have hd : decide (Z < t) = true := by simpa using hlt
      have hce2 : IntKind.u64.wrap (((T0 : Int) + 1) * 2 ^ (e - 1)) = ((ce t (e - 1) : Nat) : Int) := by rw [← hce]; simp
      clear hqc hlt hce
      rcases three with ⟨s1, s2⟩ | ⟨s1, s2, s3⟩ | ⟨s1, s2, s3⟩
      · have g1 : decide ((4096 : Int) ≤ (T0 : Int) + 1 - (Q : Int)) = false := by apply decide_eq_false; omega
        rw [s2]; clear s1 s2 hS
        go_enter Try.func41, Try.ntmps41
        go_wp2_with (go_at_call 42; refine (HX.out _).mono ?_; rintro e w' ⟨rfl, rfl⟩)
        refine bodyPost_ret (v := .tuple #[.agg #[.int .u64 (fl b (e - 1) : Nat), .int .u64 (ce t (e - 1) : Nat)], .bool false]) (by simp [results, Try.results41, go_sem]) rfl ⟨rfl, (by repeat' (first | (with_reducible exact Below.refl _ _) | (with_reducible assumption) | (with_reducible refine Below.alloc ?_ ?_ _) | (with_reducible refine Below.setCell ?_ ?_ _) | (with_reducible refine Below.drew ?_) | (with_reducible refine below_drewN ?_ _) | go_size))⟩
      · have g1 : decide ((4096 : Int) ≤ (T0 : Int) + 1 - (Q : Int)) = true := by apply decide_eq_true; omega
        have g2 : decide ((T0 : Int) + 1 - (Q : Int) < 8192) = true := by apply decide_eq_true; omega
        rw [s3]; clear s1 s2 s3 hS
        go_enter Try.func41, Try.ntmps41
        go_wp2_with (go_at_call 42; refine (HX.out _).mono ?_; rintro e w' ⟨rfl, rfl⟩)
        refine bodyPost_ret (v := .tuple #[.agg #[.int .u64 (fl b (e - 1) : Nat), .int .u64 (ce t (e - 1) : Nat)], .bool true]) (by simp [results, Try.results41, go_sem]) rfl ⟨rfl, (by repeat' (first | (with_reducible exact Below.refl _ _) | (with_reducible assumption) | (with_reducible refine Below.alloc ?_ ?_ _) | (with_reducible refine Below.setCell ?_ ?_ _) | (with_reducible refine Below.drew ?_) | (with_reducible refine below_drewN ?_ _) | go_size))⟩
      · have g1 : decide ((4096 : Int) ≤ (T0 : Int) + 1 - (Q : Int)) = true := by apply decide_eq_true; omega
        have g2 : decide ((T0 : Int) + 1 - (Q : Int) < 8192) = false := by apply decide_eq_false; omega
        rw [s3]; clear s1 s2 s3 hS
        go_enter Try.func41, Try.ntmps41
        go_wp2_with (go_at_call 42; refine (HX.out _).mono ?_; rintro e w' ⟨rfl, rfl⟩)
        refine bodyPost_ret (v := .tuple #[.agg #[.int .u64 (fl b (e - 1) : Nat), .int .u64 (ce t (e - 1) : Nat)], .bool false]) (by simp [results, Try.results41, go_sem]) rfl ⟨rfl, (by repeat' (first | (with_reducible exact Below.refl _ _) | (with_reducible assumption) | (with_reducible refine Below.alloc ?_ ?_ _) | (with_reducible refine Below.setCell ?_ ?_ _) | (with_reducible refine Below.drew ?_) | (with_reducible refine below_drewN ?_ _) | go_size))⟩
    · have hU := hqc.2 hlt
      subst hU
      have hzc : Z = ce t (e - 1) := by rw [hZ] at hce; omega
      have hd : decide (ce t (e - 1) < t) = false := by rw [← hzc]; simpa using hlt
      clear hqc hlt hZ hzc
      rcases three with ⟨s1, s2⟩ | ⟨s1, s2, s3⟩ | ⟨s1, s2, s3⟩
      · have g1 : decide ((4096 : Int) ≤ (U : Int) - (Q : Int)) = false := by apply decide_eq_false; omega
        rw [s2]; clear s1 s2 hS
        go_enter Try.func41, Try.ntmps41
        go_wp2_with (go_at_call 42; refine (HX.out _).mono ?_; rintro e w' ⟨rfl, rfl⟩)
        refine bodyPost_ret (v := .tuple #[.agg #[.int .u64 (fl b (e - 1) : Nat), .int .u64 (ce t (e - 1) : Nat)], .bool false]) (by simp [results, Try.results41, go_sem]) rfl ⟨rfl, (by repeat' (first | (with_reducible exact Below.refl _ _) | (with_reducible assumption) | (with_reducible refine Below.alloc ?_ ?_ _) | (with_reducible refine Below.setCell ?_ ?_ _) | (with_reducible refine Below.drew ?_) | (with_reducible refine below_drewN ?_ _) | go_size))⟩
      · have g1 : decide ((4096 : Int) ≤ (U : Int) - (Q : Int)) = true := by apply decide_eq_true; omega
        have g2 : decide ((U : Int) - (Q : Int) < 8192) = true := by apply decide_eq_true; omega
        rw [s3]; clear s1 s2 s3 hS
        go_enter Try.func41, Try.ntmps41
        go_wp2_with (go_at_call 42; refine (HX.out _).mono ?_; rintro e w' ⟨rfl, rfl⟩)
        refine bodyPost_ret (v := .tuple #[.agg #[.int .u64 (fl b (e - 1) : Nat), .int .u64 (ce t (e - 1) : Nat)], .bool true]) (by simp [results, Try.results41, go_sem]) rfl ⟨rfl, (by repeat' (first | (with_reducible exact Below.refl _ _) | (with_reducible assumption) | (with_reducible refine Below.alloc ?_ ?_ _) | (with_reducible refine Below.setCell ?_ ?_ _) | (with_reducible refine Below.drew ?_) | (with_reducible refine below_drewN ?_ _) | go_size))⟩
      · have g1 : decide ((4096 : Int) ≤ (U : Int) - (Q : Int)) = true := by apply decide_eq_true; omega
        have g2 : decide ((U : Int) - (Q : Int) < 8192) = false := by apply decide_eq_false; omega
        rw [s3]; clear s1 s2 s3 hS
        go_enter Try.func41, Try.ntmps41
        go_wp2_with (go_at_call 42; refine (HX.out _).mono ?_; rintro e w' ⟨rfl, rfl⟩)
        refine bodyPost_ret (v := .tuple #[.agg #[.int .u64 (fl b (e - 1) : Nat), .int .u64 (ce t (e - 1) : Nat)], .bool false]) (by simp [results, Try.results41, go_sem]) rfl ⟨rfl, (by repeat' (first | (with_reducible exact Below.refl _ _) | (with_reducible assumption) | (with_reducible refine Below.alloc ?_ ?_ _) | (with_reducible refine Below.setCell ?_ ?_ _) | (with_reducible refine Below.drew ?_) | (with_reducible refine below_drewN ?_ _) | go_size))⟩
end Go.Proofs.Ytinckicchakifaa
