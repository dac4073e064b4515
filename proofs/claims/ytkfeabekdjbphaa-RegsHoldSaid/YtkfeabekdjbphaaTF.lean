
/-
  Contract of the reference's Decode: of any fields and any address.
-/
import Derived.Test.YtkfeabekdjbphaaTE
set_option linter.unusedSimpArgs false
namespace Go.Proofs.Ytkfeabekdjbphaa
open Go.RowKit Go.Sort

/-- What the reference's Decode reckons with, as the walk spells it. -/
structure RDecAt (fb ft fe a A A4 N0 N D : Nat) : Prop where
  hA : (a : Int) / 2 ^ (fe - 1) = (A : Int)
  hN0 : (IntKind.u64.wrap (IntKind.u64.wrap ((ft : Int) + 16384) - (fb : Int))).tmod 4096 = (N0 : Int)
  hN : 0 < fe → IntKind.u64.wrap ((N0 : Int) + 4096) = (N : Int)
  hNN : ¬ 0 < fe → N = N0
  hA4 : IntKind.u64.wrap ((A : Int) + 4096) = (A4 : Int)
  hD : (IntKind.u64.wrap (IntKind.u64.wrap (IntKind.u64.wrap ((A : Int) + 16384) - (fb : Int)) + 4096)).tmod 16384 = (D : Int)
structure RDecEnd (fe A4 N D B M T : Nat) : Prop where
  hB : IntKind.u64.wrap ((A4 : Int) - (D : Int)) = (B : Int)
  hM : IntKind.u64.wrap ((B : Int) + (N : Int)) = (M : Int)
  hT : (281474976710656 : Int) / 2 ^ (fe - 1) = (T : Int)
/-- the guards that let by. -/
structure RDecIn (fb ft fe a : Nat) : Prop where
  h3 : fe ≤ 37
  g1 : decide ((16384 : Int) ≤ (fb : Int)) = false
  g2 : decide ((4096 : Int) ≤ (ft : Int)) = false
  g3 : decide ((37 : Int) < (fe : Int)) = false
  g4 : decide ((281474976710656 : Int) ≤ (a : Int)) = false
  hx : ∀ W, Calls Try.prog 50 #[.int .u64 fe] W fun r w' => r = .returned (.int .u64 ((fe - 1 : Nat) : Int)) ∧ w' = W

theorem rdecode_g1 (fb ft fe a : Nat) (h : 16384 ≤ fb) (w : World) :
    Calls Try.prog 43 #[.agg #[.int .u64 fb, .int .u64 ft, .int .u64 fe], .int .u64 a] w fun r w' =>
      r = .returned (.tuple #[.agg #[.int .u64 0, .int .u64 0], .bool false]) ∧ Below w.heap.size w w' := by
  have g0 : decide ((16384 : Int) ≤ (fb : Int)) = true := by apply decide_eq_true; omega
  go_enter Try.func43, Try.ntmps43
  go_wp2
  refine bodyPost_ret (v := .tuple #[.agg #[.int .u64 0, .int .u64 0], .bool false]) (by simp [results, Try.results43, go_sem]) rfl ⟨rfl, (by repeat' (first | (with_reducible exact Below.refl _ _) | (with_reducible assumption) | (with_reducible refine Below.alloc ?_ ?_ _) | (with_reducible refine Below.setCell ?_ ?_ _) | (with_reducible refine Below.drew ?_) | (with_reducible refine below_drewN ?_ _) | go_size))⟩
theorem rdecode_g2 (fb ft fe a : Nat) (h0 : fb < 16384) (h : 4096 ≤ ft) (w : World) :
    Calls Try.prog 43 #[.agg #[.int .u64 fb, .int .u64 ft, .int .u64 fe], .int .u64 a] w fun r w' =>
      r = .returned (.tuple #[.agg #[.int .u64 0, .int .u64 0], .bool false]) ∧ Below w.heap.size w w' := by
  have g0 : decide ((16384 : Int) ≤ (fb : Int)) = false := by apply decide_eq_false; omega
  have g1 : decide ((4096 : Int) ≤ (ft : Int)) = true := by apply decide_eq_true; omega
  go_enter Try.func43, Try.ntmps43
  go_wp2
  refine bodyPost_ret (v := .tuple #[.agg #[.int .u64 0, .int .u64 0], .bool false]) (by simp [results, Try.results43, go_sem]) rfl ⟨rfl, (by repeat' (first | (with_reducible exact Below.refl _ _) | (with_reducible assumption) | (with_reducible refine Below.alloc ?_ ?_ _) | (with_reducible refine Below.setCell ?_ ?_ _) | (with_reducible refine Below.drew ?_) | (with_reducible refine below_drewN ?_ _) | go_size))⟩
theorem rdecode_g3 (fb ft fe a : Nat) (h0 : fb < 16384) (h1 : ft < 4096) (h : 37 < fe) (w : World) :
    Calls Try.prog 43 #[.agg #[.int .u64 fb, .int .u64 ft, .int .u64 fe], .int .u64 a] w fun r w' =>
      r = .returned (.tuple #[.agg #[.int .u64 0, .int .u64 0], .bool false]) ∧ Below w.heap.size w w' := by
  have g0 : decide ((16384 : Int) ≤ (fb : Int)) = false := by apply decide_eq_false; omega
  have g1 : decide ((4096 : Int) ≤ (ft : Int)) = false := by apply decide_eq_false; omega
  have g2 : decide ((37 : Int) < (fe : Int)) = true := by apply decide_eq_true; omega
  go_enter Try.func43, Try.ntmps43
  go_wp2
  refine bodyPost_ret (v := .tuple #[.agg #[.int .u64 0, .int .u64 0], .bool false]) (by simp [results, Try.results43, go_sem]) rfl ⟨rfl, (by repeat' (first | (with_reducible exact Below.refl _ _) | (with_reducible assumption) | (with_reducible refine Below.alloc ?_ ?_ _) | (with_reducible refine Below.setCell ?_ ?_ _) | (with_reducible refine Below.drew ?_) | (with_reducible refine below_drewN ?_ _) | go_size))⟩
theorem rdecode_g4 (fb ft fe a : Nat) (h0 : fb < 16384) (h1 : ft < 4096) (h2 : fe ≤ 37) (h : 281474976710656 ≤ a) (w : World) :
    Calls Try.prog 43 #[.agg #[.int .u64 fb, .int .u64 ft, .int .u64 fe], .int .u64 a] w fun r w' =>
      r = .returned (.tuple #[.agg #[.int .u64 0, .int .u64 0], .bool false]) ∧ Below w.heap.size w w' := by
  have g0 : decide ((16384 : Int) ≤ (fb : Int)) = false := by apply decide_eq_false; omega
  have g1 : decide ((4096 : Int) ≤ (ft : Int)) = false := by apply decide_eq_false; omega
  have g2 : decide ((37 : Int) < (fe : Int)) = false := by apply decide_eq_false; omega
  have g3 : decide ((281474976710656 : Int) ≤ (a : Int)) = true := by apply decide_eq_true; omega
  go_enter Try.func43, Try.ntmps43
  go_wp2
  refine bodyPost_ret (v := .tuple #[.agg #[.int .u64 0, .int .u64 0], .bool false]) (by simp [results, Try.results43, go_sem]) rfl ⟨rfl, (by repeat' (first | (with_reducible exact Below.refl _ _) | (with_reducible assumption) | (with_reducible refine Below.alloc ?_ ?_ _) | (with_reducible refine Below.setCell ?_ ?_ _) | (with_reducible refine Below.drew ?_) | (with_reducible refine below_drewN ?_ _) | go_size))⟩
theorem rdecode_d (fb ft fe a A A4 N0 N D : Nat) (H : RDecAt fb ft fe a A A4 N0 N D) (I : RDecIn fb ft fe a) (hd : A4 < D) (w : World) :
    Calls Try.prog 43 #[.agg #[.int .u64 fb, .int .u64 ft, .int .u64 fe], .int .u64 a] w fun r w' =>
      r = .returned (.tuple #[.agg #[.int .u64 0, .int .u64 0], .bool false]) ∧ Below w.heap.size w w' := by
  obtain ⟨hA, hN0, hN, hNN, hA4, hD⟩ := H
  obtain ⟨h3, g1, g2, g3, g4, hx⟩ := I
  have HX := Lib.hid hx; clear hx
  have g5 : decide (A4 < D) = true := decide_eq_true hd
  clear hd
  by_cases hf : 0 < fe
  · have hN1 := hN hf
    clear hN hNN
    go_enter Try.func43, Try.ntmps43
    go_wp2_with (go_at_call 50; refine (HX.out _).mono ?_; rintro e w' ⟨rfl, rfl⟩)
    refine bodyPost_ret (v := .tuple #[.agg #[.int .u64 0, .int .u64 0], .bool false]) (by simp [results, Try.results43, go_sem]) rfl ⟨rfl, (by repeat' (first | (with_reducible exact Below.refl _ _) | (with_reducible assumption) | (with_reducible refine Below.alloc ?_ ?_ _) | (with_reducible refine Below.setCell ?_ ?_ _) | (with_reducible refine Below.drew ?_) | (with_reducible refine below_drewN ?_ _) | go_size))⟩
  · obtain rfl := hNN hf
    clear hN hNN
    go_enter Try.func43, Try.ntmps43
    go_wp2_with (go_at_call 50; refine (HX.out _).mono ?_; rintro e w' ⟨rfl, rfl⟩)
    refine bodyPost_ret (v := .tuple #[.agg #[.int .u64 0, .int .u64 0], .bool false]) (by simp [results, Try.results43, go_sem]) rfl ⟨rfl, (by repeat' (first | (with_reducible exact Below.refl _ _) | (with_reducible assumption) | (with_reducible refine Below.alloc ?_ ?_ _) | (with_reducible refine Below.setCell ?_ ?_ _) | (with_reducible refine Below.drew ?_) | (with_reducible refine below_drewN ?_ _) | go_size))⟩
theorem rdecode_m (fb ft fe a A A4 N0 N D B M T : Nat) (H : RDecAt fb ft fe a A A4 N0 N D) (I : RDecIn fb ft fe a) (E : RDecEnd fe A4 N D B M T) (hd : D ≤ A4) (hm : T < M) (w : World) :
    Calls Try.prog 43 #[.agg #[.int .u64 fb, .int .u64 ft, .int .u64 fe], .int .u64 a] w fun r w' =>
      r = .returned (.tuple #[.agg #[.int .u64 0, .int .u64 0], .bool false]) ∧ Below w.heap.size w w' := by
  obtain ⟨hA, hN0, hN, hNN, hA4, hD⟩ := H
  obtain ⟨h3, g1, g2, g3, g4, hx⟩ := I
  have HX := Lib.hid hx; clear hx
  have g5 : decide (A4 < D) = false := by apply decide_eq_false; omega
  have g6 : decide (T < M) = true := decide_eq_true hm
  obtain ⟨hB, hM, hT⟩ := E
  clear hd hm
  by_cases hf : 0 < fe
  · have hN1 := hN hf
    clear hN hNN
    go_enter Try.func43, Try.ntmps43
    go_wp2_with (go_at_call 50; refine (HX.out _).mono ?_; rintro e w' ⟨rfl, rfl⟩)
    refine bodyPost_ret (v := .tuple #[.agg #[.int .u64 0, .int .u64 0], .bool false]) (by simp [results, Try.results43, go_sem]) rfl ⟨rfl, (by repeat' (first | (with_reducible exact Below.refl _ _) | (with_reducible assumption) | (with_reducible refine Below.alloc ?_ ?_ _) | (with_reducible refine Below.setCell ?_ ?_ _) | (with_reducible refine Below.drew ?_) | (with_reducible refine below_drewN ?_ _) | go_size))⟩
  · obtain rfl := hNN hf
    clear hN hNN
    go_enter Try.func43, Try.ntmps43
    go_wp2_with (go_at_call 50; refine (HX.out _).mono ?_; rintro e w' ⟨rfl, rfl⟩)
    refine bodyPost_ret (v := .tuple #[.agg #[.int .u64 0, .int .u64 0], .bool false]) (by simp [results, Try.results43, go_sem]) rfl ⟨rfl, (by repeat' (first | (with_reducible exact Below.refl _ _) | (with_reducible assumption) | (with_reducible refine Below.alloc ?_ ?_ _) | (with_reducible refine Below.setCell ?_ ?_ _) | (with_reducible refine Below.drew ?_) | (with_reducible refine below_drewN ?_ _) | go_size))⟩
theorem rdecode_ok (fb ft fe a A A4 N0 N D B M T b t : Nat) (H : RDecAt fb ft fe a A A4 N0 N D) (I : RDecIn fb ft fe a) (E : RDecEnd fe A4 N D B M T) (hd : D ≤ A4) (hm : M ≤ T)
    (hb : IntKind.u64.wrap ((B : Int) * 2 ^ (fe - 1)) = (b : Int)) (ht : IntKind.u64.wrap ((M : Int) * 2 ^ (fe - 1)) = (t : Int)) (w : World) :
    Calls Try.prog 43 #[.agg #[.int .u64 fb, .int .u64 ft, .int .u64 fe], .int .u64 a] w fun r w' =>
      r = .returned (.tuple #[.agg #[.int .u64 b, .int .u64 t], .bool true]) ∧ Below w.heap.size w w' := by
  obtain ⟨hA, hN0, hN, hNN, hA4, hD⟩ := H
  obtain ⟨h3, g1, g2, g3, g4, hx⟩ := I
  have HX := Lib.hid hx; clear hx
  have g5 : decide (A4 < D) = false := by apply decide_eq_false; omega
  have g6 : decide (T < M) = false := by apply decide_eq_false; omega
  obtain ⟨hB, hM, hT⟩ := E
  clear hd hm
  by_cases hf : 0 < fe
  · have hN1 := hN hf
    clear hN hNN
    go_enter Try.func43, Try.ntmps43
    go_wp2_with (go_at_call 50; refine (HX.out _).mono ?_; rintro e w' ⟨rfl, rfl⟩)
    refine bodyPost_ret (v := .tuple #[.agg #[.int .u64 b, .int .u64 t], .bool true]) (by simp [results, Try.results43, go_sem]) rfl ⟨rfl, (by repeat' (first | (with_reducible exact Below.refl _ _) | (with_reducible assumption) | (with_reducible refine Below.alloc ?_ ?_ _) | (with_reducible refine Below.setCell ?_ ?_ _) | (with_reducible refine Below.drew ?_) | (with_reducible refine below_drewN ?_ _) | go_size))⟩
  · obtain rfl := hNN hf
    clear hN hNN
    go_enter Try.func43, Try.ntmps43
    go_wp2_with (go_at_call 50; refine (HX.out _).mono ?_; rintro e w' ⟨rfl, rfl⟩)
    refine bodyPost_ret (v := .tuple #[.agg #[.int .u64 b, .int .u64 t], .bool true]) (by simp [results, Try.results43, go_sem]) rfl ⟨rfl, (by repeat' (first | (with_reducible exact Below.refl _ _) | (with_reducible assumption) | (with_reducible refine Below.alloc ?_ ?_ _) | (with_reducible refine Below.setCell ?_ ?_ _) | (with_reducible refine Below.drew ?_) | (with_reducible refine below_drewN ?_ _) | go_size))⟩

theorem rdecode_any (fb ft fe a : Nat) (w : World) :
    Calls Try.prog 43 #[.agg #[.int .u64 fb, .int .u64 ft, .int .u64 fe], .int .u64 a] w fun r w' =>
      r = .returned (.tuple #[.agg #[.int .u64 (dB fb ft fe a : Nat), .int .u64 (dT fb ft fe a : Nat)], .bool (dOk fb ft fe a)]) ∧ Below w.heap.size w w' := by
  have no : dOk fb ft fe a = false → (Calls Try.prog 43 #[.agg #[.int .u64 fb, .int .u64 ft, .int .u64 fe], .int .u64 a] w fun r w' =>
      r = .returned (.tuple #[.agg #[.int .u64 0, .int .u64 0], .bool false]) ∧ Below w.heap.size w w') → (Calls Try.prog 43 #[.agg #[.int .u64 fb, .int .u64 ft, .int .u64 fe], .int .u64 a] w fun r w' =>
      r = .returned (.tuple #[.agg #[.int .u64 (dB fb ft fe a : Nat), .int .u64 (dT fb ft fe a : Nat)], .bool (dOk fb ft fe a)]) ∧ Below w.heap.size w w') := fun hk hc => by
    rw [dB_no hk, dT_no hk, hk]; exact hc
  by_cases l1 : fb < 16384
  · by_cases l2 : ft < 4096
    · by_cases hi : fe ≤ 37
      · by_cases ha : a < 281474976710656
        · have hA2 := Nat.div_le_self a (2 ^ (fe - 1))
          have hN2 : dN fb ft fe < 8192 := by rw [dN_eq]; split <;> omega
          have hD2 : dD fb fe a < 16384 := by rw [dD_eq]; omega
          have I : RDecIn fb ft fe a := ⟨hi, by apply decide_eq_false; omega, by apply decide_eq_false; omega, by apply decide_eq_false; omega, by apply decide_eq_false; omega, rexp_any fe (by omega)⟩
          have H : RDecAt fb ft fe a (a / 2 ^ (fe - 1)) (a / 2 ^ (fe - 1) + 4096) ((ft + 16384 - fb) % 4096) (dN fb ft fe) (dD fb fe a) :=
            { hA := by simp
              hN0 := by rw [IntKind.wrap_u64, IntKind.wrap_u64, Int.tmod_eq_emod_of_nonneg (by omega)]; omega
              hN := fun hf => by rw [dN_eq, if_neg (by omega), IntKind.wrap_u64]; omega
              hNN := fun hf => by rw [dN_eq, if_pos (by omega)]; omega
              hA4 := by
                generalize a / 2 ^ (fe - 1) = A at *
                rw [IntKind.wrap_u64]; omega
              hD := by
                rw [dD_eq]
                generalize a / 2 ^ (fe - 1) = A at *
                rw [IntKind.wrap_u64, IntKind.wrap_u64, IntKind.wrap_u64, Int.tmod_eq_emod_of_nonneg (by omega)]; omega }
          by_cases hd : dD fb fe a ≤ a / 2 ^ (fe - 1) + 4096
          · have hpw : 281474976710656 / 2 ^ (fe - 1) ≤ 281474976710656 := Nat.div_le_self _ _
            have E : RDecEnd fe (a / 2 ^ (fe - 1) + 4096) (dN fb ft fe) (dD fb fe a) (dBase fb fe a) (dBase fb fe a + dN fb ft fe) (281474976710656 / 2 ^ (fe - 1)) :=
              { hB := by
                  rw [dBase_eq]
                  generalize a / 2 ^ (fe - 1) = A at *
                  rw [IntKind.wrap_u64]; omega
                hM := by
                  rw [dBase_eq]
                  generalize a / 2 ^ (fe - 1) = A at *
                  rw [IntKind.wrap_u64]; omega
                hT := top_div _ }
            by_cases hm : dBase fb fe a + dN fb ft fe ≤ 281474976710656 / 2 ^ (fe - 1)
            · have hk : dOk fb ft fe a = true := by
                rw [dOk_eq]; simp only [Bool.and_eq_true, decide_eq_true_eq]; exact ⟨⟨⟨⟨⟨l1, l2⟩, hi⟩, ha⟩, hd⟩, hm⟩
              have e1 := dT_le fb ft fe a
              have e2 := dB_le_dT fb ft fe a
              rw [dB_yes hk, dT_yes hk] at *
              rw [hk]
              have cb : ∀ B x : Nat, B * 2 ^ x ≤ 281474976710656 → IntKind.u64.wrap ((B : Int) * 2 ^ x) = ((B * 2 ^ x : Nat) : Int) := by
                intro B x h
                have : (B : Int) * 2 ^ x = ((B * 2 ^ x : Nat) : Int) := by rw [Int.natCast_mul]; simp
                rw [this, IntKind.wrap_u64]; omega
              exact rdecode_ok fb ft fe a _ _ _ _ _ _ _ _ _ _ H I E hd hm (cb _ _ (by omega)) (cb _ _ (by omega)) w
            · refine no ?_ (rdecode_m fb ft fe a _ _ _ _ _ _ _ _ H I E hd (by omega) w)
              rw [dOk_eq, decide_eq_false hm, Bool.and_false]
          · refine no ?_ (rdecode_d fb ft fe a _ _ _ _ _ H I (by omega) w)
            rw [dOk_eq, decide_eq_false hd, Bool.and_false, Bool.false_and]
        · refine no ?_ (rdecode_g4 fb ft fe a l1 l2 hi (by omega) w)
          rw [dOk_eq, decide_eq_false ha, Bool.and_false, Bool.false_and, Bool.false_and]
      · refine no ?_ (rdecode_g3 fb ft fe a l1 l2 (by omega) w)
        rw [dOk_eq, decide_eq_false hi, Bool.and_false, Bool.false_and, Bool.false_and, Bool.false_and]
    · refine no ?_ (rdecode_g2 fb ft fe a l1 (by omega) w)
      rw [dOk_eq, decide_eq_false l2, Bool.and_false, Bool.false_and, Bool.false_and, Bool.false_and, Bool.false_and]
  · refine no ?_ (rdecode_g1 fb ft fe a (by omega) w)
    rw [dOk_eq, decide_eq_false l1, Bool.false_and, Bool.false_and, Bool.false_and, Bool.false_and, Bool.false_and]
end Go.Proofs.Ytkfeabekdjbphaa
