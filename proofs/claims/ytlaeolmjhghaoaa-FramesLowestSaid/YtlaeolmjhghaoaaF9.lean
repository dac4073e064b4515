/-
  Contracts of the reference's Take (m: the first that is free, or n).
-/
import Derived.Test.YtlaeolmjhghaoaaF8
set_option linter.unusedSimpArgs false
set_option linter.unusedVariables false
namespace Go.Proofs.Ytlaeolmjhghaoaa
open Go.RowKit Go.Shelf
attribute [local go_sem] Oper.semAt_some

set_option maxHeartbeats 2000000 in
theorem rtake_any (ad : Addr) (n c m : Nat) (bs : List Bool) (hl : bs.length = n) (hn : n ≤ 64) (hm : m ≤ n) (h1 : ∀ i, i < m → bs.getD i false = true) (h2 : m < n → bs.getD m false = false) (w : World) (hc : RB w ad bs) :
    Calls Try.prog 13 #[.slice (some ad) n c] w fun r w' => ∃ (ad' : Addr) (c' : Nat), r = .returned (.tuple #[.slice (some ad') n c', .int .i64 (if m < n then (m : Int) else 0), .int .i64 (if m < n then 0 else 15)]) ∧
      RB w' ad' (if m < n then bs.set m true else bs) ∧ Below w.heap.size w w' ∧ (ad' = ad ∨ w.heap.size ≤ ad'.block) := by
  have HC := Lib.hid hc
  have H1 := Lib.hid h1
  have H2 := Lib.hid h2
  have HL := Lib.hid hl
  clear hc h1 h2 hl
  have hcell : Hid (∀ j, j < n → w.cell? (ad.add j) = some (.bool (bs.getD j false))) := by
    refine Lib.hid fun j hj => ?_
    have hjl : j < bs.length := by rw [HL.out]; exact hj
    exact HC.out j _ (by rw [List.getElem?_map, List.getElem?_eq_getElem hjl]; simp [List.getD, List.getElem?_eq_getElem hjl])
  go_enter Try.func13, Try.ntmps13
  go_wp2
  go_loop [5] (fun i => ∃ k : Nat, k ≤ m ∧ i = .int .i64 (k : Nat)) (fun i => n - (intOf i).toNat)
  case atStart => exact ⟨0, Nat.zero_le _, rfl⟩
  case round =>
    obtain ⟨k, hk, rfl⟩ := hrel
    by_cases hkn : k < n
    · have g3 : decide (k < n) = true := decide_eq_true hkn
      have hcj := hcell.out k hkn
      by_cases hkm : k < m
      · have hb := H1.out k hkm
        rw [hb] at hcj
        clear hb
        go_wp2
        go_round
        case rel => exact ⟨k + 1, by omega, by first | rfl | simp⟩
        case measure => simp [intOf]; omega
      · obtain rfl : k = m := by omega
        have hb := H2.out hkn
        rw [hb] at hcj
        clear hb
        have q := fun (W : World) h => rwith_any ad n c k true bs HL.out hn hkn W h
        have Q := Lib.hid q
        clear q
        go_wp2_with (go_at_call 21; refine (Q.out _ HC.out).mono ?_; rintro e w2 ⟨p, c', rfl, ho, hb2⟩)
        go_ret3
        rcases ho.2 with ⟨_, h0⟩ | ⟨g, cap, cur, hv, hge, _⟩
        · omega
        · cases hv
          have hr := RB.of_own ho
          simp only [if_pos hkn]
          first | exact ⟨_, ⟨_, rfl⟩, hr, hb2, Or.inr hge⟩ | exact ⟨_, _, rfl, hr, hb2, Or.inr hge⟩
    · have g3 : decide (k < n) = false := decide_eq_false hkn
      obtain rfl : k = n := by omega
      obtain rfl : k = m := by omega
      go_wp2
      go_ret3
      first
        | exact ⟨_, ⟨_, rfl⟩, HC.out, (by repeat' (first | (with_reducible exact Below.refl _ _) | (with_reducible assumption) | (with_reducible refine Below.alloc ?_ ?_ _) | (with_reducible refine Below.setCell ?_ ?_ _) | (with_reducible refine Below.drew ?_) | (with_reducible refine below_drewN ?_ _) | go_size)), Or.inl rfl⟩
        | exact ⟨_, _, by simp, by simpa using HC.out, (by repeat' (first | (with_reducible exact Below.refl _ _) | (with_reducible assumption) | (with_reducible refine Below.alloc ?_ ?_ _) | (with_reducible refine Below.setCell ?_ ?_ _) | (with_reducible refine Below.drew ?_) | (with_reducible refine below_drewN ?_ _) | go_size)), Or.inl rfl⟩
end Go.Proofs.Ytlaeolmjhghaoaa
