/-
  Contract of the reference's All: the indices of the bools that are true.
-/
import Derived.Test.YtlaeolmjhghaoaaF9
set_option linter.unusedSimpArgs false
set_option linter.unusedVariables false
namespace Go.Proofs.Ytlaeolmjhghaoaa
open Go.RowKit Go.Shelf
attribute [local go_sem] Oper.semAt_some

theorem cell_in' {w : World} {a : Addr} {v : Value} (h : w.cell? a = some v) : a.block < w.heap.size := by
  unfold World.cell? at h
  split at h
  · rename_i hh
    exact (Array.getElem?_eq_some_iff.1 hh).1
  · simp at h
/-- the indices below k of what is true. -/
def idx (bs : List Bool) (k : Nat) : List Nat := (List.range k).filter fun i => bs.getD i false
theorem idx_zero (bs : List Bool) : idx bs 0 = [] := rfl
theorem idx_hit {bs : List Bool} {k : Nat} (h : bs.getD k false = true) : idx bs (k + 1) = idx bs k ++ [k] := by
  unfold idx; rw [List.range_succ, List.filter_append]; simp only [List.filter_cons, h]; rfl
theorem idx_miss {bs : List Bool} {k : Nat} (h : bs.getD k false = false) : idx bs (k + 1) = idx bs k := by
  unfold idx; rw [List.range_succ, List.filter_append]; simp only [List.filter_cons, h]; simp
theorem idx_len (bs : List Bool) (k : Nat) : (idx bs k).length ≤ k := by
  unfold idx; have := List.length_filter_le (fun i => bs.getD i false) (List.range k); simpa using this
attribute [irreducible] idx
set_option maxHeartbeats 2000000 in
theorem rall_any (ad : Addr) (n c : Nat) (bs : List Bool) (hl : bs.length = n) (hn : n ≤ 64) (w : World) (hc : RB w ad bs) :
    Calls Try.prog 15 #[.slice (some ad) n c] w fun r w' => ∃ (p : Option Addr) (c' : Nat), r = .returned (.slice p (idx bs n).length c') ∧
      w'.ownsRow w.heap.size 3 1 (.slice p (idx bs n).length c') (idx bs n).length ((idx bs n).map fun k : Nat => Value.int .i64 k) ∧ Below w.heap.size w w' := by
  have HC := Lib.hid hc
  have HL := Lib.hid hl
  clear hc hl
  obtain ⟨i0, hi, hz0, hz1, hz2⟩ := info_parts info_int
  have hmx : 64 ≤ maxLen := by decide
  have hcell : Hid (∀ j, j < n → w.cell? (ad.add j) = some (.bool (bs.getD j false))) := by
    refine Lib.hid fun j hj => ?_
    have hjl : j < bs.length := by rw [HL.out]; exact hj
    exact HC.out j _ (by rw [List.getElem?_map, List.getElem?_eq_getElem hjl]; simp [List.getD, List.getElem?_eq_getElem hjl])
  go_enter Try.func15, Try.ntmps15
  go_wp2
  go_loopw [3, 4] (fun v i wr => ∃ (k : Nat) (ao : Option Addr) (cv : Nat), k ≤ n ∧ i = .int .i64 (k : Nat) ∧ v = .slice ao (idx bs k).length cv ∧ wr.ownsRow w.heap.size 3 1 (.slice ao (idx bs k).length cv) (idx bs k).length ((idx bs k).map fun k : Nat => Value.int .i64 k) ∧ Below w.heap.size w wr)
    (fun _ i _ => n - (intOf i).toNat)
  case atStart => exact ⟨0, none, 0, Nat.zero_le _, rfl, by rw [idx_zero]; rfl, by rw [idx_zero]; exact World.ownsRow_nil _ _ _ _, Below.refl _ _⟩
  case round =>
    obtain ⟨k, ao, cv, hk, rfl, rfl, hown, hnx⟩ := hrel
    have hsize := hnx.size
    have hlen := idx_len bs k
    by_cases hkn : k < n
    · have g3 : decide (k < n) = true := decide_eq_true hkn
      have hcw := hcell.out k hkn
      have hcj := (hnx.cell (p := ad.add k) (cell_in' hcw)).trans hcw
      rcases Bool.eq_false_or_eq_true (bs.getD k false) with hb | hb
      · rw [hb] at hcj
        have hx := Lib.hid (idx_hit hb)
        clear hb hcw
        generalize idx bs k = L at *
        go_wp2_with (at_builtin; refine wpList_append_own _ rfl _ _ 35 rfl w.heap.size 3 i0 (.int .i64 0) 1 8 Try.underlying35 hi hz0 hz1 hz2 rfl (by decide) _ _ _ rfl (hown.alloc _) ⟨wr.heap.size, 0, none⟩ 1 1 [.int .i64 (k : Nat)] rfl rfl (cell_one_new _ _ _) (fun x hx => by simp at hx; subst hx; rfl) (by omega) (by omega) (by simp; omega) ?_; intro v' w3 hown' hgrow3 hnil3; obtain ⟨g', cap', rfl⟩ := ownsRow_succ hown')
        go_roundw
        case rel =>
          refine ⟨k + 1, some ⟨g', 0, none⟩, cap', by omega, by first | rfl | simp, by rw [hx.out]; simp, ?_, (hnx.alloc hsize _).grown hgrow3 (by simp; omega) (fun q hq => (hown.lt q hq).1)⟩
          rw [hx.out]
          simpa using hown'
        case measure => simp [intOf]; omega
      · rw [hb] at hcj
        have hx := Lib.hid (idx_miss hb)
        clear hb hcw
        go_wp2
        go_roundw
        case rel => exact ⟨k + 1, ao, cv, by omega, by first | rfl | simp, by rw [hx.out], by rw [hx.out]; exact hown, hnx⟩
        case measure => simp [intOf]; omega
    · have g3 : decide (k < n) = false := decide_eq_false hkn
      obtain rfl : k = n := by omega
      go_wp2
      go_ret
      exact ⟨_, _, rfl, hown, hnx⟩
end Go.Proofs.Ytlaeolmjhghaoaa
