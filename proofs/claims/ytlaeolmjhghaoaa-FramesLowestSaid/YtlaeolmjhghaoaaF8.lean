/-
  Contracts of the reference's with, Take, Give, All (rows of bools).
-/
import Derived.Test.YtlaeolmjhghaoaaF7
set_option linter.unusedSimpArgs false
set_option linter.unusedVariables false
namespace Go.Proofs.Ytlaeolmjhghaoaa
open Go.RowKit Go.Shelf
attribute [local go_sem] Oper.semAt_some

theorem heap_put {W : World} {g j : Nat} {cur : Array Value} {e : TypeId} {u : Value} (h : W.heap[g]? = some (.cells cur e (0, 0))) : (W.setCell ⟨g, j, none⟩ u).heap[g]? = some (.cells (cur.setIfInBounds j u) e (0, 0)) := by
  obtain ⟨hlt, hk⟩ := Array.getElem?_eq_some_iff.1 h
  show (W.heap.modify g _)[g]? = _
  rw [Array.getElem?_eq_getElem (by rw [Array.size_modify]; exact hlt), Array.getElem_modify_self, hk]
  rfl
theorem row_put {bs : List Bool} {cur : Array Value} {n j : Nat} (t : Bool) (h : cur.toList.take (n * 1) = bs.map Value.bool) : (cur.setIfInBounds j (.bool t)).toList.take (n * 1) = (bs.set j t).map Value.bool := by
  rw [Array.toList_setIfInBounds, List.take_set, h, List.map_set]
set_option maxHeartbeats 2000000 in
theorem rwith_any (ad : Addr) (n c j : Nat) (t : Bool) (bs : List Bool) (hl : bs.length = n) (hn : n ≤ 64) (hj : j < n) (w : World) (hc : ∀ (i : Nat) (u : Value), (bs.map Value.bool)[i]? = some u → w.cell? (ad.add i) = some u) :
    Calls Try.prog 21 #[.slice (some ad) n c, .int .i64 (j : Nat), .bool t] w fun r w' => ∃ (p : Option Addr) (c' : Nat), r = .returned (.slice p n c') ∧ w'.ownsRow w.heap.size 4 1 (.slice p n c') n ((bs.set j t).map Value.bool) ∧ Below w.heap.size w w' := by
  obtain ⟨i0, hi, hz0, hz1, hz2⟩ := info_parts info_bool
  have hmx : 64 ≤ maxLen := by decide
  have HC := Lib.hid hc
  have HL := Lib.hid hl
  clear hc hl
  go_enter Try.func21, Try.ntmps21
  have hE : (w.alloc (.cells #[] 4)).ownsRow w.heap.size 4 1 (.slice (some ⟨w.heap.size, 0, none⟩) 0 0) 0 [] :=
    ⟨rfl, Or.inr ⟨w.heap.size, 0, #[], rfl, Nat.le_refl _, World.alloc_heap_new w _, Nat.le_refl _, Nat.zero_le _, rfl, rfl⟩⟩
  go_wp2_with (at_builtin; refine wpList_append_own _ rfl _ _ 40 rfl w.heap.size 4 i0 (.bool false) 1 1 Try.underlying40 hi hz0 hz1 hz2 rfl (by decide) _ _ _ rfl hE ad n c (bs.map Value.bool) rfl (by rw [List.length_map, HL.out, Nat.mul_one]) (fun i u hu => cell_kept (HC.out i u hu) (World.grownBy_alloc w _ none) (fun r e => by cases e)) (fun x hx => by obtain ⟨y, _, rfl⟩ := List.mem_map.1 hx; rfl) (by omega) (by omega) (by simp) ?_; intro v' w3 hown' hgrow3 hnil3; rw [Nat.zero_add, List.nil_append] at hown'; obtain ⟨g', cap', cur, rfl, hg', hh', hle', hm', hcs', htk'⟩ : ∃ g cap cur, v' = .slice (some ⟨g, 0, none⟩) n cap ∧ w.heap.size ≤ g ∧ w3.heap[g]? = some (.cells cur 4 (0, 0)) ∧ n ≤ cap ∧ cap ≤ maxLen ∧ cur.size = cap * 1 ∧ cur.toList.take (n * 1) = bs.map Value.bool := (hown'.2.resolve_left fun h => by omega); have hjc : j < cur.size := (by omega); have hcj : w3.cell? ⟨g', j, none⟩ = some cur[j] := (by simp [World.cell?, hh', hjc]); have hfj : w3.frozen? ⟨g', j, none⟩ = false := (by simp [World.frozen?, hh']); have hadd : (⟨g', 0, none⟩ : Addr).add j = ⟨g', j, none⟩ := (by unfold Addr.add; split <;> simp_all))
  go_ret
  refine ⟨_, _, rfl, ⟨by rw [List.length_map, List.length_set, HL.out, Nat.mul_one], Or.inr ⟨g', cap', _, rfl, hg', heap_put hh', hle', hm', by rw [Array.size_setIfInBounds]; exact hcs', row_put t htk'⟩⟩, ?_⟩
  refine Below.setCell (p := ⟨g', j, none⟩) ?_ hg' _
  exact ((Below.refl _ w).alloc (Nat.le_refl _) _).grown hgrow3 (by simp) (fun q hq => Nat.le_of_eq (Option.some.inj hq))
/-- from ad on there lie the bools bs. -/
def RB (w : World) (ad : Addr) (bs : List Bool) : Prop := ∀ (i : Nat) (u : Value), (bs.map Value.bool)[i]? = some u → w.cell? (ad.add i) = some u
theorem RB.of_own {w : World} {base n c : Nat} {ad : Addr} {bs : List Bool} (h : w.ownsRow base 4 1 (.slice (some ad) n c) n (bs.map Value.bool)) : RB w ad bs := by
  rcases h.2 with ⟨h0, _⟩ | ⟨g, cap, cur, hv, _, hh, _, _, _, ht⟩
  · cases h0
  · cases hv
    intro i u hu
    rw [← ht, List.getElem?_take] at hu
    split at hu
    · have hadd : (⟨g, 0, none⟩ : Addr).add i = ⟨g, i, none⟩ := by unfold Addr.add; split <;> simp_all
      rw [hadd]
      simp [World.cell?, hh]
      simpa using hu
    · cases hu
set_option maxHeartbeats 2000000 in
theorem rgive_any (ad : Addr) (n c : Nat) (k : Int) (bs : List Bool) (hl : bs.length = n) (hn : n ≤ 64) (w : World) (hc : RB w ad bs) :
    Calls Try.prog 14 #[.slice (some ad) n c, .int .i64 k] w fun r w' => ∃ (ad' : Addr) (c' : Nat), r = .returned (.tuple #[.slice (some ad') n c', .int .i64 (if 0 ≤ k ∧ k < n then (if bs.getD k.toNat false = true then 0 else 13) else 2)]) ∧
      RB w' ad' (if 0 ≤ k ∧ k < n ∧ bs.getD k.toNat false = true then bs.set k.toNat false else bs) ∧ Below w.heap.size w w' ∧ (ad' = ad ∨ w.heap.size ≤ ad'.block) := by
  by_cases g1 : 0 ≤ k
  · by_cases g2 : k < n
    · obtain ⟨j, rfl⟩ := Int.eq_ofNat_of_zero_le g1
      have hj : j < n := by omega
      have hjl : j < bs.length := by omega
      have G1 : decide ((j : Int) < 0) = false := decide_eq_false (by omega)
      have G2 : decide (n ≤ j) = false := decide_eq_false (by omega)
      have hcj : w.cell? (ad.add j) = some (.bool (bs.getD j false)) := hc j _ (by rw [List.getElem?_map, List.getElem?_eq_getElem hjl]; simp [List.getD, List.getElem?_eq_getElem hjl])
      have q := fun (W : World) h => rwith_any ad n c j false bs hl hn hj W h
      have Q := Lib.hid q
      have HC := Lib.hid hc
      rw [if_pos ⟨g1, g2⟩]
      simp only [Int.toNat_natCast]
      clear q hc hl hn hjl
      rcases Bool.eq_false_or_eq_true (bs.getD j false) with hb | hb
      rotate_left
      · rw [hb] at hcj
        rw [if_neg (by rw [hb]; simp), if_neg (by rw [hb]; simp)]
        clear hb g1 g2
        go_enter Try.func14, Try.ntmps14
        go_wp2
        go_ret2
        exact ⟨_, _, rfl, HC.out, (by repeat' (first | (with_reducible exact Below.refl _ _) | (with_reducible assumption) | (with_reducible refine Below.alloc ?_ ?_ _) | (with_reducible refine Below.setCell ?_ ?_ _) | (with_reducible refine Below.drew ?_) | (with_reducible refine below_drewN ?_ _) | go_size)), Or.inl rfl⟩
      · rw [hb] at hcj
        rw [if_pos hb, if_pos ⟨g1, g2, hb⟩]
        have hn0 := Lib.hid hj
        clear hb g1 g2
        go_enter Try.func14, Try.ntmps14
        go_wp2_with (go_at_call 21; refine (Q.out _ HC.out).mono ?_; rintro e w2 ⟨p, c', rfl, ho, hb2⟩)
        go_ret2
        rcases ho.2 with ⟨_, h0⟩ | ⟨g, cap, cur, hv, hge, _⟩
        · have := hn0.out; omega
        · cases hv
          exact ⟨_, _, rfl, RB.of_own ho, hb2, Or.inr hge⟩
    · have G1 : decide (k < 0) = false := decide_eq_false (by omega)
      have G2 : decide ((n : Int) ≤ k) = true := decide_eq_true (by omega)
      rw [if_neg (by omega), if_neg (by omega)]
      clear g1 g2 hl
      go_enter Try.func14, Try.ntmps14
      go_wp2
      go_ret2
      exact ⟨_, _, rfl, hc, (by repeat' (first | (with_reducible exact Below.refl _ _) | (with_reducible assumption) | (with_reducible refine Below.alloc ?_ ?_ _) | (with_reducible refine Below.setCell ?_ ?_ _) | (with_reducible refine Below.drew ?_) | (with_reducible refine below_drewN ?_ _) | go_size)), Or.inl rfl⟩
  · have G1 : decide (k < 0) = true := decide_eq_true (by omega)
    rw [if_neg (by omega), if_neg (by omega)]
    clear g1 hl
    go_enter Try.func14, Try.ntmps14
    go_wp2
    go_ret2
    exact ⟨_, _, rfl, hc, (by repeat' (first | (with_reducible exact Below.refl _ _) | (with_reducible assumption) | (with_reducible refine Below.alloc ?_ ?_ _) | (with_reducible refine Below.setCell ?_ ?_ _) | (with_reducible refine Below.drew ?_) | (with_reducible refine below_drewN ?_ _) | go_size)), Or.inl rfl⟩
end Go.Proofs.Ytlaeolmjhghaoaa
