/-
  FramesLowest: its map of what was given back.
-/
import Derived.Test.YtlaeolmjhghaoaaFJ
import Derived.Test.YtlaeolmjhghaoaaFG
import Derived.Maps.OwnSet
set_option linter.unusedSimpArgs false
set_option linter.unusedVariables false
namespace Go.Proofs.Ytlaeolmjhghaoaa
open Go.RowKit Go.Maps

/-- the map's datum: of each number below n whether it is free in x. -/
structure MapF (n x : Nat) (D : DataW Unit) : Prop where
  tidy : Tidy D
  at' : ∀ j, j < n → D.atKey (.int .i64 (j : Nat)) (.lit (.bool false)) = .lit (.bool (!x.testBit j))
  has' : ∀ j, j < n → has D (.int .i64 (j : Nat)) = !x.testBit j
  size' : Maps.size D + (ones x).length = n
theorem keyed : Keyed Try.prog 3 := int_keyed Try.underlying3
theorem key_is (j n : Nat) (h : j < n) (hn : n ≤ 64) : keyOf Try.prog 3 (.int .i64 (j : Nat)) = some (.int .i64 (j : Nat)) := keyOf_int_mk Try.underlying3 (WalkArith.wf_i64 (by omega))
theorem zeroB (w : World) : (zeroValue 4).run Try.prog w = .ok (.bool false) w := by kernel_rfl
abbrev Own (w : World) (b m : Nat) (D : DataW Unit) : Prop := w.ownsMap Try.prog 3 (plainElem Try.prog 4) b m D
theorem bool_inv {v : Value} {z : DataW Unit × List MemPlace} (h : plainElem Try.prog 4 v = some z) : ∃ x, v = .bool x ∧ z = (.lit (.bool x), []) := by
  unfold plainElem at h
  rw [Try.underlying4] at h
  cases v <;> simp at h
  exact ⟨_, rfl, h.symm⟩
theorem look_at {n x m b j : Nat} {D : DataW Unit} {W : World} (h : Own W b m D) (f : MapF n x D) (hj : j < n) (hn : n ≤ 64) :
    (Instr.lookup 46 (.map (some b)) (.int .i64 (j : Nat)) false).run Try.prog W = .ok (.bool (!x.testBit j)) W := by
  obtain ⟨v, ps, hrun, hv⟩ := h.lookup keyed Try.underlying46 (zeroB W) (plainElem_bool Try.underlying4 false) (key_is j n hj hn)
  rw [f.at' j hj] at hv
  obtain ⟨y, rfl, hy⟩ := bool_inv hv
  simp only [Prod.mk.injEq, DataW.lit.injEq, Lit.bool.injEq] at hy
  rw [hrun, hy.1]
theorem Own.below {w w' : World} {b m : Nat} {D : DataW Unit} (h : Own w b m D) (hb : Below w.heap.size w w') : Own w' b m D := by
  obtain ⟨es, clock, h0, r⟩ := h
  exact ⟨es, clock, (hb.block b (Array.getElem?_eq_some_iff.1 h0).1).trans h0, r⟩
theorem Own.hold {w w' : World} {b c m : Nat} {D : DataW Unit} (h : Own w b m D) (hne : b ≠ c) (hb : Hold c 2 w w') : Own w' b m D := by
  obtain ⟨es, clock, h0, r⟩ := h
  exact ⟨es, clock, (hb.block b (Array.getElem?_eq_some_iff.1 h0).1 hne).trans h0, r⟩
theorem PoolAt.grown {w w' : World} {b c n x : Nat} (h : PoolAt w b n x) (hne : b ≠ c) (hg : w.grownBy w' (some c)) : PoolAt w' b n x := by
  obtain ⟨h2, h0, h1, f0, f1⟩ := h
  have e := hg.block b h2 (by simpa using hne)
  exact ⟨Nat.lt_of_lt_of_le h2 hg.size, (World.cell?_of_block (w := w) (a := ⟨b, 0, none⟩) e).trans h0, (World.cell?_of_block (w := w) (a := ⟨b, 1, none⟩) e).trans h1, (World.frozen?_of_block (w := w) (a := ⟨b, 0, none⟩) e).trans f0, (World.frozen?_of_block (w := w) (a := ⟨b, 1, none⟩) e).trans f1⟩
theorem MapF.start (n : Nat) (hn : n ≤ 64) : MapF n (2 ^ n - 1) (.map []) := by
  refine ⟨tidy_empty, fun j hj => ?_, fun j hj => ?_, ?_⟩
  · rw [full_bit, decide_eq_true hj]; rfl
  · rw [full_bit, decide_eq_true hj]; rfl
  · rw [ones_full n hn, Maps.size_eq]; simp
theorem MapF.put {n x y j : Nat} {D : DataW Unit} (f : MapF n x D) (hj : j < n) (hy : ∀ i, i < n → y.testBit i = (x.testBit i && !decide (j = i)))
    (hc : (ones y).length + (if x.testBit j then 1 else 0) = (ones x).length) : MapF n y (D.put (.int .i64 (j : Nat)) (.lit (.bool true))) := by
  have hk : WideAt.IsKeyLit (.int .i64 (j : Nat)) := trivial
  refine ⟨f.tidy.put hk _, fun i hi => ?_, fun i hi => ?_, ?_⟩
  · rw [hy i hi]
    by_cases e : j = i
    · subst e
      rw [atKey_put_same f.tidy.isMap hk]; simp
    · rw [atKey_put_other (by simp only [ne_eq, Lit.int.injEq, true_and]; omega), f.at' i hi]; simp [e]
  · rw [hy i hi]
    by_cases e : j = i
    · subst e
      rw [has_put_same f.tidy.isMap hk]; simp
    · rw [has_put_other (by simp only [ne_eq, Lit.int.injEq, true_and]; omega), f.has' i hi]; simp [e]
  · have h1 := f.has' j hj
    have h2 := f.size'
    rw [size_put f.tidy, h1]
    cases hb : x.testBit j
    · rw [hb] at hc; simp at hc ⊢; omega
    · rw [hb] at hc; simp at hc ⊢; omega
/-- one number given back: the map tells it as the pool does. -/
theorem MapF.give {n x j : Nat} {D : DataW Unit} (f : MapF n x D) (hn : n ≤ 64) (hj : j < n) :
    MapF n (gX n x (j : Int)) (D.put (.int .i64 (j : Nat)) (.lit (.bool true))) ∧ ((gE n x (j : Int) : Int) == 0) = x.testBit j := by
  cases hb : x.testBit j
  · obtain ⟨g1, g2⟩ := give_free n x j hn hj hb
    rw [g1, g2]
    refine ⟨f.put hj (fun i hi => ?_) (by rw [hb]; simp), by decide⟩
    by_cases e : j = i
    · subst e; rw [hb]; rfl
    · simp [e]
  · obtain ⟨g1, g2, g3⟩ := give_taken n x j hn hj hb
    rw [g1]
    exact ⟨f.put hj g2 (by rw [hb]; simpa using g3), by decide⟩
end Go.Proofs.Ytlaeolmjhghaoaa
