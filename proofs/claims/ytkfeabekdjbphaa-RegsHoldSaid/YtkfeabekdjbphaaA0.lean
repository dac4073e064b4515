
/-
  A world that is another one but for one block, whose cells may be written: for a region that ends in a store into a variable of the call's own. No program in sight.
-/
import Derived.Test.YtkfeabekdjbphaaC6
import Derived.Deep.RegionHeld3
set_option linter.unusedSimpArgs false
set_option linter.unusedVariables false
namespace Go.Proofs.Ytkfeabekdjbphaa
open Go.RowKit Go.Sort

/-- W is W2, with new blocks, but for block r, of which n cells may be written. -/
structure Hold (r n : Nat) (W2 W : World) : Prop where
  os : W.os = W2.os
  tape : W.tape = W2.tape
  output : W.output = W2.output
  size : W2.heap.size ≤ W.heap.size
  block : ∀ k, k < W2.heap.size → k ≠ r → W.heap[k]? = W2.heap[k]?
  ex : ∀ k, k < n → ∃ v, W.cell? ⟨r, k, none⟩ = some v
  fr : ∀ k, k < n → W.frozen? ⟨r, k, none⟩ = false
theorem Hold.refl {r n : Nat} {W : World} (h : ∀ k, k < n → (∃ v, W.cell? ⟨r, k, none⟩ = some v) ∧ W.frozen? ⟨r, k, none⟩ = false) : Hold r n W W :=
  ⟨rfl, rfl, rfl, Nat.le_refl _, fun _ _ _ => rfl, fun k hk => (h k hk).1, fun k hk => (h k hk).2⟩
theorem Hold.call {r n : Nat} {W2 W W' : World} (h : Hold r n W2 W) (hr : r < W2.heap.size) (hb : Below W.heap.size W W') : Hold r n W2 W' := by
  have hrw : r < W.heap.size := Nat.lt_of_lt_of_le hr h.size
  refine ⟨hb.os.trans h.os, hb.tape.trans h.tape, hb.output.trans h.output, Nat.le_trans h.size hb.size, fun k hk hne => ?_, fun k hk => ?_, fun k hk => ?_⟩
  · exact (hb.block k (Nat.lt_of_lt_of_le hk h.size)).trans (h.block k hk hne)
  · obtain ⟨v, hv⟩ := h.ex k hk
    exact ⟨v, (hb.cell (p := ⟨r, k, none⟩) hrw).trans hv⟩
  · exact (hb.frozen (p := ⟨r, k, none⟩) hrw).trans (h.fr k hk)
theorem Hold.set {r n : Nat} {W2 W : World} (h : Hold r n W2 W) (j : Nat) (v : Value) : Hold r n W2 (W.setCell ⟨r, j, none⟩ v) := by
  refine ⟨h.os, h.tape, h.output, by simpa [World.setCell] using h.size, fun k hk hne => ?_, fun k hk => ?_, fun k hk => ?_⟩
  · rw [Below.heap_setCell _ _ _ _ (by simpa using hne)]; exact h.block k hk hne
  · obtain ⟨u, hu⟩ := h.ex k hk
    exact cell?_setCell_some hu
  · rw [World.frozen?_setCell]; exact h.fr k hk
theorem Hold.drew {r n : Nat} {W2 W : World} (h : Hold r n W2 W) : Hold r n W2 W.drew := ⟨h.os, h.tape, h.output, h.size, h.block, h.ex, h.fr⟩
theorem Hold.drewN {r n : Nat} {W2 W : World} (h : Hold r n W2 W) (k : Nat) : Hold r n W2 (W.drewN k) := ⟨h.os, h.tape, h.output, h.size, h.block, h.ex, h.fr⟩
theorem Hold.cell {r n : Nat} {W2 W : World} (h : Hold r n W2 W) {p : Addr} (hp : p.block < W2.heap.size) (hne : p.block ≠ r) : W.cell? p = W2.cell? p := World.cell?_of_block (w := W2) (h.block p.block hp hne)
theorem Hold.frozen {r n : Nat} {W2 W : World} (h : Hold r n W2 W) {p : Addr} (hp : p.block < W2.heap.size) (hne : p.block ≠ r) : W.frozen? p = W2.frozen? p := World.frozen?_of_block (w := W2) (h.block p.block hp hne)
theorem Hold.below {r n : Nat} {w W2 W : World} (h : Hold r n W2 W) (hb : Below w.heap.size w W2) (hr : w.heap.size ≤ r) : Below w.heap.size w W :=
  hb.trans ⟨h.os, h.tape, h.output, h.size, fun k hk => h.block k (Nat.lt_of_lt_of_le hk hb.size) (by omega)⟩
/-- what stands in it may be written, cell for cell. -/
theorem Hold.all {r n : Nat} {W2 W : World} (h : Hold r n W2 W) : ∀ k, k < n → ∃ v, W.cell? ⟨r, k, none⟩ = some v ∧ W.frozen? ⟨r, k, none⟩ = false := fun k hk => by
  obtain ⟨v, hv⟩ := h.ex k hk
  exact ⟨v, hv, h.fr k hk⟩
theorem hold_ex3 {r : Nat} {W : World} {v0 v1 v2 : Value} (c0 : W.cell? ⟨r, 0, none⟩ = some v0) (c1 : W.cell? ⟨r, 1, none⟩ = some v1) (c2 : W.cell? ⟨r, 2, none⟩ = some v2)
    (f0 : W.frozen? ⟨r, 0, none⟩ = false) (f1 : W.frozen? ⟨r, 1, none⟩ = false) (f2 : W.frozen? ⟨r, 2, none⟩ = false) : Hold r 3 W W := by
  refine Hold.refl fun k hk => ?_
  match k, hk with
  | 0, _ => exact ⟨⟨_, c0⟩, f0⟩
  | 1, _ => exact ⟨⟨_, c1⟩, f1⟩
  | 2, _ => exact ⟨⟨_, c2⟩, f2⟩
theorem hold_ex1 {r : Nat} {W : World} {v0 : Value} (c0 : W.cell? ⟨r, 0, none⟩ = some v0) (f0 : W.frozen? ⟨r, 0, none⟩ = false) : Hold r 1 W W := by
  refine Hold.refl fun k hk => ?_
  match k, hk with
  | 0, _ => exact ⟨⟨_, c0⟩, f0⟩
theorem hold_ex8 {r : Nat} {W : World} {v0 v1 v2 v3 v4 v5 v6 v7 : Value} (c0 : W.cell? ⟨r, 0, none⟩ = some v0) (c1 : W.cell? ⟨r, 1, none⟩ = some v1) (c2 : W.cell? ⟨r, 2, none⟩ = some v2) (c3 : W.cell? ⟨r, 3, none⟩ = some v3)
    (c4 : W.cell? ⟨r, 4, none⟩ = some v4) (c5 : W.cell? ⟨r, 5, none⟩ = some v5) (c6 : W.cell? ⟨r, 6, none⟩ = some v6) (c7 : W.cell? ⟨r, 7, none⟩ = some v7)
    (f0 : W.frozen? ⟨r, 0, none⟩ = false) (f1 : W.frozen? ⟨r, 1, none⟩ = false) (f2 : W.frozen? ⟨r, 2, none⟩ = false) (f3 : W.frozen? ⟨r, 3, none⟩ = false)
    (f4 : W.frozen? ⟨r, 4, none⟩ = false) (f5 : W.frozen? ⟨r, 5, none⟩ = false) (f6 : W.frozen? ⟨r, 6, none⟩ = false) (f7 : W.frozen? ⟨r, 7, none⟩ = false) : Hold r 8 W W := by
  refine Hold.refl fun k hk => ?_
  match k, hk with
  | 0, _ => exact ⟨⟨_, c0⟩, f0⟩
  | 1, _ => exact ⟨⟨_, c1⟩, f1⟩
  | 2, _ => exact ⟨⟨_, c2⟩, f2⟩
  | 3, _ => exact ⟨⟨_, c3⟩, f3⟩
  | 4, _ => exact ⟨⟨_, c4⟩, f4⟩
  | 5, _ => exact ⟨⟨_, c5⟩, f5⟩
  | 6, _ => exact ⟨⟨_, c6⟩, f6⟩
  | 7, _ => exact ⟨⟨_, c7⟩, f7⟩
/-! ### one cell, read through what was done to a world -/
theorem rd_alloc {w : World} {o : Obj} {b off : Nat} {v : Value} (h : b < w.heap.size) (k : w.cell? ⟨b, off, none⟩ = some v) : (w.alloc o).cell? ⟨b, off, none⟩ = some v :=
  (World.cell?_of_block (w := w) (a := ⟨b, off, none⟩) (Below.heap_alloc w o b h)).trans k
theorem rd_set_eq {w : World} {b off : Nat} {u v : Value} (k : w.cell? ⟨b, off, none⟩ = some v) : (w.setCell ⟨b, off, none⟩ u).cell? ⟨b, off, none⟩ = some u := World.cell?_setCell_same _ _ _ k
theorem rd_set_ne {w : World} {p : Addr} {b off : Nat} {u v : Value} (h : b ≠ p.block ∨ off ≠ p.off) (k : w.cell? ⟨b, off, none⟩ = some v) : (w.setCell p u).cell? ⟨b, off, none⟩ = some v :=
  (World.cell?_setCell_other w p ⟨b, off, none⟩ u (fun e => by subst e; rcases h with h | h <;> exact h rfl)).trans k
theorem rd_drew {w : World} {b off : Nat} {v : Value} (k : w.cell? ⟨b, off, none⟩ = some v) : w.drew.cell? ⟨b, off, none⟩ = some v := k
theorem rd_drewN {w : World} {n : Nat} {b off : Nat} {v : Value} (k : w.cell? ⟨b, off, none⟩ = some v) : (w.drewN n).cell? ⟨b, off, none⟩ = some v := k
theorem rd_below {W w : World} {b off : Nat} {v : Value} (hb : Below W.heap.size W w) (h : b < W.heap.size) (k : W.cell? ⟨b, off, none⟩ = some v) : w.cell? ⟨b, off, none⟩ = some v := (hb.cell (p := ⟨b, off, none⟩) h).trans k
theorem fz_alloc {w : World} {o : Obj} {b off : Nat} (h : b < w.heap.size) (k : w.frozen? ⟨b, off, none⟩ = false) : (w.alloc o).frozen? ⟨b, off, none⟩ = false :=
  (World.frozen?_of_block (w := w) (a := ⟨b, off, none⟩) (Below.heap_alloc w o b h)).trans k
theorem fz_set {w : World} {p : Addr} {b off : Nat} {u : Value} (k : w.frozen? ⟨b, off, none⟩ = false) : (w.setCell p u).frozen? ⟨b, off, none⟩ = false := (World.frozen?_setCell _ _ _ _).trans k
theorem fz_drew {w : World} {b off : Nat} (k : w.frozen? ⟨b, off, none⟩ = false) : w.drew.frozen? ⟨b, off, none⟩ = false := k
theorem fz_drewN {w : World} {n : Nat} {b off : Nat} (k : w.frozen? ⟨b, off, none⟩ = false) : (w.drewN n).frozen? ⟨b, off, none⟩ = false := k
theorem fz_below {W w : World} {b off : Nat} (hb : Below W.heap.size W w) (h : b < W.heap.size) (k : W.frozen? ⟨b, off, none⟩ = false) : w.frozen? ⟨b, off, none⟩ = false := (hb.frozen (p := ⟨b, off, none⟩) h).trans k
end Go.Proofs.Ytkfeabekdjbphaa
