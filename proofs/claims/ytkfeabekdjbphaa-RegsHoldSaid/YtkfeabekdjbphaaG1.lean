
/-
  Contexts of 33 capabilities as rows of 99 cells: how they are read and written; the contracts of regs.is, Get, With, Set, Zero, capab.Null.
-/
import Derived.Test.YtkfeabekdjbphaaA6
import Derived.Test.YtkfeabekdjbphaaR5
import Derived.Laws.Tables
import Derived.Deep.RegionWith
set_option linter.unusedSimpArgs false
set_option linter.unusedVariables false
namespace Go.Proofs.Ytkfeabekdjbphaa
open Go.RowKit

/-- a capability as it is kept. -/
structure Cp where
  t : Bool
  m : Nat
  a : Nat
def cell3 (c : Cp) : List Value := [.bool c.t, .int .u64 (c.m : Nat), .int .u64 (c.a : Nat)]
def rowL (f : Nat → Cp) : Nat → List Value
  | 0 => []
  | n + 1 => rowL f n ++ cell3 (f n)
/-- the cells of a context: registers 0 to 31, and that of the next instruction (32). -/
def enc (f : Nat → Cp) : Array Value := (rowL f 33).toArray
theorem rowL_len (f : Nat → Cp) : ∀ n, (rowL f n).length = n * 3
  | 0 => rfl
  | n + 1 => by simp [rowL, rowL_len f n, cell3]; omega
theorem enc_size (f : Nat → Cp) : (enc f).size = 99 := by simp [enc, rowL_len]
theorem rowL_at (f : Nat → Cp) (k r : Nat) (hr : r < 3) : ∀ n, k < n → (rowL f n)[k * 3 + r]? = (cell3 (f k))[r]?
  | 0, h => by omega
  | n + 1, h => by
    rw [rowL]
    rcases Nat.lt_or_ge k n with h2 | h2
    · rw [List.getElem?_append_left (by rw [rowL_len]; omega)]; exact rowL_at f k r hr n h2
    · obtain rfl : k = n := by omega
      rw [List.getElem?_append_right (by rw [rowL_len]; omega), rowL_len]; congr 1; omega
theorem enc_at (f : Nat → Cp) (k r : Nat) (hk : k < 33) (hr : r < 3) : (enc f)[k * 3 + r]? = (cell3 (f k))[r]? := by
  simp only [enc, List.getElem?_toArray]; exact rowL_at f k r hr 33 hk
theorem enc_t (f : Nat → Cp) (k : Nat) (hk : k < 33) : (enc f)[k * 3]? = some (.bool (f k).t) := by have := enc_at f k 0 hk (by decide); simpa [cell3] using this
theorem enc_m (f : Nat → Cp) (k : Nat) (hk : k < 33) : (enc f)[k * 3 + 1]? = some (.int .u64 ((f k).m : Nat)) := by have := enc_at f k 1 hk (by decide); simpa [cell3] using this
theorem enc_a (f : Nat → Cp) (k : Nat) (hk : k < 33) : (enc f)[k * 3 + 2]? = some (.int .u64 ((f k).a : Nat)) := by have := enc_at f k 2 hk (by decide); simpa [cell3] using this
theorem enc_one (f : Nat → Cp) : (enc f).all (·.oneCell') = true := by
  have h : ∀ n, ∀ v ∈ rowL f n, v.oneCell' = true := by
    intro n
    induction n with
    | zero => intro v hv; cases hv
    | succ n ih =>
      intro v hv
      rcases List.mem_append.1 hv with hv | hv
      · exact ih v hv
      · simp [cell3] at hv; rcases hv with rfl | rfl | rfl <;> rfl
  rw [Array.all_eq_true_iff_forall_mem]
  intro v hv
  exact h 33 v (by simpa [enc] using hv)
def upd (f : Nat → Cp) (k : Nat) (c : Cp) : Nat → Cp := fun i => if i = k then c else f i
theorem upd_same (f : Nat → Cp) (k : Nat) (c : Cp) : upd f k c k = c := by simp [upd]
theorem upd_ne (f : Nat → Cp) (k i : Nat) (c : Cp) (h : i ≠ k) : upd f k c i = f i := by simp [upd, h]
theorem enc_ext (f g : Nat → Cp) (h : ∀ i, i < 33 → f i = g i) : enc f = enc g := by
  have : ∀ n, n ≤ 33 → rowL f n = rowL g n := by
    intro n
    induction n with
    | zero => intro _; rfl
    | succ n ih => intro hn; rw [rowL, rowL, ih (by omega), h n (by omega)]
  unfold enc; rw [this 33 (by decide)]
theorem enc_def (f : Nat → Cp) : enc f = (rowL f 33).toArray := rfl
attribute [irreducible] enc rowL
theorem idx3 {j k r s : Nat} (hr : r < 3) (hs : s < 3) : (j * 3 + r = k * 3 + s) ↔ (j = k ∧ r = s) := by omega
theorem enc_of (cs : Array Value) (f : Nat → Cp) (hs : cs.size = 99) (h : ∀ k, k < 33 → ∀ r, r < 3 → cs[k * 3 + r]? = (cell3 (f k))[r]?) : cs = enc f := by
  apply Array.ext_getElem?
  intro i
  rcases Nat.lt_or_ge i 99 with hi | hi
  · have e : i = (i / 3) * 3 + i % 3 := by omega
    rw [e, h (i / 3) (by omega) (i % 3) (by omega), enc_at f (i / 3) (i % 3) (by omega) (by omega)]
  · rw [Array.getElem?_eq_none (by omega), Array.getElem?_eq_none (by rw [enc_size]; omega)]
theorem enc_put (f : Nat → Cp) (k : Nat) (hk : k < 33) (c : Cp) :
    (((enc f).setIfInBounds (k * 3) (.bool c.t)).setIfInBounds (k * 3 + 1) (.int .u64 (c.m : Nat))).setIfInBounds (k * 3 + 2) (.int .u64 (c.a : Nat)) = enc (upd f k c) := by
  refine enc_of _ _ (by simp [enc_size]) fun j hj r hr => ?_
  have hz : (enc f).size = 99 := enc_size f
  simp only [Array.getElem?_setIfInBounds, Array.size_setIfInBounds, hz]
  have hx := enc_at f j r hj hr
  by_cases e : j = k
  · subst e
    rw [upd_same]
    rcases (show r = 0 ∨ r = 1 ∨ r = 2 by omega) with rfl | rfl | rfl
    · rw [if_neg (by omega), if_neg (by omega), if_pos (by omega), if_pos (by omega)]; rfl
    · rw [if_neg (by omega), if_pos (by omega), if_pos (by omega)]; rfl
    · rw [if_pos (by omega), if_pos (by omega)]; rfl
  · rw [upd_ne _ _ _ _ e, ← hx]
    rw [if_neg (by omega), if_neg (by omega), if_neg (by omega)]
/-- a context of nothing. -/
def zc : Cp := ⟨false, 0, 0⟩
theorem zeroC (w : World) : (zeroValue 27).run Try.prog w = .ok (.agg (enc fun _ => zc)) w := by
  have : (zeroValue 27).run Try.prog w = .ok (.agg (rowL (fun _ => zc) 33).toArray) w := by kernel_rfl
  rw [this, enc_def]
/-! ### blocks -/
/-- block b holds these cells. -/
def Blk (w : World) (b : Nat) (cs : Array Value) (t : TypeId) : Prop := w.heap[b]? = some (.cells cs t (0, 0))
theorem Blk.lt {w : World} {b : Nat} {cs : Array Value} {t : TypeId} (h : Blk w b cs t) : b < w.heap.size := (Array.getElem?_eq_some_iff.1 h).1
theorem Blk.new (w : World) (cs : Array Value) (t : TypeId) : Blk (w.alloc (.cells cs t)) w.heap.size cs t := heap_alloc_new w _
theorem Blk.at' {w : World} {cs : Array Value} {t : TypeId} {b : Nat} (h : b = w.heap.size) : Blk (w.alloc (.cells cs t)) b cs t := by subst h; exact Blk.new w cs t
theorem Blk.below {w w' : World} {b : Nat} {cs : Array Value} {t : TypeId} (h : Blk w b cs t) (hb : Below w.heap.size w w') : Blk w' b cs t := (hb.block b h.lt).trans h
theorem Blk.alloc {w : World} {b : Nat} {cs : Array Value} {t : TypeId} (h : Blk w b cs t) (o : Obj) : Blk (w.alloc o) b cs t := h.below ((Below.refl _ _).alloc (Nat.le_refl _) o)
theorem Blk.drew {w : World} {b : Nat} {cs : Array Value} {t : TypeId} (h : Blk w b cs t) : Blk w.drew b cs t := h
theorem Blk.keep {w : World} {b : Nat} {cs : Array Value} {t : TypeId} (h : Blk w b cs t) {p : Addr} (hne : b ≠ p.block) (v : Value) : Blk (w.setCell p v) b cs t := (Below.heap_setCell _ _ _ _ hne).trans h
theorem Blk.cell {w : World} {b : Nat} {cs : Array Value} {t : TypeId} (h : Blk w b cs t) (j : Nat) : w.cell? ⟨b, j, none⟩ = cs[j]? := cell_of_row w b j cs t (0, 0) h
theorem Blk.frozen {w : World} {b : Nat} {cs : Array Value} {t : TypeId} (h : Blk w b cs t) (j : Nat) : w.frozen? ⟨b, j, none⟩ = false := frozen_of_row w b j cs t h
theorem Blk.set {w : World} {b : Nat} {cs : Array Value} {t : TypeId} (h : Blk w b cs t) (j : Nat) (v : Value) : Blk (w.setCell ⟨b, j, none⟩ v) b (cs.setIfInBounds j v) t := heap_setCell_same w b j cs t v h
theorem Blk.row {w : World} {b : Nat} {cs : Array Value} {t : TypeId} (h : Blk w b cs t) (cs' : Array Value) : Blk (w.setRow b cs') b cs' t := setRow_heap w b cs cs' t (0, 0) h
theorem Blk.rowKeep {w : World} {b c : Nat} {cs : Array Value} {t : TypeId} (h : Blk w b cs t) (hne : b ≠ c) (cs' : Array Value) : Blk (w.setRow c cs') b cs t := (setRow_other w c b cs' hne).trans h
theorem Blk.put {w : World} {b : Nat} {f : Nat → Cp} {t : TypeId} (h : Blk w b (enc f) t) (k : Nat) (hk : k < 33) (c : Cp) :
    Blk (((w.setCell ⟨b, k * 3, none⟩ (.bool c.t)).setCell ⟨b, k * 3 + 1, none⟩ (.int .u64 (c.m : Nat))).setCell ⟨b, k * 3 + 2, none⟩ (.int .u64 (c.a : Nat))) b (enc (upd f k c)) t := by
  have := ((h.set (k * 3) (.bool c.t)).set (k * 3 + 1) (.int .u64 (c.m : Nat))).set (k * 3 + 2) (.int .u64 (c.a : Nat))
  rwa [enc_put f k hk c] at this
theorem below_row {w0 w : World} {n c : Nat} {cs : Array Value} (h : Below n w0 w) (hc : n ≤ c) : Below n w0 (w.setRow c cs) :=
  ⟨h.os, h.tape, h.output, by rw [setRow_size]; exact h.size, fun k hk => (setRow_other w c k cs (by omega)).trans (h.block k hk)⟩
theorem infoC : (Try.prog.info? 27).map (·.size) = some 99 := by kernel_rfl
theorem info_enc (f : Nat → Cp) : (Try.prog.info? 27).map (·.size) = some (enc f).size := by rw [enc_size]; exact infoC
/-! ### contracts -/
theorem is_any (k : Int) (w : World) : Calls Try.prog 28 #[.int .i64 k] w fun r w' => r = .returned (.bool (decide (1 ≤ k) && decide (k < 32))) ∧ w' = w := by
  cases g : decide (1 ≤ k)
  · go_enter Try.func28, Try.ntmps28
    go_wp2
    go_ret
    exact ⟨rfl, rfl⟩
  · go_enter Try.func28, Try.ntmps28
    go_wp2
    go_ret
    exact ⟨rfl, rfl⟩
theorem null_any (n : Nat) (w : World) : Calls Try.prog 32 #[.int .u64 (n : Nat)] w fun r w' => r = .returned (.agg #[.bool false, .int .u64 (0 : Nat), .int .u64 (n : Nat)]) ∧ Below w.heap.size w w' := by
  go_enter Try.func32, Try.ntmps32
  go_wp2
  refine bodyPost_ret (v := .agg #[.bool false, .int .u64 (0 : Nat), .int .u64 (n : Nat)]) (by simp [results, Try.results32, go_sem]) rfl ⟨rfl, (by repeat' (first | (with_reducible exact Below.refl _ _) | (with_reducible assumption) | (with_reducible refine Below.alloc ?_ ?_ _) | (with_reducible refine Below.setCell ?_ ?_ _) | (with_reducible refine Below.drew ?_) | (with_reducible refine below_drewN ?_ _) | go_size))⟩
/-- the register, or nothing. -/
def getF (f : Nat → Cp) (k : Int) : Cp := if 1 ≤ k ∧ k < 32 then f k.toNat else zc
def withF (f : Nat → Cp) (k : Int) (c : Cp) : Nat → Cp := if 1 ≤ k ∧ k < 32 then upd f k.toNat c else f
abbrev capV (c : Cp) : Value := .agg #[.bool c.t, .int .u64 (c.m : Nat), .int .u64 (c.a : Nat)]
set_option maxHeartbeats 2000000 in
set_option maxRecDepth 100000 in
theorem cwith_any (f : Nat → Cp) (k : Int) (c : Cp) (w : World) :
    Calls Try.prog 23 #[.agg (enc f), .int .i64 k, capV c] w fun r w' => r = .returned (.agg (enc (withF f k c))) ∧ Below w.heap.size w w' := by
  have hz := zeroC
  have q := is_any k
  obtain ⟨t, m, a⟩ := c
  by_cases g : 1 ≤ k ∧ k < 32
  · obtain ⟨j, rfl⟩ := Int.eq_ofNat_of_zero_le (show 0 ≤ k by omega)
    have e : withF f (j : Int) ⟨t, m, a⟩ = upd f j ⟨t, m, a⟩ := by unfold withF; rw [if_pos g]; rfl
    rw [decide_eq_true g.1, decide_eq_true g.2] at q
    rw [e]
    have Q := Lib.hid q
    have hj : j < 32 := by omega
    have hput := enc_put f j (by omega) ⟨t, m, a⟩
    have hin := info_enc (upd f j ⟨t, m, a⟩)
    have hone := enc_one (upd f j ⟨t, m, a⟩)
    have h0 := enc_t f j (by omega)
    have h1 := enc_m f j (by omega)
    have h2 := enc_a f j (by omega)
    have HZ := Lib.hid ((enc_size fun _ => zc).trans (enc_size (upd f j ⟨t, m, a⟩)).symm)
    dsimp only at hput
    clear q e g
    go_enter Try.func23, Try.ntmps23
    go_wp2_with (fail)
    (go_at_call 28; refine (Q.out _).mono ?_; rintro e w' ⟨rfl, rfl⟩)
    go_wp2_with (first
      | (refine wpList_load_row rfl 27 _ rfl w.heap.size rfl _ (enc (upd f j ⟨t, m, a⟩)) _ _ (((Blk.new w _ _).alloc _).alloc _) Try.underlying27 rfl hin ?_)
      | (refine wpList_store_row rfl 27 _ _ rfl (w.heap.size + 1 + 1) (enc (upd f j ⟨t, m, a⟩)) rfl rfl 27 (enc fun _ => zc) (Blk.at' (by simp)) hin HZ.out hone ?_))
    refine bodyPost_ret (v := .agg (enc (upd f j ⟨t, m, a⟩))) (results_cell_row rfl _ _ (w.heap.size + 1 + 1) 27 _ (0, 0) _ rfl ((Blk.at' (by simp)).row _) Try.underlying27 rfl hin) rfl ⟨rfl, below_row (by repeat' (first | (with_reducible exact Below.refl _ _) | (with_reducible assumption) | (with_reducible refine Below.alloc ?_ ?_ _) | (with_reducible refine Below.setCell ?_ ?_ _) | (with_reducible refine Below.drew ?_) | (with_reducible refine below_drewN ?_ _) | go_size)) (by omega)⟩
  · have e : withF f k ⟨t, m, a⟩ = f := by unfold withF; rw [if_neg g]
    have e2 : (decide (1 ≤ k) && decide (k < 32)) = false := by
      rcases Int.lt_or_le k 1 with h | h
      · rw [decide_eq_false (by omega : ¬ 1 ≤ k)]; rfl
      · rw [decide_eq_false (by omega : ¬ k < 32)]; simp
    rw [e2] at q
    rw [e]
    have Q := Lib.hid q
    have hin := info_enc f
    have hone := enc_one f
    have HZ := Lib.hid ((enc_size fun _ => zc).trans (enc_size f).symm)
    clear q e e2 g
    go_enter Try.func23, Try.ntmps23
    go_wp2_with (fail)
    (go_at_call 28; refine (Q.out _).mono ?_; rintro e w' ⟨rfl, rfl⟩)
    go_wp2_with (first
      | (refine wpList_load_row rfl 27 _ rfl w.heap.size rfl _ (enc f) _ _ (((Blk.new w _ _).alloc _).alloc _) Try.underlying27 rfl hin ?_)
      | (refine wpList_store_row rfl 27 _ _ rfl (w.heap.size + 1 + 1) (enc f) rfl rfl 27 (enc fun _ => zc) (Blk.at' (by simp)) hin HZ.out hone ?_))
    refine bodyPost_ret (v := .agg (enc f)) (results_cell_row rfl _ _ (w.heap.size + 1 + 1) 27 _ (0, 0) _ rfl ((Blk.at' (by simp)).row _) Try.underlying27 rfl hin) rfl ⟨rfl, below_row (by repeat' (first | (with_reducible exact Below.refl _ _) | (with_reducible assumption) | (with_reducible refine Below.alloc ?_ ?_ _) | (with_reducible refine Below.setCell ?_ ?_ _) | (with_reducible refine Below.drew ?_) | (with_reducible refine below_drewN ?_ _) | go_size)) (by omega)⟩
set_option maxHeartbeats 2000000 in
set_option maxRecDepth 100000 in
theorem cget_any (f : Nat → Cp) (k : Int) (w : World) :
    Calls Try.prog 8 #[.agg (enc f), .int .i64 k] w fun r w' => r = .returned (capV (getF f k)) ∧ Below w.heap.size w w' := by
  have q := is_any k
  by_cases g : 1 ≤ k ∧ k < 32
  · obtain ⟨j, rfl⟩ := Int.eq_ofNat_of_zero_le (show 0 ≤ k by omega)
    have e : getF f (j : Int) = f j := by unfold getF; rw [if_pos g]; rfl
    rw [decide_eq_true g.1, decide_eq_true g.2] at q
    rw [e]
    have Q := Lib.hid q
    have hj : j < 32 := by omega
    have h0 := enc_t f j (by omega)
    have h1 := enc_m f j (by omega)
    have h2 := enc_a f j (by omega)
    clear q e g
    generalize f j = c at *
    obtain ⟨t, m, a⟩ := c
    dsimp only at h0 h1 h2
    go_enter Try.func8, Try.ntmps8
    go_wp2_with (fail)
    (go_at_call 28; refine (Q.out _).mono ?_; rintro e w' ⟨rfl, rfl⟩)
    go_wp2
    refine bodyPost_ret (v := .agg #[.bool t, .int .u64 (m : Nat), .int .u64 (a : Nat)]) (by simp [results, Try.results8, go_sem]) rfl ⟨rfl, (by repeat' (first | (with_reducible exact Below.refl _ _) | (with_reducible assumption) | (with_reducible refine Below.alloc ?_ ?_ _) | (with_reducible refine Below.setCell ?_ ?_ _) | (with_reducible refine Below.drew ?_) | (with_reducible refine below_drewN ?_ _) | go_size))⟩
  · have e : getF f k = zc := by unfold getF; rw [if_neg g]
    have e2 : (decide (1 ≤ k) && decide (k < 32)) = false := by
      rcases Int.lt_or_le k 1 with h | h
      · rw [decide_eq_false (by omega : ¬ 1 ≤ k)]; rfl
      · rw [decide_eq_false (by omega : ¬ k < 32)]; simp
    rw [e2] at q
    rw [e]
    have Q := Lib.hid q
    clear q e e2 g
    go_enter Try.func8, Try.ntmps8
    go_wp2_with (fail)
    (go_at_call 28; refine (Q.out _).mono ?_; rintro e w' ⟨rfl, rfl⟩)
    go_wp2
    refine bodyPost_ret (v := .agg #[.bool false, .int .u64 (0 : Nat), .int .u64 (0 : Nat)]) (by simp [results, Try.results8, go_sem]) rfl ⟨rfl, (by repeat' (first | (with_reducible exact Below.refl _ _) | (with_reducible assumption) | (with_reducible refine Below.alloc ?_ ?_ _) | (with_reducible refine Below.setCell ?_ ?_ _) | (with_reducible refine Below.drew ?_) | (with_reducible refine below_drewN ?_ _) | go_size))⟩
end Go.Proofs.Ytkfeabekdjbphaa
