
/-
  Contracts for RegsHold: Own, and the reference's With, Get, Span, begins.
-/
import Derived.Test.YtkfeabekdjbphaaGL
import Derived.Test.YtkfeabekdjbphaaR5
import Derived.Deep.WholeRow
set_option linter.unusedSimpArgs false
set_option linter.unusedVariables false
namespace Go.Proofs.Ytkfeabekdjbphaa
open Go.RowKit Go.Sort

theorem zeroR (w : World) : (zeroValue 46).run Try.prog w = .ok (.agg (enc fun _ => zc)) w := by
  have : (zeroValue 46).run Try.prog w = .ok (.agg (rowL (fun _ => zc) 33).toArray) w := by kernel_rfl
  rw [this, enc_def]
theorem infoR : (Try.prog.info? 46).map (·.size) = some 99 := by kernel_rfl
theorem info_encR (f : Nat → Cp) : (Try.prog.info? 46).map (·.size) = some (enc f).size := by rw [enc_size]; exact infoR
set_option maxHeartbeats 2000000 in
set_option maxRecDepth 100000 in
theorem rwith_any (f : Nat → Cp) (k : Int) (c : Cp) (w : World) :
    Calls Try.prog 24 #[.agg (enc f), .int .i64 k, capV c] w fun r w' => r = .returned (.agg (enc (withF f k c))) ∧ Below w.heap.size w w' := by
  have hz := zeroR
  obtain ⟨t, m, a⟩ := c
  by_cases g : 1 ≤ k ∧ k < 32
  · obtain ⟨j, rfl⟩ := Int.eq_ofNat_of_zero_le (show 0 ≤ k by omega)
    have e : withF f (j : Int) ⟨t, m, a⟩ = upd f j ⟨t, m, a⟩ := by unfold withF; rw [if_pos g]; rfl
    rw [e]
    have hj : j < 32 := by omega
    have g1 : decide ((1 : Int) ≤ (j : Int)) = true := decide_eq_true g.1
    have g2 : decide ((j : Int) ≤ (31 : Int)) = true := decide_eq_true (by omega)
    have hput := enc_put f j (by omega) ⟨t, m, a⟩
    have hin := info_encR (upd f j ⟨t, m, a⟩)
    have hone := enc_one (upd f j ⟨t, m, a⟩)
    have h0 := enc_t f j (by omega)
    have h1 := enc_m f j (by omega)
    have h2 := enc_a f j (by omega)
    have HZ := Lib.hid ((enc_size fun _ => zc).trans (enc_size (upd f j ⟨t, m, a⟩)).symm)
    dsimp only at hput
    clear e g
    go_enter Try.func24, Try.ntmps24
    go_wp2_with ((with_reducible refine wpList_at ?_); first
      | (refine wpList_load_row rfl 46 _ rfl w.heap.size rfl _ (enc (upd f j ⟨t, m, a⟩)) _ _ (((Blk.new w _ _).alloc _).alloc _) Try.underlying46 rfl hin ?_)
      | (refine wpList_store_row rfl 46 _ _ rfl (w.heap.size + 1 + 1) (enc (upd f j ⟨t, m, a⟩)) rfl rfl 46 (enc fun _ => zc) (Blk.at' (by simp)) hin HZ.out hone ?_))
    refine bodyPost_ret (v := .agg (enc (upd f j ⟨t, m, a⟩))) (results_cell_row rfl _ _ (w.heap.size + 1 + 1) 46 _ (0, 0) _ rfl ((Blk.at' (by simp)).row _) Try.underlying46 rfl hin) rfl ⟨rfl, below_row (by repeat' (first | (with_reducible exact Below.refl _ _) | (with_reducible assumption) | (with_reducible refine Below.alloc ?_ ?_ _) | (with_reducible refine Below.setCell ?_ ?_ _) | (with_reducible refine Below.drew ?_) | (with_reducible refine below_drewN ?_ _) | go_size)) (by omega)⟩
  · have e : withF f k ⟨t, m, a⟩ = f := by unfold withF; rw [if_neg g]
    rw [e]
    have hin := info_encR f
    have hone := enc_one f
    have HZ := Lib.hid ((enc_size fun _ => zc).trans (enc_size f).symm)
    have g2 : decide ((1 : Int) ≤ k) = true → decide (k ≤ (31 : Int)) = false := fun h => decide_eq_false (by have := of_decide_eq_true h; omega)
    clear e g
    cases g1 : decide ((1 : Int) ≤ k)
    · clear g2
      go_enter Try.func24, Try.ntmps24
      go_wp2_with ((with_reducible refine wpList_at ?_); first
        | (refine wpList_load_row rfl 46 _ rfl w.heap.size rfl _ (enc f) _ _ (((Blk.new w _ _).alloc _).alloc _) Try.underlying46 rfl hin ?_)
        | (refine wpList_store_row rfl 46 _ _ rfl (w.heap.size + 1 + 1) (enc f) rfl rfl 46 (enc fun _ => zc) (Blk.at' (by simp)) hin HZ.out hone ?_))
      refine bodyPost_ret (v := .agg (enc f)) (results_cell_row rfl _ _ (w.heap.size + 1 + 1) 46 _ (0, 0) _ rfl ((Blk.at' (by simp)).row _) Try.underlying46 rfl hin) rfl ⟨rfl, below_row (by repeat' (first | (with_reducible exact Below.refl _ _) | (with_reducible assumption) | (with_reducible refine Below.alloc ?_ ?_ _) | (with_reducible refine Below.setCell ?_ ?_ _) | (with_reducible refine Below.drew ?_) | (with_reducible refine below_drewN ?_ _) | go_size)) (by omega)⟩
    · have g3 := g2 g1
      clear g2
      go_enter Try.func24, Try.ntmps24
      go_wp2_with ((with_reducible refine wpList_at ?_); first
        | (refine wpList_load_row rfl 46 _ rfl w.heap.size rfl _ (enc f) _ _ (((Blk.new w _ _).alloc _).alloc _) Try.underlying46 rfl hin ?_)
        | (refine wpList_store_row rfl 46 _ _ rfl (w.heap.size + 1 + 1) (enc f) rfl rfl 46 (enc fun _ => zc) (Blk.at' (by simp)) hin HZ.out hone ?_))
      refine bodyPost_ret (v := .agg (enc f)) (results_cell_row rfl _ _ (w.heap.size + 1 + 1) 46 _ (0, 0) _ rfl ((Blk.at' (by simp)).row _) Try.underlying46 rfl hin) rfl ⟨rfl, below_row (by repeat' (first | (with_reducible exact Below.refl _ _) | (with_reducible assumption) | (with_reducible refine Below.alloc ?_ ?_ _) | (with_reducible refine Below.setCell ?_ ?_ _) | (with_reducible refine Below.drew ?_) | (with_reducible refine below_drewN ?_ _) | go_size)) (by omega)⟩
set_option maxHeartbeats 2000000 in
set_option maxRecDepth 100000 in
theorem rcget_any (f : Nat → Cp) (k : Int) (w : World) :
    Calls Try.prog 22 #[.agg (enc f), .int .i64 k] w fun r w' => r = .returned (capV (getF f k)) ∧ Below w.heap.size w w' := by
  by_cases g : 1 ≤ k ∧ k < 32
  · obtain ⟨j, rfl⟩ := Int.eq_ofNat_of_zero_le (show 0 ≤ k by omega)
    have e : getF f (j : Int) = f j := by unfold getF; rw [if_pos g]; rfl
    rw [e]
    have hj : j < 32 := by omega
    have g1 : decide ((j : Int) < (1 : Int)) = false := decide_eq_false (by omega)
    have g2 : decide ((31 : Int) < (j : Int)) = false := decide_eq_false (by omega)
    have h0 := enc_t f j (by omega)
    have h1 := enc_m f j (by omega)
    have h2 := enc_a f j (by omega)
    clear e g
    generalize f j = c at *
    obtain ⟨t, m, a⟩ := c
    dsimp only at h0 h1 h2
    go_enter Try.func22, Try.ntmps22
    go_wp2
    refine bodyPost_ret (v := .agg #[.bool t, .int .u64 (m : Nat), .int .u64 (a : Nat)]) (by simp [results, Try.results22, go_sem]) rfl ⟨rfl, (by repeat' (first | (with_reducible exact Below.refl _ _) | (with_reducible assumption) | (with_reducible refine Below.alloc ?_ ?_ _) | (with_reducible refine Below.setCell ?_ ?_ _) | (with_reducible refine Below.drew ?_) | (with_reducible refine below_drewN ?_ _) | go_size))⟩
  · have e : getF f k = zc := by unfold getF; rw [if_neg g]
    rw [e]
    have g2 : decide (k < (1 : Int)) = false → decide ((31 : Int) < k) = true := fun h => decide_eq_true (by have := of_decide_eq_false h; omega)
    clear e g
    cases g1 : decide (k < (1 : Int))
    · have g3 := g2 g1
      clear g2
      go_enter Try.func22, Try.ntmps22
      go_wp2
      refine bodyPost_ret (v := .agg #[.bool false, .int .u64 (0 : Nat), .int .u64 (0 : Nat)]) (by simp [results, Try.results22, go_sem]) rfl ⟨rfl, (by repeat' (first | (with_reducible exact Below.refl _ _) | (with_reducible assumption) | (with_reducible refine Below.alloc ?_ ?_ _) | (with_reducible refine Below.setCell ?_ ?_ _) | (with_reducible refine Below.drew ?_) | (with_reducible refine below_drewN ?_ _) | go_size))⟩
    · clear g2
      go_enter Try.func22, Try.ntmps22
      go_wp2
      refine bodyPost_ret (v := .agg #[.bool false, .int .u64 (0 : Nat), .int .u64 (0 : Nat)]) (by simp [results, Try.results22, go_sem]) rfl ⟨rfl, (by repeat' (first | (with_reducible exact Below.refl _ _) | (with_reducible assumption) | (with_reducible refine Below.alloc ?_ ?_ _) | (with_reducible refine Below.setCell ?_ ?_ _) | (with_reducible refine Below.drew ?_) | (with_reducible refine below_drewN ?_ _) | go_size))⟩
set_option maxHeartbeats 2000000 in
theorem rspan_any (t : Bool) (m a : Nat) (w : World) :
    Calls Try.prog 37 #[.agg #[.bool t, .int .u64 (m : Nat), .int .u64 (a : Nat)]] w fun r w' => r = .returned (.agg #[.int .u64 (lB m a : Nat), .int .u64 (lT m a : Nat)]) ∧ Below w.heap.size w w' := by
  have Q1 := Lib.hid (fun W => rlook_any t m a W)
  go_enter Try.func37, Try.ntmps37
  go_wp2_with (go_at_call 39; refine (Q1.out _).mono ?_; rintro e w1 ⟨rfl, hb1⟩; obtain ⟨hc1, hf1⟩ := bcell hb1; have hq1 : Below w.heap.size w w1 := (by refine Below.trans ?_ (hb1.mono ?_); exact (by repeat' (first | (with_reducible exact Below.refl _ _) | (with_reducible assumption) | (with_reducible refine Below.alloc ?_ ?_ _) | (with_reducible refine Below.setCell ?_ ?_ _) | (with_reducible refine Below.drew ?_) | (with_reducible refine below_drewN ?_ _) | go_size)); go_size); have hs1 := hq1.size; have hz1w1 : w.heap.size + 1 < w1.heap.size := (by have := hb1.size; (try simp at this); omega); have hz1w0 : w.heap.size < w1.heap.size := (by have := hb1.size; (try simp at this); omega))
  refine bodyPost_ret (v := .agg #[.int .u64 (lB m a : Nat), .int .u64 (lT m a : Nat)]) (by simp [results, Try.results37, go_sem, *]) rfl ⟨rfl, (by repeat' (first | (with_reducible exact Below.refl _ _) | (with_reducible assumption) | (with_reducible refine Below.alloc ?_ ?_ _) | (with_reducible refine Below.setCell ?_ ?_ _) | (with_reducible refine Below.drew ?_) | (with_reducible refine below_drewN ?_ _) | go_size))⟩
def rng' (x y b : Nat) : Bool := decide (x ≤ b) && decide (b < y)
/-- does one begin from x on, below y. -/
def bg (x y m a : Nat) : Bool := decide (lB m a < lT m a) && rng' x y (lB m a)
theorem bg_sw (x y : Nat) (c : Cp) : bg x y c.m c.a = sw (rng' x y) c := by
  have h1 : lB c.m c.a ≤ lT c.m c.a := by rw [lB_def, lT_def]; exact dB_le_dT _ _ _ _
  have h2 : lT c.m c.a ≤ 281474976710656 := by rw [lT_def]; exact dT_le _ _ _ _
  have h3 := sb_le (a := lT c.m c.a) (b := lB c.m c.a) (by omega) h1
  unfold bg sw
  rw [h3]
  congr 1
  rw [Bool.eq_iff_iff]; simp; omega
set_option maxHeartbeats 2000000 in
theorem begins_any (t : Bool) (m a x y : Nat) (w : World) :
    Calls Try.prog 33 #[.agg #[.bool t, .int .u64 (m : Nat), .int .u64 (a : Nat)], .int .u64 (x : Nat), .int .u64 (y : Nat)] w fun r w' => r = .returned (.bool (bg x y m a)) ∧ Below w.heap.size w w' := by
  have Q1 := Lib.hid (fun W => rspan_any t m a W)
  unfold bg rng'
  generalize lB m a = B at *
  generalize lT m a = T at *
  cases g1 : decide (B < T)
  · go_enter Try.func33, Try.ntmps33
    go_wp2_with (go_at_call 37; refine (Q1.out _).mono ?_; rintro e w1 ⟨rfl, hb1⟩; obtain ⟨hc1, hf1⟩ := bcell hb1; have hq1 : Below w.heap.size w w1 := (by refine Below.trans ?_ (hb1.mono ?_); exact (by repeat' (first | (with_reducible exact Below.refl _ _) | (with_reducible assumption) | (with_reducible refine Below.alloc ?_ ?_ _) | (with_reducible refine Below.setCell ?_ ?_ _) | (with_reducible refine Below.drew ?_) | (with_reducible refine below_drewN ?_ _) | go_size)); go_size); have hs1 := hq1.size; have hz1w0 : w.heap.size < w1.heap.size := (by have := hb1.size; (try simp at this); omega))
    go_ret
    exact ⟨rfl, (by repeat' (first | (with_reducible exact Below.refl _ _) | (with_reducible assumption) | (with_reducible refine Below.alloc ?_ ?_ _) | (with_reducible refine Below.setCell ?_ ?_ _) | (with_reducible refine Below.drew ?_) | (with_reducible refine below_drewN ?_ _) | go_size))⟩
  · cases g2 : decide (x ≤ B)
    · go_enter Try.func33, Try.ntmps33
      go_wp2_with (go_at_call 37; refine (Q1.out _).mono ?_; rintro e w1 ⟨rfl, hb1⟩; obtain ⟨hc1, hf1⟩ := bcell hb1; have hq1 : Below w.heap.size w w1 := (by refine Below.trans ?_ (hb1.mono ?_); exact (by repeat' (first | (with_reducible exact Below.refl _ _) | (with_reducible assumption) | (with_reducible refine Below.alloc ?_ ?_ _) | (with_reducible refine Below.setCell ?_ ?_ _) | (with_reducible refine Below.drew ?_) | (with_reducible refine below_drewN ?_ _) | go_size)); go_size); have hs1 := hq1.size; have hz1w0 : w.heap.size < w1.heap.size := (by have := hb1.size; (try simp at this); omega))
      go_ret
      exact ⟨rfl, (by repeat' (first | (with_reducible exact Below.refl _ _) | (with_reducible assumption) | (with_reducible refine Below.alloc ?_ ?_ _) | (with_reducible refine Below.setCell ?_ ?_ _) | (with_reducible refine Below.drew ?_) | (with_reducible refine below_drewN ?_ _) | go_size))⟩
    · go_enter Try.func33, Try.ntmps33
      go_wp2_with (go_at_call 37; refine (Q1.out _).mono ?_; rintro e w1 ⟨rfl, hb1⟩; obtain ⟨hc1, hf1⟩ := bcell hb1; have hq1 : Below w.heap.size w w1 := (by refine Below.trans ?_ (hb1.mono ?_); exact (by repeat' (first | (with_reducible exact Below.refl _ _) | (with_reducible assumption) | (with_reducible refine Below.alloc ?_ ?_ _) | (with_reducible refine Below.setCell ?_ ?_ _) | (with_reducible refine Below.drew ?_) | (with_reducible refine below_drewN ?_ _) | go_size)); go_size); have hs1 := hq1.size; have hz1w0 : w.heap.size < w1.heap.size := (by have := hb1.size; (try simp at this); omega))
      go_ret
      exact ⟨rfl, (by repeat' (first | (with_reducible exact Below.refl _ _) | (with_reducible assumption) | (with_reducible refine Below.alloc ?_ ?_ _) | (with_reducible refine Below.setCell ?_ ?_ _) | (with_reducible refine Below.drew ?_) | (with_reducible refine below_drewN ?_ _) | go_size))⟩
end Go.Proofs.Ytkfeabekdjbphaa
