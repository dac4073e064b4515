
/-
  Contracts for RegsHold: Own; the reference's Swept.
-/
import Derived.Test.YtkfeabekdjbphaaGB
set_option linter.unusedSimpArgs false
set_option linter.unusedVariables false
namespace Go.Proofs.Ytkfeabekdjbphaa
open Go.RowKit Go.Sort

def mx (f : Nat → Cp) (k : Nat) : Nat → Cp := fun i => if i < k ∨ i = 32 then f i else zc
theorem mx_zero (f : Nat → Cp) : enc (upd (fun _ => zc) 32 (f 32)) = enc (mx f 0) := enc_ext _ _ fun i hi => by
  unfold mx upd
  by_cases h : i = 32
  · subst h; simp
  · simp [h]
theorem mx_next (f : Nat → Cp) (k : Nat) : enc (upd (mx f k) k (f k)) = enc (mx f (k + 1)) := enc_ext _ _ fun i hi => by
  unfold mx upd
  by_cases h : i = k
  · subst h; simp
  · simp only [h, if_false]
    by_cases h2 : i < k ∨ i = 32
    · rw [if_pos h2, if_pos (by omega)]
    · rw [if_neg h2, if_neg (by omega)]
theorem mx_end (f : Nat → Cp) : enc (mx f 32) = enc f := enc_ext _ _ fun i hi => by
  unfold mx; rw [if_pos (by omega)]
set_option maxHeartbeats 4000000 in
set_option maxRecDepth 100000 in
theorem own_any (f : Nat → Cp) (w : World) :
    Calls Try.prog 19 #[.agg (enc f)] w fun r w' => r = .returned (.agg (enc f)) ∧ Below w.heap.size w w' := by
  have hz := zeroR
  have hput := enc_put (fun _ => zc) 32 (by decide) (f 32)
  simp only [show 32 * 3 = 96 from rfl, show 96 + 1 = 97 from rfl, show 96 + 2 = 98 from rfl] at hput
  rw [mx_zero] at hput
  have p0 := enc_t f 32 (by decide)
  have p1 := enc_m f 32 (by decide)
  have p2 := enc_a f 32 (by decide)
  simp only [show 32 * 3 = 96 from rfl, show 96 + 1 = 97 from rfl, show 96 + 2 = 98 from rfl] at p0 p1 p2
  have hs0 := enc_size fun _ => zc
  have hin := info_encR (mx f 0)
  have hone := enc_one (mx f 0)
  have HZ := Lib.hid ((enc_size fun _ => zc).trans (enc_size (mx f 0)).symm)
  generalize f 32 = c at hput p0 p1 p2
  obtain ⟨t, m, a⟩ := c
  dsimp only at hput p0 p1 p2
  go_enter Try.func19, Try.ntmps19
  go_wp2_with ((with_reducible refine wpList_at ?_); refine wpList_store_row rfl 46 _ _ rfl (w.heap.size + 1 + 1) (enc (mx f 0)) rfl rfl 46 (enc fun _ => zc) (Blk.at' (by simp)) hin HZ.out hone ?_; rw [setRow_at (by simp)])
  clear hput p0 p1 p2 hin hone HZ hs0
  go_loopw [4] (fun i wr => ∃ k : Nat, k ≤ 32 ∧ i = .int .i64 (k : Nat) ∧ Hid (Blk wr (w.heap.size + 1 + 1) (enc (mx f k)) 46 ∧ Blk wr (w.heap.size + 1) (enc fun _ => zc) 46 ∧ Blk wr w.heap.size (enc f) 27 ∧ Below w.heap.size w wr))
    (fun i _ => 32 - (intOf i).toNat)
  case atStart => exact ⟨0, by omega, rfl, Lib.hid ⟨Blk.at' (by simp), (Blk.at' (by simp)).alloc _, ((Blk.new _ _ _).alloc _).alloc _, (by repeat' (first | (with_reducible exact Below.refl _ _) | (with_reducible assumption) | (with_reducible refine Below.alloc ?_ ?_ _) | (with_reducible refine Below.setCell ?_ ?_ _) | (with_reducible refine Below.drew ?_) | (with_reducible refine below_drewN ?_ _) | go_size))⟩⟩
  case round =>
    obtain ⟨k, hk, rfl, hrel⟩ := hrel
    have Hrel := Lib.hid hrel.out
    clear hrel
    by_cases hk32 : k < 32
    · have g1 : decide ((k : Int) < (32 : Int)) = true := decide_eq_true (by omega)
      have c0 := (Hrel.out.2.2.1.cell (k * 3)).trans (enc_t f k (by omega))
      have c1 := (Hrel.out.2.2.1.cell (k * 3 + 1)).trans (enc_m f k (by omega))
      have c2 := (Hrel.out.2.2.1.cell (k * 3 + 2)).trans (enc_a f k (by omega))
      have x0 := (Hrel.out.1.cell (k * 3)).trans (enc_t (mx f k) k (by omega))
      have x1 := (Hrel.out.1.cell (k * 3 + 1)).trans (enc_m (mx f k) k (by omega))
      have x2 := (Hrel.out.1.cell (k * 3 + 2)).trans (enc_a (mx f k) k (by omega))
      have y0 := Hrel.out.1.frozen (k * 3)
      have y1 := Hrel.out.1.frozen (k * 3 + 1)
      have y2 := Hrel.out.1.frozen (k * 3 + 2)
      have hn := Lib.hid (mx_next f k)
      generalize f k = c at *
      obtain ⟨t, m, a⟩ := c
      dsimp only at c0 c1 c2
      go_wp2
      go_roundw
      case rel =>
        have l3 : w.heap.size ≤ w.heap.size + 1 + 1 := by omega
        refine ⟨k + 1, by omega, by first | rfl | simp, Lib.hid ⟨?_, ((Hrel.out.2.1.keep (by simp; try omega) _).keep (by simp; try omega) _).keep (by simp; try omega) _, ((Hrel.out.2.2.1.keep (by simp; try omega) _).keep (by simp; try omega) _).keep (by simp; try omega) _, Below.setCell (Below.setCell (Below.setCell Hrel.out.2.2.2 l3 _) l3 _) l3 _⟩⟩
        rw [← hn.out]; exact Hrel.out.1.put k (by omega) ⟨t, m, a⟩
      case measure => simp [intOf]; omega
    · obtain rfl : k = 32 := by omega
      have hb2 : Blk wr (w.heap.size + 1 + 1) (enc f) 46 := by rw [← mx_end f]; exact Hrel.out.1
      go_wp2_with ((with_reducible refine wpList_at ?_); first
        | (refine wpList_load_row rfl 46 _ rfl (w.heap.size + 1 + 1) rfl _ (enc f) _ _ hb2 Try.underlying46 rfl (info_encR f) ?_)
        | (refine wpList_store_row rfl 46 _ _ rfl (w.heap.size + 1) (enc f) rfl rfl 46 (enc fun _ => zc) Hrel.out.2.1 (info_encR f) ((enc_size fun _ => zc).trans (enc_size f).symm) (enc_one f) ?_))
      refine bodyPost_ret (v := .agg (enc f)) (results_cell_row rfl _ _ (w.heap.size + 1) 46 _ (0, 0) _ rfl (Hrel.out.2.1.row _) Try.underlying46 rfl (info_encR f)) rfl ⟨rfl, below_row Hrel.out.2.2.2 (by omega)⟩
end Go.Proofs.Ytkfeabekdjbphaa
