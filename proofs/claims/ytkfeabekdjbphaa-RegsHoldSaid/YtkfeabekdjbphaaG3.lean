
/-
  Contract of mintmarklaw16.one.
-/
import Derived.Test.YtkfeabekdjbphaaG2
set_option linter.unusedSimpArgs false
set_option linter.unusedVariables false
namespace Go.Proofs.Ytkfeabekdjbphaa
open Go.RowKit Go.Sort

theorem enc_a32 (f : Nat → Cp) : (enc f)[98]? = some (.int .u64 ((f 32).a : Nat)) := enc_a f 32 (by decide)
def oneF : Nat → Cp := withF (upd (fun _ => zc) 32 ⟨false, 0, 4⟩) 5 ⟨false, 0, 7⟩
theorem oneF_def : oneF = withF (upd (fun _ => zc) 32 ⟨false, 0, 4⟩) 5 ⟨false, 0, 7⟩ := rfl
theorem oneF_0 : getF (withF oneF 0 ⟨false, 0, 9⟩) 0 = ⟨false, 0, 0⟩ := by unfold getF; rw [if_neg (by decide)]; rfl
theorem oneF_5 : getF oneF 5 = ⟨false, 0, 7⟩ := by unfold getF; rw [if_pos (by decide), oneF_def]; unfold withF; rw [if_pos (by decide)]; rfl
theorem oneF_32 : (oneF 32).a = 4 := by rw [oneF_def]; unfold withF; rw [if_pos (by decide)]; rfl
set_option maxHeartbeats 4000000 in
set_option maxRecDepth 100000 in
theorem one_any (w : World) : Calls Try.prog 15 #[] w fun r w' => r = .returned (.bool true) ∧ Below w.heap.size w w' := by
  have hz := zeroC
  have Q1 := Lib.hid (fun W => null_any 4 W)
  have Q2 := Lib.hid (fun W => zero_any ⟨false, 0, 4⟩ W)
  have Q3 := Lib.hid (fun W => null_any 7 W)
  have q4 := fun W => cwith_any (upd (fun _ => zc) 32 ⟨false, 0, 4⟩) 5 ⟨false, 0, 7⟩ W
  rw [← oneF_def] at q4
  have Q4 := Lib.hid q4
  have Q5 := Lib.hid (fun W => null_any 9 W)
  have Q6 := Lib.hid (fun W => cwith_any oneF 0 ⟨false, 0, 9⟩ W)
  have q7 := fun W => cget_any (withF oneF 0 ⟨false, 0, 9⟩) 0 W
  rw [oneF_0] at q7
  have Q7 := Lib.hid q7
  have q8 := fun W => cget_any oneF 5 W
  rw [oneF_5] at q8
  have Q8 := Lib.hid q8
  have h98 := enc_a32 oneF
  rw [oneF_32] at h98
  have hin := info_enc oneF
  have hone := enc_one oneF
  have HZ := Lib.hid ((enc_size fun _ => zc).trans (enc_size oneF).symm)
  generalize withF oneF 0 ⟨false, 0, 9⟩ = f0 at *
  generalize oneF = f1 at *
  clear q4 q7 q8
  go_enter Try.func15, Try.ntmps15
  go_wp2_with (fail)
  (go_at_call 32; refine (Q1.out _).mono ?_; rintro e w1 ⟨rfl, hb1⟩)
  go_wp2_with (fail)
  (go_at_call 26; refine (Q2.out _).mono ?_; rintro e w2 ⟨rfl, hb2⟩)
  go_wp2_with (fail)
  (go_at_call 32; refine (Q3.out _).mono ?_; rintro e w3 ⟨rfl, hb3⟩)
  go_wp2_with (fail)
  (go_at_call 23; refine (Q4.out _).mono ?_; rintro e w4 ⟨rfl, hb4⟩)
  have hB4 : Below w.heap.size w w4 := by
    have h2 := hb1.trans (hb2.mono hb1.size)
    have h3 := h2.trans (hb3.mono h2.size)
    exact h3.trans (hb4.mono h3.size)
  clear hb1 hb2 hb3 hb4
  go_wp2_with (refine wpList_store_row rfl 27 _ _ rfl w4.heap.size (enc f1) rfl rfl 27 (enc fun _ => zc) (Blk.at' (by simp)) hin HZ.out hone ?_)
  simp only [Act.put]
  first | refine wp_at (fun W1 hW1 => ?_) | refine calls_at (fun W1 hW1 => ?_)
  have hbl : Blk W1 w4.heap.size (enc f1) 27 := by rw [← hW1]; exact (Blk.new _ _ _).row _
  have hB1 : Below w.heap.size w W1 := by rw [← hW1]; exact below_row (Below.alloc hB4 hB4.size _) hB4.size
  clear hW1
  have c98 : W1.cell? ⟨w4.heap.size, 98, none⟩ = some (.int .u64 (4 : Nat)) := (hbl.cell 98).trans h98
  have k98 := cell_regrown c98
  refine wp_region_quiet_below (by kernel_rfl) (by kernel_rfl) ?_
  (repeat (first
    | (go_big_quiet_want; refine quiet_row 27 _ rfl w4.heap.size rfl (enc f1) (row_in hbl) (by simp only [Act.put, List.setIfInBounds_toArray, List.set_cons_succ, List.set_cons_zero]; exact rfl) ?_; go_big_quiet_on)
    | go_big_quiet_step (first | (go_at_call_of 32 (Value.int .u64 9); exact Calls.regrown_of (Q5.out _)) | (go_at_call_of 32 (Value.int .u64 7); exact Calls.regrown_of (Q3.out _)) | (go_at_call 23; exact Calls.regrown_of (Q6.out _)) | (go_at_call_of 8 (Value.agg (enc f0)); exact Calls.regrown_of (Q7.out _)) | (go_at_call_of 8 (Value.agg (enc f1)); exact Calls.regrown_of (Q8.out _)))))
  refine wpQuiet_nil ?_
  intro W2 hW2
  obtain ⟨pq, hpq⟩ := hW2
  have hb2 : Below W1.heap.size W1 W2 := by rw [hpq]; exact below_regrown _ _ _
  clear hpq
  go_wp2
  go_ret
  exact ⟨rfl, hB1.trans (hb2.mono hB1.size)⟩
end Go.Proofs.Ytkfeabekdjbphaa
