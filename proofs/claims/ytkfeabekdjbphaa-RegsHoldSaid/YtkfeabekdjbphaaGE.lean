
/-
  Contracts for RegsHold: sweeping of nothing; the law's function of a base.
-/
import Derived.Test.YtkfeabekdjbphaaGD
import Derived.Test.YtkfeabekdjbphaaG9
set_option linter.unusedSimpArgs false
set_option linter.unusedVariables false
namespace Go.Proofs.Ytkfeabekdjbphaa
open Go.RowKit Go.Sort Go.Shelf

theorem swF_a' (p : Nat → Bool) (f : Nat → Cp) (i : Nat) : (swF p f i).a = (f i).a := by unfold swF; split <;> rfl
theorem h1_any (B x y : Nat) (b : Nat) (w : World) (h0 : w.cell? ⟨B, 1, none⟩ = some (.int .u64 (x : Nat))) (h1 : w.cell? ⟨B, 2, none⟩ = some (.int .u64 (y : Nat))) :
    Calls Try.prog 20 #[.int .u64 (b : Nat), .pointer (some ⟨B, 0, none⟩)] w fun r w' => r = .returned (.bool (rng' x y b)) ∧ Below w.heap.size w w' := by
  unfold rng'
  cases g1 : decide (x ≤ b)
  · go_enter Try.func20, Try.ntmps20
    go_wp2
    go_ret
    exact ⟨rfl, (by repeat' (first | (with_reducible exact Below.refl _ _) | (with_reducible assumption) | (with_reducible refine Below.alloc ?_ ?_ _) | (with_reducible refine Below.setCell ?_ ?_ _) | (with_reducible refine Below.drew ?_) | (with_reducible refine below_drewN ?_ _) | go_size))⟩
  · go_enter Try.func20, Try.ntmps20
    go_wp2
    go_ret
    exact ⟨rfl, (by repeat' (first | (with_reducible exact Below.refl _ _) | (with_reducible assumption) | (with_reducible refine Below.alloc ?_ ?_ _) | (with_reducible refine Below.setCell ?_ ?_ _) | (with_reducible refine Below.drew ?_) | (with_reducible refine below_drewN ?_ _) | go_size))⟩
theorem app1' (b : Nat) (u : Value) : (#[Value.int .u64 (b : Nat)] ++ #[u] : Array Value) = #[.int .u64 (b : Nat), u] := rfl
theorem h1_app (B x y : Nat) (W : World) (h0 : W.cell? ⟨B, 1, none⟩ = some (.int .u64 (x : Nat))) (h1 : W.cell? ⟨B, 2, none⟩ = some (.int .u64 (y : Nat))) (b : Nat) :
    Calls Try.prog 20 (#[.int .u64 (b : Nat)] ++ #[.pointer (some ⟨B, 0, none⟩)]) W fun r W' => r = .returned (.bool (rng' x y b)) ∧ Below W.heap.size W W' := by
  rw [app1']; exact h1_any B x y b W h0 h1
theorem nil_nil (w : World) : (binOp .eql 36 Value.nilFunc Value.nilFunc).run Try.prog w = .ok (.bool true) w := by rfl
set_option maxHeartbeats 8000000 in
set_option maxRecDepth 100000 in
theorem swept_nil (f : Nat → Cp) (w : World) :
    Calls Try.prog 11 #[.agg (enc f), Value.nilFunc] w fun r w' => r = .returned (.tuple #[.agg (enc f), .int .i64 0]) ∧ Below w.heap.size w w' := by
  have hz := zeroC
  have hfn := nil_nil
  refine (callsIn_wide (n := 3)).1 ?_
  refine callsIn_of_wp_marks Try.func11 rfl trivial ?_ rfl
  simp only [Try.ntmps11, List.size_toArray, List.length_cons, List.length_nil, Nat.reduceAdd, Nat.reduceSub, Array.replicate_succ, Array.replicate_zero, List.push_toArray, List.append_toArray, List.nil_append, List.cons_append]
  refine wpIn_wide.2 ?_
  go_upto_region 3 with ((with_reducible refine wpList_at ?_); first
    | (refine wpList_load_row rfl 27 _ rfl w.heap.size rfl 27 (enc f) (0, 0) _ (((Blk.new w _ _).alloc _).alloc _) Try.underlying27 rfl (info_enc f) ?_)
    | (refine wpList_store_row rfl 27 _ _ rfl (w.heap.size + 1 + 1 + 1) (enc f) rfl rfl 27 (enc fun _ => zc) (Blk.alloc (Blk.at' (by simp)) _) (info_enc f) ((enc_size fun _ => zc).trans (enc_size f).symm) (enc_one f) ?_; rw [setRow_old (by simp), setRow_at (by simp)]))
  first | refine wp_at (fun W hW => ?_) | refine calls_at (fun W hW => ?_)
  have hB : Below w.heap.size w W := by rw [← hW]; exact (by repeat' (first | (with_reducible exact Below.refl _ _) | (with_reducible assumption) | (with_reducible refine Below.alloc ?_ ?_ _) | (with_reducible refine Below.setCell ?_ ?_ _) | (with_reducible refine Below.drew ?_) | (with_reducible refine below_drewN ?_ _) | go_size))
  have hO : Blk W (w.heap.size + 1 + 1 + 1) (enc f) 27 := by rw [← hW]; exact (Blk.at' (by simp)).alloc _
  have hR : Blk W (w.heap.size + 1 + 1) (enc fun _ => zc) 27 := by rw [← hW]; exact ((Blk.at' (by simp)).alloc _).alloc _
  have hN : Blk W (w.heap.size + 1 + 1 + 1 + 1) #[.int .i64 0] 3 := by rw [← hW]; exact Blk.at' (by simp)
  clear hW
  have n0 : W.cell? ⟨w.heap.size + 1 + 1 + 1 + 1, 0, none⟩ = some (.int .i64 0) := hN.cell 0
  have hzz := (enc_size fun _ => zc).trans (enc_size f).symm
  have n1 : (W.drew.setRow (w.heap.size + 1 + 1) (enc f)).cell? ⟨w.heap.size + 1 + 1 + 1 + 1, 0, none⟩ = some (.int .i64 0) := (cell_setRow_other _ _ _ _ (by simp; try omega)).trans n0
  have hEnd : ∀ (a : Act), a.defers = [] → a.tmps.getD 4 undef = .pointer (some ⟨w.heap.size + 1 + 1, 0, none⟩) → a.tmps.getD 5 undef = .int .i64 0 → bodyPostM Fence.wide 3 Try.prog Try.f11 (fun r w' => r = .returned (.tuple #[.agg (enc f), .int .i64 0]) ∧ Below w.heap.size w w') .ret a (W.drew.setRow (w.heap.size + 1 + 1) (enc f)) := by
    intro a h1 h4 h5
    show LeavesInM _ _ _ _ _ _ a.defers _ _
    rw [h1]
    have hb2 : Blk (W.drew.setRow (w.heap.size + 1 + 1) (enc f)) (w.heap.size + 1 + 1) (enc f) 27 := hR.drew.row _
    exact ⟨_, results_swept h4 h5 hb2, rfl, below_row (Below.drew hB) (by omega)⟩
  refine wp_region_any (by kernel_rfl) ?_
  change wpAny _ _ _ _ _ _ _ (World.drew _)
  refine wpAny_ready (rs := [0, 1]) (by kernel_rfl) (by simp) ?_
  refine AllReady.cons rfl (fun K hK => ?_) (AllReady.cons rfl (fun K hK => ?_) AllReady.nil)
  · rw [if_pos (by kernel_rfl)]
    refine wp_load_row 27 _ rfl (w.heap.size + 1 + 1 + 1) rfl 27 (enc f) (0, 0) _ hO.drew Try.underlying27 rfl (info_enc f) ?_
    simp only [Act.put, List.setIfInBounds_toArray, List.set_cons_succ, List.set_cons_zero]
    refine hK _ _ ?_
    clear hK K
    refine wpAny_ready (rs := [1, 2]) (by kernel_rfl) (by simp) ?_
    refine AllReady.cons rfl (fun K hK => ?_) (AllReady.cons rfl (fun K hK => ?_) AllReady.nil)
    · go_simp
      refine hK _ _ ?_
      clear hK K
      refine wpAny_ready (rs := [2]) (by kernel_rfl) (by simp) ?_
      refine AllReady.cons rfl (fun K hK => ?_) AllReady.nil
      rw [if_pos (by kernel_rfl)]
      refine wp_store_row 27 _ _ rfl (w.heap.size + 1 + 1) (enc f) rfl rfl 27 (enc fun _ => zc) hR.drew (info_enc f) hzz (enc_one f) ?_
      simp only [Act.put]
      refine hK _ _ ?_
      clear hK K
      refine wpAny_ready (rs := [3]) (by kernel_rfl) (by simp) ?_
      refine AllReady.cons rfl (fun K hK => ?_) AllReady.nil
      go_simp
      refine hK _ _ ?_
      clear hK K
      refine wpAny_done (by kernel_rfl) ?_ _
      go_wp2
      refine hEnd _ ?_ ?_ ?_ <;> rfl
    · rw [if_pos (by kernel_rfl)]
      refine wp_store_row 27 _ _ rfl (w.heap.size + 1 + 1) (enc f) rfl rfl 27 (enc fun _ => zc) hR.drew (info_enc f) hzz (enc_one f) ?_
      simp only [Act.put]
      refine hK _ _ ?_
      clear hK K
      refine wpAny_ready (rs := [1]) (by kernel_rfl) (by simp) ?_
      refine AllReady.cons rfl (fun K hK => ?_) AllReady.nil
      go_simp
      refine hK _ _ ?_
      clear hK K
      refine wpAny_ready (rs := [3]) (by kernel_rfl) (by simp) ?_
      refine AllReady.cons rfl (fun K hK => ?_) AllReady.nil
      go_simp
      refine hK _ _ ?_
      clear hK K
      refine wpAny_done (by kernel_rfl) ?_ _
      go_wp2
      refine hEnd _ ?_ ?_ ?_ <;> rfl
  · go_simp
    refine hK _ _ ?_
    clear hK K
    refine wpAny_ready (rs := [0]) (by kernel_rfl) (by simp) ?_
    refine AllReady.cons rfl (fun K hK => ?_) AllReady.nil
    rw [if_pos (by kernel_rfl)]
    refine wp_load_row 27 _ rfl (w.heap.size + 1 + 1 + 1) rfl 27 (enc f) (0, 0) _ hO.drew Try.underlying27 rfl (info_enc f) ?_
    simp only [Act.put, List.setIfInBounds_toArray, List.set_cons_succ, List.set_cons_zero]
    refine hK _ _ ?_
    clear hK K
    refine wpAny_ready (rs := [2]) (by kernel_rfl) (by simp) ?_
    refine AllReady.cons rfl (fun K hK => ?_) AllReady.nil
    rw [if_pos (by kernel_rfl)]
    refine wp_store_row 27 _ _ rfl (w.heap.size + 1 + 1) (enc f) rfl rfl 27 (enc fun _ => zc) hR.drew (info_enc f) hzz (enc_one f) ?_
    simp only [Act.put]
    refine hK _ _ ?_
    clear hK K
    refine wpAny_ready (rs := [3]) (by kernel_rfl) (by simp) ?_
    refine AllReady.cons rfl (fun K hK => ?_) AllReady.nil
    go_simp
    refine hK _ _ ?_
    clear hK K
    refine wpAny_done (by kernel_rfl) ?_ _
    go_wp2
    refine hEnd _ ?_ ?_ ?_ <;> rfl
end Go.Proofs.Ytkfeabekdjbphaa
