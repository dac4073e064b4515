
/-
  A context read in a region that draws; contracts of regs.Zero, Set.
-/
import Derived.Test.YtkfeabekdjbphaaG1
import Derived.Test.YtkfeabekdjbphaaQ0
set_option linter.unusedSimpArgs false
set_option linter.unusedVariables false
namespace Go.Proofs.Ytkfeabekdjbphaa
open Go.RowKit Go.Sort

theorem run_loadRow (w : World) (b : Nat) (f : Nat → Cp) (h : Blk w b (enc f) 27) : (Instr.loadAt 27 (.pointer (some ⟨b, 0, none⟩))).run Try.prog w = .ok (.agg (enc f)) w := by
  simp only [Instr.loadAt, Instr.sureAddr, Sem.run_bind, Sem.run_pure, Result.andThen]
  exact run_loadVar_row w b _ _ (enc f) (0, 0) _ h Try.underlying27 rfl (info_enc f)
theorem quiet_row {P : Program} {o : Oper} {a a' : Act} {C : World → Prop} {K : Act → Prop} (ty : TypeId) (x : Operand) (ho : o.op = .load ty x) (g : Nat) (hx : a.eval x = .pointer (some ⟨g, 0, none⟩)) (cs : Array Value)
    (h : ∀ w, C w → (Instr.loadAt ty (.pointer (some ⟨g, 0, none⟩))).run P w = .ok (.agg cs) w) (ha : a.put o.dst (.agg cs) = a') (hK : K a') : o.quiet P a C K := by
  subst ha
  refine ⟨.agg cs, fun w hw => ?_, hK⟩
  unfold Oper.quietAt execOp
  simp only [ho, hx, Sem.run_bind, h w hw, Result.andThen_ok]
  exact ⟨rfl, rfl⟩
/-- .. in the class of worlds that only have more than W. -/
theorem row_in {W : World} {b : Nat} {f : Nat → Cp} (h : Blk W b (enc f) 27) : ∀ w, (∃ p : Regrown, w = grow (redrawn W p.d) p.os) → (Instr.loadAt 27 (.pointer (some ⟨b, 0, none⟩))).run Try.prog w = .ok (.agg (enc f)) w := by
  rintro w ⟨p, rfl⟩
  exact run_loadRow _ b f (h.below (below_regrown _ _ _))
set_option maxHeartbeats 2000000 in
set_option maxRecDepth 100000 in
theorem set_any (f : Nat → Cp) (k : Int) (n : Nat) (w : World) :
    Calls Try.prog 25 #[.agg (enc f), .int .i64 k, .int .u64 (n : Nat)] w fun r w' => r = .returned (.agg (enc (withF f k ⟨false, 0, n⟩))) ∧ Below w.heap.size w w' := by
  have hz := zeroC
  have Q1 := Lib.hid (fun W => null_any n W)
  have Q2 := Lib.hid (fun W => cwith_any f k ⟨false, 0, n⟩ W)
  go_enter Try.func25, Try.ntmps25
  go_wp2
  first | refine wp_at (fun W1 hW1 => ?_) | refine calls_at (fun W1 hW1 => ?_)
  have hB1 : Below w.heap.size w W1 := by rw [← hW1]; exact (by repeat' (first | (with_reducible exact Below.refl _ _) | (with_reducible assumption) | (with_reducible refine Below.alloc ?_ ?_ _) | (with_reducible refine Below.setCell ?_ ?_ _) | (with_reducible refine Below.drew ?_) | (with_reducible refine below_drewN ?_ _) | go_size))
  have hbl : Blk W1 w.heap.size (enc f) 27 := by rw [← hW1]; exact (Blk.new _ _ _).alloc _
  have hbl2 : Blk W1 (w.heap.size + 1) (enc fun _ => zc) 27 := by rw [← hW1]; exact Blk.at' (by simp)
  clear hW1
  refine wp_region_tail 5 (by kernel_rfl) (by kernel_rfl) ?_
  simp only [List.take_succ_cons, List.take_zero, List.drop_succ_cons, List.drop_zero]
  (repeat (first
    | (go_big_quiet_want; refine quiet_row 27 _ rfl w.heap.size rfl (enc f) (row_in hbl) (by simp only [Act.put, List.setIfInBounds_toArray, List.set_cons_succ, List.set_cons_zero]; exact rfl) ?_; go_big_quiet_on)
    | go_big_quiet_step (first | (go_at_call 32; exact Calls.regrown_of (Q1.out _)) | (go_at_call 23; exact Calls.regrown_of (Q2.out _)))))
  refine wpQuiet_nil ?_
  intro W2 hW2
  obtain ⟨pq, hpq⟩ := hW2
  have hb2 : Below W1.heap.size W1 W2 := by rw [hpq]; exact below_regrown _ _ _
  clear hpq
  generalize hg : withF f k ⟨false, 0, n⟩ = g
  have hin := info_enc g
  have hone := enc_one g
  have HZ := (enc_size fun _ => zc).trans (enc_size g).symm
  have hbl3 := hbl2.below hb2
  have hs1 := hB1.size
  go_wp2_with (refine wpList_store_row rfl 27 _ _ rfl (w.heap.size + 1) (enc g) rfl rfl 27 (enc fun _ => zc) hbl3 hin HZ hone ?_)
  refine bodyPost_ret (v := .agg (enc g)) (results_cell_row rfl _ _ (w.heap.size + 1) 27 _ (0, 0) _ rfl (hbl3.row _) Try.underlying27 rfl hin) rfl ⟨by rw [hg], below_row (hB1.trans (hb2.mono hB1.size)) (by omega)⟩
set_option maxHeartbeats 2000000 in
set_option maxRecDepth 100000 in
theorem zero_any (c : Cp) (w : World) :
    Calls Try.prog 26 #[capV c] w fun r w' => r = .returned (.agg (enc (upd (fun _ => zc) 32 c))) ∧ Below w.heap.size w w' := by
  have hput := enc_put (fun _ => zc) 32 (by decide) c
  simp only [show 32 * 3 = 96 from rfl, show 96 + 1 = 97 from rfl, show 96 + 2 = 98 from rfl] at hput
  generalize hg : upd (fun _ => zc) 32 c = g at *
  obtain ⟨t, m, a⟩ := c
  dsimp only at hput
  have hz := zeroC
  have hs0 := enc_size fun _ => zc
  have hin := info_enc g
  have hone := enc_one g
  have HZ := Lib.hid ((enc_size fun _ => zc).trans (enc_size g).symm)
  go_enter Try.func26, Try.ntmps26
  go_wp2_with (refine wpList_store_row rfl 27 _ _ rfl (w.heap.size + 1) (enc g) rfl rfl 27 (enc fun _ => zc) (Blk.at' (by simp)) hin HZ.out hone ?_)
  refine bodyPost_ret (v := .agg (enc g)) (results_cell_row rfl _ _ (w.heap.size + 1) 27 _ (0, 0) _ rfl ((Blk.at' (by simp)).row _) Try.underlying27 rfl hin) rfl ⟨rfl, below_row (by repeat' (first | (with_reducible exact Below.refl _ _) | (with_reducible assumption) | (with_reducible refine Below.alloc ?_ ?_ _) | (with_reducible refine Below.setCell ?_ ?_ _) | (with_reducible refine Below.drew ?_) | (with_reducible refine below_drewN ?_ _) | go_size)) (by omega)⟩
end Go.Proofs.Ytkfeabekdjbphaa
