/-
  The iterator scale.Ones over the bits of a number that are 1: its contract; scale.Zeros: the lowest of them.
-/
import Derived.Test.YtlaeolmjhghaoaaF1
import Derived.RangeFuncNested
import Derived.RangeFuncBound
import Derived.RangeFuncCalls
import Derived.RangeFuncLeaves
import Derived.Shelf.Abstract
import Derived.Shelf.RegionOpen
import Derived.OwnWalkIn
import Derived.TacticsInMore
import Derived.LoopNIn
import Derived.LoopIn
set_option linter.unusedSimpArgs false
set_option linter.unusedVariables false
namespace Go.Proofs.Ytlaeolmjhghaoaa
open Go.RowKit Go.Shelf
attribute [local go_sem] Oper.semAt_some

/-- the places below k of the bits of x that are 1. -/
def onesTo (x k : Nat) : List Nat := (List.range k).filter fun i => x.testBit i
def ones (x : Nat) : List Nat := onesTo x 64
theorem onesTo_zero (x : Nat) : onesTo x 0 = [] := rfl
theorem onesTo_hit {x k : Nat} (h : x.testBit k = true) : onesTo x (k + 1) = onesTo x k ++ [k] := by
  unfold onesTo; rw [List.range_succ, List.filter_append]; simp [h]
theorem onesTo_miss {x k : Nat} (h : x.testBit k = false) : onesTo x (k + 1) = onesTo x k := by
  unfold onesTo; rw [List.range_succ, List.filter_append]; simp [h]
theorem onesTo_len (x k : Nat) : (onesTo x k).length ≤ k := by
  unfold onesTo; have := List.length_filter_le (fun i => x.testBit i) (List.range k); simpa using this
theorem onesTo_pre {x k m : Nat} (h : k ≤ m) : onesTo x k <+: onesTo x m := by
  obtain ⟨d, rfl⟩ := Nat.exists_eq_add_of_le h
  clear h
  induction d with
  | zero => exact List.prefix_refl _
  | succ d ih =>
    cases hb : x.testBit (k + d)
    · rw [← Nat.add_assoc, onesTo_miss hb]; exact ih
    · rw [← Nat.add_assoc, onesTo_hit hb]; exact ih.trans (List.prefix_append _ _)
attribute [irreducible] onesTo ones
theorem ones_def (x : Nat) : ones x = onesTo x 64 := by unfold ones; rfl

theorem bit_test (x k : Nat) (hx : x < 18446744073709551616) : (bits .and .u64 ((x : Int) / 2 ^ k) 1 == 1) = x.testBit k := by
  have e : (x : Int) / 2 ^ k = ((x / 2 ^ k : Nat) : Int) := by simp
  have hlt : x / 2 ^ k < 18446744073709551616 := Nat.lt_of_le_of_lt (Nat.div_le_self _ _) hx
  have h := u64_and_nat (x / 2 ^ k) 1 hlt (by decide)
  rw [e, show ((1 : Int)) = ((1 : Nat) : Int) from rfl, h, Nat.and_one_is_mod, Nat.testBit_eq_decide_div_mod_eq, Bool.eq_iff_iff]
  simp; omega

set_option maxRecDepth 100000 in
set_option maxHeartbeats 1000000 in
/-- the loop over the bits, for every loop body that keeps what lay below n₀. -/
theorem ones1K_in (n l Bn x : Nat) (hn : 1 ≤ n) (hx : x < 18446744073709551616) (Kp : World → World → Prop) (hKp : ∀ A B, Kp A B → A.cell? ⟨Bn, 0, none⟩ = some (.int .u64 (x : Nat)) → B.cell? ⟨Bn, 0, none⟩ = some (.int .u64 (x : Nat))) (J Jx : List Nat → World → Prop)
    (hY : ∀ pre (k : Nat) W, J pre W → pre.length < 64 → YieldAt Fence.wide (n - 1) Try.prog l #[.int .i64 (k : Nat)] W fun e W' =>
      (e = .returned (.bool true) ∧ J (pre ++ [k]) W' ∧ Kp W W') ∨ (e = .returned (.bool false) ∧ Jx (pre ++ [k]) W'))
    (W : World) (hc : W.cell? ⟨Bn, 0, none⟩ = some (.int .u64 (x : Nat))) (h0 : J [] W) :
    CallsIn Fence.wide n Try.prog 22 #[.func (.yield l) #[] #[], .pointer (some ⟨Bn, 0, none⟩)] W fun e W' => (∃ v, e = .returned v) ∧
      ((∃ ys, ys = ones x ∧ J ys W') ∨ (∃ pre, pre <+: ones x ∧ Jx pre W')) := by
  refine callsIn_of_wp Try.func22 rfl trivial ?_ rfl
  simp only [Try.ntmps22, List.size_toArray, List.length_cons, List.length_nil, Nat.reduceAdd, Nat.reduceSub, Array.replicate_succ, Array.replicate_zero, List.push_toArray, List.append_toArray, List.nil_append, List.cons_append]
  gi_wp2
  gi_loopw [4] (fun i wr => ∃ k : Nat, k ≤ 64 ∧ i = .int .i64 (k : Nat) ∧ wr.cell? ⟨Bn, 0, none⟩ = some (.int .u64 (x : Nat)) ∧ J (onesTo x k) wr)
    (fun i wr => 64 - (intOf i).toNat)
  case atStart =>
    exact ⟨0, by omega, rfl, hc, by rw [onesTo_zero]; exact h0⟩
  case round =>
    obtain ⟨k, hk, rfl, hcw, hJ⟩ := hrel
    by_cases hlt : k < 64
    · have ht := bit_test x k hx
      have hlen := onesTo_len x k
      cases hb : x.testBit k
      · rw [hb] at ht
        have hm := Lib.hid (onesTo_miss hb)
        clear hb hlen
        gi_wp2
        refine ⟨fun _ h => (by cases h), ?_⟩
        gi_wp2
        go_roundw
        case rel => exact ⟨k + 1, by omega, by go_num, hcw, by rw [hm.out]; exact hJ⟩
        case measure => simp [intOf]; omega
      · rw [hb] at ht
        have hm := Lib.hid (onesTo_hit hb)
        have hp := Lib.hid (onesTo_pre (x := x) (k := k + 1) (m := 64) (by omega))
        obtain ⟨fn, tmps, assign, body, hy, hR⟩ := hY (onesTo x k) k wr hJ (by omega)
        clear hb hlen
        gi_wp2
        refine hR.mono ?_
        rintro e W3 (⟨rfl, hJ3, hk3⟩ | ⟨rfl, hJx3⟩)
        · have hc3 : W3.cell? ⟨Bn, 0, none⟩ = some (.int .u64 (x : Nat)) := hKp _ _ hk3 hcw
          gi_wp2
          go_roundw
          case rel => exact ⟨k + 1, by omega, by go_num, hc3, by rw [hm.out]; exact hJ3⟩
          case measure => simp [intOf]; omega
        · gi_wp2
          refine bodyPost_ret (results_none rfl _ _ _) rfl ?_
          exact ⟨⟨_, rfl⟩, .inr ⟨onesTo x (k + 1), by rw [ones_def]; exact hp.out, by rw [hm.out]; exact hJx3⟩⟩
    · obtain rfl : k = 64 := by omega
      gi_wp2
      go_end0
      exact ⟨⟨_, rfl⟩, .inl ⟨ones x, rfl, by rw [ones_def]; exact hJ⟩⟩

set_option maxHeartbeats 1000000 in
theorem ones_in (n x : Nat) (w : World) :
    CallsIn Fence.wide n Try.prog 20 #[.int .u64 (x : Nat)] w fun e w' => e = .returned (.func (.func 22) #[] #[.pointer (some ⟨w.heap.size, 0, none⟩)]) ∧ w' = w.alloc (.cells #[.int .u64 (x : Nat)] 23) := by
  refine callsIn_of_wp Try.func20 rfl trivial ?_ rfl
  simp only [Try.ntmps20, List.size_toArray, List.length_cons, List.length_nil, Nat.reduceAdd, Nat.reduceSub, Array.replicate_succ, Array.replicate_zero, List.push_toArray, List.append_toArray, List.nil_append, List.cons_append]
  gi_wp2
  go_ret
  exact ⟨rfl, rfl⟩

/-- what scale.Ones hands back goes over the bits that are 1, from the lowest on; or over the first of them, where a round has said 'no more'. -/
theorem ones_stops (n Bn n₀ x : Nat) (hn : 1 ≤ n) (hx : x < 18446744073709551616) (w : World) (hBn : Bn < w.heap.size) (hB0 : Bn < n₀) (hc : w.cell? ⟨Bn, 0, none⟩ = some (.int .u64 (x : Nat))) :
    SeqStopsK Fence.wide n Try.prog 22 #[.pointer (some ⟨Bn, 0, none⟩)] (fun k : Nat => #[Value.int .i64 (k : Nat)]) (Below n₀) (fun ys => ys = ones x) (fun pre => pre <+: ones x) 64 w := fun l J Jx W hW _ _ hY h0 =>
  ones1K_in n l Bn x hn hx (Below n₀) (fun A B h hc => (h.cell (p := ⟨Bn, 0, none⟩) hB0).trans hc) J Jx hY W ((hW.cell (p := ⟨Bn, 0, none⟩) hBn).trans hc) h0
/-- .. for whatever a loop body keeps, if it keeps the box of the number. -/
theorem ones_stopsK (n Bn x : Nat) (hn : 1 ≤ n) (hx : x < 18446744073709551616) (w : World) (hBn : Bn < w.heap.size) (hc : w.cell? ⟨Bn, 0, none⟩ = some (.int .u64 (x : Nat)))
    (Kp : World → World → Prop) (hKp : ∀ A B, Kp A B → A.cell? ⟨Bn, 0, none⟩ = some (.int .u64 (x : Nat)) → B.cell? ⟨Bn, 0, none⟩ = some (.int .u64 (x : Nat))) :
    SeqStopsK Fence.wide n Try.prog 22 #[.pointer (some ⟨Bn, 0, none⟩)] (fun k : Nat => #[Value.int .i64 (k : Nat)]) Kp (fun ys => ys = ones x) (fun pre => pre <+: ones x) 64 w := fun l J Jx W hW _ _ hY h0 =>
  ones1K_in n l Bn x hn hx Kp hKp J Jx hY W ((hW.cell (p := ⟨Bn, 0, none⟩) hBn).trans hc) h0
end Go.Proofs.Ytlaeolmjhghaoaa
