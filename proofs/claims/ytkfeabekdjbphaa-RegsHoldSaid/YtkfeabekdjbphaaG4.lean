
/-
  regs.Tagged, and what it hands back: which registers it tells, of a loop body (a round).
-/
import Derived.Test.YtkfeabekdjbphaaG3
import Derived.RangeFuncNested
import Derived.RangeFuncBound
import Derived.RangeFuncCalls
import Derived.RangeFuncLeaves
import Derived.Shelf.Abstract
import Derived.Shelf.RegionOpen
import Derived.OwnWalkIn
import Derived.TacticsInMore
import Derived.LoopNIn
import Derived.LoopIn
import Derived.Laws.EntriesVeiled
set_option linter.unusedSimpArgs false
set_option linter.unusedVariables false
namespace Go.Proofs.Ytkfeabekdjbphaa
open Go.RowKit Go.Shelf
attribute [local go_sem] Oper.semAt_some

theorem tagged_any (f : Nat → Cp) (w : World) :
    Calls Try.prog 6 #[.agg (enc f)] w fun r w' => r = .returned (.func (.func 27) #[] #[.pointer (some ⟨w.heap.size, 0, none⟩)]) ∧ w' = w.alloc (.cells (enc f) 27) := by
  go_enter Try.func6, Try.ntmps6
  go_wp2
  go_ret
  exact ⟨rfl, rfl⟩
/-- a register, or 32. -/
abbrev K32 := { k : Nat // 1 ≤ k ∧ k < 33 }
/-- those below n that have a tag. -/
def tagTo (f : Nat → Cp) : Nat → List K32
  | 0 => []
  | n + 1 => if h : (1 ≤ n ∧ n < 33) ∧ (f n).t = true then tagTo f n ++ [⟨n, h.1⟩] else tagTo f n
theorem tagTo_hit {f : Nat → Cp} {n : Nat} (h : 1 ≤ n ∧ n < 33) (ht : (f n).t = true) : tagTo f (n + 1) = tagTo f n ++ [⟨n, h⟩] := by rw [tagTo, dif_pos ⟨h, ht⟩]
theorem tagTo_miss {f : Nat → Cp} {n : Nat} (ht : (f n).t = false) : tagTo f (n + 1) = tagTo f n := by rw [tagTo, dif_neg (by rw [ht]; simp)]
theorem tagTo_one (f : Nat → Cp) : tagTo f 1 = [] := by rw [tagTo, dif_neg (by omega)]; rfl
theorem tagTo_len (f : Nat → Cp) : ∀ n, (tagTo f n).length ≤ n
  | 0 => Nat.le_refl _
  | n + 1 => by
    have := tagTo_len f n
    rw [tagTo]; split
    · rw [List.length_append]; simp; omega
    · omega
theorem tagTo_pre {f : Nat → Cp} {k m : Nat} (h : k ≤ m) : tagTo f k <+: tagTo f m := by
  obtain ⟨d, rfl⟩ := Nat.exists_eq_add_of_le h
  clear h
  induction d with
  | zero => exact List.prefix_refl _
  | succ d ih =>
    rw [show k + (d + 1) = (k + d) + 1 by omega, tagTo]
    split
    · exact ih.trans (List.prefix_append _ _)
    · exact ih
attribute [irreducible] tagTo
set_option maxRecDepth 100000 in
set_option maxHeartbeats 2000000 in
/-- the loop over the registers that have a tag, for every loop body that keeps the context's block. -/
theorem tagged1_in (n l Bc : Nat) (f : Nat → Cp) (hn : 1 ≤ n) (Kp : World → World → Prop) (hKp : ∀ A B, Kp A B → Blk A Bc (enc f) 27 → Blk B Bc (enc f) 27) (J Jx : List K32 → World → Prop)
    (hY : ∀ pre (x : K32) W, J pre W → pre.length < 33 → YieldAt Fence.wide (n - 1) Try.prog l #[.int .i64 (x.1 : Nat), capV (f x.1)] W fun e W' =>
      (e = .returned (.bool true) ∧ J (pre ++ [x]) W' ∧ Kp W W') ∨ (e = .returned (.bool false) ∧ Jx (pre ++ [x]) W'))
    (W : World) (hc : Blk W Bc (enc f) 27) (h0 : J [] W) :
    CallsIn Fence.wide n Try.prog 27 #[.func (.yield l) #[] #[], .pointer (some ⟨Bc, 0, none⟩)] W fun e W' => (∃ v, e = .returned v) ∧
      ((∃ ys, ys = tagTo f 33 ∧ J ys W') ∨ (∃ pre, pre <+: tagTo f 33 ∧ Jx pre W')) := by
  refine callsIn_of_wp Try.func27 rfl trivial ?_ rfl
  simp only [Try.ntmps27, List.size_toArray, List.length_cons, List.length_nil, Nat.reduceAdd, Nat.reduceSub, Array.replicate_succ, Array.replicate_zero, List.push_toArray, List.append_toArray, List.nil_append, List.cons_append]
  gi_wp2
  gi_loopw [3] (fun i wr => ∃ k : Nat, k ≤ 32 ∧ 1 ≤ k ∧ i = .int .i64 (k : Nat) ∧ Blk wr Bc (enc f) 27 ∧ J (tagTo f k) wr)
    (fun i wr => 32 - (intOf i).toNat)
  case atStart => exact ⟨1, by omega, by omega, rfl, hc, by rw [tagTo_one]; exact h0⟩
  case round =>
    obtain ⟨k, hk, hk1, rfl, hbw, hJ⟩ := hrel
    have hlen := tagTo_len f k
    by_cases hlt : k < 32
    · have c0 := (hbw.cell (k * 3)).trans (enc_t f k (by omega))
      have c1 := (hbw.cell (k * 3 + 1)).trans (enc_m f k (by omega))
      have c2 := (hbw.cell (k * 3 + 2)).trans (enc_a f k (by omega))
      cases hb : (f k).t
      · rw [hb] at c0
        have hm := Lib.hid (tagTo_miss hb)
        clear hb hlen c1 c2
        gi_wp2
        refine ⟨fun _ h => (by cases h), ?_⟩
        gi_wp2
        go_roundw
        case rel => exact ⟨k + 1, by omega, by omega, by go_num, hbw, by rw [hm.out]; exact hJ⟩
        case measure => simp [intOf]; omega
      · rw [hb] at c0
        have hm := Lib.hid (tagTo_hit (f := f) ⟨hk1, by omega⟩ hb)
        have hp := Lib.hid (tagTo_pre (f := f) (k := k + 1) (m := 33) (by omega))
        obtain ⟨fn, tmps, assign, body, hy, hR⟩ := hY (tagTo f k) ⟨k, hk1, by omega⟩ wr hJ (by omega)
        dsimp only [capV] at hy hR
        rw [hb] at hy
        clear hb hlen
        generalize f k = c at *
        gi_wp2
        refine hR.mono ?_
        rintro e W3 (⟨rfl, hJ3, hk3⟩ | ⟨rfl, hJx3⟩)
        · have hb3 := hKp _ _ hk3 hbw
          gi_wp2
          go_roundw
          case rel => exact ⟨k + 1, by omega, by omega, by go_num, hb3, by rw [hm.out]; exact hJ3⟩
          case measure => simp [intOf]; omega
        · gi_wp2
          refine bodyPost_ret (results_none rfl _ _ _) rfl ?_
          exact ⟨⟨_, rfl⟩, .inr ⟨tagTo f (k + 1), hp.out, by rw [hm.out]; exact hJx3⟩⟩
    · obtain rfl : k = 32 := by omega
      have c0 := (hbw.cell 96).trans (enc_t f 32 (by decide))
      have c1 := (hbw.cell 97).trans (enc_m f 32 (by decide))
      have c2 := (hbw.cell 98).trans (enc_a f 32 (by decide))
      cases hb : (f 32).t
      · rw [hb] at c0
        have hm := Lib.hid (tagTo_miss hb)
        clear hb hlen c1 c2
        gi_wp2
        go_end0
        exact ⟨⟨_, rfl⟩, .inl ⟨_, rfl, by rw [hm.out]; exact hJ⟩⟩
      · rw [hb] at c0
        have hm := Lib.hid (tagTo_hit (f := f) ⟨by decide, by decide⟩ hb)
        obtain ⟨fn, tmps, assign, body, hy, hR⟩ := hY (tagTo f 32) ⟨32, by decide, by decide⟩ wr hJ (by omega)
        dsimp only [capV] at hy hR
        rw [hb, show ((32 : Nat) : Int) = 32 from rfl] at hy
        clear hb hlen
        generalize f 32 = c at *
        gi_wp2
        refine hR.mono ?_
        rintro e W3 (⟨rfl, hJ3, hk3⟩ | ⟨rfl, hJx3⟩)
        · gi_wp2
          go_end0
          exact ⟨⟨_, rfl⟩, .inl ⟨_, rfl, by rw [hm.out]; exact hJ3⟩⟩
        · gi_wp2
          go_end0
          exact ⟨⟨_, rfl⟩, .inr ⟨tagTo f 33, List.prefix_refl _, by rw [hm.out]; exact hJx3⟩⟩
theorem tagged_stopsK (n Bc : Nat) (f : Nat → Cp) (hn : 1 ≤ n) (w : World) (hc : Blk w Bc (enc f) 27)
    (Kp : World → World → Prop) (hKp : ∀ A B, Kp A B → Blk A Bc (enc f) 27 → Blk B Bc (enc f) 27) :
    SeqStopsK Fence.wide n Try.prog 27 #[.pointer (some ⟨Bc, 0, none⟩)] (fun x : K32 => #[Value.int .i64 (x.1 : Nat), capV (f x.1)]) Kp (fun ys => ys = tagTo f 33) (fun pre => pre <+: tagTo f 33) 33 w := fun l J Jx W hW _ _ hY h0 =>
  tagged1_in n l Bc f hn Kp hKp J Jx hY W (hc.below hW) h0
end Go.Proofs.Ytkfeabekdjbphaa
