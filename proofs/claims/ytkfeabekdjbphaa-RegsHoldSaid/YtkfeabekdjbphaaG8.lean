
/-
  '==' between a context and itself.
-/
import Derived.Test.YtkfeabekdjbphaaG7
import Derived.DeepKeys
set_option linter.unusedSimpArgs false
set_option linter.unusedVariables false
namespace Go.Proofs.Ytkfeabekdjbphaa
open Go.RowKit

theorem wf_u64' (n : Nat) (h : n < 18446744073709551616) : (Lit.int .u64 (n : Int)).wf = true := by
  simp [Lit.wf, IntKind.min, IntKind.max, IntKind.signed, IntKind.bits]; omega
theorem mapM_ex {α β : Type} (g : α → Option β) : ∀ (l : List α), (∀ x ∈ l, ∃ y, g x = some y) → ∃ ys, l.mapM g = some ys
  | [], _ => ⟨[], by simp⟩
  | x :: l, h => by
    obtain ⟨y, hy⟩ := h x (by simp)
    obtain ⟨ys, hys⟩ := mapM_ex g l (fun z hz => h z (by simp [hz]))
    exact ⟨y :: ys, by rw [List.mapM_cons, hy, hys]; rfl⟩
theorem chunk (f : Nat → Cp) (k : Nat) (hk : k < 33) : ((enc f).toList.drop (k * 3)).take 3 = cell3 (f k) := by
  apply List.ext_getElem?
  intro r
  rw [List.getElem?_take]
  split
  · rename_i hr
    rw [List.getElem?_drop, ← enc_at f k r hk hr]; simp
  · rw [List.getElem?_eq_none (by simp [cell3]; omega)]
theorem chunk96 (f : Nat → Cp) (k : Nat) (hk : k < 32) : (((enc f).toList.take 96).drop (k * 3)).take 3 = cell3 (f k) := by
  rw [← chunk f k (by omega)]
  apply List.ext_getElem?
  intro r
  simp only [List.getElem?_take, List.getElem?_drop]
  split
  · rw [if_pos (by omega)]
  · rfl

theorem keyCapA (D : Nat) (c : Cp) (hm : c.m < 18446744073709551616) (ha : c.a < 18446744073709551616) : ∃ l, Try.prog.keyLits (D + 2) 24 (cell3 c) = some l := by
  have c3 : Try.prog.cellsOf 24 = 3 := by kernel_rfl
  have c1 : Try.prog.cellsOf 4 = 1 := by kernel_rfl
  have c2 : Try.prog.cellsOf 22 = 1 := by kernel_rfl
  have wm := wf_u64' c.m hm
  have wa := wf_u64' c.a ha
  simp [Program.keyLits, Try.underlying24, Try.underlying4, Try.underlying22, c3, c1, c2, cell3, wm, wa]
theorem keyArrA (f : Nat → Cp) (hm : ∀ i, (f i).m < 18446744073709551616) (ha : ∀ i, (f i).a < 18446744073709551616) : ∃ l, Try.prog.keyLits 3 25 ((enc f).toList.take 96) = some l := by
  have c3 : Try.prog.cellsOf 24 = 3 := by kernel_rfl
  have c96 : Try.prog.cellsOf 25 = 96 := by kernel_rfl
  have hz : (enc f).size = 99 := enc_size f
  obtain ⟨ys, hy⟩ := mapM_ex (fun i => Try.prog.keyLits 2 24 ((((enc f).toList.take 96).drop (i * 3)).take 3)) (List.range 32) (fun i hi => by
    have hi' : i < 32 := List.mem_range.1 hi
    rw [chunk96 f i hi']
    exact keyCapA 0 (f i) (hm i) (ha i))
  unfold Program.keyLits
  simp only [Try.underlying25]
  rw [if_pos (by rw [c96]; simp [hz]), c3, hy]
  exact ⟨_, rfl⟩
theorem keyCtxA (f : Nat → Cp) (hm : ∀ i, (f i).m < 18446744073709551616) (ha : ∀ i, (f i).a < 18446744073709551616) : ∃ l, Try.prog.keyLits 4 27 (enc f).toList = some l := by
  have c3 : Try.prog.cellsOf 24 = 3 := by kernel_rfl
  have c96 : Try.prog.cellsOf 25 = 96 := by kernel_rfl
  have c99 : Try.prog.cellsOf 27 = 99 := by kernel_rfl
  have hz : (enc f).size = 99 := enc_size f
  obtain ⟨l1, h1⟩ := keyArrA f hm ha
  obtain ⟨l2, h2⟩ := keyCapA 1 (f 32) (hm 32) (ha 32)
  rw [← chunk f 32 (by decide)] at h2
  have hl : (enc f).toList.length = 99 := by rw [Array.length_toList]; exact hz
  unfold Program.keyLits
  simp only [Try.underlying27]
  rw [if_pos ⟨by rw [hl, c99], by kernel_rfl⟩]
  simp only [List.mapM_cons, List.mapM_nil, c3, c96, List.drop_zero, h1, h2]
  exact ⟨_, rfl⟩
theorem run_eqA (f : Nat → Cp) (hm : ∀ i, (f i).m < 18446744073709551616) (ha : ∀ i, (f i).a < 18446744073709551616) (W : World) : (binOp .eql 27 (.agg (enc f)) (.agg (enc f))).run Try.prog W = .ok (.bool true) W := by
  have c99 : Try.prog.cellsOf 27 = 99 := by kernel_rfl
  obtain ⟨lx, hl⟩ := keyCtxA f hm ha
  have fx : (Value.agg (enc f)).formed Try.prog 27 = true := by
    simp only [Value.formed, Try.underlying27]; simp [c99, enc_size]
  obtain ⟨r, hr, hiff⟩ := run_equalIn_deep (P := Try.prog) 9990 10 27 (by kernel_rfl) W 4 4 (.agg (enc f)) (.agg (enc f)) lx lx fx fx (by simpa [Value.cells] using hl) (by simpa [Value.cells] using hl)
  rw [run_eql_struct, show (10000 : Nat) = 9990 + 10 from rfl, hr]
  rw [hiff.2 rfl]; rfl

theorem keyCapB (D : Nat) (c : Cp) (hm : c.m < 18446744073709551616) (ha : c.a < 18446744073709551616) : ∃ l, Try.prog.keyLits (D + 2) 43 (cell3 c) = some l := by
  have c3 : Try.prog.cellsOf 43 = 3 := by kernel_rfl
  have c1 : Try.prog.cellsOf 4 = 1 := by kernel_rfl
  have c2 : Try.prog.cellsOf 22 = 1 := by kernel_rfl
  have wm := wf_u64' c.m hm
  have wa := wf_u64' c.a ha
  simp [Program.keyLits, Try.underlying43, Try.underlying4, Try.underlying22, c3, c1, c2, cell3, wm, wa]
theorem keyArrB (f : Nat → Cp) (hm : ∀ i, (f i).m < 18446744073709551616) (ha : ∀ i, (f i).a < 18446744073709551616) : ∃ l, Try.prog.keyLits 3 44 ((enc f).toList.take 96) = some l := by
  have c3 : Try.prog.cellsOf 43 = 3 := by kernel_rfl
  have c96 : Try.prog.cellsOf 44 = 96 := by kernel_rfl
  have hz : (enc f).size = 99 := enc_size f
  obtain ⟨ys, hy⟩ := mapM_ex (fun i => Try.prog.keyLits 2 43 ((((enc f).toList.take 96).drop (i * 3)).take 3)) (List.range 32) (fun i hi => by
    have hi' : i < 32 := List.mem_range.1 hi
    rw [chunk96 f i hi']
    exact keyCapB 0 (f i) (hm i) (ha i))
  unfold Program.keyLits
  simp only [Try.underlying44]
  rw [if_pos (by rw [c96]; simp [hz]), c3, hy]
  exact ⟨_, rfl⟩
theorem keyCtxB (f : Nat → Cp) (hm : ∀ i, (f i).m < 18446744073709551616) (ha : ∀ i, (f i).a < 18446744073709551616) : ∃ l, Try.prog.keyLits 4 46 (enc f).toList = some l := by
  have c3 : Try.prog.cellsOf 43 = 3 := by kernel_rfl
  have c96 : Try.prog.cellsOf 44 = 96 := by kernel_rfl
  have c99 : Try.prog.cellsOf 46 = 99 := by kernel_rfl
  have hz : (enc f).size = 99 := enc_size f
  obtain ⟨l1, h1⟩ := keyArrB f hm ha
  obtain ⟨l2, h2⟩ := keyCapB 1 (f 32) (hm 32) (ha 32)
  rw [← chunk f 32 (by decide)] at h2
  have hl : (enc f).toList.length = 99 := by rw [Array.length_toList]; exact hz
  unfold Program.keyLits
  simp only [Try.underlying46]
  rw [if_pos ⟨by rw [hl, c99], by kernel_rfl⟩]
  simp only [List.mapM_cons, List.mapM_nil, c3, c96, List.drop_zero, h1, h2]
  exact ⟨_, rfl⟩
theorem run_eqB (f : Nat → Cp) (hm : ∀ i, (f i).m < 18446744073709551616) (ha : ∀ i, (f i).a < 18446744073709551616) (W : World) : (binOp .eql 46 (.agg (enc f)) (.agg (enc f))).run Try.prog W = .ok (.bool true) W := by
  have c99 : Try.prog.cellsOf 46 = 99 := by kernel_rfl
  obtain ⟨lx, hl⟩ := keyCtxB f hm ha
  have fx : (Value.agg (enc f)).formed Try.prog 46 = true := by
    simp only [Value.formed, Try.underlying46]; simp [c99, enc_size]
  obtain ⟨r, hr, hiff⟩ := run_equalIn_deep (P := Try.prog) 9990 10 46 (by kernel_rfl) W 4 4 (.agg (enc f)) (.agg (enc f)) lx lx fx fx (by simpa [Value.cells] using hl) (by simpa [Value.cells] using hl)
  rw [run_eql_struct, show (10000 : Nat) = 9990 + 10 from rfl, hr]
  rw [hiff.2 rfl]; rfl
end Go.Proofs.Ytkfeabekdjbphaa
