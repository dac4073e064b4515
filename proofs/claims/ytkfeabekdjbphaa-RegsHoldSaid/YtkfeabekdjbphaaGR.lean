
/-
  A context that comes in: 99 cells, each read.
-/
import Derived.Test.YtkfeabekdjbphaaRow
import Derived.Test.YtkfeabekdjbphaaG1
set_option linter.unusedSimpArgs false
set_option linter.unusedVariables false
namespace Go.Proofs.Ytkfeabekdjbphaa
open Go.ChangeShapes Go.WideShapes Go.ChangeAt Go.RowKit

def ctxTs : List TypeId := (List.replicate 33 [4, 22, 22]).flatten
theorem ctxTs_at : ∀ k, k < 33 → ctxTs[k * 3]? = some 4 ∧ ctxTs[k * 3 + 1]? = some 22 ∧ ctxTs[k * 3 + 2]? = some 22 := by decide
theorem open_ctx {W : World} {b0 : Nat} {v : Value} (h : Value.okWide Try.prog W .any b0 27 v) :
    ∃ f : Nat → Cp, v = .agg (enc f) ∧ (∀ i, (f i).m < 18446744073709551616) ∧ ∀ i, (f i).a < 18446744073709551616 := by
  obtain ⟨cs, rfl, hsz, hall⟩ := open_flat (ts := ctxTs) (Or.inl ⟨_, Try.underlying27⟩) (by kernel_rfl) (by kernel_rfl) h
  have hsz' : cs.size = 99 := by rw [hsz]; rfl
  have key : ∀ k : Nat, ∃ c : Cp, c.m < 18446744073709551616 ∧ c.a < 18446744073709551616 ∧ (k < 33 → ∀ r, r < 3 → cs[k * 3 + r]? = (cell3 c)[r]?) := by
    intro k
    by_cases hk : k < 33
    · obtain ⟨t0, t1, t2⟩ := ctxTs_at k hk
      obtain ⟨y0, hy0, k0⟩ := hall _ _ t0
      obtain ⟨x0, rfl⟩ := cell_bool Try.underlying4 k0
      obtain ⟨y1, hy1, k1⟩ := hall _ _ t1
      obtain ⟨x1, rfl, b1⟩ := cell_u64 Try.underlying22 k1
      obtain ⟨y2, hy2, k2⟩ := hall _ _ t2
      obtain ⟨x2, rfl, b2⟩ := cell_u64 Try.underlying22 k2
      refine ⟨⟨x0, x1, x2⟩, b1, b2, fun _ r hr => ?_⟩
      rcases (show r = 0 ∨ r = 1 ∨ r = 2 by omega) with rfl | rfl | rfl
      · exact hy0
      · exact hy1
      · exact hy2
    · exact ⟨zc, by decide, by decide, fun h => (hk h).elim⟩
  obtain ⟨f, hf⟩ := Classical.axiomOfChoice key
  refine ⟨f, ?_, fun i => (hf i).1, fun i => (hf i).2.1⟩
  congr 1
  exact enc_of cs f hsz' fun k hk r hr => (hf k).2.2 hk r hr
theorem open_cap {W : World} {b0 : Nat} {v : Value} (h : Value.okWide Try.prog W .any b0 24 v) : ∃ (t : Bool) (m a : Nat), v = .agg #[.bool t, .int .u64 (m : Nat), .int .u64 (a : Nat)] ∧ m < 18446744073709551616 ∧ a < 18446744073709551616 := by
  obtain ⟨cs, rfl, hsz, hall⟩ := open_flat (ts := [4, 22, 22]) (Or.inl ⟨_, Try.underlying24⟩) (by kernel_rfl) (by kernel_rfl) h
  obtain ⟨y0, hy0, k0⟩ := hall 0 4 rfl
  obtain ⟨x0, rfl⟩ := cell_bool Try.underlying4 k0
  obtain ⟨y1, hy1, k1⟩ := hall 1 22 rfl
  obtain ⟨x1, rfl, b1⟩ := cell_u64 Try.underlying22 k1
  obtain ⟨y2, hy2, k2⟩ := hall 2 22 rfl
  obtain ⟨x2, rfl, b2⟩ := cell_u64 Try.underlying22 k2
  refine ⟨x0, x1, x2, ?_, b1, b2⟩
  congr 1
  apply Array.ext_getElem?
  intro i
  rcases Nat.lt_or_ge i 3 with hlt | hge
  · rcases (show i = 0 ∨ i = 1 ∨ i = 2 by omega) with rfl | rfl | rfl
    · rw [hy0]; rfl
    · rw [hy1]; rfl
    · rw [hy2]; rfl
  · rw [Array.getElem?_eq_none (by rw [hsz]; exact hge), Array.getElem?_eq_none (by simpa using hge)]
end Go.Proofs.Ytkfeabekdjbphaa
