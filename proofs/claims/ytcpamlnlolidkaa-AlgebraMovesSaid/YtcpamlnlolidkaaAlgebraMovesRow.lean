/-
  The law AlgebraMoves holds: for every input the call returns true, and each argument reads afterwards as it read before. No condition.
-/
import Derived.Test.YtcpamlnlolidkaaRow
import Derived.Test.YtcpamlnlolidkaaWAlgebraMoves
namespace Go.Proofs.Ytcpamlnlolidkaa
open Go.ChangeShapes Go.WideShapes Go.ChangeAt Go.RowKit

set_option maxRecDepth 100000 in
theorem algebraMoves_lifted (os : Os) (started : os.Started) (H : Type) (enc : TypeId × Value → H) :
    ReturnsInHanded {} Try.checked os 4 .any (Rows.algebraMovesSpec.pre6 enc Try.prog Try.f4 Rows.algebraMovesRow.domain false) (Rows.algebraMovesSpec.post enc Try.prog Try.f4 false true false false) := by
  refine returnsInHanded_of_change (C := Try.checked) Try.own started (by kernel_rfl) Try.func4
    (ChangeSpec.witness6 (enc := enc) (C := Try.checked) false ⟨#[], #[.agg #[.bool false, .int .u64 0, .int .u64 0], .int .u64 0, .bool false], []⟩ 12 (by kernel_rfl) (by kernel_rfl) (by kernel_rfl) (by kernel_rfl)) ?_
  intro W base args ds gs before hval0 hW hcnd _
  have hval : ∀ (j : Nat) t v, Try.f4.params[j]? = some t → args[j]? = some v → Value.okWide Try.prog W .any base t v := hval0
  have hW' := hW
  obtain ⟨p, q, hA0, hV, rfl, hfz, hnd⟩ := hW
  have hA : DataW.TrodAll enc Try.prog W 0 (fun _ => true) true Try.f4.params.toList args.toList ds p := hA0
  have hAk := hA
  obtain ⟨rfl, rfl⟩ := trodVars_none hV
  rw [Try.params4] at hA hval
  obtain ⟨v0, vs0, d0, ds0, p0, q0, hargs, rfl, rfl, h0, r0⟩ := trodAll_cons hA
  obtain ⟨v1, vs1, d1, ds1, p1, q1, rfl, rfl, rfl, h1, r1⟩ := trodAll_cons r0
  obtain ⟨v2, vs2, d2, ds2, p2, q2, rfl, rfl, rfl, h2, r2⟩ := trodAll_cons r1
  obtain ⟨rfl, rfl, rfl⟩ := trodAll_nil r2
  obtain rfl : args = #[v0, v1, v2] := by cases args; simp_all
  clear hA0 hval0 hA r0 h0 r1 h1 r2 h2
  obtain ⟨cs0, rfl, hsz0, hall0⟩ := open_flat (ts := [4, 22, 22]) (by first | exact Or.inl ⟨_, Try.underlying24⟩ | exact Or.inr ⟨_, _, Try.underlying24⟩) (by kernel_rfl) (by kernel_rfl) (hval 0 24 _ rfl rfl)
  obtain ⟨y0_0, hy0_0, hk0_0⟩ := hall0 0 4 rfl
  obtain ⟨x0_0, rfl⟩ := cell_bool Try.underlying4 hk0_0
  obtain ⟨y0_1, hy0_1, hk0_1⟩ := hall0 1 22 rfl
  obtain ⟨x0_1, rfl, b0_1⟩ := cell_u64 Try.underlying22 hk0_1
  obtain ⟨y0_2, hy0_2, hk0_2⟩ := hall0 2 22 rfl
  obtain ⟨x0_2, rfl, b0_2⟩ := cell_u64 Try.underlying22 hk0_2
  obtain rfl : cs0 = #[.bool x0_0, .int .u64 x0_1, .int .u64 x0_2] := by
    apply Array.ext_getElem?
    intro i
    rcases Nat.lt_or_ge i 3 with hlt | hge
    · match i, hlt with
      | 0, _ => rw [hy0_0]; rfl
      | 1, _ => rw [hy0_1]; rfl
      | 2, _ => rw [hy0_2]; rfl
    · rw [Array.getElem?_eq_none (by rw [hsz0]; exact hge), Array.getElem?_eq_none (by simpa using hge)]
  obtain ⟨x1, rfl, b1⟩ := cell_u64 Try.underlying22 (one_cell Try.underlying22 (hval 1 22 _ rfl rfl))
  obtain ⟨x2, rfl⟩ := cell_bool Try.underlying4 (one_cell_bool Try.underlying4 (hval 2 4 _ rfl rfl))
  simp only [List.append_nil] at hW' hAk
  refine (walk_AlgebraMoves x0_0 x0_1 x0_2 b0_1 b0_2 x1 b1 x2 W).mono fun e W' ⟨he, hb⟩ => ?_
  subst he
  exact ⟨_, rfl, post_below Try.laidOut hW' hAk (readable_all (by kernel_rfl)) (fun _ _ _ => trodAll_cons_mk (shut_bool Try.underlying4 _) trodAll_mk0) rfl rfl rfl hb⟩

theorem algebraMoves_holds : Rows.AlgebraMovesSaid :=
  OpenClaim.holds_of_wide 4 Try.f4 rfl rfl rfl rfl rfl rfl rfl ⟨rfl, rfl, rfl, rfl, rfl⟩ rfl rfl rfl rfl rfl (by kernel_rfl) Try.func4 (by kernel_rfl)
    (of_decide_eq_true (by kernel_rfl)) (by unfold Func.isWrapper; rw [if_neg (of_decide_eq_false (by kernel_rfl))]; exact ⟨rfl, rfl⟩)
    (fun os started H enc _ => algebraMoves_lifted os started H enc)
#print axioms algebraMoves_holds
end Go.Proofs.Ytcpamlnlolidkaa
