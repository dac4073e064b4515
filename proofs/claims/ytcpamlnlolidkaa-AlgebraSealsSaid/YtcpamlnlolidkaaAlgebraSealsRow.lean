/-
  The law AlgebraSeals holds: for every input the call returns true, and each argument reads afterwards as it read before. No condition.
-/
import Derived.Test.YtcpamlnlolidkaaRow
import Derived.Test.YtcpamlnlolidkaaWAlgebraSeals
namespace Go.Proofs.Ytcpamlnlolidkaa
open Go.ChangeShapes Go.WideShapes Go.ChangeAt Go.RowKit

set_option maxRecDepth 100000 in
theorem algebraSeals_lifted (os : Os) (started : os.Started) (H : Type) (enc : TypeId × Value → H) :
    ReturnsInHanded {} Try.checked os 7 .any (Rows.algebraSealsSpec.pre6 enc Try.prog Try.f7 Rows.algebraSealsRow.domain false) (Rows.algebraSealsSpec.post enc Try.prog Try.f7 false true false false) := by
  refine returnsInHanded_of_change (C := Try.checked) Try.own started (by kernel_rfl) Try.func7
    (ChangeSpec.witness6 (enc := enc) (C := Try.checked) false ⟨#[], #[.agg #[.bool false, .int .u64 0, .int .u64 0], .agg #[.bool false, .int .u64 0, .int .u64 0]], []⟩ 12 (by kernel_rfl) (by kernel_rfl) (by kernel_rfl) (by kernel_rfl)) ?_
  intro W base args ds gs before hval0 hW hcnd _
  have hval : ∀ (j : Nat) t v, Try.f7.params[j]? = some t → args[j]? = some v → Value.okWide Try.prog W .any base t v := hval0
  have hW' := hW
  obtain ⟨p, q, hA0, hV, rfl, hfz, hnd⟩ := hW
  have hA : DataW.TrodAll enc Try.prog W 0 (fun _ => true) true Try.f7.params.toList args.toList ds p := hA0
  have hAk := hA
  obtain ⟨rfl, rfl⟩ := trodVars_none hV
  rw [Try.params7] at hA hval
  obtain ⟨v0, vs0, d0, ds0, p0, q0, hargs, rfl, rfl, h0, r0⟩ := trodAll_cons hA
  obtain ⟨v1, vs1, d1, ds1, p1, q1, rfl, rfl, rfl, h1, r1⟩ := trodAll_cons r0
  obtain ⟨rfl, rfl, rfl⟩ := trodAll_nil r1
  obtain rfl : args = #[v0, v1] := by cases args; simp_all
  clear hA0 hval0 hA r0 h0 r1 h1
  obtain ⟨cs0, rfl, hsz0, hall0⟩ := open_flat (ts := [4, 22, 22]) (by first | exact Or.inl ⟨_, Try.underlying24⟩ | exact Or.inr ⟨_, _, Try.underlying24⟩) (by kernel_rfl) (by kernel_rfl) (hval 0 24 _ rfl rfl)
  obtain ⟨y0_0, hy0_0, hk0_0⟩ := hall0 0 4 rfl
  obtain ⟨x0_0, rfl⟩ := cell_bool Try.underlying4 hk0_0
  obtain ⟨y0_1, hy0_1, hk0_1⟩ := hall0 1 22 rfl
  obtain ⟨x0_1, rfl, b0_1⟩ := cell_u64 Try.underlying22 hk0_1
  obtain ⟨y0_2, hy0_2, hk0_2⟩ := hall0 2 22 rfl
  obtain ⟨x0_2, rfl, b0_2⟩ := cell_u64 Try.underlying22 hk0_2
  obtain rfl : cs0 = #[.bool x0_0, .int .u64 x0_1, .int .u64 x0_2] := by
    apply Array.ext_getElem?
    intro i
    rcases Nat.lt_or_ge i 3 with hlt | hge
    · match i, hlt with
      | 0, _ => rw [hy0_0]; rfl
      | 1, _ => rw [hy0_1]; rfl
      | 2, _ => rw [hy0_2]; rfl
    · rw [Array.getElem?_eq_none (by rw [hsz0]; exact hge), Array.getElem?_eq_none (by simpa using hge)]
  obtain ⟨cs1, rfl, hsz1, hall1⟩ := open_flat (ts := [4, 22, 22]) (by first | exact Or.inl ⟨_, Try.underlying24⟩ | exact Or.inr ⟨_, _, Try.underlying24⟩) (by kernel_rfl) (by kernel_rfl) (hval 1 24 _ rfl rfl)
  obtain ⟨y1_0, hy1_0, hk1_0⟩ := hall1 0 4 rfl
  obtain ⟨x1_0, rfl⟩ := cell_bool Try.underlying4 hk1_0
  obtain ⟨y1_1, hy1_1, hk1_1⟩ := hall1 1 22 rfl
  obtain ⟨x1_1, rfl, b1_1⟩ := cell_u64 Try.underlying22 hk1_1
  obtain ⟨y1_2, hy1_2, hk1_2⟩ := hall1 2 22 rfl
  obtain ⟨x1_2, rfl, b1_2⟩ := cell_u64 Try.underlying22 hk1_2
  obtain rfl : cs1 = #[.bool x1_0, .int .u64 x1_1, .int .u64 x1_2] := by
    apply Array.ext_getElem?
    intro i
    rcases Nat.lt_or_ge i 3 with hlt | hge
    · match i, hlt with
      | 0, _ => rw [hy1_0]; rfl
      | 1, _ => rw [hy1_1]; rfl
      | 2, _ => rw [hy1_2]; rfl
    · rw [Array.getElem?_eq_none (by rw [hsz1]; exact hge), Array.getElem?_eq_none (by simpa using hge)]
  simp only [List.append_nil] at hW' hAk
  refine (walk_AlgebraSeals x0_0 x0_1 x0_2 b0_1 b0_2 x1_0 x1_1 x1_2 b1_1 b1_2 W).mono fun e W' ⟨he, hb⟩ => ?_
  subst he
  exact ⟨_, rfl, post_below Try.laidOut hW' hAk (readable_all (by kernel_rfl)) (fun _ _ _ => trodAll_cons_mk (shut_bool Try.underlying4 _) trodAll_mk0) rfl rfl rfl hb⟩

theorem algebraSeals_holds : Rows.AlgebraSealsSaid :=
  OpenClaim.holds_of_wide 7 Try.f7 rfl rfl rfl rfl rfl rfl rfl ⟨rfl, rfl, rfl, rfl, rfl⟩ rfl rfl rfl rfl rfl (by kernel_rfl) Try.func7 (by kernel_rfl)
    (of_decide_eq_true (by kernel_rfl)) (by unfold Func.isWrapper; rw [if_neg (of_decide_eq_false (by kernel_rfl))]; exact ⟨rfl, rfl⟩)
    (fun os started H enc _ => algebraSeals_lifted os started H enc)
#print axioms algebraSeals_holds
end Go.Proofs.Ytcpamlnlolidkaa
