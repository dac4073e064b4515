/-
  The law CapabOrder holds: for every input the call returns true, and each argument reads afterwards as it read before. No condition.
-/
import Derived.Test.YtinckicchakifaaRow
import Derived.Test.YtinckicchakifaaVCapabOrder
namespace Go.Proofs.Ytinckicchakifaa
open Go.ChangeShapes Go.WideShapes Go.ChangeAt Go.RowKit

set_option maxRecDepth 100000 in
theorem capabOrder_lifted (os : Os) (started : os.Started) (H : Type) (enc : TypeId × Value → H) :
    ReturnsInHanded {} Try.checked os 5 .any (Rows.capabOrderSpec.pre6 enc Try.prog Try.f5 Rows.capabOrderRow.domain false) (Rows.capabOrderSpec.post enc Try.prog Try.f5 false true false false) := by
  refine returnsInHanded_of_change (C := Try.checked) Try.own started (by kernel_rfl) Try.func5
    (ChangeSpec.witness6 (enc := enc) (C := Try.checked) false ⟨#[], #[.agg #[.int .u64 0, .int .u64 0, .int .u64 0, .int .u64 0, .int .u64 0, .int .u64 0, .int .u64 0, .int .u64 0, .int .u64 0, .int .u64 0, .int .u64 0, .int .u64 0]], []⟩ 12 (by kernel_rfl) (by kernel_rfl) (by kernel_rfl) (by kernel_rfl)) ?_
  intro W base args ds gs before hval0 hW hcnd _
  have hval : ∀ (j : Nat) t v, Try.f5.params[j]? = some t → args[j]? = some v → Value.okWide Try.prog W .any base t v := hval0
  have hW' := hW
  obtain ⟨p, q, hA0, hV, rfl, hfz, hnd⟩ := hW
  have hA : DataW.TrodAll enc Try.prog W 0 (fun _ => true) true Try.f5.params.toList args.toList ds p := hA0
  have hAk := hA
  obtain ⟨rfl, rfl⟩ := trodVars_none hV
  rw [Try.params5] at hA hval
  obtain ⟨v0, vs0, d0, ds0, p0, q0, hargs, rfl, rfl, h0, r0⟩ := trodAll_cons hA
  obtain ⟨rfl, rfl, rfl⟩ := trodAll_nil r0
  obtain rfl : args = #[v0] := by cases args; simp_all
  clear hA0 hval0 hA r0 h0
  obtain ⟨cs0, rfl, hsz0, hall0⟩ := open_flat (ts := [22, 22, 22, 22, 22, 22, 22, 22, 22, 22, 22, 22]) (by first | exact Or.inl ⟨_, Try.underlying47⟩ | exact Or.inr ⟨_, _, Try.underlying47⟩) (by kernel_rfl) (by kernel_rfl) (hval 0 47 _ rfl rfl)
  obtain ⟨y0_0, hy0_0, hk0_0⟩ := hall0 0 22 rfl
  obtain ⟨x0_0, rfl, b0_0⟩ := cell_u64 Try.underlying22 hk0_0
  obtain ⟨y0_1, hy0_1, hk0_1⟩ := hall0 1 22 rfl
  obtain ⟨x0_1, rfl, b0_1⟩ := cell_u64 Try.underlying22 hk0_1
  obtain ⟨y0_2, hy0_2, hk0_2⟩ := hall0 2 22 rfl
  obtain ⟨x0_2, rfl, b0_2⟩ := cell_u64 Try.underlying22 hk0_2
  obtain ⟨y0_3, hy0_3, hk0_3⟩ := hall0 3 22 rfl
  obtain ⟨x0_3, rfl, b0_3⟩ := cell_u64 Try.underlying22 hk0_3
  obtain ⟨y0_4, hy0_4, hk0_4⟩ := hall0 4 22 rfl
  obtain ⟨x0_4, rfl, b0_4⟩ := cell_u64 Try.underlying22 hk0_4
  obtain ⟨y0_5, hy0_5, hk0_5⟩ := hall0 5 22 rfl
  obtain ⟨x0_5, rfl, b0_5⟩ := cell_u64 Try.underlying22 hk0_5
  obtain ⟨y0_6, hy0_6, hk0_6⟩ := hall0 6 22 rfl
  obtain ⟨x0_6, rfl, b0_6⟩ := cell_u64 Try.underlying22 hk0_6
  obtain ⟨y0_7, hy0_7, hk0_7⟩ := hall0 7 22 rfl
  obtain ⟨x0_7, rfl, b0_7⟩ := cell_u64 Try.underlying22 hk0_7
  obtain ⟨y0_8, hy0_8, hk0_8⟩ := hall0 8 22 rfl
  obtain ⟨x0_8, rfl, b0_8⟩ := cell_u64 Try.underlying22 hk0_8
  obtain ⟨y0_9, hy0_9, hk0_9⟩ := hall0 9 22 rfl
  obtain ⟨x0_9, rfl, b0_9⟩ := cell_u64 Try.underlying22 hk0_9
  obtain ⟨y0_10, hy0_10, hk0_10⟩ := hall0 10 22 rfl
  obtain ⟨x0_10, rfl, b0_10⟩ := cell_u64 Try.underlying22 hk0_10
  obtain ⟨y0_11, hy0_11, hk0_11⟩ := hall0 11 22 rfl
  obtain ⟨x0_11, rfl, b0_11⟩ := cell_u64 Try.underlying22 hk0_11
  obtain rfl : cs0 = #[.int .u64 x0_0, .int .u64 x0_1, .int .u64 x0_2, .int .u64 x0_3, .int .u64 x0_4, .int .u64 x0_5, .int .u64 x0_6, .int .u64 x0_7, .int .u64 x0_8, .int .u64 x0_9, .int .u64 x0_10, .int .u64 x0_11] := by
    apply Array.ext_getElem?
    intro i
    rcases Nat.lt_or_ge i 12 with hlt | hge
    · match i, hlt with
      | 0, _ => rw [hy0_0]; rfl
      | 1, _ => rw [hy0_1]; rfl
      | 2, _ => rw [hy0_2]; rfl
      | 3, _ => rw [hy0_3]; rfl
      | 4, _ => rw [hy0_4]; rfl
      | 5, _ => rw [hy0_5]; rfl
      | 6, _ => rw [hy0_6]; rfl
      | 7, _ => rw [hy0_7]; rfl
      | 8, _ => rw [hy0_8]; rfl
      | 9, _ => rw [hy0_9]; rfl
      | 10, _ => rw [hy0_10]; rfl
      | 11, _ => rw [hy0_11]; rfl
    · rw [Array.getElem?_eq_none (by rw [hsz0]; exact hge), Array.getElem?_eq_none (by simpa using hge)]
  simp only [List.append_nil] at hW' hAk
  refine (walk_CapabOrder x0_0 x0_1 x0_2 x0_3 x0_4 x0_5 x0_6 x0_7 x0_8 x0_9 x0_10 x0_11 b0_0 b0_1 b0_2 b0_3 b0_4 b0_5 b0_6 b0_7 b0_8 b0_9 b0_10 b0_11 W).mono fun e W' ⟨he, hb⟩ => ?_
  subst he
  exact ⟨_, rfl, post_below Try.laidOut hW' hAk (readable_all (by kernel_rfl)) (fun _ _ _ => trodAll_cons_mk (shut_bool Try.underlying4 _) trodAll_mk0) rfl rfl rfl hb⟩

theorem capabOrder_holds : Rows.CapabOrderSaid :=
  OpenClaim.holds_of_wide 5 Try.f5 rfl rfl rfl rfl rfl rfl rfl ⟨rfl, rfl, rfl, rfl, rfl⟩ rfl rfl rfl rfl rfl (by kernel_rfl) Try.func5 (by kernel_rfl)
    (of_decide_eq_true (by kernel_rfl)) (by unfold Func.isWrapper; rw [if_neg (of_decide_eq_false (by kernel_rfl))]; exact ⟨rfl, rfl⟩)
    (fun os started H enc _ => capabOrder_lifted os started H enc)
#print axioms capabOrder_holds
end Go.Proofs.Ytinckicchakifaa
