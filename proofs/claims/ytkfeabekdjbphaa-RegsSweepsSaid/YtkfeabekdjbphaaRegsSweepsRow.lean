
/-
  The law RegsSweeps holds: for every input the call returns true, and each argument reads afterwards as it read before. No condition.
-/
import Derived.Test.YtkfeabekdjbphaaRow
import Derived.Test.YtkfeabekdjbphaaGA
import Derived.Test.YtkfeabekdjbphaaGR
namespace Go.Proofs.Ytkfeabekdjbphaa
open Go.ChangeShapes Go.WideShapes Go.ChangeAt Go.RowKit

set_option maxRecDepth 100000 in
theorem regsSweeps_lifted (os : Os) (started : os.Started) (H : Type) (enc : TypeId × Value → H) :
    ReturnsInHanded {} Try.checked os 4 .any (Rows.regsSweepsSpec.pre6 enc Try.prog Try.f4 Rows.regsSweepsRow.domain false) (Rows.regsSweepsSpec.post enc Try.prog Try.f4 false true false false) := by
  refine returnsInHanded_of_change (C := Try.checked) Try.own started (by kernel_rfl) Try.func4
    (ChangeSpec.witness6 (enc := enc) (C := Try.checked) false ⟨#[], #[.agg #[.bool false, .int .u64 0, .int .u64 0, .bool false, .int .u64 0, .int .u64 0, .bool false, .int .u64 0, .int .u64 0, .bool false, .int .u64 0, .int .u64 0, .bool false, .int .u64 0, .int .u64 0, .bool false, .int .u64 0, .int .u64 0, .bool false, .int .u64 0, .int .u64 0, .bool false, .int .u64 0, .int .u64 0, .bool false, .int .u64 0, .int .u64 0, .bool false, .int .u64 0, .int .u64 0, .bool false, .int .u64 0, .int .u64 0, .bool false, .int .u64 0, .int .u64 0, .bool false, .int .u64 0, .int .u64 0, .bool false, .int .u64 0, .int .u64 0, .bool false, .int .u64 0, .int .u64 0, .bool false, .int .u64 0, .int .u64 0, .bool false, .int .u64 0, .int .u64 0, .bool false, .int .u64 0, .int .u64 0, .bool false, .int .u64 0, .int .u64 0, .bool false, .int .u64 0, .int .u64 0, .bool false, .int .u64 0, .int .u64 0, .bool false, .int .u64 0, .int .u64 0, .bool false, .int .u64 0, .int .u64 0, .bool false, .int .u64 0, .int .u64 0, .bool false, .int .u64 0, .int .u64 0, .bool false, .int .u64 0, .int .u64 0, .bool false, .int .u64 0, .int .u64 0, .bool false, .int .u64 0, .int .u64 0, .bool false, .int .u64 0, .int .u64 0, .bool false, .int .u64 0, .int .u64 0, .bool false, .int .u64 0, .int .u64 0, .bool false, .int .u64 0, .int .u64 0, .bool false, .int .u64 0, .int .u64 0], .agg #[.int .u64 0, .int .u64 0, .int .u64 0, .int .u64 0]], []⟩ 12 (by kernel_rfl) (by kernel_rfl) (by kernel_rfl) (by kernel_rfl)) ?_
  intro W base args ds gs before hval0 hW hcnd _
  have hval : ∀ (j : Nat) t v, Try.f4.params[j]? = some t → args[j]? = some v → Value.okWide Try.prog W .any base t v := hval0
  have hW' := hW
  obtain ⟨p, q, hA0, hV, rfl, hfz, hnd⟩ := hW
  have hA : DataW.TrodAll enc Try.prog W 0 (fun _ => true) true Try.f4.params.toList args.toList ds p := hA0
  have hAk := hA
  obtain ⟨rfl, rfl⟩ := trodVars_none hV
  rw [Try.params4] at hA hval
  obtain ⟨v0, vs0, d0, ds0, p0, q0, hargs, rfl, rfl, h0, r0⟩ := trodAll_cons hA
  obtain ⟨v1, vs1, d1, ds1, p1, q1, rfl, rfl, rfl, h1, r1⟩ := trodAll_cons r0
  obtain ⟨rfl, rfl, rfl⟩ := trodAll_nil r1
  obtain rfl : args = #[v0, v1] := by cases args; simp_all
  clear hA0 hval0 hA r0 h0 r1 h1
  obtain ⟨f, rfl, hM, hA2⟩ := open_ctx (hval 0 27 _ rfl rfl)
  obtain ⟨cs1, rfl, hsz1, hall1⟩ := open_flat (ts := [22, 22, 22, 22]) (Or.inr ⟨_, _, Try.underlying40⟩) (by kernel_rfl) (by kernel_rfl) (hval 1 40 _ rfl rfl)
  obtain ⟨y0, hy0, k0⟩ := hall1 0 22 rfl
  obtain ⟨x0, rfl, b0⟩ := cell_u64 Try.underlying22 k0
  obtain ⟨y1, hy1, k1⟩ := hall1 1 22 rfl
  obtain ⟨x1, rfl, b1⟩ := cell_u64 Try.underlying22 k1
  obtain ⟨y2, hy2, k2⟩ := hall1 2 22 rfl
  obtain ⟨x2, rfl, b2⟩ := cell_u64 Try.underlying22 k2
  obtain ⟨y3, hy3, k3⟩ := hall1 3 22 rfl
  obtain ⟨x3, rfl, b3⟩ := cell_u64 Try.underlying22 k3
  obtain rfl : cs1 = #[.int .u64 x0, .int .u64 x1, .int .u64 x2, .int .u64 x3] := by
    apply Array.ext_getElem?
    intro i
    rcases Nat.lt_or_ge i 4 with hlt | hge
    · match i, hlt with
      | 0, _ => rw [hy0]; rfl
      | 1, _ => rw [hy1]; rfl
      | 2, _ => rw [hy2]; rfl
      | 3, _ => rw [hy3]; rfl
    · rw [Array.getElem?_eq_none (by rw [hsz1]; exact hge), Array.getElem?_eq_none (by simpa using hge)]
  simp only [List.append_nil] at hW' hAk
  refine (walk_sweeps f hM hA2 x0 x1 x2 x3 W).mono fun e W' ⟨he, hb⟩ => ?_
  subst he
  exact ⟨_, rfl, post_below Try.laidOut hW' hAk (readable_all (by kernel_rfl)) (fun _ _ _ => trodAll_cons_mk (shut_bool Try.underlying4 _) trodAll_mk0) rfl rfl rfl hb⟩

theorem regsSweeps_holds : Rows.RegsSweepsSaid :=
  OpenClaim.holds_of_wide 4 Try.f4 rfl rfl rfl rfl rfl rfl rfl ⟨rfl, rfl, rfl, rfl, rfl⟩ rfl rfl rfl rfl rfl (by kernel_rfl) Try.func4 (by kernel_rfl)
    (of_decide_eq_true (by kernel_rfl)) (by unfold Func.isWrapper; rw [if_neg (of_decide_eq_false (by kernel_rfl))]; exact ⟨rfl, rfl⟩)
    (fun os started H enc _ => regsSweeps_lifted os started H enc)
#print axioms regsSweeps_holds
end Go.Proofs.Ytkfeabekdjbphaa
