
/-
  The law RegsHold holds: for every input the call returns true, and each argument reads afterwards as it read before. No condition.
-/
import Derived.Test.YtkfeabekdjbphaaRow
import Derived.Test.YtkfeabekdjbphaaGF
import Derived.Test.YtkfeabekdjbphaaGR
namespace Go.Proofs.Ytkfeabekdjbphaa
open Go.ChangeShapes Go.WideShapes Go.ChangeAt Go.RowKit

set_option maxRecDepth 100000 in
theorem regsHold_lifted (os : Os) (started : os.Started) (H : Type) (enc : TypeId × Value → H) :
    ReturnsInHanded {} Try.checked os 5 .any (Rows.regsHoldSpec.pre6 enc Try.prog Try.f5 Rows.regsHoldRow.domain false) (Rows.regsHoldSpec.post enc Try.prog Try.f5 false true false false) := by
  refine returnsInHanded_of_change (C := Try.checked) Try.own started (by kernel_rfl) Try.func5
    (ChangeSpec.witness6 (enc := enc) (C := Try.checked) false ⟨#[], #[.agg #[.bool false, .int .u64 0, .int .u64 0, .bool false, .int .u64 0, .int .u64 0, .bool false, .int .u64 0, .int .u64 0, .bool false, .int .u64 0, .int .u64 0, .bool false, .int .u64 0, .int .u64 0, .bool false, .int .u64 0, .int .u64 0, .bool false, .int .u64 0, .int .u64 0, .bool false, .int .u64 0, .int .u64 0, .bool false, .int .u64 0, .int .u64 0, .bool false, .int .u64 0, .int .u64 0, .bool false, .int .u64 0, .int .u64 0, .bool false, .int .u64 0, .int .u64 0, .bool false, .int .u64 0, .int .u64 0, .bool false, .int .u64 0, .int .u64 0, .bool false, .int .u64 0, .int .u64 0, .bool false, .int .u64 0, .int .u64 0, .bool false, .int .u64 0, .int .u64 0, .bool false, .int .u64 0, .int .u64 0, .bool false, .int .u64 0, .int .u64 0, .bool false, .int .u64 0, .int .u64 0, .bool false, .int .u64 0, .int .u64 0, .bool false, .int .u64 0, .int .u64 0, .bool false, .int .u64 0, .int .u64 0, .bool false, .int .u64 0, .int .u64 0, .bool false, .int .u64 0, .int .u64 0, .bool false, .int .u64 0, .int .u64 0, .bool false, .int .u64 0, .int .u64 0, .bool false, .int .u64 0, .int .u64 0, .bool false, .int .u64 0, .int .u64 0, .bool false, .int .u64 0, .int .u64 0, .bool false, .int .u64 0, .int .u64 0, .bool false, .int .u64 0, .int .u64 0, .bool false, .int .u64 0, .int .u64 0], .agg #[.bool false, .int .u64 0, .int .u64 0], .agg #[.int .u64 0, .int .u64 0, .int .u64 0]], []⟩ 12 (by kernel_rfl) (by kernel_rfl) (by kernel_rfl) (by kernel_rfl)) ?_
  intro W base args ds gs before hval0 hW hcnd _
  have hval : ∀ (j : Nat) t v, Try.f5.params[j]? = some t → args[j]? = some v → Value.okWide Try.prog W .any base t v := hval0
  have hW' := hW
  obtain ⟨p, q, hA0, hV, rfl, hfz, hnd⟩ := hW
  have hA : DataW.TrodAll enc Try.prog W 0 (fun _ => true) true Try.f5.params.toList args.toList ds p := hA0
  have hAk := hA
  obtain ⟨rfl, rfl⟩ := trodVars_none hV
  rw [Try.params5] at hA hval
  obtain ⟨v0, vs0, d0, ds0, p0, q0, hargs, rfl, rfl, h0, r0⟩ := trodAll_cons hA
  obtain ⟨v1, vs1, d1, ds1, p1, q1, rfl, rfl, rfl, h1, r1⟩ := trodAll_cons r0
  obtain ⟨v2, vs2, d2, ds2, p2, q2, rfl, rfl, rfl, h2, r2⟩ := trodAll_cons r1
  obtain ⟨rfl, rfl, rfl⟩ := trodAll_nil r2
  obtain rfl : args = #[v0, v1, v2] := by cases args; simp_all
  clear hA0 hval0 hA r0 h0 r1 h1 r2 h2
  obtain ⟨f, rfl, hM, hA2⟩ := open_ctx (hval 0 27 _ rfl rfl)
  obtain ⟨t, m, a, rfl, hm, ha⟩ := open_cap (hval 1 24 _ rfl rfl)
  obtain ⟨cs1, rfl, hsz1, hall1⟩ := open_flat (ts := [22, 22, 22]) (Or.inr ⟨_, _, Try.underlying42⟩) (by kernel_rfl) (by kernel_rfl) (hval 2 42 _ rfl rfl)
  obtain ⟨y0, hy0, k0⟩ := hall1 0 22 rfl
  obtain ⟨x0, rfl, b0⟩ := cell_u64 Try.underlying22 k0
  obtain ⟨y1, hy1, k1⟩ := hall1 1 22 rfl
  obtain ⟨x1, rfl, b1⟩ := cell_u64 Try.underlying22 k1
  obtain ⟨y2, hy2, k2⟩ := hall1 2 22 rfl
  obtain ⟨x2, rfl, b2⟩ := cell_u64 Try.underlying22 k2
  obtain rfl : cs1 = #[.int .u64 x0, .int .u64 x1, .int .u64 x2] := by
    apply Array.ext_getElem?
    intro i
    rcases Nat.lt_or_ge i 3 with hlt | hge
    · match i, hlt with
      | 0, _ => rw [hy0]; rfl
      | 1, _ => rw [hy1]; rfl
      | 2, _ => rw [hy2]; rfl
    · rw [Array.getElem?_eq_none (by rw [hsz1]; exact hge), Array.getElem?_eq_none (by simpa using hge)]
  simp only [List.append_nil] at hW' hAk
  refine (walk_hold f hM hA2 t m a hm ha x0 x1 x2 W).mono fun e W' ⟨he, hb⟩ => ?_
  subst he
  exact ⟨_, rfl, post_below Try.laidOut hW' hAk (readable_all (by kernel_rfl)) (fun _ _ _ => trodAll_cons_mk (shut_bool Try.underlying4 _) trodAll_mk0) rfl rfl rfl hb⟩

theorem regsHold_holds : Rows.RegsHoldSaid :=
  OpenClaim.holds_of_wide 5 Try.f5 rfl rfl rfl rfl rfl rfl rfl ⟨rfl, rfl, rfl, rfl, rfl⟩ rfl rfl rfl rfl rfl (by kernel_rfl) Try.func5 (by kernel_rfl)
    (of_decide_eq_true (by kernel_rfl)) (by unfold Func.isWrapper; rw [if_neg (of_decide_eq_false (by kernel_rfl))]; exact ⟨rfl, rfl⟩)
    (fun os started H enc _ => regsHold_lifted os started H enc)
#print axioms regsHold_holds
end Go.Proofs.Ytkfeabekdjbphaa
