/-
  The law AlgebraNarrows holds: for every input the call returns true, and each argument reads afterwards as it read before. No condition.
-/
import Derived.Test.YtcpamlnlolidkaaRow
import Derived.Test.YtcpamlnlolidkaaWNarrows
import Derived.Deep.Slices
namespace Go.Proofs.Ytcpamlnlolidkaa
open Go.ChangeShapes Go.WideShapes Go.ChangeAt Go.RowKit

theorem cell_in {w : World} {a : Addr} {v : Value} (h : w.cell? a = some v) : a.block < w.heap.size := by
  unfold World.cell? at h
  split at h
  · rename_i hh
    exact (Array.getElem?_eq_some_iff.1 hh).1
  · simp at h
theorem add_pos (E : Addr) (j : Nat) : E.add (j + 1) = ⟨E.block, E.off + (j + 1), none⟩ := by unfold Addr.add; rw [if_neg (by omega)]
set_option linter.unusedSimpArgs false in
theorem wf_u64 {n : Int} (h : (Lit.int .u64 n).wf = true) : ∃ m : Nat, n = (m : Int) ∧ m < 18446744073709551616 := by
  simp [Lit.wf, IntKind.min, IntKind.max, IntKind.signed, IntKind.bits] at h
  exact ⟨n.toNat, by omega, by omega⟩
set_option linter.unusedSimpArgs false
set_option maxRecDepth 100000 in
/-- the acts that come in: a row of structs of six cells, each read. -/
theorem open_acts {H : Type} {enc : TypeId × Value → H} {W : World} {spare : Nat → Bool} {held : Bool} {v : Value} {d : DataW H} {ps : List MemPlace} (hv : Value.okWide Try.prog W .any 0 50 v)
    (h : DataW.Trod enc Try.prog W 0 spare held 50 v d ps) :
    ∃ (p : Option Addr) (len cap : Nat), v = .slice p len cap ∧ len ≤ cap ∧ (60 < len → ∃ A, p = some A) ∧ ∀ i, i < len → ActAt W p i := by
  obtain ⟨a, len, cap, rfl⟩ := okWide_slice Try.underlying50 hv
  obtain ⟨fuel, hf⟩ := h
  rcases Go.Deep.open_slice Try.underlying50 hf with ⟨h0, _⟩ | ⟨A, len', cap', m, n, D, Pl, hcs, _, hl, _, hmm, _, hi⟩
  · simp [Value.cells] at h0
    obtain ⟨rfl, rfl, rfl⟩ := h0
    exact ⟨none, 0, 0, rfl, Nat.le_refl _, fun h => by omega, fun i hi => by omega⟩
  · simp [Value.cells] at hcs
    obtain ⟨rfl, rfl, rfl⟩ := hcs
    refine ⟨some A, len, cap, rfl, hl, fun _ => ⟨A, rfl⟩, fun i hil => ?_⟩
    have him : i < m := by rw [hmm]; split <;> omega
    obtain ⟨cs', hc, ht⟩ := hi i him
    have h6 : Try.prog.cellsOf 53 = 6 := by kernel_rfl
    have c3 : Try.prog.cellsOf 3 = 1 := by kernel_rfl
    have c22 : Try.prog.cellsOf 22 = 1 := by kernel_rfl
    have c4 : Try.prog.cellsOf 4 = 1 := by kernel_rfl
    have c24 : Try.prog.cellsOf 24 = 3 := by kernel_rfl
    rw [h6] at hc
    obtain ⟨_, hlen, hat⟩ := World.cells?_some hc
    obtain ⟨xs, n', _, _, _, hxl, hg⟩ := DataW.trod_struct Try.underlying53 ht
    have hxl' : xs.length = 4 := hxl
    match cs', hlen with
    | [z0, z1, z2, z3, z4, z5], _ =>
      have g0 : DataW.trod enc Try.prog W 0 spare held n' 3 (([z0, z1, z2, z3, z4, z5].drop 0).take (Try.prog.cellsOf 3)) = xs[0]? := hg 0 _ rfl
      have g1 : DataW.trod enc Try.prog W 0 spare held n' 22 (([z0, z1, z2, z3, z4, z5].drop 1).take (Try.prog.cellsOf 22)) = xs[1]? := hg 1 _ rfl
      have g2 : DataW.trod enc Try.prog W 0 spare held n' 4 (([z0, z1, z2, z3, z4, z5].drop 2).take (Try.prog.cellsOf 4)) = xs[2]? := hg 2 _ rfl
      have g3 : DataW.trod enc Try.prog W 0 spare held n' 24 (([z0, z1, z2, z3, z4, z5].drop 3).take (Try.prog.cellsOf 24)) = xs[3]? := hg 3 _ rfl
      simp only [c3, c22, c4, c24] at g0 g1 g2 g3
      rw [List.getElem?_eq_getElem (by omega)] at g0 g1 g2 g3
      obtain ⟨k, e0, _, _⟩ := DataW.trod_int Try.underlying3 g0
      obtain ⟨N, e1, _, w1⟩ := DataW.trod_int Try.underlying22 g1
      obtain ⟨x, e2, _⟩ := DataW.trod_bool Try.underlying4 g2
      obtain ⟨ys, n2, _, _, _, hyl, hk⟩ := DataW.trod_struct Try.underlying24 g3
      have hyl' : ys.length = 3 := hyl
      have k0 : DataW.trod enc Try.prog W 0 spare held n2 4 (([z3, z4, z5].drop 0).take (Try.prog.cellsOf 4)) = ys[0]? := hk 0 _ rfl
      have k1 : DataW.trod enc Try.prog W 0 spare held n2 22 (([z3, z4, z5].drop 1).take (Try.prog.cellsOf 22)) = ys[1]? := hk 1 _ rfl
      have k2 : DataW.trod enc Try.prog W 0 spare held n2 22 (([z3, z4, z5].drop 2).take (Try.prog.cellsOf 22)) = ys[2]? := hk 2 _ rfl
      simp only [c22, c4] at k0 k1 k2
      rw [List.getElem?_eq_getElem (by omega)] at k0 k1 k2
      obtain ⟨u, e3, _⟩ := DataW.trod_bool Try.underlying4 k0
      obtain ⟨M, e4, _, w4⟩ := DataW.trod_int Try.underlying22 k1
      obtain ⟨O, e5, _, w5⟩ := DataW.trod_int Try.underlying22 k2
      simp at e0 e1 e2 e3 e4 e5
      subst e0; subst e1; subst e2; subst e3; subst e4; subst e5
      obtain ⟨N', rfl, hN⟩ := wf_u64 w1
      obtain ⟨M', rfl, hM⟩ := wf_u64 w4
      obtain ⟨O', rfl, hO⟩ := wf_u64 w5
      have a0 : W.cell? (A.add (i * 6)) = some (.int .i64 k) := (congrArg W.cell? (show (A.add (i * 6)).add 0 = _ from if_pos rfl)).symm.trans (hat 0 (by decide))
      have a1 : W.cell? ⟨(A.add (i * 6)).block, (A.add (i * 6)).off + 1, none⟩ = some (.int .u64 (N' : Nat)) := (congrArg W.cell? (add_pos _ 0)).symm.trans (hat 1 (by decide))
      have a2 : W.cell? ⟨(A.add (i * 6)).block, (A.add (i * 6)).off + 2, none⟩ = some (.bool x) := (congrArg W.cell? (add_pos _ 1)).symm.trans (hat 2 (by decide))
      have a3 : W.cell? ⟨(A.add (i * 6)).block, (A.add (i * 6)).off + 3, none⟩ = some (.bool u) := (congrArg W.cell? (add_pos _ 2)).symm.trans (hat 3 (by decide))
      have a4 : W.cell? ⟨(A.add (i * 6)).block, (A.add (i * 6)).off + 4, none⟩ = some (.int .u64 (M' : Nat)) := (congrArg W.cell? (add_pos _ 3)).symm.trans (hat 4 (by decide))
      have a5 : W.cell? ⟨(A.add (i * 6)).block, (A.add (i * 6)).off + 5, none⟩ = some (.int .u64 (O' : Nat)) := (congrArg W.cell? (add_pos _ 4)).symm.trans (hat 5 (by decide))
      exact ⟨A, k, N', x, u, M', O', rfl, hN, hM, cell_in a0, a0, a1, a2, a3, a4, a5⟩

set_option maxRecDepth 100000 in
theorem algebraNarrows_lifted (os : Os) (started : os.Started) (H : Type) (enc : TypeId × Value → H) :
    ReturnsInHanded {} Try.checked os 8 .any (Rows.algebraNarrowsSpec.pre6 enc Try.prog Try.f8 Rows.algebraNarrowsRow.domain false) (Rows.algebraNarrowsSpec.post enc Try.prog Try.f8 false true false false) := by
  refine returnsInHanded_of_change (C := Try.checked) Try.own started (by kernel_rfl) Try.func8
    (ChangeSpec.witness6 (enc := enc) (C := Try.checked) false ⟨#[], #[.agg #[.bool false, .int .u64 0, .int .u64 0], .slice none 0 0], []⟩ 12 (by kernel_rfl) (by kernel_rfl) (by kernel_rfl) (by kernel_rfl)) ?_
  intro W base args ds gs before hval0 hW hcnd _
  have hval : ∀ (j : Nat) t v, Try.f8.params[j]? = some t → args[j]? = some v → Value.okWide Try.prog W .any base t v := hval0
  have hW' := hW
  obtain ⟨p, q, hA0, hV, rfl, hfz, hnd⟩ := hW
  have hA : DataW.TrodAll enc Try.prog W 0 (fun _ => true) true Try.f8.params.toList args.toList ds p := hA0
  have hAk := hA
  obtain ⟨rfl, rfl⟩ := trodVars_none hV
  rw [Try.params8] at hA hval
  obtain ⟨v0, vs0, d0, ds0, p0, q0, hargs, rfl, rfl, h0, r0⟩ := trodAll_cons hA
  obtain ⟨v1, vs1, d1, ds1, p1, q1, rfl, rfl, rfl, h1, r1⟩ := trodAll_cons r0
  obtain ⟨rfl, rfl, rfl⟩ := trodAll_nil r1
  obtain rfl : args = #[v0, v1] := by cases args; simp_all
  clear hA0 hval0 hA r0 h0 r1
  obtain ⟨cs0, rfl, hsz0, hall0⟩ := open_flat (ts := [4, 22, 22]) (by first | exact Or.inl ⟨_, Try.underlying24⟩ | exact Or.inr ⟨_, _, Try.underlying24⟩) (by kernel_rfl) (by kernel_rfl) (hval 0 24 _ rfl rfl)
  obtain ⟨y0_0, hy0_0, hk0_0⟩ := hall0 0 4 rfl
  obtain ⟨x0_0, rfl⟩ := cell_bool Try.underlying4 hk0_0
  obtain ⟨y0_1, hy0_1, hk0_1⟩ := hall0 1 22 rfl
  obtain ⟨x0_1, rfl, b0_1⟩ := cell_u64 Try.underlying22 hk0_1
  obtain ⟨y0_2, hy0_2, hk0_2⟩ := hall0 2 22 rfl
  obtain ⟨x0_2, rfl, b0_2⟩ := cell_u64 Try.underlying22 hk0_2
  obtain rfl : cs0 = #[.bool x0_0, .int .u64 x0_1, .int .u64 x0_2] := by
    apply Array.ext_getElem?
    intro i
    rcases Nat.lt_or_ge i 3 with hlt | hge
    · match i, hlt with
      | 0, _ => rw [hy0_0]; rfl
      | 1, _ => rw [hy0_1]; rfl
      | 2, _ => rw [hy0_2]; rfl
    · rw [Array.getElem?_eq_none (by rw [hsz0]; exact hge), Array.getElem?_eq_none (by simpa using hge)]
  obtain ⟨pp, len, cap, rfl, hlc, hbig, hact⟩ := open_acts (hval 1 50 _ rfl rfl) h1
  simp only [List.append_nil] at hW' hAk
  obtain ⟨n, hn, hnl⟩ : ∃ n, ((60 < len ∧ n = 60 ∧ ∃ A, pp = some A) ∨ (len ≤ 60 ∧ n = len)) ∧ n ≤ len := by
    by_cases h : 60 < len
    · exact ⟨60, Or.inl ⟨h, rfl, hbig h⟩, by omega⟩
    · exact ⟨len, Or.inr ⟨by omega, rfl⟩, Nat.le_refl _⟩
  refine (walk_narrows x0_0 x0_1 x0_2 b0_1 pp len cap n hlc hn W fun i hi => hact i (by omega)).mono fun e W' ⟨he, hb⟩ => ?_
  subst he
  exact ⟨_, rfl, post_below Try.laidOut hW' hAk (readable_all (by kernel_rfl)) (fun _ _ _ => trodAll_cons_mk (shut_bool Try.underlying4 _) trodAll_mk0) rfl rfl rfl hb⟩

theorem algebraNarrows_holds : Rows.AlgebraNarrowsSaid :=
  OpenClaim.holds_of_wide 8 Try.f8 rfl rfl rfl rfl rfl rfl rfl ⟨rfl, rfl, rfl, rfl, rfl⟩ rfl rfl rfl rfl rfl (by kernel_rfl) Try.func8 (by kernel_rfl)
    (of_decide_eq_true (by kernel_rfl)) (by unfold Func.isWrapper; rw [if_neg (of_decide_eq_false (by kernel_rfl))]; exact ⟨rfl, rfl⟩)
    (fun os started H enc _ => algebraNarrows_lifted os started H enc)
#print axioms algebraNarrows_holds
end Go.Proofs.Ytcpamlnlolidkaa
