/-
  '==' between two arrays of bytes, in plain numbers.
-/
import Derived.Test.YtinckicchakifaaA0
import Derived.DeepKeys
set_option linter.unusedSimpArgs false
set_option linter.unusedVariables false
namespace Go.Proofs.Ytinckicchakifaa
open Go.RowKit Go.Sort

theorem mapM_some' {α β : Type} (f : α → Option β) (g : α → β) : ∀ (l : List α), (∀ x ∈ l, f x = some (g x)) → l.mapM f = some (l.map g)
  | [], _ => by simp
  | x :: l, h => by
    rw [List.mapM_cons, h x (by simp), mapM_some' f g l (fun y hy => h y (by simp [hy]))]
    rfl
theorem wf_u8 (b : Nat) (h : b < 256) : (Lit.int .u8 (b : Int)).wf = true := by
  simp [Lit.wf, IntKind.min, IntKind.max, IntKind.signed, IntKind.bits]; omega
def ucell (b : Nat) : Value := .int .u8 (b : Int)
def ulit (b : Nat) : Lit := .int .u8 (b : Int)
theorem flat_one {α β : Type} (f : α → β) : ∀ (l : List α), (l.map fun x => [f x]).flatten = l.map f
  | [] => rfl
  | x :: l => by simp [flat_one f l]
theorem lits_u8 {P : Program} {t e n : Nat} (hu : P.underlying t = some (.array n e)) (he : P.underlying e = some (.int .u8)) (hc : P.cellsOf e = 1) (hct : P.cellsOf t = n) (D : Nat) (bs : List Nat) (hlen : bs.length = n) (hb : ∀ b ∈ bs, b < 256) :
    P.keyLits (D + 2) t (bs.map ucell) = some (bs.map ulit) := by
  subst hlen
  unfold Program.keyLits
  simp only [hu]
  rw [if_pos (by rw [List.length_map, hct])]
  have h := mapM_some' (fun i => P.keyLits (D + 1) e (((bs.map ucell).drop (i * P.cellsOf e)).take (P.cellsOf e))) (fun i => [ulit (bs.getD i 0)]) (List.range bs.length) (fun i hi => by
    have hi' : i < bs.length := List.mem_range.1 hi
    have e1 : ((bs.map ucell).drop (i * P.cellsOf e)).take (P.cellsOf e) = [ucell (bs.getD i 0)] := by
      rw [hc, Nat.mul_one, List.drop_eq_getElem_cons (by simpa using hi')]
      simp [List.getD_eq_getElem?_getD, hi']
    have hlt : bs.getD i 0 < 256 := by
      rw [List.getD_eq_getElem?_getD, List.getElem?_eq_getElem hi']
      exact hb _ (List.getElem_mem hi')
    rw [e1]
    unfold Program.keyLits
    simp only [he, ucell]
    rw [if_pos ⟨trivial, wf_u8 _ hlt⟩]; rfl)
  rw [h]
  simp only [Option.map_some]
  congr 1
  rw [flat_one (fun i => ulit (bs.getD i 0))]
  apply List.ext_getElem
  · simp
  · intro i h1 h2
    simp at h1
    simp [h1]
theorem ulit_inj {l l' : List Nat} (h : l.map ulit = l'.map ulit) : l = l' := by
  refine List.map_inj_right (f := ulit) ?_ |>.1 h
  intro x y hxy
  simp [ulit] at hxy
  omega
theorem run_eqB {P : Program} {t e n : Nat} (hk : P.keyTypeAt 10 t = true) (hu : P.underlying t = some (.array n e)) (he : P.underlying e = some (.int .u8)) (hc : P.cellsOf e = 1) (hct : P.cellsOf t = n) (xs ys : List Nat) (hx : xs.length = n) (hy : ys.length = n)
    (bx : ∀ b ∈ xs, b < 256) (bY : ∀ b ∈ ys, b < 256) (W : World) : (binOp .eql t (.agg (xs.map ucell).toArray) (.agg (ys.map ucell).toArray)).run P W = .ok (.bool (decide (xs = ys))) W := by
  have fx : ∀ zs : List Nat, zs.length = n → (Value.agg (zs.map ucell).toArray).formed P t = true := fun zs hz => by
    simp only [Value.formed, hu]; simp [hct, hz]
  obtain ⟨r, hr, hiff⟩ := run_equalIn_deep (P := P) 9990 10 t hk W 2 2 (.agg (xs.map ucell).toArray) (.agg (ys.map ucell).toArray) (xs.map ulit) (ys.map ulit) (fx xs hx) (fx ys hy)
    (by simpa [Value.cells] using lits_u8 hu he hc hct 0 xs hx bx) (by simpa [Value.cells] using lits_u8 hu he hc hct 0 ys hy bY)
  rw [run_eql_struct, show (10000 : Nat) = 9990 + 10 from rfl, hr]
  have : r = decide (xs = ys) := by
    rw [Bool.eq_iff_iff, hiff, decide_eq_true_eq]
    exact ⟨ulit_inj, fun h => by rw [h]⟩
  rw [this]; rfl
end Go.Proofs.Ytinckicchakifaa
