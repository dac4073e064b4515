
/-
  The step from a walk to a row, for laws that only make new memory: arguments of whole numbers, bools, structs and arrays of these are opened to their cells; every argument reads behind the call as before, since below the heap's old size nothing has turned.
-/
import Derived.Test.YtkfeabekdjbphaaRows
import Derived.WalkKit
import Derived.ProofKit
import Derived.OpenShut
import Derived.Carry
import Derived.Below
namespace Go.Proofs.Ytkfeabekdjbphaa
open Go.ChangeShapes Go.WideShapes Go.ChangeAt Go.RowKit

section
variable {H : Type} {enc : TypeId × Value → H} {P : Program}

theorem below_trodAll (hl : laidOutB P = true) {W W' : World} (hb : Below W.heap.size W W') : ∀ (ts : List TypeId) (vs : List Value) (ds : List (DataW H)) (ps : List MemPlace), (∀ t ∈ ts, P.readableRec t = true ∧ t < P.types.size) →
    DataW.TrodAll enc P W 0 (fun _ => true) true ts vs ds ps → (∀ x ∈ ps, x.block < W.heap.size) → DataW.TrodAll enc P W' 0 (fun b => decide (b < W.heap.size)) true ts vs ds ps
  | [], [], [], _, _, h, _ => h
  | t :: ts, v :: vs, d :: ds, ps, hr, ⟨p, q, h1, h2, he⟩, hlt => by
    subst he
    refine ⟨p, q, Below.trod hl (hr t (List.mem_cons_self ..)).1 (hr t (List.mem_cons_self ..)).2 h1 hb (fun x hx => hlt x (List.mem_append_left _ hx)), ?_, rfl⟩
    exact below_trodAll hl hb ts vs ds q (fun t' ht' => hr t' (List.mem_cons_of_mem _ ht')) h2 (fun x hx => hlt x (List.mem_append_right _ hx))
  | [], _ :: _, _, _, _, h, _ => h.elim
  | [], [], _ :: _, _, _, h, _ => h.elim
  | _ :: _, [], _, _, _, h, _ => h.elim
  | _ :: _, _ :: _, [], _, _, h, _ => h.elim

theorem post_below {f : Func} {s : ChangeSpec} {W W' : World} {args : Array Value} {v : Value} {ds : List (DataW H)} {before : List MemPlace} (hl : laidOutB P = true)
    (hW : DataW.Whole enc P f.params.toList s.vars false W args.toList ds [] before) (hA : DataW.TrodAll enc P W 0 (fun _ => true) true f.params.toList args.toList ds before)
    (hr : ∀ t ∈ f.params.toList, P.readableRec t = true ∧ t < P.types.size)
    (hres : ∀ (b : Nat) (sp : Nat → Bool) (hd : Bool), DataW.TrodAll enc P W' b sp hd f.resultTypes.toList (v.resultList f.resultTypes.size) (s.fn H (ds ++ [])).results [])
    (ha : (s.fn H (ds ++ [])).args = ds) (hv : s.vars = []) (hv2 : (s.fn H (ds ++ [])).vars = []) (hb : Below W.heap.size W W') :
    s.post enc P f false true false false W args v W' := by
  have hlt : ∀ p ∈ before, p.block < W.heap.size := fun p hp => hW.lt p hp
  refine ⟨ds, [], before, [], before, [], hW, hres _ _ _, ?_, ?_, World.keptBut_mono (fun p hp => ⟨hp, ?_⟩) (hb.frame (· ∈ before)), fun h => by cases h⟩
  · rw [ha]; exact below_trodAll hl hb _ _ _ _ hr hA hlt
  · rw [hv, hv2]; rfl
  · simpa using hp

theorem readable_all {ts : List TypeId} (h : (ts.all fun t => P.readableRec t && decide (t < P.types.size)) = true) : ∀ t ∈ ts, P.readableRec t = true ∧ t < P.types.size := by
  intro t ht
  have := List.all_eq_true.1 h t ht
  simpa using this

/-- A cell of a whole number without a sign. -/
theorem cell_u64 {W : World} {r : Reach} {b0 : Nat} {u : TypeId} {x : Value} (hu : P.underlying u = some (.int .u64)) (h : Cell.okWide P W r b0 u x) : ∃ m : Nat, x = .int .u64 m ∧ m < 18446744073709551616 := by
  have h' : Value.okWide P W r b0 u x := by simp only [Value.okWide, hu]; exact h
  obtain ⟨n, rfl⟩ := okWide_int hu h'
  simp [Cell.okWide, Cell.ok, hu, IntKind.has, IntKind.min, IntKind.max, IntKind.signed, IntKind.bits] at h
  exact ⟨n.toNat, by congr 1; omega, by omega⟩
/-- .. with a sign. -/
theorem cell_i64 {W : World} {r : Reach} {b0 : Nat} {u : TypeId} {x : Value} (hu : P.underlying u = some (.int .i64)) (h : Cell.okWide P W r b0 u x) : ∃ n : Int, x = .int .i64 n ∧ -9223372036854775808 ≤ n ∧ n ≤ 9223372036854775807 := by
  have h' : Value.okWide P W r b0 u x := by simp only [Value.okWide, hu]; exact h
  obtain ⟨n, rfl⟩ := okWide_int hu h'
  simp [Cell.okWide, Cell.ok, hu, IntKind.has, IntKind.min, IntKind.max, IntKind.signed, IntKind.bits] at h
  exact ⟨n, rfl, by omega, by omega⟩
theorem cell_bool {W : World} {r : Reach} {b0 : Nat} {u : TypeId} {x : Value} (hu : P.underlying u = some .bool) (h : Cell.okWide P W r b0 u x) : ∃ b : Bool, x = .bool b := by
  have h' : Value.okWide P W r b0 u x := by simp only [Value.okWide, hu]; exact h
  exact okWide_bool hu h'
/-- A value of one cell. -/
theorem one_cell {W : World} {r : Reach} {b0 : Nat} {u : TypeId} {x : Value} {k : IntKind} (hu : P.underlying u = some (.int k)) (h : Value.okWide P W r b0 u x) : Cell.okWide P W r b0 u x := by
  simp only [Value.okWide, hu] at h; exact h
theorem one_cell_bool {W : World} {r : Reach} {b0 : Nat} {u : TypeId} {x : Value} (hu : P.underlying u = some .bool) (h : Value.okWide P W r b0 u x) : Cell.okWide P W r b0 u x := by
  simp only [Value.okWide, hu] at h; exact h
/-- A struct, or an array: its cells, each with its type. -/
theorem open_flat {W : World} {r : Reach} {b0 : Nat} {t : TypeId} {v : Value} {ts : List TypeId} (hs : (∃ fs, P.underlying t = some (.struct fs)) ∨ (∃ n e, P.underlying t = some (.array n e)))
    (hts : P.cellTypes P.depth t = some ts) (hC : P.cellsOf t = ts.length) (h : Value.okWide P W r b0 t v) :
    ∃ cs : Array Value, v = .agg cs ∧ cs.size = ts.length ∧ ∀ (i : Nat) (u : TypeId), ts[i]? = some u → ∃ x, cs[i]? = some x ∧ Cell.okWide P W r b0 u x := by
  have h2 : ∃ cs, v = .agg cs ∧ cs.size = P.cellsOf t ∧ Row.okWide P W r b0 t cs := by
    rcases hs with ⟨fs, hs⟩ | ⟨n, e, hs⟩ <;> (simp only [Value.okWide, hs] at h; exact h)
  obtain ⟨cs, hv, hsz, ts', h1, _, h3⟩ := h2
  rw [hts] at h1
  obtain rfl := Option.some.inj h1
  refine ⟨cs, hv, by rw [hsz, hC], fun i u hu => ?_⟩
  have hi : i < ts.length := by
    rcases Nat.lt_or_ge i ts.length with hlt | hge
    · exact hlt
    · rw [List.getElem?_eq_none hge] at hu; cases hu
  have hc : cs[i]? = some (cs[i]'(by omega)) := Array.getElem?_eq_getElem _
  obtain ⟨u', hu', hk⟩ := h3 i _ hc
  rw [Nat.mod_eq_of_lt hi, hu] at hu'
  obtain rfl := Option.some.inj hu'
  exact ⟨_, hc, hk⟩
end
theorem Try.own : ownKnob Try.prog.godebug = none := by kernel_rfl
theorem Try.laidOut : laidOutB Try.prog = true := by kernel_rfl
end Go.Proofs.Ytkfeabekdjbphaa
