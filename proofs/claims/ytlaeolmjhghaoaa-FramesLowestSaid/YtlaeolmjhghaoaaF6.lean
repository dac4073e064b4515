/-
  Pool.All: its closure appends one number.
-/
import Derived.Test.YtlaeolmjhghaoaaF5
import Derived.RangeFuncBox
import Derived.Maps.AppendAt
import Derived.RangeFuncNested
import Derived.RangeFuncCalls
import Derived.Laws.EntriesVeiled
set_option linter.unusedSimpArgs false
set_option linter.unusedVariables false
namespace Go.Proofs.Ytlaeolmjhghaoaa
open Go.RowKit Go.Shelf
attribute [local go_sem] Oper.semAt_some

theorem info_int : (Try.prog.info? 3).map (fun i => (i.zero, i.size, i.bytes)) = some (some (.int .i64 0), 1, 8) := by kernel_rfl
set_option maxRecDepth 100000 in
set_option maxHeartbeats 2000000 in
/-- **take(k)**: 'out = append(out, k)' in the box B. -/
theorem all1_in (n : Nat) (B n₀ : Nat) (v : Value) (xs : List Int) (k : Int) (W : World) (hv : Boxed W B 35 v) (hrow : W.ownsRow n₀ 3 1 v xs.length (xs.map (Value.int .i64))) (hlen : xs.length < 64) (hn₀ : n₀ ≤ W.heap.size) (hB : n₀ ≤ B) :
    CallsIn Fence.wide n Try.prog 19 #[.int .i64 k, .pointer (some ⟨B, 0, none⟩)] W fun e W' => e = .returned (.tuple #[]) ∧ ∃ v', Boxed W' B 35 v' ∧ W'.ownsRow n₀ 3 1 v' (xs.length + 1) ((xs ++ [k]).map (Value.int .i64)) ∧ v' ≠ .slice none 0 0 ∧ KeepsOthers W W' ∧ Below n₀ W W' ∧ ∀ (C : Nat) (t : TypeId) (u : Value), Boxed W C t u → t ≠ 3 → C ≠ B → Boxed W' C t u := by
  obtain ⟨i0, hi, hz0, hz1, hz2⟩ := info_parts info_int
  have hc := hv.cell
  have hmx : 64 ≤ maxLen := by decide
  refine callsIn_of_wp Try.func19 rfl trivial ?_ rfl
  simp only [Try.ntmps19, List.size_toArray, List.length_cons, List.length_nil, Nat.reduceAdd, Nat.reduceSub, Array.replicate_succ, Array.replicate_zero, List.push_toArray, List.append_toArray, List.nil_append, List.cons_append]
  gi_wp2_with (gi_at_builtin; refine wpListIn_append_own _ rfl _ _ 35 rfl n₀ 3 i0 (.int .i64 0) 1 8 Try.underlying35 hi hz0 hz1 hz2 rfl (by decide) _ _ _ rfl (hrow.alloc _) ⟨W.heap.size, 0, none⟩ 1 1 [.int .i64 k] rfl rfl (cell_one_new _ _ _) (by simp [Value.oneCell']) (by omega) (by omega) (by simp; omega) ?_; intro v' w1 hown' hgrow _; obtain ⟨g', cap', rfl⟩ := ownsRow_succ hown'; obtain ⟨hv1, hv2, hr2, hk2, hb2⟩ := hv.appended (by decide) hrow hn₀ hB hown' hgrow; have hc1 := hv1.cell; have hf1 := hv1.frozen)
  all_goals
    go_end0
    exact ⟨rfl, _, hv2, by simpa using hr2, by simp, hk2, hb2, fun C t u h hte hne => ((h.alloc _).kept hgrow (h.not_row hte hrow)).other hne _⟩
theorem none_in (d : Nat) (b n x : Nat) (hn : n ≠ 0) (w : World) (h0 : w.cell? ⟨b, 0, none⟩ = some (.int .i64 (n : Nat))) (h1 : w.cell? ⟨b, 1, none⟩ = some (.int .u64 (x : Nat))) :
    CallsIn Fence.wide d Try.prog 16 #[.pointer (some ⟨b, 0, none⟩)] w fun r w' => r = .returned (.bool false) ∧ w = w' := by
  have hz : ((n : Int) == 0) = false := by simp [hn]
  refine callsIn_of_wp Try.func16 rfl trivial ?_ rfl
  simp only [Try.ntmps16, List.size_toArray, List.length_cons, List.length_nil, Nat.reduceAdd, Nat.reduceSub, Array.replicate_succ, Array.replicate_zero, List.push_toArray, List.append_toArray, List.nil_append, List.cons_append]
  gi_wp2
  go_ret
  exact ⟨rfl, rfl⟩
def KpA (n₀ Bn x : Nat) (A B : World) : Prop := Below n₀ A B ∧ (A.cell? ⟨Bn, 0, none⟩ = some (.int .u64 (x : Nat)) → B.cell? ⟨Bn, 0, none⟩ = some (.int .u64 (x : Nat)))
theorem KpA_cell {n₀ Bn x : Nat} : ∀ A B, KpA n₀ Bn x A B → A.cell? ⟨Bn, 0, none⟩ = some (.int .u64 (x : Nat)) → B.cell? ⟨Bn, 0, none⟩ = some (.int .u64 (x : Nat)) := fun _ _ h => h.2
theorem KpA_t {n₀ Bn x : Nat} {A B C : World} (h : KpA n₀ Bn x A B) (k : KpA n₀ Bn x B C) : KpA n₀ Bn x A C := ⟨h.1.trans k.1, fun c => k.2 (h.2 c)⟩
theorem KpA_b {n₀ Bn x : Nat} {w : World} (hn : n₀ ≤ w.heap.size) (W : World) (l : Nat) (o o' : Obj) (hl : w.heap.size ≤ l) (h : W.heap[l]? = some o) (h2 : o.isCells = false) (h3 : o.isWalk = false) : KpA n₀ Bn x W (W.putObj l o') :=
  ⟨belowK_b hn W l o o' hl h h2 h3, fun c => cell_kept c (grownBy_putObj' W l o') (fun r e => by cases e; exact ⟨_, h, h2⟩)⟩
set_option maxRecDepth 100000 in
set_option maxHeartbeats 2000000 in
theorem all_in (d : Nat) (hd : 3 ≤ d) (b n x : Nat) (hn : n ≠ 0) (hx : x < 18446744073709551616) (w : World) (hp : PoolAt w b n x) :
    CallsIn Fence.wide d Try.prog 10 #[.pointer (some ⟨b, 0, none⟩)] w fun e W' => ∃ v, e = .returned v ∧ W'.ownsRow w.heap.size 3 1 v (ones x).length ((ones x).map fun k : Nat => Value.int .i64 k) ∧ Below w.heap.size w W' := by
  have h1 : 1 ≤ d := by omega
  obtain ⟨hb, p0, p1, _, _⟩ := hp
  refine callsIn_of_wp_marks Try.func10 rfl trivial ?_ rfl
  simp only [Try.ntmps10, List.size_toArray, List.length_cons, List.length_nil, Nat.reduceAdd, Nat.reduceSub, Array.replicate_succ, Array.replicate_zero, List.push_toArray, List.append_toArray, List.nil_append, List.cons_append]
  gi_wp2_with (first | (refine ⟨trivial, ?_⟩; gi_at_call 16; refine (none_in (d - 1) b n x hn _ (by assumption) (by assumption)).mono ?_; rintro e w' ⟨rfl, rfl⟩) | (refine ⟨trivial, ?_⟩; gi_at_call 20; refine (ones_in (d - 1) x _).mono ?_; rintro e w' ⟨rfl, rfl⟩) | (gi_at_call 16; refine (none_in (d - 1) b n x hn _ (by assumption) (by assumption)).mono ?_; rintro e w' ⟨rfl, rfl⟩) | (gi_at_call 20; refine (ones_in (d - 1) x _).mono ?_; rintro e w' ⟨rfl, rfl⟩))
  have bO := Boxed.new w 35 (.slice none 0 0)
  have bC := Boxed.new (w.alloc (.cells #[.slice none 0 0] 35)) 50 (.func (.func 19) #[] #[.pointer (some ⟨w.heap.size, 0, none⟩)])
  have bN := Boxed.new ((w.alloc (.cells #[.slice none 0 0] 35)).alloc (.cells #[(.func (.func 19) #[] #[.pointer (some ⟨w.heap.size, 0, none⟩)])] 50)) 23 (.int .u64 (x : Nat))
  rw [World.size_alloc] at bC
  rw [World.size_alloc, World.size_alloc] at bN
  have hB0 : Below w.heap.size w (((w.alloc (.cells #[.slice none 0 0] 35)).alloc (.cells #[(.func (.func 19) #[] #[.pointer (some ⟨w.heap.size, 0, none⟩)])] 50)).alloc (.cells #[.int .u64 (x : Nat)] 23)) := (((Below.refl _ w).alloc (Nat.le_refl _) _).alloc (by simp) _).alloc (by simp; omega) _
  refine wpIn_rangeFunc_ownG rfl h1 (gf := 22) (lb := #[.pointer (some ⟨w.heap.size + 1 + 1, 0, none⟩)]) rfl trivial (enters_of Try.func22 (by kernel_rfl) rfl)
    (ones_stopsK (d - 1) (w.heap.size + 1 + 1) x (by omega) hx _ (by simp) bN.cell (KpA w.heap.size (w.heap.size + 1 + 1) x) KpA_cell) KpA_t (KpA_b (by simp; omega)) (Below.refl _ _) (fun _ => rfl)
    (fun pre W => (∃ v, Boxed W w.heap.size 35 v ∧ W.ownsRow w.heap.size 3 1 v pre.length (pre.map fun k : Nat => Value.int .i64 k) ∧ True) ∧ Boxed W (w.heap.size + 1) 50 (.func (.func 19) #[] #[.pointer (some ⟨w.heap.size, 0, none⟩)]) ∧ Boxed W (w.heap.size + 1 + 1) 23 (.int .u64 (x : Nat)) ∧ Below w.heap.size w W)
    (fun _ _ _ => False)
    (OwnFrom.and (Own.from (holdsRow_own w.heap.size w.heap.size 35 3 1 (fun pre : List Nat => pre.length) (fun pre => pre.map fun k : Nat => Value.int .i64 k) (fun _ _ => True)) _)
      (OwnFrom.and (Own.from (boxed_own (w.heap.size + 1) 50 (fun _ => (.func (.func 19) #[] #[.pointer (some ⟨w.heap.size, 0, none⟩)]))) _) (OwnFrom.and (Own.from (boxed_own (w.heap.size + 1 + 1) 23 (fun _ => .int .u64 (x : Nat))) _) (ownFrom_below (Nat.le_refl _) (by simp; omega)))))
    (fun _ _ _ _ _ hs _ _ => hs)
    ⟨⟨_, (bO.alloc _).alloc _, World.ownsRow_nil _ _ _ _, trivial⟩, bC.alloc _, bN, hB0⟩
    (fun k => { tmps := #[.pointer (some ⟨b, 0, none⟩), undef, .slice none 0 0, .pointer (some ⟨w.heap.size, 0, none⟩), .pointer (some ⟨w.heap.size + 1, 0, none⟩), .int .i64 (k : Nat), .pointer (some ⟨b, 0, none⟩), .bool false, (.func (.func 19) #[] #[.pointer (some ⟨w.heap.size, 0, none⟩)]), .pointer (some ⟨b, 0, none⟩), .pointer (some ⟨b, 0, none⟩), .pointer (some ⟨b, 0, none⟩), .pointer (some ⟨b, 1, none⟩), .int .u64 (x : Nat), .func (.func 22) #[] #[.pointer (some ⟨w.heap.size + 1 + 1, 0, none⟩)], .int .i64 (k : Nat), undef, undef, undef, undef], defers := [] }) ?assign ?body ?done ?stop
  case assign =>
    intro l k W K hK
    gi_wp2
    exact hK
  case body =>
    rintro l pre k W ⟨⟨v, hv, hrow, _⟩, hC, hN, hB⟩ hlt
    have hc := hC.cell
    have hq := fun (e : Nat) => all1_in e w.heap.size w.heap.size v (pre.map fun k : Nat => (k : Int)) k W hv (by rw [List.map_map, List.length_map]; exact hrow) (by simpa using hlt) hB.size (Nat.le_refl _)
    have Hq := Lib.hid hq
    clear hq
    gi_wp2_with (first | (refine ⟨trivial, fun h => (by first | cases h | omega | simp [Fence.wide] at h), ?_⟩; refine (CallsIn.inRound l (Hq.out _)).mono ?_; rintro e W' ⟨rfl, v', hv2, hr2, _, hk2, hb2, ho2⟩))
    refine ⟨hk2.from _, ⟨hb2, fun _ => (ho2 _ _ _ hN (by decide) (by omega)).cell⟩, ⟨⟨v', hv2, ?_, trivial⟩, ho2 _ _ _ hC (by decide) (by omega), ho2 _ _ _ hN (by decide) (by omega), hB.trans hb2⟩⟩
    have h2 := hr2
    simp at h2 ⊢
    exact h2
  case done =>
    rintro D ys W hD rfl ⟨⟨v, hv, hrow, _⟩, hC, hN, hB⟩ hK
    have hc := hv.cell
    gi_wp2
    refine ⟨by simp, .inl ⟨_, _, rfl, run_takeDeferred hK, ?_⟩⟩
    exact ⟨_, results_tmp rfl _ _ _, v, rfl, ownsRow_putObj hrow _ hK rfl, hB.trans (belowK_b (w := w) (Nat.le_refl _) W D _ _ (by simp at hD; omega) hK rfl rfl)⟩
  case stop =>
    rintro D c pre W _ _ h _
    exact h.elim
theorem all_live (b n x : Nat) (hn : n ≠ 0) (hx : x < 18446744073709551616) (w : World) (hp : PoolAt w b n x) :
    Calls Try.prog 10 #[.pointer (some ⟨b, 0, none⟩)] w fun e W' => ∃ v, e = .returned v ∧ W'.ownsRow w.heap.size 3 1 v (ones x).length ((ones x).map fun k : Nat => Value.int .i64 k) ∧ Below w.heap.size w W' :=
  callsIn_wide.1 (all_in 3 (Nat.le_refl _) b n x hn hx w hp)
theorem all_some (b n x : Nat) (hn : n ≠ 0) (hx : x < 18446744073709551616) (w : World) (hp : PoolAt w b n x) :
    Calls Try.prog 10 #[.pointer (some ⟨b, 0, none⟩)] w fun e W' => ∃ (p : Option Addr) (cap : Nat), e = .returned (.slice p (ones x).length cap) ∧ Below w.heap.size w W' := by
  refine (all_live b n x hn hx w hp).mono ?_
  rintro e W' ⟨v, rfl, hr, hb⟩
  rcases hr.2 with ⟨rfl, h0⟩ | ⟨g, cap, cur, rfl, _⟩
  · exact ⟨none, 0, by rw [h0], hb⟩
  · exact ⟨some ⟨g, 0, none⟩, cap, rfl, hb⟩
theorem free_live (b n x : Nat) (hn : n ≠ 0) (hn2 : n ≤ 64) (hx : x < 18446744073709551616) (w : World) (hp : PoolAt w b n x) :
    Calls Try.prog 8 #[.pointer (some ⟨b, 0, none⟩)] w fun r W' => r = .returned (.int .i64 ((n : Int) - (ones x).length)) ∧ Below w.heap.size w W' := by
  have q := fun (W : World) h0 h1 => none_live b n x hn W h0 h1
  have Q := Lib.hid q
  have q2 := fun (W : World) h => all_some b n x hn hx W h
  have Q2 := Lib.hid q2
  have HP := Lib.hid hp
  clear q q2
  obtain ⟨hb, h0, h1, f0, f1⟩ := hp
  have hL : (ones x).length ≤ 64 := by rw [ones_def]; exact onesTo_len x 64
  generalize (ones x).length = L at *
  have hw : IntKind.i64.wrap ((n : Int) - (L : Int)) = (n : Int) - L := IntWalk.i64_in _ (by omega)
  have HW := Lib.hid hw
  clear hw
  go_enter Try.func8, Try.ntmps8
  go_wp2_with (go_at_call 16; refine (Q.out _ (by assumption) (by assumption)).mono ?_; rintro e w' ⟨rfl, rfl⟩)
  have hs0 : Below w.heap.size w w ∧ w.cell? ⟨b, 0, none⟩ = some (.int .i64 (n : Nat)) := ⟨Below.refl _ _, h0⟩
  go_region_held3 (fun W => Below w.heap.size w W ∧ W.cell? ⟨b, 0, none⟩ = some (.int .i64 (n : Nat)))
    ((first | (with_reducible assumption) | exact ⟨Below.drew (Below.refl _ _), rd_drew h0⟩))
    ((go_at_call 10; rename Below w.heap.size w _ ∧ _ => hob; refine (Q2.out _ (HP.out.below hob.1)).mono ?_; rintro e w3 ⟨pp, cc, rfl, hb3⟩; have hs3 : Below w.heap.size w w3 ∧ w3.cell? ⟨b, 0, none⟩ = some (.int .i64 (n : Nat)) := ⟨hob.1.trans (hb3.mono hob.1.size), (HP.out.below (hob.1.trans (hb3.mono hob.1.size))).2.1⟩))
  all_goals
    rw [HW.out]
    go_wp2
    go_ret
    exact ⟨rfl, hs3.1⟩
end Go.Proofs.Ytlaeolmjhghaoaa
