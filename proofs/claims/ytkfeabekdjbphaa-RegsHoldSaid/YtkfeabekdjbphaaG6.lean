
/-
  Contract of regs.Swept.
-/
import Derived.Test.YtkfeabekdjbphaaG5
import Derived.Deep.WholeRow
import Derived.Deep.CutBlock
set_option linter.unusedSimpArgs false
set_option linter.unusedVariables false
namespace Go.Proofs.Ytkfeabekdjbphaa
open Go.RowKit Go.Sort Go.Shelf
attribute [local go_sem] Oper.semAt_some

/-- is one swept: its span is not empty, and its base is gone. -/
def sw (p : Nat → Bool) (c : Cp) : Bool := !(sb (lT c.m c.a) (lB c.m c.a) == 0) && p (lB c.m c.a)
def clr (c : Cp) : Cp := ⟨false, c.m, c.a⟩
def outF (p : Nat → Bool) (f : Nat → Cp) (pre : List K32) : Nat → Cp := pre.foldl (fun g x => if sw p (f x.1) then upd g x.1 (clr (f x.1)) else g) f
def cntF (p : Nat → Bool) (f : Nat → Cp) (pre : List K32) : Nat := (pre.filter fun x => sw p (f x.1)).length
theorem outF_nil (p : Nat → Bool) (f : Nat → Cp) : outF p f [] = f := rfl
theorem cntF_nil (p : Nat → Bool) (f : Nat → Cp) : cntF p f [] = 0 := rfl
theorem outF_hit {p : Nat → Bool} {f : Nat → Cp} {pre : List K32} {x : K32} (h : sw p (f x.1) = true) : outF p f (pre ++ [x]) = upd (outF p f pre) x.1 (clr (f x.1)) := by
  unfold outF; rw [List.foldl_append]; simp [h]
theorem outF_miss {p : Nat → Bool} {f : Nat → Cp} {pre : List K32} {x : K32} (h : sw p (f x.1) = false) : outF p f (pre ++ [x]) = outF p f pre := by
  unfold outF; rw [List.foldl_append]; simp [h]
theorem cntF_hit {p : Nat → Bool} {f : Nat → Cp} {pre : List K32} {x : K32} (h : sw p (f x.1) = true) : cntF p f (pre ++ [x]) = cntF p f pre + 1 := by
  unfold cntF; rw [List.filter_append]; simp [h]
theorem cntF_miss {p : Nat → Bool} {f : Nat → Cp} {pre : List K32} {x : K32} (h : sw p (f x.1) = false) : cntF p f (pre ++ [x]) = cntF p f pre := by
  unfold cntF; rw [List.filter_append]; simp [h]
theorem cntF_len (p : Nat → Bool) (f : Nat → Cp) (pre : List K32) : cntF p f pre ≤ pre.length := List.length_filter_le _ _
attribute [irreducible] outF cntF
theorem setRow_old {w : World} {o : Obj} {b : Nat} {cs : Array Value} (h : b < w.heap.size) : (w.alloc o).setRow b cs = (w.setRow b cs).alloc o := by
  simp only [World.setRow, World.alloc]
  congr 1
  apply Array.ext_getElem?
  intro i
  simp only [Array.getElem?_modify, Array.getElem?_push, Array.size_modify]
  by_cases hi : i = w.heap.size
  · subst hi
    simp only [if_true]
    rw [if_neg (by omega)]
  · rw [if_neg hi, if_neg hi]
theorem fn_nil (g : Nat) (caps : Array Value) (w : World) : (binOp .eql 36 (.func (.func g) #[] caps) Value.nilFunc).run Try.prog w = .ok (.bool false) w := by rfl
theorem setRow_at {w : World} {b : Nat} {c c' : Array Value} {t : TypeId} (h : b = w.heap.size) : (w.alloc (.cells c t)).setRow b c' = w.alloc (.cells c' t) := by subst h; exact World.setRow_alloc_new w c c' t
theorem blk_own {β : Type} (B : Nat) (t : TypeId) (cs : β → Array Value) : Own (fun s W => Blk W B (cs s) t) := fun s X Y row hs hg hrow =>
  (hg.block B hs.lt (fun e' => by obtain ⟨o, ho, hc⟩ := hrow B e'.symm; rw [show X.heap[B]? = _ from hs] at ho; cases ho; cases hc)).trans hs
theorem keeps_below {W W' : World} (hb : Below W.heap.size W W') : KeepsOthers W W' := ⟨hb.size, fun k o h _ => (hb.block k (Array.getElem?_eq_some_iff.1 h).1).trans h⟩
/-- what a round keeps: what lay below n₀, and the row of block B. -/
def KpS (n₀ B : Nat) (cs : Array Value) (t : TypeId) (X Y : World) : Prop := Below n₀ X Y ∧ (Blk X B cs t → Blk Y B cs t)
theorem KpS_t {n₀ B : Nat} {cs : Array Value} {t : TypeId} {X Y Z : World} (h : KpS n₀ B cs t X Y) (k : KpS n₀ B cs t Y Z) : KpS n₀ B cs t X Z := ⟨h.1.trans k.1, fun c => k.2 (h.2 c)⟩
theorem KpS_b {n₀ B : Nat} {cs : Array Value} {t : TypeId} {w : World} (hn : n₀ ≤ w.heap.size) (W : World) (l : Nat) (o o' : Obj) (hl : w.heap.size ≤ l) (h : W.heap[l]? = some o) (h2 : o.isCells = false) (h3 : o.isWalk = false) : KpS n₀ B cs t W (W.putObj l o') :=
  ⟨belowK_b hn W l o o' hl h h2 h3, fun c => ((grownBy_putObj' W l o').block B c.lt (fun e => by cases e; rw [show W.heap[B]? = _ from c] at h; cases h; cases h2)).trans c⟩
theorem results_swept {tmps : Array Value} {w : World} {b : Nat} {N : Int} {O : Nat → Cp} (h4 : tmps.getD 4 undef = .pointer (some ⟨b, 0, none⟩)) (h5 : tmps.getD 5 undef = .int .i64 N) (hb : Blk w b (enc O) 27) :
    (results Try.f11 tmps).run Try.prog w = .ok (.tuple #[.agg (enc O), .int .i64 N]) w := by
  have hl := run_loadVar_row (P := Try.prog) w b 27 27 (enc O) (0, 0) _ hb Try.underlying27 rfl (info_enc O)
  have h4' : tmps[4]?.getD undef = .pointer (some ⟨b, 0, none⟩) := by simpa using h4
  have h5' : tmps[5]?.getD undef = .int .i64 N := by simpa using h5
  simp [results, Try.results11, h4', h5', asAddr, hl]
theorem Blk.other {w : World} {b : Nat} {cs : Array Value} {t : TypeId} {l : Nat} {o : Obj} (h : Blk w b cs t) (hl : w.heap[l]? = some o) (h2 : o.isCells = false) (o' : Obj) : Blk (w.putObj l o') b cs t :=
  ((grownBy_putObj' w l o').block b h.lt (fun e => by cases e; rw [show w.heap[b]? = _ from h] at hl; cases hl; cases h2)).trans h
set_option maxHeartbeats 8000000 in
set_option maxRecDepth 100000 in
theorem swept_any (f : Nat → Cp) (hM : ∀ i, (f i).m < 18446744073709551616) (g : Nat) (caps : Array Value) (p : Nat → Bool) (w : World) (eg : ∀ args w, (callFunc g args).run Try.prog w = .ok (.enter g args) w)
    (hG : ∀ (b : Nat) (W : World), Below w.heap.size w W → Calls Try.prog g (#[.int .u64 (b : Nat)] ++ caps) W fun r W' => r = .returned (.bool (p b)) ∧ Below W.heap.size W W') :
    Calls Try.prog 11 #[.agg (enc f), .func (.func g) #[] caps] w fun r w' => r = .returned (.tuple #[.agg (enc (outF p f (tagTo f 33))), .int .i64 (cntF p f (tagTo f 33) : Nat)]) ∧ Below w.heap.size w w' := by
  have hz := zeroC
  have hfn := fn_nil g caps
  have HG := Lib.hid hG
  have HM := Lib.hid hM
  have hsz := Lib.hid (enc_size f)
  have Q1 := Lib.hid (fun W => tagged_any f W)
  clear hG hM
  refine (callsIn_wide (n := 3)).1 ?_
  refine callsIn_of_wp_marks Try.func11 rfl trivial ?_ rfl
  simp only [Try.ntmps11, List.size_toArray, List.length_cons, List.length_nil, Nat.reduceAdd, Nat.reduceSub, Array.replicate_succ, Array.replicate_zero, List.push_toArray, List.append_toArray, List.nil_append, List.cons_append]
  refine wpIn_wide.2 ?_
  go_upto_region 4 with (first
    | (refine wpList_load_row rfl 27 _ rfl w.heap.size rfl 27 (enc f) (0, 0) _ (((Blk.new w _ _).alloc _).alloc _) Try.underlying27 rfl (info_enc f) ?_)
    | (refine wpList_store_row rfl 27 _ _ rfl (w.heap.size + 1 + 1 + 1) (enc f) rfl rfl 27 (enc fun _ => zc) (Blk.alloc (Blk.at' (by simp)) _) (info_enc f) ((enc_size fun _ => zc).trans (enc_size f).symm) (enc_one f) ?_; rw [setRow_old (by simp), setRow_at (by simp)]))
  go_wp2_with (refine wpList_load_row rfl 27 _ rfl w.heap.size rfl 27 (enc f) (0, 0) _ (((((Blk.new w _ _).alloc _).alloc _).alloc _).alloc _) Try.underlying27 rfl (info_enc f) ?_)
  (go_at_call 6; refine (Q1.out _).mono ?_; rintro e w' ⟨rfl, rfl⟩)
  go_wp2_with (fail)
  obtain ⟨W0, hW0⟩ : ∃ W0, (((((w.alloc (.cells (enc f) 27)).alloc (.cells #[.func (.func g) #[] caps] 36)).alloc (.cells (enc fun _ => zc) 27)).alloc (.cells (enc f) 27)).alloc (.cells #[.int .i64 0] 3)).alloc (.cells (enc f) 27) = W0 := ⟨_, rfl⟩
  have hB0 : Below w.heap.size w W0 := by rw [← hW0]; exact (by repeat' (first | (with_reducible exact Below.refl _ _) | (with_reducible assumption) | (with_reducible refine Below.alloc ?_ ?_ _) | (with_reducible refine Below.setCell ?_ ?_ _) | (with_reducible refine Below.drew ?_) | (with_reducible refine below_drewN ?_ _) | go_size))
  have hz0 : W0.heap.size = w.heap.size + 1 + 1 + 1 + 1 + 1 + 1 := by rw [← hW0]; simp
  have k1 : Blk W0 (w.heap.size + 1) #[.func (.func g) #[] caps] 36 := by rw [← hW0]; exact ((((Blk.at' (by simp)).alloc _).alloc _).alloc _).alloc _
  have k2 : Blk W0 (w.heap.size + 1 + 1) (enc fun _ => zc) 27 := by rw [← hW0]; exact (((Blk.at' (by simp)).alloc _).alloc _).alloc _
  have k3 : Blk W0 (w.heap.size + 1 + 1 + 1) (enc f) 27 := by rw [← hW0]; exact ((Blk.at' (by simp)).alloc _).alloc _
  have k4 : Blk W0 (w.heap.size + 1 + 1 + 1 + 1) #[.int .i64 0] 3 := by rw [← hW0]; exact (Blk.at' (by simp)).alloc _
  have k5 : Blk W0 (w.heap.size + 1 + 1 + 1 + 1 + 1) (enc f) 27 := by rw [← hW0]; exact Blk.at' (by simp)
  rw [hW0]
  clear hW0
  refine (wpIn_wide (n := 3)).1 ?_
  refine wpIn_rangeFunc_ownH rfl (by decide) (gf := 27) (lb := #[.pointer (some ⟨w.heap.size + 1 + 1 + 1 + 1 + 1, 0, none⟩)]) rfl trivial (enters_of Try.func27 (by kernel_rfl) rfl)
    (tagged_stopsK 2 (w.heap.size + 1 + 1 + 1 + 1 + 1) f (by decide) W0 k5 (KpS w.heap.size (w.heap.size + 1 + 1 + 1 + 1 + 1) (enc f) 27) (fun A B h hc => h.2 hc)) KpS_t (KpS_b (by omega)) (Below.refl _ _) (fun _ => rfl)
    (fun pre W => Blk W (w.heap.size + 1 + 1 + 1) (enc (outF p f pre)) 27 ∧ Blk W (w.heap.size + 1 + 1 + 1 + 1) #[.int .i64 (cntF p f pre : Nat)] 3 ∧ Blk W (w.heap.size + 1) #[.func (.func g) #[] caps] 36 ∧ Blk W (w.heap.size + 1 + 1) (enc fun _ => zc) 27 ∧ Below w.heap.size w W)
    (fun _ _ _ => False)
    (OwnFrom.and (Own.from (blk_own _ _ _) _) (OwnFrom.and (Own.from (blk_own _ _ _) _) (OwnFrom.and (Own.from (blk_own _ _ (fun _ => _)) _) (OwnFrom.and (Own.from (blk_own _ _ (fun _ => _)) _) (ownFrom_below (Nat.le_refl _) (by omega))))))
    (fun _ _ _ _ _ hs _ _ => hs)
    ⟨by rw [outF_nil]; exact k3, by rw [cntF_nil]; exact k4, k1, k2, hB0⟩
    (fun x a' W => ∃ Bx, w.heap.size + 1 + 1 + 1 + 1 < Bx ∧ Blk W Bx #[.bool (f x.1).t, .int .u64 ((f x.1).m : Nat), .int .u64 ((f x.1).a : Nat)] 24 ∧ a' = { tmps := #[.agg (enc f), .func (.func g) #[] caps, .pointer (some ⟨w.heap.size, 0, none⟩), .pointer (some ⟨w.heap.size + 1, 0, none⟩), .pointer (some ⟨w.heap.size + 1 + 1, 0, none⟩), .int .i64 0, .pointer (some ⟨w.heap.size + 1 + 1 + 1, 0, none⟩), .pointer (some ⟨w.heap.size + 1 + 1 + 1 + 1, 0, none⟩), .int .i64 (x.1 : Nat), .pointer (some ⟨Bx, 0, none⟩), .agg (enc f), .func (.func g) #[] caps, .bool false, undef, undef, .agg (enc f), .func (.func 27) #[] #[.pointer (some ⟨w.heap.size + 1 + 1 + 1 + 1 + 1, 0, none⟩)], .int .i64 (x.1 : Nat), capV (f x.1), undef, undef, undef, undef, undef, undef, undef, undef, undef, undef, undef, undef, undef, undef, undef, undef, undef, undef, undef, undef, undef, undef, undef, undef], defers := [] })
    (fun x a' s X Y row hs hg hr => by obtain ⟨Bx, h1, h2, h3⟩ := hs; exact ⟨Bx, h1, (Own.from (blk_own Bx 24 (fun (_ : Unit) => #[.bool (f x.1).t, .int .u64 ((f x.1).m : Nat), .int .u64 ((f x.1).a : Nat)])) W0.heap.size) () X Y row h2 hg hr, h3⟩)
    ?assign ?body ?done ?stop
  case assign =>
    rintro l pre x W K ⟨hO, hN, hF, hR, hB⟩ hK
    gi_wp2
    exact hK _ _ ((KeepsOthers.alloc _ _).from _) ⟨(Below.refl _ W).alloc hB.size _, fun h => h.alloc _⟩ ⟨hO.alloc _, hN.alloc _, hF.alloc _, hR.alloc _, hB.alloc hB.size _⟩ ⟨W.heap.size, hN.lt, Blk.new W _ _, rfl⟩
  case body =>
    rintro l pre ⟨k, hk⟩ a' W hl ⟨r, hr⟩ ⟨hO, hN, hF, hR, hB⟩ ⟨Bx, hBx, hX, rfl⟩ hlt
    have hoH := Lib.hid (fun h => outF_hit (p := p) (f := f) (pre := pre) (x := ⟨k, hk⟩) h)
    have hoM := Lib.hid (fun h => outF_miss (p := p) (f := f) (pre := pre) (x := ⟨k, hk⟩) h)
    have hcH := Lib.hid (fun h => cntF_hit (p := p) (f := f) (pre := pre) (x := ⟨k, hk⟩) h)
    have hcM := Lib.hid (fun h => cntF_miss (p := p) (f := f) (pre := pre) (x := ⟨k, hk⟩) h)
    have hcl := cntF_len p f pre
    dsimp only [capV] at hoH hoM hcH hcM hX ⊢
    generalize outF p f pre = O at *
    generalize cntF p f pre = N at *
    have hMk := HM.out k
    generalize f k = c at *
    obtain ⟨t, m, a⟩ := c
    dsimp only [clr, sw] at hoH hoM hcH hcM hX hMk ⊢
    have c0 : W.cell? ⟨Bx, 0, none⟩ = some (.bool t) := hX.cell 0
    have c1 : W.cell? ⟨Bx, 1, none⟩ = some (.int .u64 (m : Nat)) := hX.cell 1
    have c2 : W.cell? ⟨Bx, 2, none⟩ = some (.int .u64 (a : Nat)) := hX.cell 2
    have cg : W.cell? ⟨w.heap.size + 1, 0, none⟩ = some (.func (.func g) #[] caps) := hF.cell 0
    have r0 := cell_regrown c0
    have r1 := cell_regrown c1
    have r2 := cell_regrown c2
    have rg := cell_regrown cg
    have Q2 := Lib.hid (fun W => alength_any t m a hMk W)
    have Q3 := Lib.hid (fun W => abase_any t m a hMk W)
    generalize hS : sb (lT m a) (lB m a) = S at *
    generalize lB m a = L at *
    gi_wp2
    cases hz7 : ((S : Int) == 0)
    · refine wpIn_region_quiet_round (by kernel_rfl) (by kernel_rfl) (by kernel_rfl) ?_
      (repeat (go_big_quiet_step (first | (go_at_call 9; exact Calls.regrown_of (Q2.out _)) | (go_at_call 31; exact Calls.regrown_of (Q3.out _)) | (exact Calls.regrown_of (HG.out _ _ (hB.trans ((below_regrown W _ _).mono hB.size)))))))
      refine wpQuiet_nil ?_
      intro W7 hW7
      obtain ⟨pq, hpq⟩ := hW7
      have hb7 : Below W.heap.size W W7 := by rw [hpq]; exact below_regrown _ _ _
      clear hpq r0 r1 r2 rg c0 c1 c2 cg
      have hO7 := hO.below hb7
      have hN7 := hN.below hb7
      have hF7 := hF.below hb7
      have hR7 := hR.below hb7
      have hX7 := hX.below hb7
      have hB7 := hB.trans (hb7.mono hB.size)
      have hK7 := keeps_below hb7
      have hsn : (S == 0) = false := by
        cases h : (S == 0)
        · rfl
        · have : S = 0 := by simpa using h
          subst this; simp at hz7
      have hKp7 : KpS w.heap.size (w.heap.size + 1 + 1 + 1 + 1 + 1) (enc f) 27 W W7 := ⟨hb7.mono hB.size, fun h => h.below hb7⟩
      cases hpL : p L
      · have eO := hoM.out (by rw [hsn, hpL]; rfl)
        have eN := hcM.out (by rw [hsn, hpL]; rfl)
        gi_wp2
        exact ⟨hK7.from _, hKp7, by rw [eO]; exact hO7, by rw [eN]; exact hN7, hF7, hR7, hB7⟩
      · have eO := hoH.out (by rw [hsn, hpL]; rfl)
        have eN := hcH.out (by rw [hsn, hpL]; rfl)
        have hN33 : N < 33 := by omega
        have n0 : W7.cell? ⟨w.heap.size + 1 + 1 + 1 + 1, 0, none⟩ = some (.int .i64 (N : Nat)) := hN7.cell 0
        have nf := hN7.frozen 0
        have d0 : W7.cell? ⟨Bx, 0, none⟩ = some (.bool t) := hX7.cell 0
        have d1 : W7.cell? ⟨Bx, 1, none⟩ = some (.int .u64 (m : Nat)) := hX7.cell 1
        have d2 : W7.cell? ⟨Bx, 2, none⟩ = some (.int .u64 (a : Nat)) := hX7.cell 2
        have hne : Bx ≠ w.heap.size + 1 + 1 + 1 + 1 := by omega
        cases hk32 : ((k : Int) == 32)
        · have hk31 : k < 32 := by
            have : k ≠ 32 := fun e => by subst e; simp at hk32
            omega
          gi_wp2_with (fail)
          (refine ⟨trivial, ?_⟩; gi_at_call 14; refine (CallsIn.inRound l (callsIn_wide.2 (aclear_any t m a _))).mono ?_; rintro e w8 ⟨rfl, hb8⟩; have hO8 : Blk w8 (w.heap.size + 1 + 1 + 1) (enc O) 27 := (hO7.keep (by simp) _).below hb8; have hN8 : Blk w8 (w.heap.size + 1 + 1 + 1 + 1) #[.int .i64 ((N + 1 : Nat) : Int)] 3 := (hN7.set 0 (.int .i64 ((N + 1 : Nat) : Int))).below hb8; have hF8 : Blk w8 (w.heap.size + 1) #[.func (.func g) #[] caps] 36 := (hF7.keep (by simp) _).below hb8; have hR8 : Blk w8 (w.heap.size + 1 + 1) (enc fun _ => zc) 27 := (hR7.keep (by simp) _).below hb8; have hB8 : Below w.heap.size w w8 := (Below.setCell (p := ⟨w.heap.size + 1 + 1 + 1 + 1, 0, none⟩) hB7 (by show w.heap.size ≤ w.heap.size + 1 + 1 + 1 + 1; omega) _).trans (hb8.mono (by simpa using hB7.size)); have hK8 := (hK7.trans (KeepsOthers.setCell W7 _ _)).trans (keeps_below hb8); have x0 := (hO8.cell (k * 3)).trans (enc_t O k (by omega)); have x1 := (hO8.cell (k * 3 + 1)).trans (enc_m O k (by omega)); have x2 := (hO8.cell (k * 3 + 2)).trans (enc_a O k (by omega)); have y0 := hO8.frozen (k * 3); have y1 := hO8.frozen (k * 3 + 1); have y2 := hO8.frozen (k * 3 + 2))
          gi_wp2
          have hKB : Below w.heap.size W w8 := (Below.setCell (p := ⟨w.heap.size + 1 + 1 + 1 + 1, 0, none⟩) (hb7.mono hB.size) (by show w.heap.size ≤ w.heap.size + 1 + 1 + 1 + 1; omega) _).trans (hb8.mono (by simpa using hB7.size))
          have l3 : w.heap.size ≤ w.heap.size + 1 + 1 + 1 := by omega
          refine ⟨(((hK8.trans (KeepsOthers.setCell _ _ _)).trans (KeepsOthers.setCell _ _ _)).trans (KeepsOthers.setCell _ _ _)).from _, ⟨Below.setCell (Below.setCell (Below.setCell hKB l3 _) l3 _) l3 _, fun h => (((((h.below hb7).keep (by simp; try omega) _).below hb8).keep (by simp; try omega) _).keep (by simp; try omega) _).keep (by simp; try omega) _⟩, ?_, ?_, ((hF8.keep (by simp; try omega) _).keep (by simp; try omega) _).keep (by simp; try omega) _, ((hR8.keep (by simp; try omega) _).keep (by simp; try omega) _).keep (by simp; try omega) _, Below.setCell (Below.setCell (Below.setCell hB8 l3 _) l3 _) l3 _⟩
          · rw [eO]; exact hO8.put k (by omega) ⟨false, m, a⟩
          · rw [eN]; exact ((hN8.keep (by simp; try omega) _).keep (by simp; try omega) _).keep (by simp; try omega) _
        · have e32 : (k : Int) = 32 := by simpa using hk32
          obtain rfl : k = 32 := by omega
          gi_wp2_with (fail)
          (refine ⟨trivial, ?_⟩; gi_at_call 14; refine (CallsIn.inRound l (callsIn_wide.2 (aclear_any t m a _))).mono ?_; rintro e w8 ⟨rfl, hb8⟩; have hO8 : Blk w8 (w.heap.size + 1 + 1 + 1) (enc O) 27 := (hO7.keep (by simp) _).below hb8; have hN8 : Blk w8 (w.heap.size + 1 + 1 + 1 + 1) #[.int .i64 ((N + 1 : Nat) : Int)] 3 := (hN7.set 0 (.int .i64 ((N + 1 : Nat) : Int))).below hb8; have hF8 : Blk w8 (w.heap.size + 1) #[.func (.func g) #[] caps] 36 := (hF7.keep (by simp) _).below hb8; have hR8 : Blk w8 (w.heap.size + 1 + 1) (enc fun _ => zc) 27 := (hR7.keep (by simp) _).below hb8; have hB8 : Below w.heap.size w w8 := (Below.setCell (p := ⟨w.heap.size + 1 + 1 + 1 + 1, 0, none⟩) hB7 (by show w.heap.size ≤ w.heap.size + 1 + 1 + 1 + 1; omega) _).trans (hb8.mono (by simpa using hB7.size)); have hK8 := (hK7.trans (KeepsOthers.setCell W7 _ _)).trans (keeps_below hb8); have x0 := (hO8.cell (32 * 3)).trans (enc_t O 32 (by omega)); have x1 := (hO8.cell (32 * 3 + 1)).trans (enc_m O 32 (by omega)); have x2 := (hO8.cell (32 * 3 + 2)).trans (enc_a O 32 (by omega)); have y0 := hO8.frozen (32 * 3); have y1 := hO8.frozen (32 * 3 + 1); have y2 := hO8.frozen (32 * 3 + 2))
          gi_wp2
          have hKB : Below w.heap.size W w8 := (Below.setCell (p := ⟨w.heap.size + 1 + 1 + 1 + 1, 0, none⟩) (hb7.mono hB.size) (by show w.heap.size ≤ w.heap.size + 1 + 1 + 1 + 1; omega) _).trans (hb8.mono (by simpa using hB7.size))
          have l3 : w.heap.size ≤ w.heap.size + 1 + 1 + 1 := by omega
          refine ⟨(((hK8.trans (KeepsOthers.setCell _ _ _)).trans (KeepsOthers.setCell _ _ _)).trans (KeepsOthers.setCell _ _ _)).from _, ⟨Below.setCell (Below.setCell (Below.setCell hKB l3 _) l3 _) l3 _, fun h => (((((h.below hb7).keep (by simp; try omega) _).below hb8).keep (by simp; try omega) _).keep (by simp; try omega) _).keep (by simp; try omega) _⟩, ?_, ?_, ((hF8.keep (by simp; try omega) _).keep (by simp; try omega) _).keep (by simp; try omega) _, ((hR8.keep (by simp; try omega) _).keep (by simp; try omega) _).keep (by simp; try omega) _, Below.setCell (Below.setCell (Below.setCell hB8 l3 _) l3 _) l3 _⟩
          · rw [eO]; exact hO8.put 32 (by omega) ⟨false, m, a⟩
          · rw [eN]; exact ((hN8.keep (by simp; try omega) _).keep (by simp; try omega) _).keep (by simp; try omega) _
    · refine wpIn_region_quiet_round (by kernel_rfl) (by kernel_rfl) (by kernel_rfl) ?_
      (repeat (go_big_quiet_step (first | (go_at_call 9; exact Calls.regrown_of (Q2.out _)))))
      refine wpQuiet_nil ?_
      intro W7 hW7
      obtain ⟨pq, hpq⟩ := hW7
      have hb7 : Below W.heap.size W W7 := by rw [hpq]; exact below_regrown _ _ _
      clear hpq r0 r1 r2 rg c0 c1 c2 cg
      have hsn : (S == 0) = true := by
        have : (S : Int) = 0 := by simpa using hz7
        have : S = 0 := by omega
        subst this; rfl
      have eO := hoM.out (by rw [hsn]; rfl)
      have eN := hcM.out (by rw [hsn]; rfl)
      gi_wp2
      exact ⟨(keeps_below hb7).from _, ⟨hb7.mono hB.size, fun h => h.below hb7⟩, by rw [eO]; exact hO.below hb7, by rw [eN]; exact hN.below hb7, hF.below hb7, hR.below hb7, hB.trans (hb7.mono hB.size)⟩
  case done =>
    rintro D ys W hD rfl ⟨hO, hN, hF, hR, hB⟩ hK
    have n0 : W.cell? ⟨w.heap.size + 1 + 1 + 1 + 1, 0, none⟩ = some (.int .i64 (cntF p f (tagTo f 33) : Nat)) := hN.cell 0
    obtain ⟨O, hOe⟩ : ∃ O, outF p f (tagTo f 33) = O := ⟨_, rfl⟩
    obtain ⟨N, hNe⟩ : ∃ N, cntF p f (tagTo f 33) = N := ⟨_, rfl⟩
    rw [hOe] at hO
    rw [hNe] at hN n0
    have r0 := cell_regrown n0
    go_wp2_with (fail)
    have hzz := (enc_size fun _ => zc).trans (enc_size O).symm
    have n1 : (W.drew.setRow (w.heap.size + 1 + 1) (enc O)).cell? ⟨w.heap.size + 1 + 1 + 1 + 1, 0, none⟩ = some (.int .i64 (N : Nat)) := (cell_setRow_other _ _ _ _ (by simp; try omega)).trans n0
    have hEnd : ∀ (a : Act), a.defers = [{ target := .collected D, args := #[] }] → a.tmps.getD 4 undef = .pointer (some ⟨w.heap.size + 1 + 1, 0, none⟩) → a.tmps.getD 5 undef = .int .i64 (N : Nat) → bodyPostM Fence.wide 3 Try.prog Try.f11 (fun r w' => r = .returned (.tuple #[.agg (enc (outF p f (tagTo f 33))), .int .i64 (cntF p f (tagTo f 33) : Nat)]) ∧ Below w.heap.size w w') .ret a (W.drew.setRow (w.heap.size + 1 + 1) (enc O)) := by
      intro a h1 h4 h5
      rw [hOe, hNe]
      have hDne : D ≠ w.heap.size + 1 + 1 := by omega
      have hKD : (W.drew.setRow (w.heap.size + 1 + 1) (enc O)).heap[D]? = some (.deferred (some [])) := (setRow_other _ _ _ _ hDne).trans hK
      show LeavesInM _ _ _ _ _ _ a.defers _ _
      rw [h1]
      refine ⟨by simp, .inl ⟨_, _, rfl, run_takeDeferred hKD, ?_⟩⟩
      have hb2 : Blk (W.drew.setRow (w.heap.size + 1 + 1) (enc O)) (w.heap.size + 1 + 1) (enc O) 27 := hR.drew.row _
      have hB2 : Below w.heap.size w (W.drew.setRow (w.heap.size + 1 + 1) (enc O)) := below_row (Below.drew hB) (by omega)
      exact ⟨_, results_swept h4 h5 (hb2.other hKD rfl _), rfl, hB2.trans (belowK_b (w := W0) (by omega) _ D _ _ hD hKD rfl rfl)⟩
    refine wp_region_any (by kernel_rfl) ?_
    change wpAny _ _ _ _ _ _ _ (World.drew _)
    refine wpAny_ready (rs := [0, 1]) (by kernel_rfl) (by simp) ?_
    refine AllReady.cons rfl (fun K hK => ?_) (AllReady.cons rfl (fun K hK => ?_) AllReady.nil)
    · rw [if_pos (by kernel_rfl)]
      refine wp_load_row 27 _ rfl (w.heap.size + 1 + 1 + 1) rfl 27 (enc O) (0, 0) _ hO.drew Try.underlying27 rfl (info_enc O) ?_
      simp only [Act.put, List.setIfInBounds_toArray, List.set_cons_succ, List.set_cons_zero]
      refine hK _ _ ?_
      clear hK K
      refine wpAny_ready (rs := [1, 2]) (by kernel_rfl) (by simp) ?_
      refine AllReady.cons rfl (fun K hK => ?_) (AllReady.cons rfl (fun K hK => ?_) AllReady.nil)
      · go_simp
        refine hK _ _ ?_
        clear hK K
        refine wpAny_ready (rs := [2]) (by kernel_rfl) (by simp) ?_
        refine AllReady.cons rfl (fun K hK => ?_) AllReady.nil
        rw [if_pos (by kernel_rfl)]
        refine wp_store_row 27 _ _ rfl (w.heap.size + 1 + 1) (enc O) rfl rfl 27 (enc fun _ => zc) hR.drew (info_enc O) hzz (enc_one O) ?_
        simp only [Act.put]
        refine hK _ _ ?_
        clear hK K
        refine wpAny_ready (rs := [3]) (by kernel_rfl) (by simp) ?_
        refine AllReady.cons rfl (fun K hK => ?_) AllReady.nil
        go_simp
        refine hK _ _ ?_
        clear hK K
        refine wpAny_done (by kernel_rfl) ?_ _
        go_wp2
        refine hEnd _ ?_ ?_ ?_ <;> rfl
      · rw [if_pos (by kernel_rfl)]
        refine wp_store_row 27 _ _ rfl (w.heap.size + 1 + 1) (enc O) rfl rfl 27 (enc fun _ => zc) hR.drew (info_enc O) hzz (enc_one O) ?_
        simp only [Act.put]
        refine hK _ _ ?_
        clear hK K
        refine wpAny_ready (rs := [1]) (by kernel_rfl) (by simp) ?_
        refine AllReady.cons rfl (fun K hK => ?_) AllReady.nil
        go_simp
        refine hK _ _ ?_
        clear hK K
        refine wpAny_ready (rs := [3]) (by kernel_rfl) (by simp) ?_
        refine AllReady.cons rfl (fun K hK => ?_) AllReady.nil
        go_simp
        refine hK _ _ ?_
        clear hK K
        refine wpAny_done (by kernel_rfl) ?_ _
        go_wp2
        refine hEnd _ ?_ ?_ ?_ <;> rfl
    · go_simp
      refine hK _ _ ?_
      clear hK K
      refine wpAny_ready (rs := [0]) (by kernel_rfl) (by simp) ?_
      refine AllReady.cons rfl (fun K hK => ?_) AllReady.nil
      rw [if_pos (by kernel_rfl)]
      refine wp_load_row 27 _ rfl (w.heap.size + 1 + 1 + 1) rfl 27 (enc O) (0, 0) _ hO.drew Try.underlying27 rfl (info_enc O) ?_
      simp only [Act.put, List.setIfInBounds_toArray, List.set_cons_succ, List.set_cons_zero]
      refine hK _ _ ?_
      clear hK K
      refine wpAny_ready (rs := [2]) (by kernel_rfl) (by simp) ?_
      refine AllReady.cons rfl (fun K hK => ?_) AllReady.nil
      rw [if_pos (by kernel_rfl)]
      refine wp_store_row 27 _ _ rfl (w.heap.size + 1 + 1) (enc O) rfl rfl 27 (enc fun _ => zc) hR.drew (info_enc O) hzz (enc_one O) ?_
      simp only [Act.put]
      refine hK _ _ ?_
      clear hK K
      refine wpAny_ready (rs := [3]) (by kernel_rfl) (by simp) ?_
      refine AllReady.cons rfl (fun K hK => ?_) AllReady.nil
      go_simp
      refine hK _ _ ?_
      clear hK K
      refine wpAny_done (by kernel_rfl) ?_ _
      go_wp2
      refine hEnd _ ?_ ?_ ?_ <;> rfl
  case stop =>
    rintro D c pre W _ _ h _
    exact h.elim
end Go.Proofs.Ytkfeabekdjbphaa
