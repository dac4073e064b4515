
/-
  Contract of the reference's Swept.
-/
import Derived.Test.YtkfeabekdjbphaaGC
set_option linter.unusedSimpArgs false
set_option linter.unusedVariables false
namespace Go.Proofs.Ytkfeabekdjbphaa
open Go.RowKit Go.Sort

/-- swept below k. -/
def sk (p : Nat → Bool) (f : Nat → Cp) (k : Nat) : Nat → Cp := fun i => if hit p f i && decide (i < k) then clr (f i) else f i
def ck (p : Nat → Bool) (f : Nat → Cp) (k : Nat) : Nat := ((List.range k).filter fun i => hit p f i).length
theorem hit_zero (p : Nat → Bool) (f : Nat → Cp) : hit p f 0 = false := by unfold hit; simp
theorem sk_one (p : Nat → Bool) (f : Nat → Cp) : enc (sk p f 1) = enc f := enc_ext _ _ fun i hi => by
  unfold sk
  rcases Nat.eq_zero_or_pos i with h | h
  · subst h; rw [hit_zero]; simp
  · rw [decide_eq_false (by omega : ¬ i < 1)]; simp
theorem ck_one (p : Nat → Bool) (f : Nat → Cp) : ck p f 1 = 0 := by
  unfold ck
  rw [show List.range 1 = [0] from rfl]; simp [hit_zero]
theorem sk_here (p : Nat → Bool) (f : Nat → Cp) (k : Nat) : sk p f k k = f k := by unfold sk; simp
theorem sk_miss {p : Nat → Bool} {f : Nat → Cp} {k : Nat} (h : hit p f k = false) : enc (sk p f (k + 1)) = enc (sk p f k) := enc_ext _ _ fun i hi => by
  unfold sk
  by_cases e : i = k
  · subst e; rw [h]; simp
  · have : decide (i < k + 1) = decide (i < k) := by simp; omega
    rw [this]
theorem sk_hit {p : Nat → Bool} {f : Nat → Cp} {k : Nat} (h : hit p f k = true) : enc (sk p f (k + 1)) = enc (upd (sk p f k) k (clr (f k))) := enc_ext _ _ fun i hi => by
  by_cases e : i = k
  · subst e; rw [upd_same]; unfold sk; rw [h]; simp
  · rw [upd_ne _ _ _ _ e]
    unfold sk
    have : decide (i < k + 1) = decide (i < k) := by simp; omega
    rw [this]
theorem ck_miss {p : Nat → Bool} {f : Nat → Cp} {k : Nat} (h : hit p f k = false) : ck p f (k + 1) = ck p f k := by
  unfold ck; rw [List.range_succ, List.filter_append]; simp [h]
theorem ck_hit {p : Nat → Bool} {f : Nat → Cp} {k : Nat} (h : hit p f k = true) : ck p f (k + 1) = ck p f k + 1 := by
  unfold ck; rw [List.range_succ, List.filter_append]; simp [h]
theorem ck_le (p : Nat → Bool) (f : Nat → Cp) (k : Nat) : ck p f k ≤ k := by
  unfold ck; have := List.length_filter_le (fun i => hit p f i) (List.range k); simpa using this
theorem sk_end (p : Nat → Bool) (f : Nat → Cp) : enc (sk p f 33) = enc (swF p f) := enc_ext _ _ fun i hi => by
  unfold sk swF; simp [hi]
theorem ck_end (p : Nat → Bool) (f : Nat → Cp) : ck p f 33 = swN p f := rfl
theorem enc_untag (g : Nat → Cp) (k : Nat) (hk : k < 33) : (enc g).setIfInBounds (k * 3) (.bool false) = enc (upd g k (clr (g k))) := by
  refine enc_of _ _ (by simp [enc_size]) fun j hj r hr => ?_
  have hz : (enc g).size = 99 := enc_size g
  have hx := enc_at g j r hj hr
  simp only [Array.getElem?_setIfInBounds, hz]
  by_cases e : j = k
  · subst e
    rw [upd_same]
    rcases (show r = 0 ∨ r = 1 ∨ r = 2 by omega) with rfl | rfl | rfl
    · rw [if_pos (by omega), if_pos (by omega)]; rfl
    · rw [if_neg (by omega), hx]; rfl
    · rw [if_neg (by omega), hx]; rfl
  · rw [upd_ne _ _ _ _ e, ← hx, if_neg (by omega)]
theorem hit_eq {p : Nat → Bool} {f : Nat → Cp} {k : Nat} (h1 : 1 ≤ k) (h2 : k < 33) : hit p f k = ((f k).t && sw p (f k)) := by unfold hit; simp [h1, h2]
attribute [irreducible] sk ck
theorem results_rswept {tmps : Array Value} {w : World} {b : Nat} {N : Int} {O : Nat → Cp} (h4 : tmps.getD 6 undef = .pointer (some ⟨b, 0, none⟩)) (h5 : tmps.getD 7 undef = .int .i64 N) (hb : Blk w b (enc O) 46) :
    (results Try.f21 tmps).run Try.prog w = .ok (.tuple #[.agg (enc O), .int .i64 N]) w := by
  have hl := run_loadVar_row (P := Try.prog) w b 46 46 (enc O) (0, 0) _ hb Try.underlying46 rfl (info_encR O)
  have h4' : tmps[6]?.getD undef = .pointer (some ⟨b, 0, none⟩) := by simpa using h4
  have h5' : tmps[7]?.getD undef = .int .i64 N := by simpa using h5
  simp [results, Try.results21, h4', h5', asAddr, hl]
set_option maxHeartbeats 8000000 in
set_option maxRecDepth 100000 in
theorem rswept_any (f : Nat → Cp) (x y : Nat) (w : World) :
    Calls Try.prog 21 #[.agg (enc f), .int .u64 (x : Nat), .int .u64 (y : Nat)] w fun r w' => r = .returned (.tuple #[.agg (enc (swF (rng' x y) f)), .int .i64 (swN (rng' x y) f : Nat)]) ∧ Below w.heap.size w w' := by
  have hz := zeroR
  rw [← sk_end, ← ck_end]
  obtain ⟨p, hp⟩ : ∃ p, rng' x y = p := ⟨_, rfl⟩
  have HB := Lib.hid (fun (c : Cp) (W : World) => begins_any c.t c.m c.a x y W)
  have HS := Lib.hid (fun (c : Cp) => bg_sw x y c)
  rw [hp] at HS ⊢
  clear hp
  go_enter Try.func21, Try.ntmps21
  go_wp2_with (fail)
  go_loopw [8, 9] (fun n i wr => ∃ k : Nat, 1 ≤ k ∧ k ≤ 32 ∧ i = .int .i64 (k : Nat) ∧ n = .int .i64 (ck p f k : Nat) ∧ Hid (Blk wr w.heap.size (enc (sk p f k)) 46 ∧ Blk wr (w.heap.size + 1) (enc fun _ => zc) 46 ∧ Below w.heap.size w wr))
    (fun _ i _ => 32 - (intOf i).toNat)
  case atStart => exact ⟨1, by omega, by omega, rfl, by rw [ck_one]; rfl, Lib.hid ⟨by rw [sk_one]; exact (Blk.new _ _ _).alloc _, Blk.at' (by simp), (by repeat' (first | (with_reducible exact Below.refl _ _) | (with_reducible assumption) | (with_reducible refine Below.alloc ?_ ?_ _) | (with_reducible refine Below.setCell ?_ ?_ _) | (with_reducible refine Below.drew ?_) | (with_reducible refine below_drewN ?_ _) | go_size))⟩⟩
  case round =>
    obtain ⟨k, hk1, hk, rfl, rfl, hrel⟩ := hrel
    have Hrel := Lib.hid hrel.out
    have hck := ck_le p f k
    clear hrel
    have c0 := (Hrel.out.1.cell (k * 3)).trans (enc_t (sk p f k) k (by omega))
    have c1 := (Hrel.out.1.cell (k * 3 + 1)).trans (enc_m (sk p f k) k (by omega))
    have c2 := (Hrel.out.1.cell (k * 3 + 2)).trans (enc_a (sk p f k) k (by omega))
    have y0 := Hrel.out.1.frozen (k * 3)
    rw [sk_here] at c0 c1 c2
    have he := hit_eq (p := p) (f := f) hk1 (show k < 33 by omega)
    have hsw := HS.out (f k)
    have Q1 := Lib.hid (HB.out (f k))
    have sM := Lib.hid (fun h => sk_miss (p := p) (f := f) (k := k) h)
    have sH := Lib.hid (fun h => sk_hit (p := p) (f := f) (k := k) h)
    have kM := Lib.hid (fun h => ck_miss (p := p) (f := f) (k := k) h)
    have kH := Lib.hid (fun h => ck_hit (p := p) (f := f) (k := k) h)
    have hput := Lib.hid (enc_untag (sk p f k) k (by omega))
    rw [sk_here] at hput
    rw [← hsw] at he
    by_cases hk32 : k < 32
    · have g1 : decide ((k : Int) < (32 : Int)) = true := decide_eq_true (by omega)
      cases ht : (f k).t
      · rw [ht] at c0 he
        have hm : hit p f k = false := by rw [he]; rfl
        clear ht he hsw Q1
        go_wp2
        go_roundw
        case rel => exact ⟨k + 1, by omega, by omega, by first | rfl | simp, by rw [kM.out hm], Lib.hid ⟨by rw [sM.out hm]; exact Hrel.out.1, Hrel.out.2.1, Hrel.out.2.2⟩⟩
        case measure => simp [intOf]; omega
      · rw [ht] at c0 he Q1
        cases hb : bg x y (f k).m (f k).a
        · rw [hb] at he Q1
          have hm : hit p f k = false := by rw [he]; rfl
          clear ht he hsw hb
          go_wp2_with (fail)
          (go_at_call 33; refine (Q1.out _).mono ?_; rintro e w1 ⟨rfl, hb1⟩)
          go_wp2
          go_roundw
          case rel => exact ⟨k + 1, by omega, by omega, by first | rfl | simp, by rw [kM.out hm], Lib.hid ⟨by rw [sM.out hm]; exact Hrel.out.1.below hb1, Hrel.out.2.1.below hb1, Hrel.out.2.2.trans (hb1.mono Hrel.out.2.2.size)⟩⟩
          case measure => simp [intOf]; omega
        · rw [hb] at he Q1
          have hm : hit p f k = true := by rw [he]; rfl
          clear ht he hsw hb
          go_wp2_with (fail)
          (go_at_call 33; refine (Q1.out _).mono ?_; rintro e w1 ⟨rfl, hb1⟩)
          have hO := Hrel.out.1.below hb1
          have d0 := (hO.cell (k * 3)).trans (enc_t (sk p f k) k (by omega))
          have e0 := hO.frozen (k * 3)
          go_wp2
          go_roundw
          case rel => exact ⟨k + 1, by omega, by omega, by first | rfl | simp, by rw [kH.out hm]; simp, Lib.hid ⟨by rw [sH.out hm, ← hput.out]; exact hO.set _ _, (Hrel.out.2.1.below hb1).keep (by simp) _, Below.setCell (p := ⟨w.heap.size, k * 3, none⟩) (Hrel.out.2.2.trans (hb1.mono Hrel.out.2.2.size)) (Nat.le_refl _) _⟩⟩
          case measure => simp [intOf]; omega
    · obtain rfl : k = 32 := by omega
      simp only [show 32 * 3 = 96 from rfl, show 96 + 1 = 97 from rfl, show 96 + 2 = 98 from rfl] at c0 c1 c2 y0 hput
      have hzz := fun g : Nat → Cp => (enc_size fun _ => zc).trans (enc_size g).symm
      have HZZ := Lib.hid hzz
      clear hzz
      cases ht : (f 32).t
      · rw [ht] at c0 he
        have hm : hit p f 32 = false := by rw [he]; rfl
        have eO : enc (sk p f 33) = enc (sk p f 32) := sM.out hm
        have eN : ck p f 33 = ck p f 32 := kM.out hm
        clear ht he hsw Q1
        rw [← eO] at Hrel
        rw [← eN] at *
        clear eO eN
        go_wp2_with ((with_reducible refine wpList_at ?_); first
          | (refine wpList_load_row rfl 46 _ rfl w.heap.size rfl _ (enc (sk p f 33)) _ _ Hrel.out.1 Try.underlying46 rfl (info_encR _) ?_)
          | (refine wpList_store_row rfl 46 _ _ rfl (w.heap.size + 1) (enc (sk p f 33)) rfl rfl 46 (enc fun _ => zc) Hrel.out.2.1 (info_encR _) (HZZ.out _) (enc_one _) ?_))
        refine bodyPost_ret (v := .tuple #[.agg (enc (sk p f 33)), .int .i64 (ck p f 33 : Nat)]) ?_ ?_ ?_
        · exact results_rswept rfl rfl (Hrel.out.2.1.row _)
        · rfl
        · exact ⟨rfl, below_row Hrel.out.2.2 (by omega)⟩
      · rw [ht] at c0 he Q1
        cases hb : bg x y (f 32).m (f 32).a
        · rw [hb] at he Q1
          have hm : hit p f 32 = false := by rw [he]; rfl
          have eO : enc (sk p f 33) = enc (sk p f 32) := sM.out hm
          have eN : ck p f 33 = ck p f 32 := kM.out hm
          clear ht he hsw hb
          rw [← eO] at Hrel
          rw [← eN] at *
          clear eO eN
          go_wp2_with (fail)
          (go_at_call 33; refine (Q1.out _).mono ?_; rintro e w1 ⟨rfl, hb1⟩)
          have hO := Hrel.out.1.below hb1
          have hR := Hrel.out.2.1.below hb1
          go_wp2_with ((with_reducible refine wpList_at ?_); first
            | (refine wpList_load_row rfl 46 _ rfl w.heap.size rfl _ (enc (sk p f 33)) _ _ hO Try.underlying46 rfl (info_encR _) ?_)
            | (refine wpList_store_row rfl 46 _ _ rfl (w.heap.size + 1) (enc (sk p f 33)) rfl rfl 46 (enc fun _ => zc) hR (info_encR _) (HZZ.out _) (enc_one _) ?_))
          refine bodyPost_ret (v := .tuple #[.agg (enc (sk p f 33)), .int .i64 (ck p f 33 : Nat)]) ?_ ?_ ?_
          · exact results_rswept rfl rfl (hR.row _)
          · rfl
          · exact ⟨rfl, below_row (Hrel.out.2.2.trans (hb1.mono Hrel.out.2.2.size)) (by omega)⟩
        · rw [hb] at he Q1
          have hm : hit p f 32 = true := by rw [he]; rfl
          have eO : enc (sk p f 33) = enc (upd (sk p f 32) 32 (clr (f 32))) := sH.out hm
          have eN : ck p f 33 = ck p f 32 + 1 := kH.out hm
          clear ht he hsw hb
          rw [← hput.out] at eO
          have EO := Lib.hid eO
          have EN := Lib.hid eN
          clear eO eN
          go_wp2_with (fail)
          (go_at_call 33; refine (Q1.out _).mono ?_; rintro e w1 ⟨rfl, hb1⟩)
          have hO := Hrel.out.1.below hb1
          have hR := Hrel.out.2.1.below hb1
          have d0 := (hO.cell 96).trans (enc_t (sk p f 32) 32 (by omega))
          have e0 := hO.frozen 96
          have hO2 : Blk (w1.setCell ⟨w.heap.size, 96, none⟩ (.bool false)) w.heap.size (enc (sk p f 33)) 46 := by rw [EO.out]; exact hO.set 96 _
          have hR2 : Blk (w1.setCell ⟨w.heap.size, 96, none⟩ (.bool false)) (w.heap.size + 1) (enc fun _ => zc) 46 := hR.keep (by simp) _
          go_wp2_with ((with_reducible refine wpList_at ?_); first
            | (refine wpList_load_row rfl 46 _ rfl w.heap.size rfl _ (enc (sk p f 33)) _ _ hO2 Try.underlying46 rfl (info_encR _) ?_)
            | (refine wpList_store_row rfl 46 _ _ rfl (w.heap.size + 1) (enc (sk p f 33)) rfl rfl 46 (enc fun _ => zc) hR2 (info_encR _) (HZZ.out _) (enc_one _) ?_))
          refine bodyPost_ret (v := .tuple #[.agg (enc (sk p f 33)), .int .i64 (ck p f 33 : Nat)]) ?_ ?_ ?_
          · exact results_rswept rfl (by rw [show ((ck p f 33 : Nat) : Int) = (ck p f 32 : Nat) + 1 by rw [EN.out]; simp]; rfl) (hR2.row _)
          · rfl
          · exact ⟨rfl, below_row (Below.setCell (p := ⟨w.heap.size, 96, none⟩) (Hrel.out.2.2.trans (hb1.mono Hrel.out.2.2.size)) (Nat.le_refl _) _) (by omega)⟩
end Go.Proofs.Ytkfeabekdjbphaa
