
/-
  The plain part of RegsSweeps: what sweeping does, register by register.
-/
import Derived.Test.YtkfeabekdjbphaaG6
set_option linter.unusedSimpArgs false
set_option linter.unusedVariables false
namespace Go.Proofs.Ytkfeabekdjbphaa
open Go.RowKit

/-- is register i swept. -/
def hit (p : Nat → Bool) (f : Nat → Cp) (i : Nat) : Bool := (decide (1 ≤ i) && decide (i < 33)) && ((f i).t && sw p (f i))
def swF (p : Nat → Bool) (f : Nat → Cp) : Nat → Cp := fun i => if hit p f i then clr (f i) else f i
def swN (p : Nat → Bool) (f : Nat → Cp) : Nat := ((List.range 33).filter fun i => hit p f i).length
theorem tagTo_step (f : Nat → Cp) (n : Nat) (h : 1 ≤ n ∧ n < 33) : tagTo f (n + 1) = if (f n).t then tagTo f n ++ [⟨n, h⟩] else tagTo f n := by
  cases hb : (f n).t
  · rw [tagTo_miss hb]; rfl
  · rw [tagTo_hit h hb]; rfl
theorem tagTo_zero (f : Nat → Cp) : tagTo f 0 = [] := by
  have h := tagTo_len f 0
  exact List.eq_nil_of_length_eq_zero (by omega)
theorem out_to (p : Nat → Bool) (f : Nat → Cp) : ∀ n, n ≤ 33 → ∀ i, outF p f (tagTo f n) i = (if hit p f i && decide (i < n) then clr (f i) else f i) ∧ True
  | 0, _, i => by rw [tagTo_zero, outF_nil]; simp
  | n + 1, hn, i => by
    have ih := (out_to p f n (by omega) i).1
    refine ⟨?_, trivial⟩
    rcases Nat.eq_zero_or_pos n with h0 | h0
    · subst h0
      rw [tagTo_one, outF_nil]
      cases hh : hit p f i
      · simp
      · have : 1 ≤ i := by unfold hit at hh; simp at hh; omega
        simp [show ¬ i < 0 + 1 by omega]
    · rw [tagTo_step f n ⟨h0, by omega⟩]
      cases hb : (f n).t
      · simp only [Bool.false_eq_true, if_false]
        rw [ih]
        by_cases e : i = n
        · subst e
          have : hit p f i = false := by unfold hit; rw [hb]; simp
          rw [this]; simp
        · have : decide (i < n + 1) = decide (i < n) := by simp; omega
          rw [this]
      · simp only [if_true]
        cases hs : sw p (f n)
        · rw [outF_miss hs, ih]
          by_cases e : i = n
          · subst e
            have : hit p f i = false := by unfold hit; rw [hs]; simp
            rw [this]; simp
          · have : decide (i < n + 1) = decide (i < n) := by simp; omega
            rw [this]
        · rw [outF_hit hs]
          by_cases e : i = n
          · subst e
            have : hit p f i = true := by unfold hit; rw [hs, hb]; simp; omega
            rw [upd_same, this]; simp
          · rw [upd_ne _ _ _ _ e, ih]
            have : decide (i < n + 1) = decide (i < n) := by simp; omega
            rw [this]
theorem cnt_to (p : Nat → Bool) (f : Nat → Cp) : ∀ n, n ≤ 33 → cntF p f (tagTo f n) = ((List.range n).filter fun i => hit p f i).length
  | 0, _ => by rw [tagTo_zero, cntF_nil]; rfl
  | n + 1, hn => by
    have ih := cnt_to p f n (by omega)
    rw [List.range_succ, List.filter_append, List.length_append, ← ih]
    rcases Nat.eq_zero_or_pos n with h0 | h0
    · subst h0
      have : hit p f 0 = false := by unfold hit; simp
      rw [tagTo_one, tagTo_zero, cntF_nil]; simp [this]
    · rw [tagTo_step f n ⟨h0, by omega⟩]
      cases hb : (f n).t
      · have : hit p f n = false := by unfold hit; rw [hb]; simp
        simp [this]
      · simp only [if_true]
        cases hs : sw p (f n)
        · have : hit p f n = false := by unfold hit; rw [hs]; simp
          rw [cntF_miss hs]; simp [this]
        · have : hit p f n = true := by unfold hit; rw [hs, hb]; simp; omega
          rw [cntF_hit hs]; simp [this]
theorem out_sw (p : Nat → Bool) (f : Nat → Cp) : enc (outF p f (tagTo f 33)) = enc (swF p f) := by
  refine enc_ext _ _ fun i hi => ?_
  rw [(out_to p f 33 (Nat.le_refl _) i).1]
  unfold swF
  simp [hi]
theorem cnt_sw (p : Nat → Bool) (f : Nat → Cp) : cntF p f (tagTo f 33) = swN p f := cnt_to p f 33 (Nat.le_refl _)
theorem swF_m (p : Nat → Bool) (f : Nat → Cp) (i : Nat) : (swF p f i).m = (f i).m := by unfold swF; split <;> rfl
theorem sw_clr (p : Nat → Bool) (c : Cp) : sw p (clr c) = sw p c := rfl
theorem swF_t (p : Nat → Bool) (f : Nat → Cp) (i : Nat) : (swF p f i).t = ((f i).t && !hit p f i) := by
  unfold swF
  cases h : hit p f i
  · simp
  · simp [clr]
theorem sw_swF (p q : Nat → Bool) (f : Nat → Cp) (i : Nat) : sw q (swF p f i) = sw q (f i) := by unfold swF; split <;> rfl
theorem clr_swF (p : Nat → Bool) (f : Nat → Cp) (i : Nat) : clr (swF p f i) = clr (f i) := by unfold swF; split <;> rfl
theorem hit_swF (p q : Nat → Bool) (f : Nat → Cp) (i : Nat) : hit q (swF p f) i = (hit q f i && !hit p f i) := by
  unfold hit
  rw [swF_t, sw_swF]
  unfold hit
  cases decide (1 ≤ i) <;> cases decide (i < 33) <;> cases (f i).t <;> cases sw q (f i) <;> cases sw p (f i) <;> rfl
theorem hit_or (p q : Nat → Bool) (f : Nat → Cp) (i : Nat) : hit (fun b => p b || q b) f i = (hit p f i || hit q f i) := by
  unfold hit sw
  dsimp only
  cases decide (1 ≤ i) <;> cases decide (i < 33) <;> cases (f i).t <;> cases (sb (lT (f i).m (f i).a) (lB (f i).m (f i).a) == 0) <;> cases p (lB (f i).m (f i).a) <;> cases q (lB (f i).m (f i).a) <;> rfl
/-- one behind the other is both. -/
theorem sw_both (p q : Nat → Bool) (f : Nat → Cp) : enc (swF q (swF p f)) = enc (swF (fun b => p b || q b) f) := by
  refine enc_ext _ _ fun i hi => ?_
  unfold swF
  rw [show hit q (fun i => if hit p f i then clr (f i) else f i) i = (hit q f i && !hit p f i) from hit_swF p q f i, hit_or]
  cases hit p f i <;> cases hit q f i <;> rfl
theorem sw_both' (p q : Nat → Bool) (f : Nat → Cp) : enc (swF p (swF q f)) = enc (swF (fun b => p b || q b) f) := by
  rw [sw_both]
  refine enc_ext _ _ fun i hi => ?_
  unfold swF
  rw [hit_or, hit_or, Bool.or_comm]
theorem filt_sum (a b c : Nat → Bool) (h : ∀ i, c i = (a i || b i)) (h2 : ∀ i, (a i && b i) = false) : ∀ l : List Nat, (l.filter a).length + (l.filter b).length = (l.filter c).length
  | [] => rfl
  | x :: l => by
    have ih := filt_sum a b c h h2 l
    have e := h2 x
    simp only [List.filter_cons, h x]
    cases ha : a x <;> cases hb : b x <;> simp_all <;> omega
theorem swN_both (p q : Nat → Bool) (f : Nat → Cp) : swN p f + swN q (swF p f) = swN (fun b => p b || q b) f := by
  unfold swN
  refine filt_sum _ _ _ (fun i => ?_) (fun i => ?_) _
  · rw [hit_or, hit_swF]; cases hit p f i <;> cases hit q f i <;> rfl
  · rw [hit_swF]; cases hit p f i <;> cases hit q f i <;> rfl
theorem swN_none (p q : Nat → Bool) (f : Nat → Cp) : swN q (swF q (swF p f)) = 0 := by
  unfold swN
  rw [List.length_eq_zero_iff, List.filter_eq_nil_iff]
  intro i _
  rw [hit_swF]; cases hit q (swF p f) i <;> simp
theorem swN_le (p : Nat → Bool) (f : Nat → Cp) : swN p f ≤ 33 := by
  unfold swN
  have := List.length_filter_le (fun i => hit p f i) (List.range 33)
  simpa using this
end Go.Proofs.Ytkfeabekdjbphaa
