/-
  Contracts of a pool that somebody made: Take, Give.
-/
import Derived.Test.YtlaeolmjhghaoaaF4
import Derived.Test.YtlaeolmjhghaoaaH0
import Derived.BigRegion
set_option linter.unusedSimpArgs false
set_option linter.unusedVariables false
namespace Go.Proofs.Ytlaeolmjhghaoaa
open Go.RowKit

/-- at b there is a pool of n numbers, of which those of x are taken. -/
def PoolAt (w : World) (b n x : Nat) : Prop := b < w.heap.size ∧ w.cell? ⟨b, 0, none⟩ = some (.int .i64 (n : Nat)) ∧ w.cell? ⟨b, 1, none⟩ = some (.int .u64 (x : Nat)) ∧ w.frozen? ⟨b, 0, none⟩ = false ∧ w.frozen? ⟨b, 1, none⟩ = false
theorem PoolAt.hold {w : World} {b n x : Nat} (h : PoolAt w b n x) : Hold b 2 w w := by
  obtain ⟨_, h0, h1, f0, f1⟩ := h
  refine Hold.refl fun k hk => ?_
  match k, hk with
  | 0, _ => exact ⟨⟨_, h0⟩, f0⟩
  | 1, _ => exact ⟨⟨_, h1⟩, f1⟩
theorem PoolAt.below {w w' : World} {b n x : Nat} (h : PoolAt w b n x) (hb : Below w.heap.size w w') : PoolAt w' b n x := by
  obtain ⟨h2, h0, h1, f0, f1⟩ := h
  exact ⟨Nat.lt_of_lt_of_le h2 hb.size, (hb.cell (p := ⟨b, 0, none⟩) h2).trans h0, (hb.cell (p := ⟨b, 1, none⟩) h2).trans h1, (hb.frozen (p := ⟨b, 0, none⟩) h2).trans f0, (hb.frozen (p := ⟨b, 1, none⟩) h2).trans f1⟩
theorem PoolAt.put {w : World} {b n x : Nat} (h : PoolAt w b n x) (y : Nat) : PoolAt (w.setCell ⟨b, 1, none⟩ (.int .u64 (y : Nat))) b n y := by
  obtain ⟨h2, h0, h1, f0, f1⟩ := h
  exact ⟨by simpa [World.setCell] using h2, rd_set_ne (Or.inr (show (0 : Nat) ≠ 1 by decide)) h0, rd_set_eq h1, fz_set f0, fz_set f1⟩

theorem PoolAt.drew {w : World} {b n x : Nat} (h : PoolAt w b n x) : PoolAt w.drew b n x := h
theorem PoolAt.drewN {w : World} {b n x : Nat} (h : PoolAt w b n x) (k : Nat) : PoolAt (w.drewN k) b n x := h
theorem or_eq (x l : Nat) (hx : x < 18446744073709551616) (hl : l < 64) : bits .or .u64 (x : Int) (IntKind.u64.wrap (2 ^ l)) = ((x ||| 2 ^ l : Nat) : Int) := by
  have h2 : 2 ^ l ≤ 2 ^ 63 := Nat.pow_le_pow_right (by decide) (by omega)
  have e : IntKind.u64.wrap (2 ^ l) = ((2 ^ l : Nat) : Int) := by
    rw [show (2 : Int) ^ l = ((2 ^ l : Nat) : Int) by simp, IntKind.wrap_u64]; generalize 2 ^ l = z at *; omega
  rw [e, u64_or_nat _ _ hx (by omega)]
theorem or_lt (x l : Nat) (hx : x < 18446744073709551616) (hl : l < 64) : x ||| 2 ^ l < 18446744073709551616 :=
  Nat.or_lt_two_pow (n := 64) hx (Nat.pow_lt_pow_right (by decide) hl)
theorem mem_ones (x i : Nat) : i ∈ ones x ↔ i < 64 ∧ x.testBit i = true := by
  rw [ones_def]; unfold onesTo; rw [List.mem_filter, List.mem_range]
/-- the lowest one is one, and none is below it. -/
theorem lowest_is {x : Nat} (h : ¬ lowest x = 64) : lowest x < 64 ∧ x.testBit (lowest x) = true ∧ ∀ i, i < lowest x → x.testBit i = false := by
  cases e : ones x with
  | nil => exact (h (lowest_nil e)).elim
  | cons k r =>
    have hk : lowest x = k := lowest_one ⟨r, by rw [e]; rfl⟩
    have hm : k ∈ ones x := by rw [e]; exact List.mem_cons_self
    obtain ⟨m1, m2⟩ := (mem_ones x k).1 hm
    rw [hk]
    refine ⟨m1, m2, fun i hi => ?_⟩
    cases hb : x.testBit i
    · rfl
    · have hi2 : i ∈ ones x := (mem_ones x i).2 ⟨by omega, hb⟩
      have hs : (ones x).Pairwise (· < ·) := by rw [ones_def]; unfold onesTo; exact List.Pairwise.filter _ List.pairwise_lt_range
      rw [e] at hs hi2
      rw [List.pairwise_cons] at hs
      rcases List.mem_cons.1 hi2 with h3 | h3
      · omega
      · have := hs.1 i h3; omega
theorem lowest_no {x : Nat} (h : lowest x = 64) : ∀ i, i < 64 → x.testBit i = false := by
  intro i hi
  cases hb : x.testBit i
  · rfl
  · cases e : ones x with
    | nil => have := (mem_ones x i).2 ⟨hi, hb⟩; rw [e] at this; simp at this
    | cons k r =>
      have hk : lowest x = k := lowest_one ⟨r, by rw [e]; rfl⟩
      have hm : k ∈ ones x := by rw [e]; exact List.mem_cons_self
      have := ((mem_ones x k).1 hm).1
      omega
def tN (n x : Nat) : Nat := if lowest (op n x) = 64 then 0 else lowest (op n x)
def tE (n x : Nat) : Nat := if lowest (op n x) = 64 then 15 else 0
def tX (n x : Nat) : Nat := if lowest (op n x) = 64 then x else x ||| 2 ^ lowest (op n x)
theorem tN_def (n x : Nat) : tN n x = if lowest (op n x) = 64 then 0 else lowest (op n x) := rfl
theorem tE_def (n x : Nat) : tE n x = if lowest (op n x) = 64 then 15 else 0 := rfl
theorem tX_def (n x : Nat) : tX n x = if lowest (op n x) = 64 then x else x ||| 2 ^ lowest (op n x) := rfl
attribute [irreducible] tN tE tX

set_option maxHeartbeats 2000000 in
theorem take_live (b n x : Nat) (hn : 1 ≤ n) (hn2 : n ≤ 64) (hx : x < 18446744073709551616) (w : World) (hp : PoolAt w b n x) :
    Calls Try.prog 6 #[.pointer (some ⟨b, 0, none⟩)] w fun r w' => r = .returned (.tuple #[.int .i64 (tN n x : Nat), .int .i64 (tE n x : Nat)]) ∧ Hold b 2 w w' ∧ PoolAt w' b n (tX n x) := by
  have hH := hp.hold
  have HP := Lib.hid hp
  obtain ⟨hb, h0, h1, f0, f1⟩ := hp
  have q := fun (W : World) h0 h1 => none_live b n x (by omega) W h0 h1
  have Q := Lib.hid q
  have q2 := open_any n x hn hn2 hx
  have Q2 := Lib.hid q2
  have q3 := zeros_any (op n x) (op_lt n x hn2)
  have Q3 := Lib.hid q3
  have hl := tN_def n x
  clear q q2 q3
  rw [tN_def, tE_def, tX_def]
  by_cases hz : lowest (op n x) = 64
  · rw [if_pos hz, if_pos hz, if_pos hz]
    rw [hz] at Q3
    clear hl hz hx hn hn2
    go_enter Try.func6, Try.ntmps6
    go_wp2_with (first | (go_at_call 16; refine (Q.out _ (by first | assumption | (simp [go_sem]; done)) (by first | assumption | (simp [go_sem]; done))).mono ?_; rintro e w' ⟨rfl, rfl⟩) | (go_at_call 18; refine (Q2.out _).mono ?_; rintro e w2 ⟨rfl, hb2⟩; have hP2 := HP.out.below hb2) | (go_at_call 17; refine (Q3.out _).mono ?_; rintro e w3 ⟨rfl, hb3⟩; have hP3 := hP2.below hb3; have hH3 := (hH.call hb hb2).call hb hb3; have ⟨p3b, p30, p31, q30, q31⟩ := hP3))
    go_ret2
    exact ⟨rfl, hH3, hP3⟩
  · rw [if_neg hz, if_neg hz, if_neg hz]
    have hlt : lowest (op n x) < 64 := (lowest_is hz).1
    have gz : ((lowest (op n x) : Int) == 64) = false := beq_eq_false_iff_ne.2 (by omega)
    generalize lowest (op n x) = l at *
    clear hl hz hn hn2
    go_enter Try.func6, Try.ntmps6
    go_wp2_with (first | (go_at_call 16; refine (Q.out _ (by first | assumption | (simp [go_sem]; done)) (by first | assumption | (simp [go_sem]; done))).mono ?_; rintro e w' ⟨rfl, rfl⟩) | (go_at_call 18; refine (Q2.out _).mono ?_; rintro e w2 ⟨rfl, hb2⟩; have hP2 := HP.out.below hb2) | (go_at_call 17; refine (Q3.out _).mono ?_; rintro e w3 ⟨rfl, hb3⟩; have hP3 := hP2.below hb3; have hH3 := (hH.call hb hb2).call hb hb3; have ⟨p3b, p30, p31, q30, q31⟩ := hP3))
    go_region
    all_goals
      rw [or_eq x l hx hlt]
      go_wp2
      go_ret2
      exact ⟨rfl, (hH3.set 1 _).drew, (hP3.put _).drew⟩

def gE (n x : Nat) (k : Int) : Nat := if 0 ≤ k ∧ k < n then (if x.testBit k.toNat = true then 0 else 13) else 2
def gX (n x : Nat) (k : Int) : Nat := if 0 ≤ k ∧ k < n ∧ x.testBit k.toNat = true then x &&& (18446744073709551615 - 2 ^ k.toNat) else x
theorem gE_def (n x : Nat) (k : Int) : gE n x k = if 0 ≤ k ∧ k < n then (if x.testBit k.toNat = true then 0 else 13) else 2 := rfl
theorem gX_def (n x : Nat) (k : Int) : gX n x k = if 0 ≤ k ∧ k < n ∧ x.testBit k.toNat = true then x &&& (18446744073709551615 - 2 ^ k.toNat) else x := rfl
attribute [irreducible] gE gX
theorem andNot_eq (x l : Nat) (hx : x < 18446744073709551616) (hl : l < 64) : bits .andNot .u64 (x : Int) (IntKind.u64.wrap (2 ^ l)) = ((x &&& (18446744073709551615 - 2 ^ l) : Nat) : Int) := by
  have h2 : 2 ^ l ≤ 2 ^ 63 := Nat.pow_le_pow_right (by decide) (by omega)
  have e : IntKind.u64.wrap (2 ^ l) = ((2 ^ l : Nat) : Int) := by
    rw [show (2 : Int) ^ l = ((2 ^ l : Nat) : Int) by simp, IntKind.wrap_u64]; generalize 2 ^ l = z at *; omega
  rw [e, u64_andNot_nat _ _ hx (by omega)]
set_option maxHeartbeats 2000000 in
theorem give_live (b n x : Nat) (k : Int) (hn : 1 ≤ n) (hn2 : n ≤ 64) (hx : x < 18446744073709551616) (w : World) (hp : PoolAt w b n x) :
    Calls Try.prog 7 #[.pointer (some ⟨b, 0, none⟩), .int .i64 k] w fun r w' => r = .returned (.int .i64 (gE n x k : Nat)) ∧ Hold b 2 w w' ∧ PoolAt w' b n (gX n x k) := by
  have hH := hp.hold
  have HP := Lib.hid hp
  obtain ⟨hb, h0, h1, f0, f1⟩ := hp
  have q := fun (W : World) h0 h1 => none_live b n x (by omega) W h0 h1
  have Q := Lib.hid q
  have q2 := fun (W : World) h0 h1 => taken_live b n x k (by omega) hn2 hx W h0 h1
  clear q
  by_cases g1 : 0 ≤ k
  · by_cases g2 : k < n
    · obtain ⟨j, rfl⟩ := Int.eq_ofNat_of_zero_le g1
      have hj : j < n := by omega
      have e : tk n x (j : Int) = x.testBit j := by rw [tk_def, decide_eq_true g1, decide_eq_true g2]; rfl
      have G1 : decide ((j : Int) < 0) = false := decide_eq_false (by omega)
      have G2 : decide (n ≤ j) = false := decide_eq_false (by omega)
      have eX : gX n x (j : Int) = if x.testBit j = true then x &&& (18446744073709551615 - 2 ^ j) else x := by rw [gX_def]; simp [hj]
      have eE : gE n x (j : Int) = if x.testBit j = true then 0 else 13 := by rw [gE_def]; simp [hj]
      rw [e] at q2
      rw [eX, eE]
      have HX := Lib.hid hx
      have HJ : j < 64 := by omega
      generalize x.testBit j = o at *
      have Q2 := Lib.hid q2
      clear e eX eE g1 g2 hn hn2 q2 hx hj
      cases o
      · rw [if_neg (by simp), if_neg (by simp)]
        go_enter Try.func7, Try.ntmps7
        go_wp2_with (first | (go_at_call 16; refine (Q.out _ (by first | assumption | (simp [go_sem]; done)) (by first | assumption | (simp [go_sem]; done))).mono ?_; rintro e w' ⟨rfl, rfl⟩) | (go_at_call 9; refine (Q2.out _ (by first | assumption | (simp [go_sem]; done)) (by first | assumption | (simp [go_sem]; done))).mono ?_; rintro e w' ⟨rfl, rfl⟩))
        go_ret
        exact ⟨rfl, hH, HP.out⟩
      · rw [if_pos rfl, if_pos rfl]
        go_enter Try.func7, Try.ntmps7
        go_wp2_with (first | (go_at_call 16; refine (Q.out _ (by first | assumption | (simp [go_sem]; done)) (by first | assumption | (simp [go_sem]; done))).mono ?_; rintro e w' ⟨rfl, rfl⟩) | (go_at_call 9; refine (Q2.out _ (by first | assumption | (simp [go_sem]; done)) (by first | assumption | (simp [go_sem]; done))).mono ?_; rintro e w' ⟨rfl, rfl⟩))
        go_region
        all_goals
          rw [andNot_eq x j HX.out HJ]
          go_wp2
          go_ret
          exact ⟨rfl, (hH.set 1 _).drew, (HP.out.put _).drew⟩
    · have G1 : decide (k < 0) = false := decide_eq_false (by omega)
      have G2 : decide ((n : Int) ≤ k) = true := decide_eq_true (by omega)
      have eX : gX n x k = x := by rw [gX_def, if_neg (by omega)]
      have eE : gE n x k = 2 := by rw [gE_def, if_neg (by omega)]
      rw [eX, eE]
      clear eX eE g1 g2 hn hn2 q2 hx
      go_enter Try.func7, Try.ntmps7
      go_wp2_with (go_at_call 16; refine (Q.out _ (by first | assumption | (simp [go_sem]; done)) (by first | assumption | (simp [go_sem]; done))).mono ?_; rintro e w' ⟨rfl, rfl⟩)
      go_ret
      exact ⟨rfl, hH, HP.out⟩
  · have G1 : decide (k < 0) = true := decide_eq_true (by omega)
    have eX : gX n x k = x := by rw [gX_def, if_neg (by omega)]
    have eE : gE n x k = 2 := by rw [gE_def, if_neg (by omega)]
    rw [eX, eE]
    clear eX eE g1 hn hn2 q2 hx
    go_enter Try.func7, Try.ntmps7
    go_wp2_with (go_at_call 16; refine (Q.out _ (by first | assumption | (simp [go_sem]; done)) (by first | assumption | (simp [go_sem]; done))).mono ?_; rintro e w' ⟨rfl, rfl⟩)
    go_ret
    exact ⟨rfl, hH, HP.out⟩
end Go.Proofs.Ytlaeolmjhghaoaa
