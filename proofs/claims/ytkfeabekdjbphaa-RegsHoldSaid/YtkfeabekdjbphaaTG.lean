
/-
  Contracts of the chapter's functions at every input, by total numbers; the spans that the laws make of two numbers; a few closed lengths.
-/
import Derived.Test.YtkfeabekdjbphaaTF
import Derived.Test.YtkfeabekdjbphaaWBoundsWords
set_option linter.unusedSimpArgs false
namespace Go.Proofs.Ytkfeabekdjbphaa
open Go.RowKit Go.Sort

/-- may a span be? -/
def vOk (b t : Nat) : Bool := decide (b ≤ t) && decide (t ≤ 281474976710656)
/-- the fields of a span, and whether it is kept as it is; the span that is kept. -/
def eB (b t : Nat) : Nat := if vOk b t = true then fB b t else 0
def eT (b t : Nat) : Nat := if vOk b t = true then fT b t else 0
def eE (b t : Nat) : Nat := if vOk b t = true then ex b t else 0
def eX (b t : Nat) : Bool := if vOk b t = true then eq2 (kb b t) (kt b t) b t else false
def kB (b t : Nat) : Nat := if vOk b t = true then kb b t else 0
def kT (b t : Nat) : Nat := if vOk b t = true then kt b t else 0
theorem vOk_iff (b t : Nat) : vOk b t = true ↔ (b ≤ t ∧ t ≤ 281474976710656) := by simp [vOk]
theorem e_yes {b t : Nat} (hb : b ≤ t) (ht : t ≤ 281474976710656) : vOk b t = true ∧ eB b t = fB b t ∧ eT b t = fT b t ∧ eE b t = ex b t ∧ eX b t = eq2 (kb b t) (kt b t) b t ∧ kB b t = kb b t ∧ kT b t = kt b t := by
  have h := (vOk_iff b t).2 ⟨hb, ht⟩
  simp [eB, eT, eE, eX, kB, kT, h]
theorem e_no {b t : Nat} (hn : ¬ (b ≤ t ∧ t ≤ 281474976710656)) : vOk b t = false ∧ eB b t = 0 ∧ eT b t = 0 ∧ eE b t = 0 ∧ eX b t = false ∧ kB b t = 0 ∧ kT b t = 0 := by
  have h : vOk b t = false := by
    cases h : vOk b t
    · rfl
    · exact absurd ((vOk_iff b t).1 h) hn
  simp [eB, eT, eE, eX, kB, kT, h]
theorem fB_lt (b t : Nat) : fB b t < 16384 := by
  have e : fB b t = qd b (ex b t - 1) % 16384 := by unfold fB; rfl
  omega
theorem fT_lt (b t : Nat) : fT b t < 4096 := by
  have e : fT b t = qu t (ex b t - 1) % 4096 := by unfold fT; rfl
  omega
theorem eB_lt (b t : Nat) : eB b t < 16384 := by
  by_cases h : b ≤ t ∧ t ≤ 281474976710656
  · rw [(e_yes h.1 h.2).2.1]; exact fB_lt _ _
  · rw [(e_no h).2.1]; omega
theorem eT_lt (b t : Nat) : eT b t < 4096 := by
  by_cases h : b ≤ t ∧ t ≤ 281474976710656
  · rw [(e_yes h.1 h.2).2.2.1]; exact fT_lt _ _
  · rw [(e_no h).2.2.1]; omega
theorem eE_le (b t : Nat) : eE b t ≤ 37 := by
  by_cases h : b ≤ t ∧ t ≤ 281474976710656
  · rw [(e_yes h.1 h.2).2.2.2.1]; exact ex_le h.1 h.2
  · rw [(e_no h).2.2.2.1]; omega
theorem kT_le (b t : Nat) : kT b t ≤ 281474976710656 := by
  by_cases h : b ≤ t ∧ t ≤ 281474976710656
  · rw [(e_yes h.1 h.2).2.2.2.2.2.2]; exact kt_le48 h.1 h.2
  · rw [(e_no h).2.2.2.2.2.2]; omega
theorem kB_le_kT (b t : Nat) : kB b t ≤ kT b t := by
  by_cases h : b ≤ t ∧ t ≤ 281474976710656
  · obtain ⟨_, _, _, _, _, h5, h6⟩ := e_yes h.1 h.2
    rw [h5, h6]; exact kb_le_kt h.1
  · obtain ⟨_, _, _, _, _, h5, h6⟩ := e_no h
    rw [h5, h6]; omega
attribute [irreducible] vOk eB eT eE eX kB kT

/-! ### closed lengths -/
theorem ex_small {n : Nat} (h1 : 4096 ≤ n) (h2 : n < 8192) : ex 0 n = 1 := by
  have h := ex_mul (u := 0) (v := n) (x := 0) (by omega) (by omega)
  simpa using h
theorem kt_small {n : Nat} (h1 : 4096 ≤ n) (h2 : n < 8192) : kt 0 n = n := by
  rw [kt_def, ex_small h1 h2]; simp [qu_zero]
theorem ex_10001 : ex 0 10001 = 2 := by
  have hl : Nat.log2 10001 = 13 := (Nat.log2_eq_iff (by decide)).2 (by decide)
  have hs : stp 0 10001 1 = 5001 := by rw [stp_def, qu_def, qd_def, qd_def]
  unfold ex
  rw [if_neg (by decide), show (10001 - 0 : Nat) = 10001 from rfl, hl, show (13 - 12 : Nat) = 1 from rfl, hs]; rfl
theorem kt_10001 : kt 0 10001 = 10002 := by
  rw [kt_def, ex_10001, qu_def, qd_def]

/-! ### spans of two numbers -/
def s1 (a b : Nat) : Nat := min (a % 281474976710657) (b % 281474976710657)
def s2 (a b : Nat) : Nat := max (a % 281474976710657) (b % 281474976710657)
theorem s1_le (a b : Nat) : s1 a b ≤ s2 a b := by unfold s1 s2; omega
theorem s2_le (a b : Nat) : s2 a b ≤ 281474976710656 := by unfold s2; omega
theorem s1_def (a b : Nat) : s1 a b = min (a % 281474976710657) (b % 281474976710657) := rfl
theorem s2_def (a b : Nat) : s2 a b = max (a % 281474976710657) (b % 281474976710657) := rfl
attribute [irreducible] s1 s2
end Go.Proofs.Ytkfeabekdjbphaa
