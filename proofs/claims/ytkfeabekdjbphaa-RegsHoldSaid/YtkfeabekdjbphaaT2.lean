
/-
  Contracts of bits.Len64, scale.Log, scale.Add (bits.Add64): the place of the highest bit; a sum and whether it is 2^64 or above; no condition but that the arguments fit their kind.
-/
import Derived.Test.YtkfeabekdjbphaaProg
import Derived.Test.YtkfeabekdjbphaaPlain
import Derived.WalkKit
import Derived.WalkLawsBesides
import Derived.WalkSpells
import Derived.Handy
import Derived.Deep.QuietTactic
import Derived.BigQuiet
import Derived.Laws.MathBits
import Derived.Laws.Externs
import Derived.Lib.Hide
namespace Go.Proofs.Ytkfeabekdjbphaa
open Go.RowKit

theorem len_close (x q : Int) (b : Nat) (d : Int) (hd : d = ((2 ^ b : Nat) : Int)) (h0 : 0 ≤ x) (hq : q = x / d) (hq1 : 1 ≤ q ∨ b = 0) (hq2 : q < 256) (hb : b ≤ 56) :
    wrap64 ((b : Int) + wrap64 ((bitLen q.toNat : Nat) : Int)) = ((bitLen x.toNat : Nat) : Int) := by
  obtain ⟨n, rfl⟩ := Int.eq_ofNat_of_zero_le h0
  have e : q = ((n / 2 ^ b : Nat) : Int) := by rw [hq, hd, Int.natCast_ediv]
  clear hq hd
  obtain ⟨m, hm⟩ : ∃ m, m = n / 2 ^ b := ⟨_, rfl⟩
  rw [← hm] at e
  subst e
  rw [Int.toNat_natCast, Int.toNat_natCast]
  have h8 := bitLen_le8 m (by omega)
  have hs : bitLen n = b + bitLen m := by
    rcases hq1 with h | h
    · rw [hm]; exact bitLen_shift n b (by rw [← hm]; omega)
    · subst h; rw [hm, Nat.pow_zero, Nat.div_one]; omega
  rw [hs]
  generalize bitLen m = z at *
  clear hs hm
  unfold wrap64
  omega

end Go.Proofs.Ytkfeabekdjbphaa
