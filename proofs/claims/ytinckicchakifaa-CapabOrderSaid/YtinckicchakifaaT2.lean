/-
  Contracts of bits.Len64, scale.Log, scale.Add (bits.Add64): the place of the highest bit; a sum and whether it is 2^64 or above; no condition but that the arguments fit their kind.
-/
import Derived.Test.YtinckicchakifaaProg
import Derived.Test.YtinckicchakifaaPlain
import Derived.WalkKit
import Derived.WalkLawsBesides
import Derived.WalkSpells
import Derived.Handy
import Derived.Deep.QuietTactic
import Derived.BigQuiet
import Derived.Laws.MathBits
import Derived.Laws.Externs
import Derived.Lib.Hide
namespace Go.Proofs.Ytinckicchakifaa
open Go.RowKit

theorem len_close (x q : Int) (b : Nat) (d : Int) (hd : d = ((2 ^ b : Nat) : Int)) (h0 : 0 ≤ x) (hq : q = x / d) (hq1 : 1 ≤ q ∨ b = 0) (hq2 : q < 256) (hb : b ≤ 56) :
    wrap64 ((b : Int) + wrap64 ((bitLen q.toNat : Nat) : Int)) = ((bitLen x.toNat : Nat) : Int) := by
  obtain ⟨n, rfl⟩ := Int.eq_ofNat_of_zero_le h0
  have e : q = ((n / 2 ^ b : Nat) : Int) := by rw [hq, hd, Int.natCast_ediv]
  clear hq hd
  obtain ⟨m, hm⟩ : ∃ m, m = n / 2 ^ b := ⟨_, rfl⟩
  rw [← hm] at e
  subst e
  rw [Int.toNat_natCast, Int.toNat_natCast]
  have h8 := bitLen_le8 m (by omega)
  have hs : bitLen n = b + bitLen m := by
    rcases hq1 with h | h
    · rw [hm]; exact bitLen_shift n b (by rw [← hm]; omega)
    · subst h; rw [hm, Nat.pow_zero, Nat.div_one]; omega
  rw [hs]
  generalize bitLen m = z at *
  clear hs hm
  unfold wrap64
  omega

set_option maxRecDepth 100000 in
theorem len64_any (x : Int) (w : World) (h0 : 0 ≤ x) (h1 : x ≤ 18446744073709551615) :
    Calls Try.prog 50 #[.int .u64 x] w fun e w' => e = .returned (.int .i64 (bitLen x.toNat)) ∧ w' = w := by
  go_enter Try.func50, Try.ntmps50
  go_wp2
  all_goals (go_ret; refine ⟨congrArg Ending.returned (congrArg (Value.int IntKind.i64) ?_), rfl⟩)
  all_goals rw [len8tab_get]
  all_goals first
    | exact len_close x _ 56 72057594037927936 (by decide) h0 (by omega) (by omega) (by omega) (by omega)
    | exact len_close x _ 48 281474976710656 (by decide) h0 (by omega) (by omega) (by omega) (by omega)
    | exact len_close x _ 40 1099511627776 (by decide) h0 (by omega) (by omega) (by omega) (by omega)
    | exact len_close x _ 32 4294967296 (by decide) h0 (by omega) (by omega) (by omega) (by omega)
    | exact len_close x _ 24 16777216 (by decide) h0 (by omega) (by omega) (by omega) (by omega)
    | exact len_close x _ 16 65536 (by decide) h0 (by omega) (by omega) (by omega) (by omega)
    | exact len_close x _ 8 256 (by decide) h0 (by omega) (by omega) (by omega) (by omega)
    | (have h := len_close x x 0 1 (by decide) h0 (by omega) (by omega) (by omega) (by omega); rw [← h]; unfold wrap64; omega)

/-- scale.Log of a number above 0. -/
theorem log_any (n : Nat) (h0 : 0 < n) (h1 : n < 18446744073709551616) (w : World) :
    Calls Try.prog 46 #[.int .u64 n] w fun e w' => e = .returned (.int .i64 (Nat.log2 n : Nat)) ∧ ∃ k, w' = w.drewN k := by
  have hl : bitLen n = Nat.log2 n + 1 := by unfold bitLen; rw [if_neg (by omega)]
  have hlt : Nat.log2 n < 64 := (Nat.log2_lt (by omega)).2 (by simpa using h1)
  go_enter Try.func46, Try.ntmps46
  go_wp2_with (go_at_call 50; refine (len64_any _ _ (by omega) (by omega)).mono ?_; rintro e w' ⟨rfl, rfl⟩)
  go_ret
  exact ⟨congrArg Ending.returned (congrArg (Value.int IntKind.i64) rfl), 0, rfl⟩

/-- math/bits.Add64 at the carry 0. -/
theorem run_Add64 (x y : Nat) (w : World) : (callFunc 55 #[.int .u64 x, .int .u64 y, .int .u64 0]).run Try.prog w =
    .ok (.value (.tuple #[.int .u64 (((x + y) % 18446744073709551616 : Nat) : Int), .int .u64 (((x + y) / 18446744073709551616 : Nat) : Int)])) w := by
  rw [run_callFunc_extern Try.func55 (by kernel_rfl) (by kernel_rfl) (by kernel_rfl) (e := add64Entry) (by kernel_rfl), run_add64 x y 0 (by omega) (by omega) (by omega) (by omega)]
  simp [Result.andThen]
theorem add_any (x y : Nat) (w : World) :
    Calls Try.prog 54 #[.int .u64 x, .int .u64 y] w fun e w' => e = .returned (.tuple #[.int .u64 (((x + y) % 18446744073709551616 : Nat) : Int), .bool (decide (18446744073709551616 ≤ x + y))]) ∧ ∃ k, w' = w.drewN k := by
  have h := run_Add64 x y
  obtain ⟨s, hs⟩ : ∃ s, s = (x + y) % 18446744073709551616 := ⟨_, rfl⟩
  obtain ⟨c, hc⟩ : ∃ c, c = (x + y) / 18446744073709551616 := ⟨_, rfl⟩
  rw [← hs, ← hc] at h
  have Hc := Lib.hid hc; clear hc
  rw [← hs]
  have Hs := Lib.hid hs; clear hs
  go_enter Try.func54, Try.ntmps54
  go_wp2
  have hc := Hc.out
  have e : ((((c : Nat) : Int) != 0) : Bool) = decide (18446744073709551616 ≤ x + y) := by
    by_cases hz : c = 0
    · subst hz; simp; omega
    · have : ((c : Int) != 0) = true := by simp; omega
      rw [this]; symm; simp; omega
  refine bodyPost_ret (v := .tuple #[.int .u64 s, .bool (decide (18446744073709551616 ≤ x + y))]) ?_ rfl ⟨rfl, 0, rfl⟩
  simp [results, Try.results54, go_sem, e]
end Go.Proofs.Ytinckicchakifaa
