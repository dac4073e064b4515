/-
  The walk of FramesPlay: a size that is none.
-/
import Derived.Test.YtlaeolmjhghaoaaFD
set_option linter.unusedSimpArgs false
set_option linter.unusedVariables false
namespace Go.Proofs.Ytlaeolmjhghaoaa
open Go.RowKit

set_option maxHeartbeats 4000000 in
set_option maxRecDepth 100000 in
theorem play_bad (k : Int) (hk : k < 1 ∨ 64 < k) (p : Option Addr) (len cap : Nat) (w : World) :
    Calls Try.prog 4 #[.int .i64 k, .slice p len cap] w fun r w' => r = .returned (.bool true) ∧ Below w.heap.size w w' := by
  have Q1 := Lib.hid (fun W => new_bad k hk W)
  have Q2 := Lib.hid (fun W => rnew_bad k hk W)
  have Q3 := Lib.hid (fun W => new_live 2 (by decide) (by decide) W)
  have q4 := fun b W h => take_live b 2 0 (by decide) (by decide) (by decide) W h
  have q5 := fun b W h => take_live b 2 1 (by decide) (by decide) (by decide) W h
  rw [take20.1, take20.2.1, take20.2.2] at q4
  rw [take21.1, take21.2] at q5
  have Q4 := Lib.hid q4
  have Q5 := Lib.hid q5
  clear q4 q5 hk
  go_enter Try.func4, Try.ntmps4
  go_wp2_with (fail)
  (go_at_call 11; refine (Q1.out _).mono ?_; rintro e w1 ⟨rfl, hb1⟩)
  go_wp2_with (fail)
  (go_at_call 12; refine (Q2.out _).mono ?_; rintro e w2 ⟨rfl, hb2⟩)
  go_wp2_with (fail)
  (go_at_call 11; refine (Q3.out _).mono ?_; rintro e w3 ⟨rfl, hb3, hp3⟩)
  go_wp2_with (fail)
  (go_at_call 6; refine (Q4.out _ _ hp3).mono ?_; rintro e w4 ⟨rfl, hh4, hp4⟩)
  go_wp2_with (fail)
  (go_at_call 6; refine (Q5.out _ _ hp4).mono ?_; rintro e w5 ⟨rfl, hh5, hp5⟩)
  go_wp2
  go_ret
  have hq2 := hb1.trans (hb2.mono hb1.size)
  have hq3 := hq2.trans (hb3.mono hq2.size)
  exact ⟨rfl, hh5.below (hh4.below hq3 hq2.size) hq2.size⟩
end Go.Proofs.Ytlaeolmjhghaoaa
