/-
  The walk of FramesLowest.
-/
import Derived.Test.YtlaeolmjhghaoaaFK
import Derived.Deep.CutRange
import Derived.Deep.CutBlock
import Derived.Deep.RegionWith
import Derived.BigQuiet
set_option linter.unusedSimpArgs false
set_option linter.unusedVariables false
namespace Go.Proofs.Ytlaeolmjhghaoaa
open Go.RowKit Go.Maps

set_option maxHeartbeats 4000000 in
set_option maxRecDepth 100000 in
theorem walk_lowest (s : Int) (p : Option Addr) (len cap : Nat) (w : World) (hact : ∀ i, i < len → ∃ (A : Addr) (k : Int), p = some A ∧ w.cell? (A.add i) = some (.int .i64 k) ∧ -9223372036854775808 ≤ k ∧ k ≤ 9223372036854775807) :
    Calls Try.prog 5 #[.int .i64 s, .slice p len cap] w fun r w' => r = .returned (.bool true) ∧ Below w.heap.size w w' := by
  have HA := Lib.hid hact
  clear hact
  have hmm := @run_makeMap Try.prog
  have hand := i64_and63 s
  obtain ⟨m0, hm0, hm64⟩ : ∃ m0 : Nat, s % 64 = (m0 : Int) ∧ m0 < 64 := ⟨(s % 64).toNat, by omega, by omega⟩
  rw [hm0] at hand
  clear hm0
  go_enter Try.func5, Try.ntmps5
  go_upto_region 1 with (fail)
  go_cut [0] from 19 to 21 (fun s0 wx => ∃ n : Nat, s0 = .int .i64 (n : Nat) ∧ Hid (1 ≤ n ∧ n ≤ 64) ∧ wx = w)
  case first =>
    go_wp2
    go_meet
    exact ⟨m0 + 1, by simp; omega, Lib.hid ⟨by omega, by omega⟩, rfl⟩
  case rest =>
    obtain ⟨n, rfl, hn, rfl⟩ := hcut
    rename World => w
    have H1 := Lib.hid hn.out.1
    have H2 := Lib.hid hn.out.2
    have Q1 := Lib.hid (fun W => new_live n hn.out.1 hn.out.2 W)
    clear hn hand hm64
    go_wp2_with (fail)
    (go_at_call 11; refine (Q1.out _).mono ?_; rintro e w1 ⟨rfl, hb1, hp1⟩)
    go_wp2_with (fail)
    have hB1 := Lib.hid hb1
    have HP1 := Lib.hid hp1
    clear hb1 hp1
    go_loopw [7] (fun s7 wr => ∃ i : Nat, s7 = .int .i64 (i : Nat) ∧ Hid (i ≤ n ∧ PoolAt wr w.heap.size n (2 ^ i - 1) ∧ Below w.heap.size w wr))
      (fun s7 _ => n - (intOf s7).toNat)
    case atStart => exact ⟨0, rfl, Lib.hid ⟨Nat.zero_le _, HP1.out, hB1.out⟩⟩
    case round =>
      obtain ⟨i, rfl, hrel⟩ := hrel
      have hin := hrel.out.1
      have HP := Lib.hid hrel.out.2.1
      have HB := Lib.hid hrel.out.2.2
      have hn64 := H2.out
      clear hrel
      have hpw : 2 ^ i - 1 < 18446744073709551616 := by
        have := Nat.pow_le_pow_right (show 0 < 2 by decide) (show i ≤ 64 by omega)
        omega
      by_cases hi : i < n
      · have g1 : decide (i < n) = true := decide_eq_true hi
        have q4 := fun (W : World) h => take_live w.heap.size n (2 ^ i - 1) H1.out H2.out hpw W h
        obtain ⟨t1, t2, t3⟩ := take_is n (2 ^ i - 1) i H2.out hi (fun j hj => by rw [full_bit]; exact decide_eq_true hj) (by rw [full_bit]; simp)
        rw [t1, t2, t3, full_next] at q4
        have Q4 := Lib.hid q4
        clear q4 t1 t2 t3 hpw
        go_wp2_with (fail)
        (go_at_call 6; refine (Q4.out _ HP.out).mono ?_; rintro e w4 ⟨rfl, hh4, hp4⟩)
        go_wp2
        go_roundw
        case rel => exact ⟨i + 1, by simp, Lib.hid ⟨hi, hp4, hh4.below HB.out (Nat.le_refl _)⟩⟩
        case measure => simp [intOf]; omega
      · have g1 : decide (i < n) = false := decide_eq_false hi
        have en : n = i := by omega
        subst en
        have q4 := fun (W : World) h => take_live w.heap.size n (2 ^ n - 1) H1.out H2.out hpw W h
        obtain ⟨t1, t2, t3⟩ := take_full n (2 ^ n - 1) H2.out (fun j hj => by rw [full_bit]; exact decide_eq_true hj)
        rw [t1, t2, t3] at q4
        have Q4 := Lib.hid q4
        have hpow := Lib.hid (Nat.pow_le_pow_right (show 0 < 2 by decide) H2.out : 2 ^ n ≤ 2 ^ 64)
        clear q4 t1 t2 t3 hpw hi hin
        go_wp2_with (fail)
        (go_at_call 6; refine (Q4.out _ HP.out).mono ?_; rintro e w4 ⟨rfl, hh4, hp4⟩)
        have HP4 := Lib.hid hp4
        have HB4 := Lib.hid (hh4.below HB.out (Nat.le_refl _))
        clear hp4 hh4 HB HP Q4 Q1 HP1 hB1
        go_wp2_with (fail)
        have hbm : w.heap.size < w4.heap.size := HP4.out.1
        go_loopw [13] (fun s13 wr => ∃ (i x : Nat) (D : DataW Unit), s13 = .int .i64 (i : Nat) ∧ Hid (i ≤ len ∧ x < 2 ^ n ∧ PoolAt wr w.heap.size n x ∧ Own wr w4.heap.size i D ∧ MapF n x D ∧ Below w.heap.size w wr))
          (fun s13 _ => len - (intOf s13).toNat)
        case atStart =>
          exact ⟨0, 2 ^ n - 1, .map [], rfl, Lib.hid ⟨Nat.zero_le _, by have := Nat.two_pow_pos n; omega, HP4.out.below ((Below.refl _ _).alloc (Nat.le_refl _) _), World.ownsMap_made _ _ _ _, MapF.start n H2.out, HB4.out.alloc (Nat.le_of_lt hbm) _⟩⟩
        case round =>
          obtain ⟨i, x, D, rfl, hrel⟩ := hrel
          have Hrel := Lib.hid hrel.out
          have hylt : x < 18446744073709551616 := Nat.lt_of_lt_of_le Hrel.out.2.1 hpow.out
          clear hrel HP4 HB4
          by_cases hkn : i < len ∧ i < 100
          · have g1 : decide (i < len) = true := decide_eq_true hkn.1
            have g2 : decide ((i : Int) < (100 : Int)) = true := decide_eq_true (by omega)
            have hil := Lib.hid hkn.1
            have hi100 := hkn.2
            obtain ⟨A, K, rfl, hcell, hK1, hK2⟩ := HA.out i hkn.1
            have hA := cell_in' hcell
            have L := (Hrel.out.2.2.2.2.2.cell (p := A.add i) hA).trans hcell
            obtain ⟨j, hj, hrem, hr1, hr2⟩ := rem_is K n H1.out
            have hnz : ((n : Int) == 0) = false := by have := H1.out; simp; omega
            clear hkn
            go_upto_region 18 with (fail)
            go_cut [14] from 72 to 81 (fun s14 wx => s14 = .int .i64 (j : Nat) ∧ wx = wr)
            case first =>
              go_wp2
              go_meet
              exact ⟨rfl, rfl⟩
            case rest =>
              obtain ⟨rfl, rfl⟩ := hcut
              rename World => wr
              clear hrem hr1 hr2 hnz L hK1 hK2
              obtain ⟨hm1, hm2⟩ := MapF.give Hrel.out.2.2.2.2.1 H2.out hj
              have hx1 := (give_step n x (j : Int) H2.out Hrel.out.2.1).1
              have HM := Lib.hid hm1
              have HX := Lib.hid hx1
              have Q4 := Lib.hid (fun (W : World) h => give_live w.heap.size n x (j : Int) H1.out H2.out hylt W h)
              have HL := Lib.hid (fun (W : World) (h : Own W w4.heap.size i D) => look_at h Hrel.out.2.2.2.2.1 hj H2.out)
              have HJ := Lib.hid hj
              have HP := Lib.hid Hrel.out.2.2.1
              have HO := Lib.hid Hrel.out.2.2.2.1
              have HB := Lib.hid Hrel.out.2.2.2.2.2
              clear hm1 hx1 hj
              generalize gE n x (j : Int) = E at *
              generalize gX n x (j : Int) = X at *
              generalize x.testBit j = o at *
              go_upto_region 19 with (fail)
              go_cut [89] from 82 to 89 (fun s89 wx => s89 = .bool false ∧ Hid (PoolAt wx w.heap.size n X ∧ Own wx w4.heap.size i D ∧ Below w.heap.size w wx))
              case first =>
                have hl0 := HL.out wr HO.out
                have hl1 := HL.out wr.drew HO.out
                have hq := Q4.out wr.drew HP.out.drew
                have hlh := Lib.hid (fun (w5 : World) (hh : Hold w.heap.size 2 wr.drew w5) => HL.out w5 (Own.hold (w := wr.drew) HO.out (Nat.ne_of_gt hbm) hh))
                go_region_with (go_at_call 7; refine hq.mono ?_; rintro e w5 ⟨rfl, hh5, hp5⟩; have hl5 := hlh.out w5 hh5)
                all_goals
                  go_wp2
                  go_meet
                  exact ⟨by cases o <;> rfl, Lib.hid ⟨hp5, Own.hold (w := wr.drew) HO.out (Nat.ne_of_gt hbm) hh5, hh5.below (Below.drew HB.out) (Nat.le_refl _)⟩⟩
              case rest =>
                obtain ⟨rfl, hcut⟩ := hcut
                rename World => w6
                have HP6 := Lib.hid hcut.out.1
                have HO6 := Lib.hid hcut.out.2.1
                have HB6 := Lib.hid hcut.out.2.2
                clear hcut HP HO HB HL Q4 Hrel
                go_wp2_with (at_mapUpdate; refine wpList_mapUpdate_own _ rfl _ _ _ 46 rfl 3 4 keyed Try.underlying46 (plainElem (H := Unit) Try.prog 4) w4.heap.size i D rfl HO6.out (by unfold maxLen; omega) _ _ _ rfl rfl (key_is j n HJ.out H2.out) _ [] (plainElem_bool Try.underlying4 true) ?_; intro w7 hown7 hgrow7)
                go_roundw
                case rel =>
                  exact ⟨i + 1, X, _, by simp, Lib.hid ⟨hil.out, HX.out, HP6.out.grown (Nat.ne_of_lt hbm) hgrow7, hown7, HM.out, HB6.out.grown hgrow7 (by have := HO6.out.lt; omega) (fun q hq => by cases hq; exact Nat.le_of_lt hbm)⟩⟩
                case measure => have := hil.out; simp [intOf]; omega
          · have gg : i < len → decide ((i : Int) < (100 : Int)) = false := fun h => decide_eq_false (by omega)
            go_upto_region 16 with (fail)
            go_cut [69] from 62 to 69 (fun s69 wx => s69 = .bool false ∧ wx = wr)
            case first =>
              cases g1 : decide (i < len)
              · go_wp2
                go_meet
                exact ⟨rfl, rfl⟩
              · have g2 := gg (of_decide_eq_true g1)
                go_wp2
                go_meet
                exact ⟨rfl, rfl⟩
            case rest =>
              obtain ⟨rfl, rfl⟩ := hcut
              rename World => wr
              clear gg hkn hylt
              have hsz := Lib.hid Hrel.out.2.2.2.2.1.size'
              have HM := Lib.hid Hrel.out.2.2.2.2.1
              have HP := Lib.hid Hrel.out.2.2.1
              have HO := Lib.hid Hrel.out.2.2.2.1
              have HB := Lib.hid Hrel.out.2.2.2.2.2
              have HX := Lib.hid Hrel.out.2.1
              clear Hrel
              go_wp2_with (at_len; refine wpList_len_own _ rfl _ 46 rfl 3 4 Try.underlying46 _ w4.heap.size i D rfl HO.out ?_)
              go_loopw [15, 16] (fun s15 s16 wq => ∃ (m y : Nat) (t : Int), s15 = .int .i64 t ∧ s16 = .int .i64 (m : Nat) ∧ Hid (m + (ones y).length = n ∧ y < 2 ^ n ∧ (∀ k, k < n → y.testBit k = false → x.testBit k = false ∧ t < k) ∧ PoolAt wq w.heap.size n y ∧ Own wq w4.heap.size i D ∧ Below w.heap.size w wq))
                (fun _ s16 _ => (intOf s16).toNat)
              case atStart =>
                exact ⟨Maps.size D, x, -1, rfl, rfl, Lib.hid ⟨hsz.out, HX.out, fun k hk hb => ⟨hb, by omega⟩, HP.out, HO.out, HB.out⟩⟩
              case round =>
                obtain ⟨m, y, t, rfl, rfl, hrel⟩ := hrel
                have Hrel := Lib.hid hrel.out
                have hm64 : m ≤ 64 := by have := hrel.out.1; have := H2.out; omega
                have hylt : y < 18446744073709551616 := Nat.lt_of_lt_of_le Hrel.out.2.1 hpow.out
                clear hrel
                by_cases hm : 0 < m
                · have g1 : decide ((0 : Int) < (m : Int)) = true := decide_eq_true (by omega)
                  have g1' : decide (0 < m) = true := decide_eq_true hm
                  obtain ⟨k, hk, hlow, hkb⟩ := low_free n y H2.out (some_free n y H2.out (by have := Hrel.out.1; omega))
                  obtain ⟨t1, t2, t3⟩ := take_is n y k H2.out hk hlow hkb
                  obtain ⟨hxk, htk⟩ := Hrel.out.2.2.1 k hk hkb
                  have q4 := fun (W : World) h => take_live w.heap.size n y H1.out H2.out hylt W h
                  rw [t1, t2, t3] at q4
                  have Q4 := Lib.hid q4
                  have g2 : decide ((k : Int) ≤ t) = false := decide_eq_false (by omega)
                  have Hk := Lib.hid hk
                  have Hlow := Lib.hid hlow
                  have Hkb := Lib.hid hkb
                  have Hxk := Lib.hid hxk
                  clear q4 t1 t2 t3 hk hlow hkb hxk htk hylt
                  go_wp2_with (fail)
                  (go_at_call 6; refine (Q4.out _ Hrel.out.2.2.2.1).mono ?_; rintro e w8 ⟨rfl, hh8, hp8⟩)
                  have ho8 := Own.hold Hrel.out.2.2.2.2.1 (Nat.ne_of_gt hbm) hh8
                  have hl8 := look_at ho8 HM.out Hk.out H2.out
                  rw [Hxk.out] at hl8
                  have HO8 := Lib.hid ho8
                  clear ho8
                  go_wp2
                  go_roundw
                  case rel =>
                    refine ⟨m - 1, y ||| 2 ^ k, k, by simp, by simp; omega, Lib.hid ⟨?_, ?_, ?_, hp8, HO8.out, hh8.below Hrel.out.2.2.2.2.2 (Nat.le_refl _)⟩⟩
                    · have h1 := Hrel.out.1
                      have h2 := ones_more y k (by have := Hk.out; have := H2.out; omega) Hkb.out
                      omega
                    · exact Nat.or_lt_two_pow Hrel.out.2.1 (Nat.pow_lt_pow_right (by decide) Hk.out)
                    · intro k' hk' hb'
                      rw [set_bit] at hb'
                      simp at hb'
                      refine ⟨(Hrel.out.2.2.1 k' hk' hb'.1).1, ?_⟩
                      rcases Nat.lt_trichotomy k' k with h | h | h
                      · have := Hlow.out k' h
                        rw [hb'.1] at this; cases this
                      · exact (hb'.2 h.symm).elim
                      · omega
                  case measure => simp [intOf]; omega
                · obtain rfl : m = 0 := by omega
                  have q8 := fun (W : World) h => free_live w.heap.size n y (by have := H1.out; omega) H2.out hylt W h
                  rw [show (n : Int) - ((ones y).length : Int) = 0 by have := Hrel.out.1; omega] at q8
                  have Q8 := Lib.hid q8
                  clear q8 hm hylt
                  go_wp2_with (fail)
                  (go_at_call 8; refine (Q8.out _ Hrel.out.2.2.2.1).mono ?_; rintro e w8 ⟨rfl, hb8⟩)
                  go_wp2
                  go_ret
                  exact ⟨rfl, Hrel.out.2.2.2.2.2.trans (hb8.mono Hrel.out.2.2.2.2.2.size)⟩
end Go.Proofs.Ytlaeolmjhghaoaa
