/-
  The walk of FramesPlay: a pool of n numbers.
-/
import Derived.Test.YtlaeolmjhghaoaaFE
import Derived.Deep.CutRange
import Derived.Deep.CutBlock
import Derived.BigQuiet
import Derived.Lib.QuietBelow
set_option linter.unusedSimpArgs false
set_option linter.unusedVariables false
namespace Go.Proofs.Ytlaeolmjhghaoaa
open Go.RowKit

theorem RB.below {w w' : World} {ad : Addr} {bs : List Bool} (h : RB w ad bs) (hb : Below w.heap.size w w') : RB w' ad bs := fun i u hu => (hb.cell (p := ad.add i) (cell_in' (h i u hu))).trans (h i u hu)
theorem addr_block (A : Addr) (i : Nat) : (A.add i).block = A.block := by unfold Addr.add; split <;> rfl
theorem RB.hold {w w' : World} {ad : Addr} {bs : List Bool} {b : Nat} (h : RB w ad bs) (hne : ad.block ≠ b) (hb : Hold b 2 w w') : RB w' ad bs := fun i u hu => (hb.cell (p := ad.add i) (cell_in' (h i u hu)) (by rw [addr_block]; exact hne)).trans (h i u hu)
/-- what the play carries: the pool, the reference's bools, that they lie apart, and that nothing old has turned. -/
structure PlayAt (w wx : World) (b n : Nat) (ad : Addr) (y : Nat) : Prop where
  lt : y < 2 ^ n
  pool : PoolAt wx b n y
  row : RB wx ad (bools n y)
  ne : ad.block ≠ b
  inn : ad.block < wx.heap.size
  below : Below w.heap.size w wx
theorem PlayAt.on {w wx wy : World} {b n y : Nat} {ad : Addr} (h : PlayAt w wx b n ad y) (hb : Below wx.heap.size wx wy) : PlayAt w wy b n ad y :=
  ⟨h.lt, h.pool.below hb, h.row.below hb, h.ne, Nat.lt_of_lt_of_le h.inn hb.size, h.below.trans (hb.mono h.below.size)⟩
theorem RB.inn {w : World} {ad : Addr} {n y : Nat} (h : RB w ad (bools n y)) (h1 : 1 ≤ n) : ad.block < w.heap.size := by
  have hl := bools_len n y
  have := h 0 (.bool ((bools n y)[0]'(by omega))) (by rw [List.getElem?_map, List.getElem?_eq_getElem (by omega)]; rfl)
  have h2 := cell_in' this
  rwa [addr_block] at h2

/-- from p on there lie the numbers xs. -/
def RI (w : World) (p : Option Addr) (xs : List Nat) : Prop := ∀ (i : Nat), i < xs.length → ∃ A, p = some A ∧ w.cell? (A.add i) = some (.int .i64 (xs.getD i 0 : Nat))
theorem RI.below {w w' : World} {p : Option Addr} {xs : List Nat} (h : RI w p xs) (hb : Below w.heap.size w w') : RI w' p xs := fun i hi => by
  obtain ⟨A, h1, h2⟩ := h i hi
  exact ⟨A, h1, (hb.cell (p := A.add i) (cell_in' h2)).trans h2⟩
theorem RI.of_own {w : World} {base : Nat} {v : Value} {xs : List Nat} (h : w.ownsRow base 3 1 v xs.length (xs.map fun k : Nat => Value.int .i64 k)) : ∃ (p : Option Addr) (c : Nat), v = .slice p xs.length c ∧ RI w p xs := by
  rcases h.2 with ⟨rfl, h0⟩ | ⟨g, cap, cur, rfl, _, hh, _, _, _, ht⟩
  · exact ⟨none, 0, by rw [h0], fun i hi => by omega⟩
  · refine ⟨some ⟨g, 0, none⟩, cap, rfl, fun i hi => ⟨⟨g, 0, none⟩, rfl, ?_⟩⟩
    have hu : (xs.map fun k : Nat => Value.int .i64 k)[i]? = some (.int .i64 (xs.getD i 0 : Nat)) := by
      rw [List.getElem?_map, List.getElem?_eq_getElem hi]; simp [List.getD, List.getElem?_eq_getElem hi]
    rw [← ht, List.getElem?_take] at hu
    split at hu
    · have hadd : (⟨g, 0, none⟩ : Addr).add i = ⟨g, i, none⟩ := by unfold Addr.add; split <;> simp_all
      rw [hadd]
      simp [World.cell?, hh]
      simpa using hu
    · cases hu

set_option maxHeartbeats 4000000 in
set_option maxRecDepth 100000 in
theorem play_live (n : Nat) (h1 : 1 ≤ n) (h2 : n ≤ 64) (p : Option Addr) (len cap : Nat) (w : World) (hact : ∀ i, i < len → ∃ (A : Addr) (k : Int), p = some A ∧ w.cell? (A.add i) = some (.int .i64 k)) :
    Calls Try.prog 4 #[.int .i64 (n : Nat), .slice p len cap] w fun r w' => r = .returned (.bool true) ∧ Below w.heap.size w w' := by
  have Q1 := Lib.hid (fun W => new_live n h1 h2 W)
  have Q2 := Lib.hid (fun W => rnew_live n h1 h2 W)
  have HA := Lib.hid hact
  have H1 := Lib.hid h1
  have H2 := Lib.hid h2
  have hpow := Lib.hid (Nat.pow_le_pow_right (show 0 < 2 by decide) h2 : 2 ^ n ≤ 2 ^ 64)
  clear hact h1 h2
  go_enter Try.func4, Try.ntmps4
  go_wp2_with (fail)
  (go_at_call 11; refine (Q1.out _).mono ?_; rintro e w1 ⟨rfl, hb1, hp1⟩)
  go_wp2_with (fail)
  (go_at_call 12; refine (Q2.out _).mono ?_; rintro e w2 ⟨rp, rc, rfl, ho2, hb2⟩)
  go_wp2_with (fail)
  have hz1 : w.heap.size < w1.heap.size := hp1.1
  obtain ⟨ad0, rfl, hne0⟩ : ∃ ad, rp = some ad ∧ ad.block ≠ w.heap.size := by
    rcases ho2.2 with ⟨h0, h3⟩ | ⟨g, cap', cur, hv, hge, _⟩
    · have := H1.out; omega
    · cases hv; exact ⟨_, rfl, by show g ≠ _; omega⟩
  have hr0 : RB w2 ad0 (bools n 0) := by rw [bools_zero]; exact RB.of_own ho2
  have HP0 := Lib.hid (PlayAt.mk (w := w) (Nat.two_pow_pos n) (hp1.below hb2) hr0 hne0 (hr0.inn H1.out) (hb1.trans (hb2.mono hb1.size)))
  clear hr0 hne0 ho2 hb1 hb2 hp1 hz1
  go_loopw [7, 15] (fun s7 s15 wr => ∃ (k c y : Nat) (ad : Addr), s15 = .int .i64 (k : Nat) ∧ s7 = .slice (some ad) n c ∧ Hid (k ≤ len ∧ PlayAt w wr w.heap.size n ad y))
    (fun _ s15 _ => len - (intOf s15).toNat)
  case atStart => exact ⟨0, rc, 0, ad0, rfl, rfl, Lib.hid ⟨Nat.zero_le _, HP0.out⟩⟩
  case round =>
    obtain ⟨k, c, y, ad, rfl, rfl, hrel⟩ := hrel
    obtain ⟨hk, hPl⟩ := hrel.out
    have HPl := Lib.hid hPl
    clear hrel hPl HP0
    by_cases hkn : k < len ∧ k < 200
    · have g1 : decide (k < len) = true := decide_eq_true hkn.1
      have g2 : decide ((k : Int) < (200 : Int)) = true := decide_eq_true (by omega)
      have hkl := Lib.hid hkn.1
      have hk200 := hkn.2
      obtain ⟨A, K, rfl, hcell⟩ := HA.out k hkn.1
      have hA := cell_in' hcell
      have L := (HPl.out.below.cell (p := A.add k) hA).trans hcell
      have hAr := Nat.lt_of_lt_of_le hA HPl.out.below.size
      clear hkn
      obtain ⟨o, ho⟩ : ∃ o, decide (K < 0) = o := ⟨_, rfl⟩
      go_upto_if 92 with (fail)
      go_cut [7, 16, 17] from 88 to 124 (fun s7 s16 s17 wx => ∃ (c y e : Nat) (ad : Addr), s7 = .slice (some ad) n c ∧ s16 = .int .i64 (e : Nat) ∧ s17 = .int .i64 (e : Nat) ∧ Hid (PlayAt w wx w.heap.size n ad y))
      case first =>
        cases o
        rotate_left
        · have hK : K < 0 := of_decide_eq_true ho
          obtain ⟨t1, t2, t3, t4⟩ := take_step n y H2.out HPl.out.lt
          obtain ⟨f1, f2, f3, _⟩ := fst_ok n y H2.out
          have q5 := fun (W : World) h => rtake_any ad n c (fst n y) (bools n y) (bools_len n y) H2.out f1 f2 f3 W h
          rw [← t2, ← t3, ← t4] at q5
          have Q4 := Lib.hid (fun (W : World) h => take_live w.heap.size n y H1.out H2.out (Nat.lt_of_lt_of_le HPl.out.lt hpow.out) W h)
          have Q5 := Lib.hid q5
          have T1 := Lib.hid t1
          clear q5 t1 t2 t3 t4 f1 f2 f3 hK
          generalize tN n y = N at *
          generalize tE n y = E at *
          generalize tX n y = X at *
          go_wp2_with (fail)
          (go_at_call 6; refine (Q4.out _ HPl.out.pool).mono ?_; rintro e w4 ⟨rfl, hh4, hp4⟩)
          have hr4 := HPl.out.row.hold HPl.out.ne hh4
          go_wp2_with (fail)
          (go_at_call 13; refine (Q5.out _ hr4).mono ?_; rintro e w5 ⟨ad', c', rfl, hr5, hb5, ho5⟩)
          go_wp2
          go_meet
          have hB := hh4.below HPl.out.below (Nat.le_refl _)
          refine ⟨c', X, E, ad', rfl, rfl, rfl, Lib.hid ⟨T1.out, hp4.below hb5, hr5, ?_, hr5.inn H1.out, hB.trans (hb5.mono hB.size)⟩⟩
          rcases ho5 with rfl | ho5
          · exact HPl.out.ne
          · have := hp4.1; omega
        · have hK : ¬ K < 0 := of_decide_eq_false ho
          obtain ⟨t1, t2, t3⟩ := give_step n y K H2.out HPl.out.lt
          have q5 := fun (W : World) h => rgive_any ad n c K (bools n y) (bools_len n y) H2.out W h
          rw [← t2, ← t3] at q5
          have Q4 := Lib.hid (fun (W : World) h => give_live w.heap.size n y K H1.out H2.out (Nat.lt_of_lt_of_le HPl.out.lt hpow.out) W h)
          have Q5 := Lib.hid q5
          have T1 := Lib.hid t1
          clear q5 t1 t2 t3 hK
          generalize gE n y K = E at *
          generalize gX n y K = X at *
          go_wp2_with (fail)
          (go_at_call 7; refine (Q4.out _ HPl.out.pool).mono ?_; rintro e w4 ⟨rfl, hh4, hp4⟩)
          have hr4 := HPl.out.row.hold HPl.out.ne hh4
          have L4 := (hh4.cell (p := A.add k) hAr (Nat.ne_of_lt hA)).trans L
          go_wp2_with (fail)
          (go_at_call 14; refine (Q5.out _ hr4).mono ?_; rintro e w5 ⟨ad', c', rfl, hr5, hb5, ho5⟩)
          go_wp2
          go_meet
          have hB := hh4.below HPl.out.below (Nat.le_refl _)
          refine ⟨c', X, E, ad', rfl, rfl, rfl, Lib.hid ⟨T1.out, hp4.below hb5, hr5, ?_, hr5.inn H1.out, hB.trans (hb5.mono hB.size)⟩⟩
          rcases ho5 with rfl | ho5
          · exact HPl.out.ne
          · have := hp4.1; omega
      case rest =>
        clear HPl L hAr ho o
        rename World => wb
        obtain ⟨c, y, e, ad, rfl, rfl, rfl, hcut⟩ := hcut
        have HPl := Lib.hid hcut.out
        clear hcut
        have hylt : y < 18446744073709551616 := Nat.lt_of_lt_of_le HPl.out.lt hpow.out
        have hnz : n ≠ 0 := by have := H1.out; omega
        have q7 := fun (W : World) h => rall_any ad n c (bools n y) (bools_len n y) H2.out W h
        rw [idx_ones n y H2.out HPl.out.lt] at q7
        have Q6 := Lib.hid (fun (W : World) h => all_live w.heap.size n y hnz hylt W h)
        have Q7 := Lib.hid q7
        have Q8 := Lib.hid (fun (W : World) h => free_live w.heap.size n y hnz H2.out hylt W h)
        have Q9 := Lib.hid (fun (W : World) h => taken_live w.heap.size n y K hnz H2.out hylt W h)
        have hL : Hid ((ones y).length ≤ 64) := Lib.hid (by rw [ones_def]; exact onesTo_len y 64)
        clear q7 hnz
        generalize ones y = os at *
        go_wp2_with (fail)
        (go_at_call 10; refine (Q6.out _ HPl.out.pool).mono ?_; rintro e4 w4 ⟨v4, rfl, ho4, hb4⟩)
        obtain ⟨p4, c4, rfl, hi4⟩ := RI.of_own ho4
        clear ho4
        have hr4 := HPl.out.row.below hb4
        go_wp2_with (fail)
        (go_at_call 15; refine (Q7.out _ hr4).mono ?_; rintro e5 w5 ⟨p5, c5, rfl, ho5, hb5⟩)
        obtain ⟨p5, c5, hv5, hi5⟩ := RI.of_own ho5
        cases hv5
        have Hi4 := Lib.hid (hi4.below hb5)
        have Hi5 := Lib.hid hi5
        have HP5 := Lib.hid ((HPl.out.on hb4).on hb5)
        clear ho5 hi4 hi5 hr4 hb4 hb5 HPl Q6 Q7 Q1 Q2
        go_upto_region 23 with (fail)
        go_cut [179] from 129 to 179 (fun s wx => s = .bool false ∧ Hid (Below w5.heap.size w5 wx))
        case first =>
          have hB0 := HP5.out.below
          have L5 := (hB0.cell (p := A.add k) hA).trans hcell
          have k0 := cell_regrown L5
          obtain ⟨_, p0, p1, _, _⟩ := HP5.out.pool
          have hw : IntKind.i64.wrap ((n : Int) - (os.length : Int)) = (n : Int) - os.length := by
            have h2 := H2.out; have h3 := hL.out
            exact IntWalk.i64_in _ (by omega)
          have hnn : ((n : Int) - (os.length : Int) != (n : Int) - (os.length : Int)) = false := by simp
          generalize hLen : os.length = M at *
          clear L5 p0 p1
          by_cases hK0 : K < 0
          · have gK : decide ((0 : Int) ≤ K) = false := decide_eq_false (by omega)
            have q9 := Q9.out
            rw [show tk n y K = false by rw [tk_def, gK]; rfl] at q9
            clear hK0
            refine wp_region_quiet_below (by kernel_rfl) (by kernel_rfl) ?_
            (repeat (go_big_quiet_step (first | (go_at_call 8; exact Calls.regrown_of (Q8.out _ (HP5.out.pool.below (below_regrown _ _ _)))) | (go_at_call 9; exact Calls.regrown_of ((q9 _ (HP5.out.pool.below (below_regrown _ _ _)).2.1 (HP5.out.pool.below (below_regrown _ _ _)).2.2.1).mono fun _ _ h => ⟨h.1, by rw [h.2]; exact Below.refl _ _⟩)))))
            refine wpQuiet_nil ?_
            intro W6 hW6
            obtain ⟨pq, hpq⟩ := hW6
            have hb6 : Below w5.heap.size w5 W6 := by rw [hpq]; exact below_regrown _ _ _
            clear hpq
            go_wp2
            go_meet
            exact ⟨rfl, Lib.hid hb6⟩
          · obtain ⟨m, rfl⟩ := Int.eq_ofNat_of_zero_le (show 0 ≤ K by omega)
            have gK : decide ((0 : Int) ≤ (m : Int)) = true := decide_eq_true (by omega)
            clear hK0
            by_cases hm : m < n
            · have gM : decide (m < n) = true := decide_eq_true hm
              have q9 := Q9.out
              rw [show tk n y (m : Int) = y.testBit m by rw [tk_def, gK, decide_eq_true (show (m : Int) < n by omega)]; rfl] at q9
              have hc5 : w5.cell? (ad.add m) = some (.bool (y.testBit m)) := HP5.out.row m _ (by
                have hl := bools_len n y
                have hb := bools_at n y m hm
                rw [List.getElem?_map, List.getElem?_eq_getElem (by omega)]
                simp [List.getD, List.getElem?_eq_getElem (show m < (bools n y).length by omega)] at hb
                rw [← hb]; rfl)
              have k1 := cell_regrown hc5
              generalize y.testBit m = t at *
              have htt : (t != t) = false := by simp
              clear hc5
              refine wp_region_quiet_below (by kernel_rfl) (by kernel_rfl) ?_
              (repeat (go_big_quiet_step (first | (go_at_call 8; exact Calls.regrown_of (Q8.out _ (HP5.out.pool.below (below_regrown _ _ _)))) | (go_at_call 9; exact Calls.regrown_of ((q9 _ (HP5.out.pool.below (below_regrown _ _ _)).2.1 (HP5.out.pool.below (below_regrown _ _ _)).2.2.1).mono fun _ _ h => ⟨h.1, by rw [h.2]; exact Below.refl _ _⟩)))))
              refine wpQuiet_nil ?_
              intro W6 hW6
              obtain ⟨pq, hpq⟩ := hW6
              have hb6 : Below w5.heap.size w5 W6 := by rw [hpq]; exact below_regrown _ _ _
              clear hpq
              go_wp2
              go_meet
              exact ⟨rfl, Lib.hid hb6⟩
            · have gM : decide (m < n) = false := decide_eq_false hm
              have q9 := Q9.out
              rw [show tk n y (m : Int) = false by rw [tk_def, decide_eq_false (show ¬ ((m : Int) < n) by omega)]; simp] at q9
              clear hm
              refine wp_region_quiet_below (by kernel_rfl) (by kernel_rfl) ?_
              (repeat (go_big_quiet_step (first | (go_at_call 8; exact Calls.regrown_of (Q8.out _ (HP5.out.pool.below (below_regrown _ _ _)))) | (go_at_call 9; exact Calls.regrown_of ((q9 _ (HP5.out.pool.below (below_regrown _ _ _)).2.1 (HP5.out.pool.below (below_regrown _ _ _)).2.2.1).mono fun _ _ h => ⟨h.1, by rw [h.2]; exact Below.refl _ _⟩)))))
              refine wpQuiet_nil ?_
              intro W6 hW6
              obtain ⟨pq, hpq⟩ := hW6
              have hb6 : Below w5.heap.size w5 W6 := by rw [hpq]; exact below_regrown _ _ _
              clear hpq
              go_wp2
              go_meet
              exact ⟨rfl, Lib.hid hb6⟩
        case rest =>
          obtain ⟨rfl, hcut⟩ := hcut
          rename World => wd
          have HB := Lib.hid hcut.out
          clear hcut
          clear Q9
          go_wp2_with (fail)
          go_loopw [25] (fun s25 wq => ∃ j : Nat, s25 = .int .i64 (j : Nat) ∧ Hid (j ≤ os.length ∧ Below wd.heap.size wd wq))
            (fun s25 _ => os.length - (intOf s25).toNat)
          case atStart => exact ⟨0, rfl, Lib.hid ⟨Nat.zero_le _, Below.refl _ _⟩⟩
          case round =>
            obtain ⟨j, rfl, hrel⟩ := hrel
            have Hrel := Lib.hid hrel.out
            clear hrel
            by_cases hj : j < os.length
            · have hj64 : j < 64 := by have := hL.out; omega
              have g3 : decide (j < os.length) = true := decide_eq_true hj
              obtain ⟨A4, rfl, h4⟩ := ((Hi4.out.below HB.out).below Hrel.out.2) j hj
              obtain ⟨A5, rfl, h5⟩ := ((Hi5.out.below HB.out).below Hrel.out.2) j hj
              generalize os.getD j 0 = X at *
              generalize hLen : os.length = M at *
              go_wp2_with (fail)
              go_quiet (fail)
              go_wp2
              go_roundw
              case rel => exact ⟨j + 1, by simp, Lib.hid ⟨hj, Hrel.out.2.trans ⟨rfl, rfl, rfl, Nat.le_refl _, fun _ _ => rfl⟩⟩⟩
              case measure => simp [intOf]; omega
            · have g3 : decide (j < os.length) = false := decide_eq_false hj
              go_wp2
              go_roundw
              case rel =>
                exact ⟨k + 1, c, y, ad, by simp, rfl, Lib.hid ⟨hkl.out, (HP5.out.on HB.out).on Hrel.out.2⟩⟩
              case measure => have := hkl.out; simp [intOf]; omega
    · have gg : k < len → decide ((k : Int) < (200 : Int)) = false := fun h => decide_eq_false (by omega)
      have hylt : y < 18446744073709551616 := Nat.lt_of_lt_of_le HPl.out.lt hpow.out
      have hnz : n ≠ 0 := by have := H1.out; omega
      have Q8 := Lib.hid (fun (W : World) h => free_live w.heap.size n y hnz H2.out hylt W h)
      have Q6 := Lib.hid (fun (W : World) h => all_some w.heap.size n y hnz hylt W h)
      have hL : Hid ((ones y).length ≤ 64) := Lib.hid (by rw [ones_def]; exact onesTo_len y 64)
      clear hnz
      generalize (ones y).length = M at *
      have hn64 : n ≤ 64 := H2.out
      have hw : wrap64 (n : Int) = (n : Int) := by unfold wrap64; omega
      cases g1 : decide (k < len)
      · clear gg hkn
        go_wp2_with (fail)
        (go_at_call 8; refine (Q8.out _ HPl.out.pool).mono ?_; rintro e4 w4 ⟨rfl, hb4⟩)
        have HP4 := Lib.hid (HPl.out.on hb4)
        go_wp2_with (fail)
        (go_at_call 10; refine (Q6.out _ HP4.out.pool).mono ?_; rintro e5 w5 ⟨p5, c5, rfl, hb5⟩)
        have HP5 := Lib.hid (HP4.out.on hb5)
        go_wp2
        go_ret
        exact ⟨rfl, HP5.out.below⟩
      · have g2 := gg (of_decide_eq_true g1)
        clear gg hkn
        go_wp2_with (fail)
        (go_at_call 8; refine (Q8.out _ HPl.out.pool).mono ?_; rintro e4 w4 ⟨rfl, hb4⟩)
        have HP4 := Lib.hid (HPl.out.on hb4)
        go_wp2_with (fail)
        (go_at_call 10; refine (Q6.out _ HP4.out.pool).mono ?_; rintro e5 w5 ⟨p5, c5, rfl, hb5⟩)
        have HP5 := Lib.hid (HP4.out.on hb5)
        go_wp2
        go_ret
        exact ⟨rfl, HP5.out.below⟩
end Go.Proofs.Ytlaeolmjhghaoaa
