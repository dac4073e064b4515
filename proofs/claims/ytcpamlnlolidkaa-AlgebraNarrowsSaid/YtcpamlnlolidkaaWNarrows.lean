/-
  The walk of the law AlgebraNarrows: of any capability and any acts it returns true, and only makes new memory.
-/
import Derived.Test.YtcpamlnlolidkaaVNarrows
import Derived.Test.YtcpamlnlolidkaaA9
import Derived.Deep.CutRange
import Derived.Deep.CutBlock
set_option linter.unusedSimpArgs false
set_option linter.unusedVariables false
namespace Go.Proofs.Ytcpamlnlolidkaa
open Go.RowKit Go.Sort

def CapF (W : World) (b : Nat) (t : Bool) (m a : Nat) : Prop :=
  (W.cell? ⟨b, 0, none⟩ = some (.bool t) ∧ W.cell? ⟨b, 1, none⟩ = some (.int .u64 (m : Nat)) ∧ W.cell? ⟨b, 2, none⟩ = some (.int .u64 (a : Nat))) ∧
  (W.frozen? ⟨b, 0, none⟩ = false ∧ W.frozen? ⟨b, 1, none⟩ = false ∧ W.frozen? ⟨b, 2, none⟩ = false)
theorem CapF.below {W W' : World} {b : Nat} {t : Bool} {m a : Nat} (h : CapF W b t m a) (hb : b < W.heap.size) (hw : Below W.heap.size W W') : CapF W' b t m a := by
  obtain ⟨⟨h0, h1, h2⟩, f0, f1, f2⟩ := h
  exact ⟨⟨(hw.cell (p := ⟨b, 0, none⟩) hb).trans h0, (hw.cell (p := ⟨b, 1, none⟩) hb).trans h1, (hw.cell (p := ⟨b, 2, none⟩) hb).trans h2⟩, (hw.frozen (p := ⟨b, 0, none⟩) hb).trans f0, (hw.frozen (p := ⟨b, 1, none⟩) hb).trans f1, (hw.frozen (p := ⟨b, 2, none⟩) hb).trans f2⟩
theorem CapF.alloc {W : World} {b : Nat} {t : Bool} {m a : Nat} (h : CapF W b t m a) (hb : b < W.heap.size) (o : Obj) : CapF (W.alloc o) b t m a := h.below hb ((Below.refl _ _).alloc (Nat.le_refl _) o)
theorem CapF.keep {W : World} {b c j : Nat} {v : Value} {t : Bool} {m a : Nat} (hne : b ≠ c) (h : CapF W b t m a) : CapF (W.setCell ⟨c, j, none⟩ v) b t m a := by
  obtain ⟨⟨h0, h1, h2⟩, f0, f1, f2⟩ := h
  exact ⟨⟨rd_set_ne (Or.inl hne) h0, rd_set_ne (Or.inl hne) h1, rd_set_ne (Or.inl hne) h2⟩, fz_set f0, fz_set f1, fz_set f2⟩
theorem CapF.put {W : World} {b : Nat} {t : Bool} {m a : Nat} (h : CapF W b t m a) (t' : Bool) (m' a' : Nat) :
    CapF (((W.setCell ⟨b, 0, none⟩ (.bool t')).setCell ⟨b, 1, none⟩ (.int .u64 (m' : Nat))).setCell ⟨b, 2, none⟩ (.int .u64 (a' : Nat))) b t' m' a' := by
  obtain ⟨⟨h0, h1, h2⟩, f0, f1, f2⟩ := h
  have n01 : b ≠ b ∨ (0 : Nat) ≠ 1 := Or.inr (by decide)
  have n02 : b ≠ b ∨ (0 : Nat) ≠ 2 := Or.inr (by decide)
  have n12 : b ≠ b ∨ (1 : Nat) ≠ 2 := Or.inr (by decide)
  have n10 : b ≠ b ∨ (1 : Nat) ≠ 0 := Or.inr (by decide)
  have n20 : b ≠ b ∨ (2 : Nat) ≠ 0 := Or.inr (by decide)
  have n21 : b ≠ b ∨ (2 : Nat) ≠ 1 := Or.inr (by decide)
  exact ⟨⟨rd_set_ne n02 (rd_set_ne n01 (rd_set_eq h0)), rd_set_ne n12 (rd_set_eq (rd_set_ne n10 h1)), rd_set_eq (rd_set_ne n21 (rd_set_ne n20 h2))⟩, fz_set (fz_set (fz_set f0)), fz_set (fz_set (fz_set f1)), fz_set (fz_set (fz_set f2))⟩
/-- what the law knows of the acts: of each of the first n its cells, in w. -/
def ActAt (w : World) (p : Option Addr) (i : Nat) : Prop := ∃ (A : Addr) (k : Int) (N : Nat) (x u : Bool) (M O : Nat), p = some A ∧ N < 18446744073709551616 ∧ M < 18446744073709551616 ∧
  (A.add (i * 6)).block < w.heap.size ∧ w.cell? (A.add (i * 6)) = some (.int .i64 k) ∧ w.cell? ⟨(A.add (i * 6)).block, (A.add (i * 6)).off + 1, none⟩ = some (.int .u64 N) ∧ w.cell? ⟨(A.add (i * 6)).block, (A.add (i * 6)).off + 2, none⟩ = some (.bool x) ∧ w.cell? ⟨(A.add (i * 6)).block, (A.add (i * 6)).off + 3, none⟩ = some (.bool u) ∧ w.cell? ⟨(A.add (i * 6)).block, (A.add (i * 6)).off + 4, none⟩ = some (.int .u64 M) ∧ w.cell? ⟨(A.add (i * 6)).block, (A.add (i * 6)).off + 5, none⟩ = some (.int .u64 O)

set_option maxHeartbeats 16000000 in
set_option maxRecDepth 100000 in
theorem walk_narrows (tg : Bool) (m a : Nat) (hm : m < 18446744073709551616) (p : Option Addr) (len cap n : Nat) (hlc : len ≤ cap) (hn : (60 < len ∧ n = 60 ∧ ∃ A, p = some A) ∨ (len ≤ 60 ∧ n = len)) (w : World) (hact : ∀ i, i < n → ActAt w p i) :
    Calls Try.prog 8 #[.agg #[.bool tg, .int .u64 (m : Nat), .int .u64 (a : Nat)], .slice p len cap] w fun e w' => e = .returned (.bool true) ∧ Below w.heap.size w w' := by
  have Hact := Lib.hid hact
  have Hn := Lib.hid hn
  have Hm := Lib.hid hm
  clear hact hn hm
  have g60 : n ≤ 60 := by have := Hn.out; omega
  go_enter Try.func8, Try.ntmps8
  go_upto_if 11 with (fail)
  go_cut [1] from 9 to 13 (fun s1 wc => s1 = .slice p n cap ∧ wc = w.alloc (.cells #[.bool tg, .int .u64 m, .int .u64 a] 24))
  case first =>
    rcases Hn.out with ⟨h1, h2, A, h3⟩ | ⟨h1, h2⟩
    · have g1 : decide ((60 : Int) < (len : Int)) = true := decide_eq_true (by omega)
      subst h3; subst h2
      go_wp2
      go_meet
      exact ⟨rfl, rfl⟩
    · have g1 : decide ((60 : Int) < (len : Int)) = false := decide_eq_false (by omega)
      subst h2
      go_wp2
      go_meet
      exact ⟨rfl, rfl⟩
  case rest =>
    obtain ⟨rfl, rfl⟩ := hcut
    go_upto_region 3 with (fail)
    go_cut [20] from 14 to 19 (fun s20 wx => s20 = .bool (tg && !ri m a) ∧ Hid (Below w.heap.size w wx ∧ w.heap.size < wx.heap.size ∧ CapF wx w.heap.size tg m a))
    case first =>
      have q3 := right_any tg m a Hm.out
      have Q3 := Lib.hid q3
      clear q3
      generalize ri m a = o at *
      cases tg
      · go_wp2
        go_meet
        refine ⟨rfl, Lib.hid ⟨(by repeat' (first | (with_reducible exact Below.refl _ _) | (with_reducible assumption) | (with_reducible refine Below.alloc ?_ ?_ _) | (with_reducible refine Below.setCell ?_ ?_ _) | (with_reducible refine Below.drew ?_) | (with_reducible refine below_drewN ?_ _) | go_size)), by go_size, ⟨by simp [go_sem], by simp [go_sem], by simp [go_sem]⟩, by simp [go_sem], by simp [go_sem], by simp [go_sem]⟩⟩
      · go_wp2_with (fail)
        (go_at_call 37; refine (Q3.out _).mono ?_; rintro e w3 ⟨rfl, hb3⟩; obtain ⟨hc3, hf3⟩ := bcell hb3; have hq3 : Below w.heap.size w w3 := (by refine Below.trans ?_ (hb3.mono ?_); exact (by repeat' (first | (with_reducible exact Below.refl _ _) | (with_reducible assumption) | (with_reducible refine Below.alloc ?_ ?_ _) | (with_reducible refine Below.setCell ?_ ?_ _) | (with_reducible refine Below.drew ?_) | (with_reducible refine below_drewN ?_ _) | go_size)); go_size); have hs3 := hq3.size; have hz3w0 : w.heap.size < w3.heap.size := (by have := hb3.size; (try simp at this); omega); have hm3w0 := Nat.ne_of_gt hz3w0; have hn3w0 := Nat.ne_of_lt hz3w0)
        go_wp2
        go_meet
        refine ⟨rfl, Lib.hid ⟨hq3, by omega, CapF.below ⟨⟨by simp [go_sem], by simp [go_sem], by simp [go_sem]⟩, by simp [go_sem], by simp [go_sem], by simp [go_sem]⟩ (by go_size) hb3⟩⟩
    case rest =>
      obtain ⟨rfl, hcut⟩ := hcut
      rename World => wb
      obtain ⟨hB, hz, ⟨c0, c1, c2⟩, f0, f1, f2⟩ := hcut.out
      clear hcut
      cases hx : (tg && !ri m a)
      · have hs : Nw tg m a tg m a := Nw.start Hm.out fun ht => by rw [ht] at hx; simpa using hx
        have Hs := Lib.hid hs
        clear hx hs
        go_wp2_with (fail)
        go_loopw [7] (fun i wr => ∃ (k : Nat) (ft : Bool) (fm fa : Nat) (t : Bool) (m' a' : Nat), k ≤ n ∧ i = .int .i64 (k : Nat) ∧ Hid (Nw t m' a' ft fm fa ∧ Below w.heap.size w wr ∧ wb.heap.size + 1 < wr.heap.size ∧ CapF wr wb.heap.size ft fm fa ∧ CapF wr (wb.heap.size + 1) t m' a'))
          (fun i _ => n - (intOf i).toNat)
        case atStart =>
          refine ⟨0, tg, m, a, tg, m, a, Nat.zero_le _, rfl, Lib.hid ⟨Hs.out, ?_, ?_, ⟨⟨by simp [go_sem], by simp [go_sem], by simp [go_sem]⟩, by simp [go_sem], by simp [go_sem], by simp [go_sem]⟩, ⟨by simp [go_sem], by simp [go_sem], by simp [go_sem]⟩, by simp [go_sem], by simp [go_sem], by simp [go_sem]⟩⟩
          · exact Below.alloc (Below.alloc hB (Nat.le_of_lt hz) _) (by go_size) _
          · go_size
        case round =>
          obtain ⟨k, ft, fm, fa, t, m', a', hk, rfl, hrel⟩ := hrel
          obtain ⟨hNw, hBr, hzr, hF, hD⟩ := hrel.out
          have HNw := Lib.hid hNw
          have HF := Lib.hid hF
          obtain ⟨⟨d0, d1, d2⟩, e0, e1, e2⟩ := hD
          obtain ⟨⟨q0, q1, q2⟩, r0, r1, r2⟩ := hF
          clear hNw hrel c0 c1 c2 f0 f1 f2
          by_cases hkn : k < n
          · have g35 : decide ((k : Int) < (n : Int)) = true := decide_eq_true (by omega)
            obtain ⟨A, K, N, x, u, M, O, rfl, hN, hM, hA, l0, l1, l2, l3, l4, l5⟩ := Hact.out k hkn
            have hAr : (A.add (k * 6)).block < wr.heap.size := Nat.lt_of_lt_of_le hA hBr.size
            have L0 := (hBr.cell (p := A.add (k * 6)) hA).trans l0
            have L1 := (hBr.cell (p := ⟨(A.add (k * 6)).block, (A.add (k * 6)).off + 1, none⟩) hA).trans l1
            have L2 := (hBr.cell (p := ⟨(A.add (k * 6)).block, (A.add (k * 6)).off + 2, none⟩) hA).trans l2
            have L3 := (hBr.cell (p := ⟨(A.add (k * 6)).block, (A.add (k * 6)).off + 3, none⟩) hA).trans l3
            have L4 := (hBr.cell (p := ⟨(A.add (k * 6)).block, (A.add (k * 6)).off + 4, none⟩) hA).trans l4
            have L5 := (hBr.cell (p := ⟨(A.add (k * 6)).block, (A.add (k * 6)).off + 5, none⟩) hA).trans l5
            clear l0 l1 l2 l3 l4 l5
            go_upto_block 2 with (fail)
            have hD : CapF wr (wb.heap.size + 1) t m' a' := ⟨⟨d0, d1, d2⟩, e0, e1, e2⟩
            have hF := HF.out
            have hNw := HNw.out
            have hmm := hNw.1
            go_cut [] from 44 to 97 (fun wx => ∃ (ft : Bool) (fm fa : Nat) (t : Bool) (m' a' : Nat), Hid (Nw t m' a' ft fm fa ∧ Below w.heap.size w wx ∧ wb.heap.size + 1 < wx.heap.size ∧ CapF wx wb.heap.size ft fm fa ∧ CapF wx (wb.heap.size + 1) t m' a'))
            case first =>
              have hK : K = 0 ∨ K = 1 ∨ K = 2 ∨ K = 3 ∨ K = 4 ∨ K = 5 ∨ K = 6 ∨ K = 7 ∨ K = 8 ∨ (K ≠ 0 ∧ K ≠ 1 ∧ K ≠ 2 ∧ K ≠ 3 ∧ K ≠ 4 ∧ K ≠ 5 ∧ K ≠ 6 ∧ K ≠ 7 ∧ K ≠ 8) := by omega
              rcases hK with rfl | rfl | rfl | rfl | rfl | rfl | rfl | rfl | rfl | ⟨k0, k1, k2, k3, k4, k5, k6, k7, k8⟩
              · have q4 := address_any t m' a' N hmm
                have hn2 := hNw.at' N
                generalize aT t m' a' N = t2 at q4 hn2
                have Q4 := Lib.hid q4
                clear q4
                go_wp2_with (fail)
                (go_at_call 12; refine (Q4.out _).mono ?_; rintro e w4 ⟨rfl, hb4⟩; obtain ⟨hc4, hf4⟩ := bcell hb4; have hq4 : Below w.heap.size w w4 := (by refine Below.trans ?_ (hb4.mono ?_); exact (by repeat' (first | (with_reducible exact Below.refl _ _) | (with_reducible assumption) | (with_reducible refine Below.alloc ?_ ?_ _) | (with_reducible refine Below.setCell ?_ ?_ _) | (with_reducible refine Below.drew ?_) | (with_reducible refine below_drewN ?_ _) | go_size)); go_size); have hs4 := hq4.size)
                have hz4 : wb.heap.size + 1 < w4.heap.size := by have := hb4.size; (try simp at this); omega
                have hF4 : CapF w4 wb.heap.size ft fm fa := (hF.alloc (by omega) _).below (by go_size) hb4
                have hD4 : CapF w4 (wb.heap.size + 1) t m' a' := (hD.alloc (by omega) _).below (by go_size) hb4
                obtain ⟨⟨x0, x1, x2⟩, y0, y1, y2⟩ := hD4
                obtain ⟨⟨v0, v1, v2⟩, s0, s1, s2⟩ := hF4
                have hF4 : CapF w4 wb.heap.size ft fm fa := ⟨⟨v0, v1, v2⟩, s0, s1, s2⟩
                have hD4 : CapF w4 (wb.heap.size + 1) t m' a' := ⟨⟨x0, x1, x2⟩, y0, y1, y2⟩
                go_wp2
                go_meet
                exact ⟨_, _, _, _, _, _, Lib.hid ⟨hn2, (by repeat' (first | (with_reducible exact Below.refl _ _) | (with_reducible assumption) | (with_reducible refine Below.alloc ?_ ?_ _) | (with_reducible refine Below.setCell ?_ ?_ _) | (with_reducible refine Below.drew ?_) | (with_reducible refine below_drewN ?_ _) | go_size)), by go_size, ((hF4.keep (by omega)).keep (by omega)).keep (by omega), hD4.put _ _ _⟩⟩
              · have q4 := move_any t m' a' N hmm
                have hn2 := hNw.at' (ad a' N)
                generalize aT t m' a' (ad a' N) = t2 at q4 hn2
                generalize ad a' N = z2 at q4 hn2
                have Q4 := Lib.hid q4
                clear q4
                go_wp2_with (fail)
                (go_at_call 22; refine (Q4.out _).mono ?_; rintro e w4 ⟨rfl, hb4⟩; obtain ⟨hc4, hf4⟩ := bcell hb4; have hq4 : Below w.heap.size w w4 := (by refine Below.trans ?_ (hb4.mono ?_); exact (by repeat' (first | (with_reducible exact Below.refl _ _) | (with_reducible assumption) | (with_reducible refine Below.alloc ?_ ?_ _) | (with_reducible refine Below.setCell ?_ ?_ _) | (with_reducible refine Below.drew ?_) | (with_reducible refine below_drewN ?_ _) | go_size)); go_size); have hs4 := hq4.size)
                have hz4 : wb.heap.size + 1 < w4.heap.size := by have := hb4.size; (try simp at this); omega
                have hF4 : CapF w4 wb.heap.size ft fm fa := (hF.alloc (by omega) _).below (by go_size) hb4
                have hD4 : CapF w4 (wb.heap.size + 1) t m' a' := (hD.alloc (by omega) _).below (by go_size) hb4
                obtain ⟨⟨x0, x1, x2⟩, y0, y1, y2⟩ := hD4
                obtain ⟨⟨v0, v1, v2⟩, s0, s1, s2⟩ := hF4
                have hF4 : CapF w4 wb.heap.size ft fm fa := ⟨⟨v0, v1, v2⟩, s0, s1, s2⟩
                have hD4 : CapF w4 (wb.heap.size + 1) t m' a' := ⟨⟨x0, x1, x2⟩, y0, y1, y2⟩
                go_wp2
                go_meet
                exact ⟨_, _, _, _, _, _, Lib.hid ⟨hn2, (by repeat' (first | (with_reducible exact Below.refl _ _) | (with_reducible assumption) | (with_reducible refine Below.alloc ?_ ?_ _) | (with_reducible refine Below.setCell ?_ ?_ _) | (with_reducible refine Below.drew ?_) | (with_reducible refine below_drewN ?_ _) | go_size)), by go_size, ((hF4.keep (by omega)).keep (by omega)).keep (by omega), hD4.put _ _ _⟩⟩
              · have q4 := bound_any t m' a' N x hmm
                have hn2 := hNw.bound N x
                generalize bT t m' a' N x = t2 at q4 hn2
                generalize bM m' a' N = z2 at q4 hn2
                have Q4 := Lib.hid q4
                clear q4
                go_wp2_with (fail)
                (go_at_call 13; refine (Q4.out _).mono ?_; rintro e w4 ⟨rfl, hb4⟩; obtain ⟨hc4, hf4⟩ := bcell hb4; have hq4 : Below w.heap.size w w4 := (by refine Below.trans ?_ (hb4.mono ?_); exact (by repeat' (first | (with_reducible exact Below.refl _ _) | (with_reducible assumption) | (with_reducible refine Below.alloc ?_ ?_ _) | (with_reducible refine Below.setCell ?_ ?_ _) | (with_reducible refine Below.drew ?_) | (with_reducible refine below_drewN ?_ _) | go_size)); go_size); have hs4 := hq4.size)
                have hz4 : wb.heap.size + 1 < w4.heap.size := by have := hb4.size; (try simp at this); omega
                have hF4 : CapF w4 wb.heap.size ft fm fa := (hF.alloc (by omega) _).below (by go_size) hb4
                have hD4 : CapF w4 (wb.heap.size + 1) t m' a' := (hD.alloc (by omega) _).below (by go_size) hb4
                obtain ⟨⟨x0, x1, x2⟩, y0, y1, y2⟩ := hD4
                obtain ⟨⟨v0, v1, v2⟩, s0, s1, s2⟩ := hF4
                have hF4 : CapF w4 wb.heap.size ft fm fa := ⟨⟨v0, v1, v2⟩, s0, s1, s2⟩
                have hD4 : CapF w4 (wb.heap.size + 1) t m' a' := ⟨⟨x0, x1, x2⟩, y0, y1, y2⟩
                go_wp2
                go_meet
                exact ⟨_, _, _, _, _, _, Lib.hid ⟨hn2, (by repeat' (first | (with_reducible exact Below.refl _ _) | (with_reducible assumption) | (with_reducible refine Below.alloc ?_ ?_ _) | (with_reducible refine Below.setCell ?_ ?_ _) | (with_reducible refine Below.drew ?_) | (with_reducible refine below_drewN ?_ _) | go_size)), by go_size, ((hF4.keep (by omega)).keep (by omega)).keep (by omega), hD4.put _ _ _⟩⟩
              · have q4 := and_any t m' a' N hmm hN
                have hn2 := hNw.and' N hN
                generalize opn t m' a' = t2 at q4 hn2
                generalize aM m' N = z2 at q4 hn2
                have Q4 := Lib.hid q4
                clear q4
                go_wp2_with (fail)
                (go_at_call 14; refine (Q4.out _).mono ?_; rintro e w4 ⟨rfl, hb4⟩; obtain ⟨hc4, hf4⟩ := bcell hb4; have hq4 : Below w.heap.size w w4 := (by refine Below.trans ?_ (hb4.mono ?_); exact (by repeat' (first | (with_reducible exact Below.refl _ _) | (with_reducible assumption) | (with_reducible refine Below.alloc ?_ ?_ _) | (with_reducible refine Below.setCell ?_ ?_ _) | (with_reducible refine Below.drew ?_) | (with_reducible refine below_drewN ?_ _) | go_size)); go_size); have hs4 := hq4.size)
                have hz4 : wb.heap.size + 1 < w4.heap.size := by have := hb4.size; (try simp at this); omega
                have hF4 : CapF w4 wb.heap.size ft fm fa := (hF.alloc (by omega) _).below (by go_size) hb4
                have hD4 : CapF w4 (wb.heap.size + 1) t m' a' := (hD.alloc (by omega) _).below (by go_size) hb4
                obtain ⟨⟨x0, x1, x2⟩, y0, y1, y2⟩ := hD4
                obtain ⟨⟨v0, v1, v2⟩, s0, s1, s2⟩ := hF4
                have hF4 : CapF w4 wb.heap.size ft fm fa := ⟨⟨v0, v1, v2⟩, s0, s1, s2⟩
                have hD4 : CapF w4 (wb.heap.size + 1) t m' a' := ⟨⟨x0, x1, x2⟩, y0, y1, y2⟩
                go_wp2
                go_meet
                exact ⟨_, _, _, _, _, _, Lib.hid ⟨hn2, (by repeat' (first | (with_reducible exact Below.refl _ _) | (with_reducible assumption) | (with_reducible refine Below.alloc ?_ ?_ _) | (with_reducible refine Below.setCell ?_ ?_ _) | (with_reducible refine Below.drew ?_) | (with_reducible refine below_drewN ?_ _) | go_size)), by go_size, ((hF4.keep (by omega)).keep (by omega)).keep (by omega), hD4.put _ _ _⟩⟩
              · have q4 := seal_any t m' a' hmm u M O hM
                have hn2 := hNw.seal u M O
                generalize uM (sl t m' a' u M O) m' O = z2 at q4 hn2
                generalize sl t m' a' u M O = t2 at q4 hn2
                have Q4 := Lib.hid q4
                clear q4
                go_wp2_with (fail)
                (go_at_call 10; refine (Q4.out _).mono ?_; rintro e w4 ⟨rfl, hb4⟩; obtain ⟨hc4, hf4⟩ := bcell hb4; have hq4 : Below w.heap.size w w4 := (by refine Below.trans ?_ (hb4.mono ?_); exact (by repeat' (first | (with_reducible exact Below.refl _ _) | (with_reducible assumption) | (with_reducible refine Below.alloc ?_ ?_ _) | (with_reducible refine Below.setCell ?_ ?_ _) | (with_reducible refine Below.drew ?_) | (with_reducible refine below_drewN ?_ _) | go_size)); go_size); have hs4 := hq4.size)
                have hz4 : wb.heap.size + 1 < w4.heap.size := by have := hb4.size; (try simp at this); omega
                have hF4 : CapF w4 wb.heap.size ft fm fa := (hF.alloc (by omega) _).below (by go_size) hb4
                have hD4 : CapF w4 (wb.heap.size + 1) t m' a' := (hD.alloc (by omega) _).below (by go_size) hb4
                obtain ⟨⟨x0, x1, x2⟩, y0, y1, y2⟩ := hD4
                obtain ⟨⟨v0, v1, v2⟩, s0, s1, s2⟩ := hF4
                have hF4 : CapF w4 wb.heap.size ft fm fa := ⟨⟨v0, v1, v2⟩, s0, s1, s2⟩
                have hD4 : CapF w4 (wb.heap.size + 1) t m' a' := ⟨⟨x0, x1, x2⟩, y0, y1, y2⟩
                go_wp2
                go_meet
                exact ⟨_, _, _, _, _, _, Lib.hid ⟨hn2, (by repeat' (first | (with_reducible exact Below.refl _ _) | (with_reducible assumption) | (with_reducible refine Below.alloc ?_ ?_ _) | (with_reducible refine Below.setCell ?_ ?_ _) | (with_reducible refine Below.drew ?_) | (with_reducible refine below_drewN ?_ _) | go_size)), by go_size, ((hF4.keep (by omega)).keep (by omega)).keep (by omega), hD4.put _ _ _⟩⟩
              · have q4 := enter_any t m' a' hmm
                have hn2 := hNw.enter
                generalize uM (en t m' a') m' 1 = z2 at q4 hn2
                generalize en t m' a' = t2 at q4 hn2
                have Q4 := Lib.hid q4
                clear q4
                go_wp2_with (fail)
                (go_at_call 15; refine (Q4.out _).mono ?_; rintro e w4 ⟨rfl, hb4⟩; obtain ⟨hc4, hf4⟩ := bcell hb4; have hq4 : Below w.heap.size w w4 := (by refine Below.trans ?_ (hb4.mono ?_); exact (by repeat' (first | (with_reducible exact Below.refl _ _) | (with_reducible assumption) | (with_reducible refine Below.alloc ?_ ?_ _) | (with_reducible refine Below.setCell ?_ ?_ _) | (with_reducible refine Below.drew ?_) | (with_reducible refine below_drewN ?_ _) | go_size)); go_size); have hs4 := hq4.size)
                have hz4 : wb.heap.size + 1 < w4.heap.size := by have := hb4.size; (try simp at this); omega
                have hF4 : CapF w4 wb.heap.size ft fm fa := (hF.alloc (by omega) _).below (by go_size) hb4
                have hD4 : CapF w4 (wb.heap.size + 1) t m' a' := (hD.alloc (by omega) _).below (by go_size) hb4
                obtain ⟨⟨x0, x1, x2⟩, y0, y1, y2⟩ := hD4
                obtain ⟨⟨v0, v1, v2⟩, s0, s1, s2⟩ := hF4
                have hF4 : CapF w4 wb.heap.size ft fm fa := ⟨⟨v0, v1, v2⟩, s0, s1, s2⟩
                have hD4 : CapF w4 (wb.heap.size + 1) t m' a' := ⟨⟨x0, x1, x2⟩, y0, y1, y2⟩
                go_wp2
                go_meet
                exact ⟨_, _, _, _, _, _, Lib.hid ⟨hn2, (by repeat' (first | (with_reducible exact Below.refl _ _) | (with_reducible assumption) | (with_reducible refine Below.alloc ?_ ?_ _) | (with_reducible refine Below.setCell ?_ ?_ _) | (with_reducible refine Below.drew ?_) | (with_reducible refine below_drewN ?_ _) | go_size)), by go_size, ((hF4.keep (by omega)).keep (by omega)).keep (by omega), hD4.put _ _ _⟩⟩
              · have q4 := open_any t m' a' hmm
                have hn2 := hNw.open'
                generalize uM (oo t m' a') m' 0 = z2 at q4 hn2
                have Q4 := Lib.hid q4
                clear q4
                go_wp2_with (fail)
                (go_at_call 33; refine (Q4.out _).mono ?_; rintro e w4 ⟨rfl, hb4⟩; obtain ⟨hc4, hf4⟩ := bcell hb4; have hq4 : Below w.heap.size w w4 := (by refine Below.trans ?_ (hb4.mono ?_); exact (by repeat' (first | (with_reducible exact Below.refl _ _) | (with_reducible assumption) | (with_reducible refine Below.alloc ?_ ?_ _) | (with_reducible refine Below.setCell ?_ ?_ _) | (with_reducible refine Below.drew ?_) | (with_reducible refine below_drewN ?_ _) | go_size)); go_size); have hs4 := hq4.size)
                have hz4 : wb.heap.size + 1 < w4.heap.size := by have := hb4.size; (try simp at this); omega
                have hF4 : CapF w4 wb.heap.size ft fm fa := (hF.alloc (by omega) _).below (by go_size) hb4
                have hD4 : CapF w4 (wb.heap.size + 1) t m' a' := (hD.alloc (by omega) _).below (by go_size) hb4
                obtain ⟨⟨x0, x1, x2⟩, y0, y1, y2⟩ := hD4
                obtain ⟨⟨v0, v1, v2⟩, s0, s1, s2⟩ := hF4
                have hF4 : CapF w4 wb.heap.size ft fm fa := ⟨⟨v0, v1, v2⟩, s0, s1, s2⟩
                have hD4 : CapF w4 (wb.heap.size + 1) t m' a' := ⟨⟨x0, x1, x2⟩, y0, y1, y2⟩
                go_wp2
                go_meet
                exact ⟨_, _, _, _, _, _, Lib.hid ⟨hn2, (by repeat' (first | (with_reducible exact Below.refl _ _) | (with_reducible assumption) | (with_reducible refine Below.alloc ?_ ?_ _) | (with_reducible refine Below.setCell ?_ ?_ _) | (with_reducible refine Below.drew ?_) | (with_reducible refine below_drewN ?_ _) | go_size)), by go_size, ((hF4.keep (by omega)).keep (by omega)).keep (by omega), hD4.put _ _ _⟩⟩
              · have q4 := aclear_any t m' a'
                have hn2 := hNw.off m' a' hmm
                have Q4 := Lib.hid q4
                clear q4
                go_wp2_with (fail)
                (go_at_call 19; refine (Q4.out _).mono ?_; rintro e w4 ⟨rfl, hb4⟩; obtain ⟨hc4, hf4⟩ := bcell hb4; have hq4 : Below w.heap.size w w4 := (by refine Below.trans ?_ (hb4.mono ?_); exact (by repeat' (first | (with_reducible exact Below.refl _ _) | (with_reducible assumption) | (with_reducible refine Below.alloc ?_ ?_ _) | (with_reducible refine Below.setCell ?_ ?_ _) | (with_reducible refine Below.drew ?_) | (with_reducible refine below_drewN ?_ _) | go_size)); go_size); have hs4 := hq4.size)
                have hz4 : wb.heap.size + 1 < w4.heap.size := by have := hb4.size; (try simp at this); omega
                have hF4 : CapF w4 wb.heap.size ft fm fa := (hF.alloc (by omega) _).below (by go_size) hb4
                have hD4 : CapF w4 (wb.heap.size + 1) t m' a' := (hD.alloc (by omega) _).below (by go_size) hb4
                obtain ⟨⟨x0, x1, x2⟩, y0, y1, y2⟩ := hD4
                obtain ⟨⟨v0, v1, v2⟩, s0, s1, s2⟩ := hF4
                have hF4 : CapF w4 wb.heap.size ft fm fa := ⟨⟨v0, v1, v2⟩, s0, s1, s2⟩
                have hD4 : CapF w4 (wb.heap.size + 1) t m' a' := ⟨⟨x0, x1, x2⟩, y0, y1, y2⟩
                go_wp2
                go_meet
                exact ⟨_, _, _, _, _, _, Lib.hid ⟨hn2, (by repeat' (first | (with_reducible exact Below.refl _ _) | (with_reducible assumption) | (with_reducible refine Below.alloc ?_ ?_ _) | (with_reducible refine Below.setCell ?_ ?_ _) | (with_reducible refine Below.drew ?_) | (with_reducible refine below_drewN ?_ _) | go_size)), by go_size, ((hF4.keep (by omega)).keep (by omega)).keep (by omega), hD4.put _ _ _⟩⟩
              · have q4 := build_any t m' a' hmm u M O hM
                cases hb : bd m' a' u M O
                · rw [hb] at q4
                  have hn2 := hNw.off m' a' hmm
                  clear hb
                  have Q4 := Lib.hid q4
                  clear q4
                  go_wp2_with (fail)
                  (go_at_call 35; refine (Q4.out _).mono ?_; rintro e w4 ⟨rfl, hb4⟩; obtain ⟨hc4, hf4⟩ := bcell hb4; have hq4 : Below w.heap.size w w4 := (by refine Below.trans ?_ (hb4.mono ?_); exact (by repeat' (first | (with_reducible exact Below.refl _ _) | (with_reducible assumption) | (with_reducible refine Below.alloc ?_ ?_ _) | (with_reducible refine Below.setCell ?_ ?_ _) | (with_reducible refine Below.drew ?_) | (with_reducible refine below_drewN ?_ _) | go_size)); go_size); have hs4 := hq4.size)
                  have hz4 : wb.heap.size + 1 < w4.heap.size := by have := hb4.size; (try simp at this); omega
                  have hF4 : CapF w4 wb.heap.size ft fm fa := (hF.alloc (by omega) _).below (by go_size) hb4
                  have hD4 : CapF w4 (wb.heap.size + 1) t m' a' := (hD.alloc (by omega) _).below (by go_size) hb4
                  obtain ⟨⟨x0, x1, x2⟩, y0, y1, y2⟩ := hD4
                  obtain ⟨⟨v0, v1, v2⟩, s0, s1, s2⟩ := hF4
                  have hF4 : CapF w4 wb.heap.size ft fm fa := ⟨⟨v0, v1, v2⟩, s0, s1, s2⟩
                  have hD4 : CapF w4 (wb.heap.size + 1) t m' a' := ⟨⟨x0, x1, x2⟩, y0, y1, y2⟩
                  go_wp2
                  go_meet
                  exact ⟨_, _, _, _, _, _, Lib.hid ⟨hn2, (by repeat' (first | (with_reducible exact Below.refl _ _) | (with_reducible assumption) | (with_reducible refine Below.alloc ?_ ?_ _) | (with_reducible refine Below.setCell ?_ ?_ _) | (with_reducible refine Below.drew ?_) | (with_reducible refine below_drewN ?_ _) | go_size)), by go_size, ((hF4.keep (by omega)).keep (by omega)).keep (by omega), hD4.put _ _ _⟩⟩
                · rw [hb] at q4
                  have hn2 := Nw.build (t := t) hmm hM hb
                  clear hb
                  have Q4 := Lib.hid q4
                  clear q4
                  go_wp2_with (fail)
                  (go_at_call 35; refine (Q4.out _).mono ?_; rintro e w4 ⟨rfl, hb4⟩; obtain ⟨hc4, hf4⟩ := bcell hb4; have hq4 : Below w.heap.size w w4 := (by refine Below.trans ?_ (hb4.mono ?_); exact (by repeat' (first | (with_reducible exact Below.refl _ _) | (with_reducible assumption) | (with_reducible refine Below.alloc ?_ ?_ _) | (with_reducible refine Below.setCell ?_ ?_ _) | (with_reducible refine Below.drew ?_) | (with_reducible refine below_drewN ?_ _) | go_size)); go_size); have hs4 := hq4.size)
                  have hz4 : wb.heap.size + 1 < w4.heap.size := by have := hb4.size; (try simp at this); omega
                  have hF4 : CapF w4 wb.heap.size ft fm fa := (hF.alloc (by omega) _).below (by go_size) hb4
                  have hD4 : CapF w4 (wb.heap.size + 1) t m' a' := (hD.alloc (by omega) _).below (by go_size) hb4
                  obtain ⟨⟨x0, x1, x2⟩, y0, y1, y2⟩ := hD4
                  obtain ⟨⟨v0, v1, v2⟩, s0, s1, s2⟩ := hF4
                  have hF4 : CapF w4 wb.heap.size ft fm fa := ⟨⟨v0, v1, v2⟩, s0, s1, s2⟩
                  have hD4 : CapF w4 (wb.heap.size + 1) t m' a' := ⟨⟨x0, x1, x2⟩, y0, y1, y2⟩
                  have b4_0 : w4.cell? ⟨wr.heap.size, 3, none⟩ = some (.bool u) := rd_below hb4 (by go_size) (by simp [go_sem])
                  have b4_1 : w4.cell? ⟨wr.heap.size, 4, none⟩ = some (.int .u64 M) := rd_below hb4 (by go_size) (by simp [go_sem])
                  have b4_2 : w4.cell? ⟨wr.heap.size, 5, none⟩ = some (.int .u64 O) := rd_below hb4 (by go_size) (by simp [go_sem])
                  have hzw : wr.heap.size < w4.heap.size := by have := hb4.size; (try simp at this); omega
                  go_wp2
                  go_meet
                  exact ⟨_, _, _, _, _, _, Lib.hid ⟨hn2, (by repeat' (first | (with_reducible exact Below.refl _ _) | (with_reducible assumption) | (with_reducible refine Below.alloc ?_ ?_ _) | (with_reducible refine Below.setCell ?_ ?_ _) | (with_reducible refine Below.drew ?_) | (with_reducible refine below_drewN ?_ _) | go_size)), by go_size, CapF.put (((hF4.keep (by omega)).keep (by omega)).keep (by omega)) _ _ _, CapF.keep (by omega) (CapF.keep (by omega) (CapF.keep (by omega) (hD4.put _ _ _)))⟩⟩
              · have j0 : (K == (0 : Int)) = false := by simp [k0]
                have j1 : (K == (1 : Int)) = false := by simp [k1]
                have j2 : (K == (2 : Int)) = false := by simp [k2]
                have j3 : (K == (3 : Int)) = false := by simp [k3]
                have j4 : (K == (4 : Int)) = false := by simp [k4]
                have j5 : (K == (5 : Int)) = false := by simp [k5]
                have j6 : (K == (6 : Int)) = false := by simp [k6]
                have j7 : (K == (7 : Int)) = false := by simp [k7]
                have j8 : (K == (8 : Int)) = false := by simp [k8]
                clear k0 k1 k2 k3 k4 k5 k6 k7 k8
                go_wp2
                go_meet
                exact ⟨_, _, _, _, _, _, Lib.hid ⟨hNw, (by repeat' (first | (with_reducible exact Below.refl _ _) | (with_reducible assumption) | (with_reducible refine Below.alloc ?_ ?_ _) | (with_reducible refine Below.setCell ?_ ?_ _) | (with_reducible refine Below.drew ?_) | (with_reducible refine below_drewN ?_ _) | go_size)), by go_size, hF.alloc (by omega) _, hD.alloc (by omega) _⟩⟩
            case rest =>
              clear hNw hmm hF hD HNw HF hBr hzr d0 d1 d2 e0 e1 e2 q0 q1 q2 r0 r1 r2 hA L0 L1 L2 L3 L4 L5 hAr g35
              obtain ⟨ft, fm, fa, t, m', a', hcut⟩ := hcut
              obtain ⟨hNw, hBw, hzw, hF, hD⟩ := hcut.out
              have ⟨⟨d0, d1, d2⟩, e0, e1, e2⟩ := hD
              have ⟨⟨q0, q1, q2⟩, r0, r1, r2⟩ := hF
              cases t
              · go_wp2
                go_roundw
                case rel => exact ⟨k + 1, ft, fm, fa, false, m', a', by omega, by simp, Lib.hid ⟨hNw, hBw, hzw, hF, hD⟩⟩
                case measure => simp [intOf]; omega
              · obtain ⟨n1, n2, n3⟩ := hNw.2.2 rfl
                have q6 := right_any true m' a' hNw.1
                have q7 := within_any true m' a' hNw.1 ft fm fa hNw.2.1
                rw [n1] at q6
                rw [n2] at q7
                subst n3
                have Q6 := Lib.hid q6
                have Q7 := Lib.hid q7
                clear q6 q7 n1 n2
                go_wp2_with (fail)
                (go_at_call 37; refine (Q6.out _).mono ?_; rintro e w6 ⟨rfl, hb6⟩; obtain ⟨hc6, hf6⟩ := bcell hb6; have hq6 : Below w.heap.size w w6 := (by refine Below.trans ?_ (hb6.mono ?_); exact (by repeat' (first | (with_reducible exact Below.refl _ _) | (with_reducible assumption) | (with_reducible refine Below.alloc ?_ ?_ _) | (with_reducible refine Below.setCell ?_ ?_ _) | (with_reducible refine Below.drew ?_) | (with_reducible refine below_drewN ?_ _) | go_size)); go_size); have hs6 := hq6.size)
                have hF6 := hF.below (by omega) hb6
                have hD6 := hD.below (by omega) hb6
                have hz6 : wb.heap.size + 1 < w6.heap.size := by have := hb6.size; omega
                have ⟨⟨d60, d61, d62⟩, e60, e61, e62⟩ := hD6
                have ⟨⟨q60, q61, q62⟩, r60, r61, r62⟩ := hF6
                go_wp2_with (fail)
                (go_at_call 38; refine (Q7.out _).mono ?_; rintro e w7 ⟨rfl, hb7⟩; obtain ⟨hc7, hf7⟩ := bcell hb7; have hq7 : Below w.heap.size w w7 := (by refine Below.trans ?_ (hb7.mono ?_); exact (by repeat' (first | (with_reducible exact Below.refl _ _) | (with_reducible assumption) | (with_reducible refine Below.alloc ?_ ?_ _) | (with_reducible refine Below.setCell ?_ ?_ _) | (with_reducible refine Below.drew ?_) | (with_reducible refine below_drewN ?_ _) | go_size)); go_size); have hs7 := hq7.size)
                have hF7 := hF6.below (by omega) hb7
                have hD7 := hD6.below (by omega) hb7
                have hz7 : wb.heap.size + 1 < w7.heap.size := by have := hb7.size; omega
                have ⟨⟨d70, d71, d72⟩, e70, e71, e72⟩ := hD7
                have ⟨⟨q70, q71, q72⟩, r70, r71, r72⟩ := hF7
                go_wp2
                go_roundw
                case rel => exact ⟨k + 1, true, fm, fa, true, m', a', by omega, by simp, Lib.hid ⟨hNw, hq7, hz7, hF7, hD7⟩⟩
                case measure => simp [intOf]; omega
          · have g35 : decide ((k : Int) < (n : Int)) = false := decide_eq_false (by omega)
            go_wp2_with (go_at_call 11; refine (one_any6 _).mono ?_; rintro e w116 ⟨rfl, hb116⟩; obtain ⟨hc116, hf116⟩ := bcell hb116; have hq116 : Below w.heap.size w w116 := (by refine Below.trans ?_ (hb116.mono ?_); exact (by repeat' (first | (with_reducible exact Below.refl _ _) | (with_reducible assumption) | (with_reducible refine Below.alloc ?_ ?_ _) | (with_reducible refine Below.setCell ?_ ?_ _) | (with_reducible refine Below.drew ?_) | (with_reducible refine below_drewN ?_ _) | go_size)); go_size); have hs116 := hq116.size)
            go_ret
            exact ⟨rfl, (by repeat' (first | (with_reducible exact Below.refl _ _) | (with_reducible assumption) | (with_reducible refine Below.alloc ?_ ?_ _) | (with_reducible refine Below.setCell ?_ ?_ _) | (with_reducible refine Below.drew ?_) | (with_reducible refine below_drewN ?_ _) | go_size))⟩
      · obtain ⟨rfl, hr⟩ : tg = true ∧ ri m a = false := by simpa using hx
        have q4 := address_any true m a a Hm.out
        rw [aT_wrong a hr] at q4
        have Q4 := Lib.hid q4
        have hfld := fld_tagR false m a
        clear hx hr q4
        go_wp2_with (first | (go_at_call 12; refine (Q4.out _).mono ?_; rintro e w4 ⟨rfl, hb4⟩; obtain ⟨hc4, hf4⟩ := bcell hb4; have hq4 : Below w.heap.size w w4 := (by refine Below.trans ?_ (hb4.mono ?_); exact (by repeat' (first | (with_reducible exact Below.refl _ _) | (with_reducible assumption) | (with_reducible refine Below.alloc ?_ ?_ _) | (with_reducible refine Below.setCell ?_ ?_ _) | (with_reducible refine Below.drew ?_) | (with_reducible refine below_drewN ?_ _) | go_size)); go_size); have hs4 := hq4.size; have hz4w0 : w.heap.size < w4.heap.size := (by have := hb4.size; (try simp at this); omega)) | (go_at_call 11; refine (one_any6 _).mono ?_; rintro e w5 ⟨rfl, hb5⟩; obtain ⟨hc5, hf5⟩ := bcell hb5; have hq5 : Below w.heap.size w w5 := (by refine Below.trans ?_ (hb5.mono ?_); exact (by repeat' (first | (with_reducible exact Below.refl _ _) | (with_reducible assumption) | (with_reducible refine Below.alloc ?_ ?_ _) | (with_reducible refine Below.setCell ?_ ?_ _) | (with_reducible refine Below.drew ?_) | (with_reducible refine below_drewN ?_ _) | go_size)); go_size); have hs5 := hq5.size))
        go_ret
        exact ⟨rfl, (by repeat' (first | (with_reducible exact Below.refl _ _) | (with_reducible assumption) | (with_reducible refine Below.alloc ?_ ?_ _) | (with_reducible refine Below.setCell ?_ ?_ _) | (with_reducible refine Below.drew ?_) | (with_reducible refine below_drewN ?_ _) | go_size))⟩
end Go.Proofs.Ytcpamlnlolidkaa
