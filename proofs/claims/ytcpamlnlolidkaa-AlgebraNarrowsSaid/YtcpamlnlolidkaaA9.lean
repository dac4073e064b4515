/-
  What a turned word tells; the contracts of algebra's functions, of any capability, in the law's words.
-/
import Derived.Test.YtcpamlnlolidkaaA4
import Derived.Test.YtcpamlnlolidkaaA5
import Derived.Test.YtcpamlnlolidkaaA6
import Derived.Test.YtcpamlnlolidkaaA7
import Derived.Test.YtcpamlnlolidkaaA8
set_option linter.unusedSimpArgs false
set_option linter.unusedVariables false
namespace Go.Proofs.Ytcpamlnlolidkaa
open Go.RowKit Go.Sort

theorem tell_congr {m m' : Nat} (h1 : oB m' = oB m) (h2 : oT m' = oT m) (h3 : oE m' = oE m) (a : Nat) : lB m' a = lB m a ∧ lT m' a = lT m a ∧ lOk m' a = lOk m a := by
  rw [lB_def, lT_def, lOk_def, lB_def, lT_def, lOk_def, h1, h2, h3]; exact ⟨rfl, rfl, rfl⟩
theorem tM_lt (m k : Nat) (hm : m < 2 ^ 64) (hk : k < 4096) : tM m k < 2 ^ 64 := by rw [tM_def, ty_def]; omega
theorem tM_ty (m k : Nat) (hk : k < 4096) : ty (tM m k) = k := by rw [tM_def, ty_def, ty_def]; omega
theorem tM_pm (m k : Nat) : pm (tM m k) = pm m := by rw [tM_def, ty_def, pm_def, pm_def]; omega
theorem tM_tell (m k a : Nat) : lB (tM m k) a = lB m a ∧ lT (tM m k) a = lT m a ∧ lOk (tM m k) a = lOk m a :=
  tell_congr (by rw [tM_def, ty_def, oB_def, oB_def]; omega) (by rw [tM_def, ty_def, oT_def, oT_def]; omega) (by rw [tM_def, ty_def, oE_def, oE_def]; omega) a
theorem tM_ri (m k a : Nat) (hm : m < 2 ^ 64) (hk : k < 4096) : ri (tM m k) a = ri m a := by
  rw [ri_bits _ a (tM_lt m k hm hk), ri_bits m a hm, (tM_tell m k a).2.2, tM_def, ty_def]
  congr 1
  rw [← Bool.decide_and, ← Bool.decide_and, decide_eq_decide]
  omega
theorem tM_back (m k : Nat) (hk : k < 4096) (h : ty m = 0) : tM (tM m k) 0 = m := by
  rw [tM_def (tM m k), tM_ty m k hk, tM_def, h]; omega
theorem aM_dr (m n : Nat) : dr (pm m) n ≤ pm m := dr_le _ _
theorem aM_lt (m n : Nat) (hm : m < 2 ^ 64) : aM m n < 2 ^ 64 := by rw [aM_def]; omega
theorem aM_pm (m n : Nat) (hn : n < 2 ^ 64) : pm (aM m n) = pm m &&& n := by
  have h := dr_and (pm m) n (by have := pm_lt m; omega) hn
  rw [← h, aM_def]
  have hd := dr_le (pm m) n
  generalize dr (pm m) n = d at *
  rw [pm_def] at *
  rw [pm_def]; omega
theorem aM_ty (m n : Nat) : ty (aM m n) = ty m := by
  have hd := dr_le (pm m) n
  rw [aM_def]
  generalize dr (pm m) n = d at *
  rw [pm_def] at hd
  rw [ty_def, ty_def]; omega
theorem aM_tell (m n a : Nat) : lB (aM m n) a = lB m a ∧ lT (aM m n) a = lT m a ∧ lOk (aM m n) a = lOk m a := by
  have hd := dr_le (pm m) n
  rw [aM_def]
  generalize dr (pm m) n = d at *
  rw [pm_def] at hd
  exact tell_congr (by rw [oB_def, oB_def]; omega) (by rw [oT_def, oT_def]; omega) (by rw [oE_def, oE_def]; omega) a
theorem aM_ri (m n a : Nat) (hm : m < 2 ^ 64) : ri (aM m n) a = ri m a := by
  rw [ri_bits _ a (aM_lt m n hm), ri_bits m a hm, (aM_tell m n a).2.2]
  have hd := dr_le (pm m) n
  rw [aM_def]
  generalize dr (pm m) n = d at *
  rw [pm_def] at hd
  congr 1
  rw [← Bool.decide_and, ← Bool.decide_and, decide_eq_decide]
  omega
theorem aM_again (m n : Nat) (hn : n < 2 ^ 64) : aM (aM m n) n = aM m n := by
  rw [aM_def (aM m n), aM_pm m n hn, dr_again _ n (by have := pm_lt m; omega) hn]; omega
theorem opn_lv {tg : Bool} {m a : Nat} (h : opn tg m a = true) : lv tg m a = true ∧ ty m = 0 := by
  rw [opn_def] at h; simpa using h
theorem lv_ri {tg : Bool} {m a : Nat} (h : lv tg m a = true) : tg = true ∧ ri m a = true := by
  rw [lv_def] at h; simpa using h
theorem opn_tg (tg : Bool) (m a : Nat) (x : Bool) : ((opn tg m a && x) && tg) = (opn tg m a && x) := by
  cases tg
  · rw [opn_def, lv_def]; simp
  · simp
theorem lv_tg (tg : Bool) (m a : Nat) (x : Bool) : ((lv tg m a && x) && tg) = (lv tg m a && x) := by
  cases tg
  · rw [lv_def]; simp
  · simp

theorem and_any (tg : Bool) (m a n : Nat) (hm : m < 18446744073709551616) (hn : n < 18446744073709551616) (w : World) :
    Calls Try.prog 14 #[.agg #[.bool tg, .int .u64 (m : Nat), .int .u64 (a : Nat)], .int .u64 n] w fun r w' => r = .returned (.agg #[.bool ((opn tg m a)), .int .u64 (aM m n : Nat), .int .u64 (a : Nat)]) ∧ Below w.heap.size w w' := by
  have hp := pm_lt m
  have hd := dr_le (pm m) n
  obtain ⟨h3, h4⟩ := and_word m n hm hn
  refine and_walk tg m a n _ _ _ _ (dr (pm m) n) (dr (pm m) n * 4294967296) (aM m n) _ _ (aof_any tg m a hm) (aopen_any tg m a) ?_ ?_ ?_ w
  · rw [u64_andNot_nat _ _ (by omega) hn, dr_def]
  · rw [IntKind.wrap_u64]; omega
  · rw [u64_andNot_nat _ _ hm (by omega)]
    exact congrArg Int.ofNat h3
theorem typed_any (tg : Bool) (m a k : Nat) (may : Bool) (hm : m < 18446744073709551616) (hk : may = true → k < 4096) (w : World) :
    Calls Try.prog 40 #[.agg #[.bool tg, .int .u64 (m : Nat), .int .u64 (a : Nat), .int .u64 (lB m a : Nat), .int .u64 (lT m a : Nat), .int .u64 (pm m : Nat), .int .u64 (ty m : Nat), .bool (lv tg m a)], .bool may, .int .u64 k] w fun r w' => r = .returned (.agg #[.bool ((may && tg)), .int .u64 ((if may = true then tM m k else m) : Nat), .int .u64 (a : Nat)]) ∧ Below w.heap.size w w' := by
  cases may
  · rw [Bool.false_and, if_neg (by decide)]
    exact typed_no tg m a _ _ _ _ k _ w
  · have hk' := hk rfl
    have hy := ty_lt m
    obtain ⟨h1, h2, h3⟩ := typed_word m k hm hk'
    rw [Bool.true_and, if_pos rfl]
    refine typed_yes tg m a _ _ _ (ty m) k (ty m ^^^ k) ((ty m ^^^ k) * 281474976710656) (tM m k) _ ?_ ?_ ?_ w
    · rw [u64_xor_nat _ _ (by omega) (by omega)]
    · rw [IntKind.wrap_u64]; omega
    · rw [u64_xor_nat _ _ hm (by omega)]
      exact congrArg Int.ofNat h1
/-- may one be jumped to? sealed with another one? unsealed? opened? given a tag? -/
def en (tg : Bool) (m a : Nat) : Bool := opn tg m a && pw 4 (pm m)
theorem en_def (tg : Bool) (m a : Nat) : en tg m a = (opn tg m a && pw 4 (pm m)) := rfl
def sl (tg : Bool) (m a : Nat) (t2 : Bool) (m2 a2 : Nat) : Bool := opn tg m a && (hs t2 m2 a2 32 && (decide (16 ≤ a2) && decide (a2 ≤ 4095)))
theorem sl_def (tg : Bool) (m a : Nat) (t2 : Bool) (m2 a2 : Nat) : sl tg m a t2 m2 a2 = (opn tg m a && (hs t2 m2 a2 32 && (decide (16 ≤ a2) && decide (a2 ≤ 4095)))) := rfl
def us (tg : Bool) (m a : Nat) (t2 : Bool) (m2 a2 : Nat) : Bool := lv tg m a && (decide (16 ≤ ty m) && (hs t2 m2 a2 64 && decide (a2 = ty m)))
theorem us_def (tg : Bool) (m a : Nat) (t2 : Bool) (m2 a2 : Nat) : us tg m a t2 m2 a2 = (lv tg m a && (decide (16 ≤ ty m) && (hs t2 m2 a2 64 && decide (a2 = ty m)))) := rfl
def oo (tg : Bool) (m a : Nat) : Bool := lv tg m a && decide (ty m = 1)
theorem oo_def (tg : Bool) (m a : Nat) : oo tg m a = (lv tg m a && decide (ty m = 1)) := rfl
def bd (m a : Nat) (t2 : Bool) (m2 a2 : Nat) : Bool := opn t2 m2 a2 && (wi m a m2 a2 && decide (ty m ≤ 1))
theorem bd_def (m a : Nat) (t2 : Bool) (m2 a2 : Nat) : bd m a t2 m2 a2 = (opn t2 m2 a2 && (wi m a m2 a2 && decide (ty m ≤ 1))) := rfl
/-- the word of one that is another type's, or is not. -/
def uM (o : Bool) (m k : Nat) : Nat := if o = true then tM m k else m
theorem uM_def (o : Bool) (m k : Nat) : uM o m k = if o = true then tM m k else m := rfl
attribute [irreducible] en sl us oo bd uM
theorem enter_any (tg : Bool) (m a : Nat) (hm : m < 18446744073709551616) (w : World) :
    Calls Try.prog 15 #[.agg #[.bool tg, .int .u64 (m : Nat), .int .u64 (a : Nat)]] w fun r w' => r = .returned (.agg #[.bool ((en tg m a)), .int .u64 (uM (en tg m a) m 1 : Nat), .int .u64 (a : Nat)]) ∧ Below w.heap.size w w' := by
  rw [uM_def, en_def]
  have h := fun W => typed_any tg m a 1 (opn tg m a && pw 4 (pm m)) hm (fun _ => by decide) W
  simp only [opn_tg] at h
  exact enter_walk tg m a _ _ _ _ _ _ _ _ _ (aof_any tg m a hm) (aopen_any tg m a) (pw_any _ _) h w
theorem seal_any (tg : Bool) (m a : Nat) (hm : m < 18446744073709551616) (t2 : Bool) (m2 a2 : Nat) (hm2 : m2 < 18446744073709551616) (w : World) :
    Calls Try.prog 10 #[.agg #[.bool tg, .int .u64 (m : Nat), .int .u64 (a : Nat)], .agg #[.bool t2, .int .u64 (m2 : Nat), .int .u64 (a2 : Nat)]] w fun r w' => r = .returned (.agg #[.bool ((sl tg m a t2 m2 a2)), .int .u64 (uM (sl tg m a t2 m2 a2) m a2 : Nat), .int .u64 (a : Nat)]) ∧ Below w.heap.size w w' := by
  rw [uM_def, sl_def]
  have h := fun W => typed_any tg m a a2 (opn tg m a && (hs t2 m2 a2 32 && (decide (16 ≤ a2) && decide (a2 ≤ 4095)))) hm (fun h => by simp only [Bool.and_eq_true, decide_eq_true_eq] at h; omega) W
  simp only [opn_tg] at h
  exact seal_walk tg m a _ _ _ _ _ t2 m2 a2 _ _ _ _ _ _ _ _ _ _ _ (aof_any tg m a hm) (aopen_any tg m a) (aof_any t2 m2 a2 hm2) (ahas_any t2 m2 a2 32)
    (by apply decide_eq_decide.2; omega) (by apply decide_eq_decide.2; omega) h w
theorem unseal_any (tg : Bool) (m a : Nat) (hm : m < 18446744073709551616) (t2 : Bool) (m2 a2 : Nat) (hm2 : m2 < 18446744073709551616) (w : World) :
    Calls Try.prog 17 #[.agg #[.bool tg, .int .u64 (m : Nat), .int .u64 (a : Nat)], .agg #[.bool t2, .int .u64 (m2 : Nat), .int .u64 (a2 : Nat)]] w fun r w' => r = .returned (.agg #[.bool ((us tg m a t2 m2 a2)), .int .u64 (uM (us tg m a t2 m2 a2) m 0 : Nat), .int .u64 (a : Nat)]) ∧ Below w.heap.size w w' := by
  rw [uM_def, us_def]
  have h := fun W => typed_any tg m a 0 (lv tg m a && (decide (16 ≤ ty m) && (hs t2 m2 a2 64 && decide (a2 = ty m)))) hm (fun _ => by decide) W
  simp only [lv_tg] at h
  exact unseal_walk tg m a _ _ _ _ t2 m2 a2 _ _ _ _ _ _ _ _ _ _ _ (aof_any tg m a hm) (by apply decide_eq_decide.2; omega) (aof_any t2 m2 a2 hm2) (ahas_any t2 m2 a2 64)
    (int_nat_beq a2 (ty m)) h w
theorem open_any (tg : Bool) (m a : Nat) (hm : m < 18446744073709551616) (w : World) :
    Calls Try.prog 33 #[.agg #[.bool tg, .int .u64 (m : Nat), .int .u64 (a : Nat)]] w fun r w' => r = .returned (.agg #[.bool tg, .int .u64 (uM (oo tg m a) m 0 : Nat), .int .u64 (a : Nat)]) ∧ Below w.heap.size w w' := by
  rw [uM_def, oo_def]
  have h := fun W => typed_any tg m a 0 true hm (fun _ => by decide) W
  simp only [Bool.true_and, if_true] at h
  exact open_of_walk tg m a _ _ _ _ _ _ _ (aof_any tg m a hm) (by rw [bne, show ((1 : Int)) = ((1 : Nat) : Int) from rfl, int_nat_beq (ty m) 1]) h w
theorem build_any (tg : Bool) (m a : Nat) (hm : m < 18446744073709551616) (t2 : Bool) (m2 a2 : Nat) (hm2 : m2 < 18446744073709551616) (w : World) :
    Calls Try.prog 35 #[.agg #[.bool tg, .int .u64 (m : Nat), .int .u64 (a : Nat)], .agg #[.bool t2, .int .u64 (m2 : Nat), .int .u64 (a2 : Nat)]] w fun r w' => r = .returned (.agg #[.bool ((bd m a t2 m2 a2)), .int .u64 (m : Nat), .int .u64 (a : Nat)]) ∧ Below w.heap.size w w' := by
  rw [bd_def]
  exact build_walk tg m a t2 m2 a2 _ _ _ _ _ _ _ _ _ _ _ _ _ (aof_any t2 m2 a2 hm2) (aopen_any t2 m2 a2) (within_any tg m a hm t2 m2 a2 hm2) (aof_any tg m a hm) (by apply decide_eq_decide.2; omega) w
/-- is there a capability of the span that is kept for n bytes from a on? its word; its tag. -/
def bK (m a n : Nat) : Bool := !decide (18446744073709551616 ≤ a + n) && (vOk a (ad a n) && mk (kB a (ad a n)) (kT a (ad a n)) (pm m) (ty m) a)
theorem bK_def (m a n : Nat) : bK m a n = (!decide (18446744073709551616 ≤ a + n) && (vOk a (ad a n) && mk (kB a (ad a n)) (kT a (ad a n)) (pm m) (ty m) a)) := rfl
def bM (m a n : Nat) : Nat := if bK m a n = true then mM (kB a (ad a n)) (kT a (ad a n)) (pm m) (ty m) a else m
theorem bM_def (m a n : Nat) : bM m a n = if bK m a n = true then mM (kB a (ad a n)) (kT a (ad a n)) (pm m) (ty m) a else m := rfl
def bT (tg : Bool) (m a n : Nat) (x : Bool) : Bool := bK m a n && (opn tg m a && (decide (lB m a ≤ kB a (ad a n)) && (decide (kT a (ad a n) ≤ lT m a) && (!x || eq2 (kB a (ad a n)) (kT a (ad a n)) a (ad a n)))))
theorem bT_def (tg : Bool) (m a n : Nat) (x : Bool) : bT tg m a n x = (bK m a n && (opn tg m a && (decide (lB m a ≤ kB a (ad a n)) && (decide (kT a (ad a n) ≤ lT m a) && (!x || eq2 (kB a (ad a n)) (kT a (ad a n)) a (ad a n)))))) := rfl
attribute [irreducible] bK bM bT
theorem bound_any (tg : Bool) (m a n : Nat) (x : Bool) (hm : m < 18446744073709551616) (w : World) :
    Calls Try.prog 13 #[.agg #[.bool tg, .int .u64 (m : Nat), .int .u64 (a : Nat)], .int .u64 n, .bool x] w fun r w' => r = .returned (.agg #[.bool ((bT tg m a n x)), .int .u64 (bM m a n : Nat), .int .u64 (a : Nat)]) ∧ Below w.heap.size w w' := by
  have hp := pm_lt m
  have hy := ty_lt m
  have q2 : ∀ W, Calls Try.prog 45 #[.int .u64 a, .int .u64 n] W fun r w' => r = .returned (.tuple #[.int .u64 (ad a n : Nat), .bool (decide (18446744073709551616 ≤ a + n))]) ∧ ∃ k, w' = W.drewN k := fun W => by rw [ad_def]; exact add_any a n W
  have q3 := rounded_all a (ad a n)
  have q4 := make_any (kB a (ad a n)) (kT a (ad a n)) (pm m) (ty m) a (by omega) (by omega)
  have hA : mk (kB a (ad a n)) (kT a (ad a n)) (pm m) (ty m) a = true → mA (kB a (ad a n)) (kT a (ad a n)) (pm m) (ty m) a = a := fun h => by rw [mA_def, if_pos h]
  rw [bT_def, bM_def, bK_def]
  generalize ad a n = s at *
  generalize decide (18446744073709551616 ≤ a + n) = ov at *
  generalize vOk a s = vok at *
  generalize kB a s = kb at *
  generalize kT a s = kt at *
  generalize mk kb kt (pm m) (ty m) a = mkk at *
  cases ov
  · cases vok
    · exact bound_no tg m a n _ _ _ _ s kb kt 0 0 _ _ _ x (aof_any tg m a hm) q2 q3 (Or.inr ⟨rfl, rfl⟩) w
    · cases mkk
      · exact bound_nomk tg m a n _ _ _ _ s kb kt _ _ _ x (aof_any tg m a hm) q2 q3 q4 w
      · have hA' := hA rfl
        rw [hA'] at q4
        exact bound_yes tg m a n _ _ _ _ s kb kt _ a _ x _ _ _ _ (aof_any tg m a hm) q2 q3 q4 (aopen_any tg m a) rfl rfl rfl w
  · exact bound_no tg m a n _ _ _ _ s kb kt 0 0 _ _ _ x (aof_any tg m a hm) q2 q3 (Or.inl rfl) w
end Go.Proofs.Ytcpamlnlolidkaa
