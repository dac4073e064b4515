
/-
  The walk of RegsHold: it returns true, and only makes new memory.
-/
import Derived.Test.YtkfeabekdjbphaaGE
set_option linter.unusedSimpArgs false
set_option linter.unusedVariables false
namespace Go.Proofs.Ytkfeabekdjbphaa
open Go.RowKit Go.Sort

theorem run_loadRowR (w : World) (b : Nat) (f : Nat → Cp) (h : Blk w b (enc f) 46) : (Instr.loadAt 46 (.pointer (some ⟨b, 0, none⟩))).run Try.prog w = .ok (.agg (enc f)) w := by
  simp only [Instr.loadAt, Instr.sureAddr, Sem.run_bind, Sem.run_pure, Result.andThen]
  exact run_loadVar_row w b _ _ (enc f) (0, 0) _ h Try.underlying46 rfl (info_encR f)
theorem row_inR {W : World} {b : Nat} {f : Nat → Cp} (h : Blk W b (enc f) 46) : ∀ w, (∃ p : Regrown, w = grow (redrawn W p.d) p.os) → (Instr.loadAt 46 (.pointer (some ⟨b, 0, none⟩))).run Try.prog w = .ok (.agg (enc f)) w := by
  rintro w ⟨p, rfl⟩
  exact run_loadRowR _ b f (h.below (below_regrown _ _ _))
theorem withF_m (f : Nat → Cp) (k : Int) (c : Cp) (h : ∀ i, (f i).m < 18446744073709551616) (hc : c.m < 18446744073709551616) (i : Nat) : (withF f k c i).m < 18446744073709551616 := by
  unfold withF upd; split
  · dsimp only; split
    · exact hc
    · exact h i
  · exact h i
theorem withF_a (f : Nat → Cp) (k : Int) (c : Cp) (h : ∀ i, (f i).a < 18446744073709551616) (hc : c.a < 18446744073709551616) (i : Nat) : (withF f k c i).a < 18446744073709551616 := by
  unfold withF upd; split
  · dsimp only; split
    · exact hc
    · exact h i
  · exact h i
set_option maxHeartbeats 16000000 in
set_option maxRecDepth 100000 in
theorem walk_hold (f : Nat → Cp) (hM : ∀ i, (f i).m < 18446744073709551616) (hA : ∀ i, (f i).a < 18446744073709551616) (t : Bool) (m a : Nat) (hm : m < 18446744073709551616) (ha : a < 18446744073709551616) (x0 x1 x2 : Nat) (w : World) :
    Calls Try.prog 5 #[.agg (enc f), .agg #[.bool t, .int .u64 (m : Nat), .int .u64 (a : Nat)], .agg #[.int .u64 (x0 : Nat), .int .u64 (x1 : Nat), .int .u64 (x2 : Nat)]] w fun r w' => r = .returned (.bool true) ∧ Below w.heap.size w w' := by
  have hz := zeroC
  have hzr := zeroR
  obtain ⟨p, hp⟩ : ∃ p, rng' x1 x2 = p := ⟨_, rfl⟩
  have K1 := Lib.hid (fun (W : World) (h : Blk W (w.heap.size + 1 + 1) #[.int .u64 (x0 : Nat), .int .u64 (x1 : Nat), .int .u64 (x2 : Nat)] 42) => h1_app (w.heap.size + 1 + 1) x1 x2 W (h.cell 1) (h.cell 2))
  rw [hp] at K1
  have E1 := Lib.hid (enters_of Try.func20 (by kernel_rfl) rfl)
  have heq1 := fun k => run_eqB (withF f k ⟨t, m, a⟩) (withF_m f k _ hM hm) (withF_a f k _ hA ha)
  have heq2 := fun k => run_eqB (withF f k ⟨false, 0, a⟩) (withF_m f k _ hM (show (0 : Nat) < 18446744073709551616 by decide)) (withF_a f k _ hA ha)
  have heq3 := run_eqB (swF p f) (fun i => by rw [swF_m]; exact hM i) (fun i => by rw [swF_a']; exact hA i)
  have heq4 := run_eqA f hM hA
  have heq5 := run_eqA (upd (fun _ => zc) 32 ⟨t, m, a⟩) (fun i => by unfold upd; dsimp only; split; exact hm; decide) (fun i => by unfold upd; dsimp only; split; exact ha; decide)
  have QOf := Lib.hid (fun W => own_any f W)
  have QSw := Lib.hid (fun V eg hG => swept2 f hM 20 #[.pointer (some ⟨w.heap.size + 1 + 1, 0, none⟩)] p V eg hG)
  have qrs := fun W => rswept_any f x1 x2 W
  rw [hp] at qrs
  have QRs := Lib.hid qrs
  have QNil := Lib.hid (fun W => swept_nil f W)
  have QGet := Lib.hid (fun k W => cget_any f k W)
  have QRGet := Lib.hid (fun k W => rcget_any f k W)
  have QW1 := Lib.hid (fun k W => cwith_any f k ⟨t, m, a⟩ W)
  have QOw1 := Lib.hid (fun k W => own_any (withF f k ⟨t, m, a⟩) W)
  have QRW1 := Lib.hid (fun k W => rwith_any f k ⟨t, m, a⟩ W)
  have QSet := Lib.hid (fun k W => set_any f k a W)
  have QOw2 := Lib.hid (fun k W => own_any (withF f k ⟨false, 0, a⟩) W)
  have QRW2 := Lib.hid (fun k W => rwith_any f k ⟨false, 0, a⟩ W)
  have QOw3 := Lib.hid (fun W => own_any (swF p f) W)
  have QZ := Lib.hid (fun W => zero_any ⟨t, m, a⟩ W)
  have QOne := Lib.hid (fun W => one_any W)
  have hput := enc_put (fun _ => zc) 32 (by decide) ⟨t, m, a⟩
  simp only [show 32 * 3 = 96 from rfl, show 96 + 1 = 97 from rfl, show 96 + 2 = 98 from rfl] at hput
  have hs0 := enc_size fun _ => zc
  have HPUT := Lib.hid (And.intro hput hs0)
  have HEQ := Lib.hid (And.intro heq3 (And.intro heq4 heq5))
  have HEQ1 := Lib.hid heq1
  have HEQ2 := Lib.hid heq2
  clear qrs heq1 heq2 heq3 heq4 heq5 hput hs0 hM hA hm ha hp
  generalize upd (fun _ => zc) 32 ⟨t, m, a⟩ = fz at *
  generalize swF p f = fs at *
  generalize swN p f = N at *
  go_enter Try.func5, Try.ntmps5
  go_upto_region 1 with (fail)
  go_cut [7] from 16 to 18 (fun s7 wx => ∃ k : Int, s7 = .int .i64 k ∧ wx = ((w.alloc (.cells (enc f) 27)).alloc (.cells #[.bool t, .int .u64 (m : Nat), .int .u64 (a : Nat)] 24)).alloc (.cells #[.int .u64 (x0 : Nat), .int .u64 (x1 : Nat), .int .u64 (x2 : Nat)] 42))
  case first =>
    go_wp2
    go_meet
    exact ⟨_, rfl, rfl⟩
  case rest =>
  obtain ⟨k, rfl, rfl⟩ := hcut
  have heq1 := HEQ1.out k
  have heq2 := HEQ2.out k
  have QG := Lib.hid (QGet.out k)
  have QRG := Lib.hid (QRGet.out k)
  have QA1 := Lib.hid (QW1.out k)
  have QA2 := Lib.hid (QOw1.out k)
  have QA3 := Lib.hid (QRW1.out k)
  have QB1 := Lib.hid (QSet.out k)
  have QB2 := Lib.hid (QOw2.out k)
  have QB3 := Lib.hid (QRW2.out k)
  clear HEQ1 HEQ2 QGet QRGet QW1 QOw1 QRW1 QSet QOw2 QRW2
  generalize withF f k ⟨t, m, a⟩ = fa at *
  generalize withF f k ⟨false, 0, a⟩ = fb at *
  generalize getF f k = gk at *
  obtain ⟨gt, gm, ga⟩ := gk
  go_upto_region 2 with (fail)
  first | refine wp_at (fun V1 hV1 => ?_) | refine calls_at (fun V1 hV1 => ?_)
  have hB1 : Below w.heap.size w V1 := by rw [← hV1]; exact (by repeat' (first | (with_reducible exact Below.refl _ _) | (with_reducible assumption) | (with_reducible refine Below.alloc ?_ ?_ _) | (with_reducible refine Below.setCell ?_ ?_ _) | (with_reducible refine Below.drew ?_) | (with_reducible refine below_drewN ?_ _) | go_size))
  have bc1 : Blk V1 (w.heap.size) (enc f) 27 := by rw [← hV1]; exact ((Blk.at' (by simp)).alloc _).alloc _
  have bv1 : Blk V1 (w.heap.size + 1) #[.bool t, .int .u64 (m : Nat), .int .u64 (a : Nat)] 24 := by rw [← hV1]; exact (Blk.at' (by simp)).alloc _
  have ba1 : Blk V1 (w.heap.size + 1 + 1) #[.int .u64 (x0 : Nat), .int .u64 (x1 : Nat), .int .u64 (x2 : Nat)] 42 := by rw [← hV1]; exact Blk.at' (by simp)
  clear hV1
  go_wp2_with ((with_reducible refine wpList_at ?_); (refine wpList_load_row rfl 27 _ rfl (w.heap.size) rfl 27 (enc f) (0, 0) _ bc1 Try.underlying27 rfl (info_enc f) ?_))
  (go_at_call 19; refine (QOf.out _).mono ?_; rintro e w2 ⟨rfl, hb2⟩)
  go_upto_region 3 with ((with_reducible refine wpList_at ?_); (refine wpList_store_row rfl 46 _ _ rfl (w2.heap.size) (enc f) rfl rfl 46 (enc fun _ => zc) (Blk.new w2 _ _) (info_encR f) ((enc_size fun _ => zc).trans (enc_size f).symm) (enc_one f) ?_; rw [setRow_at rfl]))
  first | refine wp_at (fun V2 hV2 => ?_) | refine calls_at (fun V2 hV2 => ?_)
  have hB2 : Below w.heap.size w V2 := by rw [← hV2]; exact Below.alloc (hB1.trans (hb2.mono hB1.size)) (Nat.le_trans hB1.size hb2.size) _
  have bc2 := (bc1.below hb2).alloc (.cells (enc f) 46)
  have bv2 := (bv1.below hb2).alloc (.cells (enc f) 46)
  have ba2 := (ba1.below hb2).alloc (.cells (enc f) 46)
  have bo2 := Blk.new w2 (enc f) 46
  rw [hV2] at bc2 bv2 ba2 bo2
  clear hV2 bc1 bv1 ba1 hB1
  go_wp2_with ((with_reducible refine wpList_at ?_); (refine wpList_load_row rfl 27 _ rfl (w.heap.size) rfl 27 (enc f) (0, 0) _ bc2 Try.underlying27 rfl (info_enc f) ?_))
  (go_at_call 11; refine (QSw.out V2 E1.out (fun b W hW => K1.out W (ba2.below hW) b)).mono ?_; rintro e w3 ⟨rfl, hb3⟩)
  go_upto_region 4 with ((with_reducible refine wpList_at ?_); (refine wpList_store_row rfl 27 _ _ rfl (w3.heap.size) (enc fs) rfl rfl 27 (enc fun _ => zc) (Blk.new w3 _ _) (info_enc fs) ((enc_size fun _ => zc).trans (enc_size fs).symm) (enc_one fs) ?_; rw [setRow_at rfl]))
  first | refine wp_at (fun V3 hV3 => ?_) | refine calls_at (fun V3 hV3 => ?_)
  have hB3 : Below w.heap.size w V3 := by rw [← hV3]; exact Below.alloc (hB2.trans (hb3.mono hB2.size)) (Nat.le_trans hB2.size hb3.size) _
  have bc3 := (bc2.below hb3).alloc (.cells (enc fs) 27)
  have bv3 := (bv2.below hb3).alloc (.cells (enc fs) 27)
  have ba3 := (ba2.below hb3).alloc (.cells (enc fs) 27)
  have bo3 := (bo2.below hb3).alloc (.cells (enc fs) 27)
  have bs3 := Blk.new w3 (enc fs) 27
  rw [hV3] at bc3 bv3 ba3 bo3 bs3
  clear hV3 bc2 bv2 ba2 bo2 hB2
  have z1 : V3.cell? ⟨w.heap.size + 1 + 1, 1, none⟩ = some (.int .u64 (x1 : Nat)) := ba3.cell 1
  have z2 : V3.cell? ⟨w.heap.size + 1 + 1, 2, none⟩ = some (.int .u64 (x2 : Nat)) := ba3.cell 2
  go_wp2_with ((with_reducible refine wpList_at ?_); (refine wpList_load_row rfl 46 _ rfl (w2.heap.size) rfl 46 (enc f) (0, 0) _ bo3 Try.underlying46 rfl (info_encR f) ?_))
  (go_at_call 21; refine (QRs.out _).mono ?_; rintro e w4 ⟨rfl, hb4⟩)
  clear z1 z2
  go_upto_region 5 with ((with_reducible refine wpList_at ?_); (refine wpList_store_row rfl 46 _ _ rfl (w4.heap.size) (enc fs) rfl rfl 46 (enc fun _ => zc) (Blk.new w4 _ _) (info_encR fs) ((enc_size fun _ => zc).trans (enc_size fs).symm) (enc_one fs) ?_; rw [setRow_at rfl]))
  first | refine wp_at (fun V4 hV4 => ?_) | refine calls_at (fun V4 hV4 => ?_)
  have hB4 : Below w.heap.size w V4 := by rw [← hV4]; exact Below.alloc (hB3.trans (hb4.mono hB3.size)) (Nat.le_trans hB3.size hb4.size) _
  have bc4 := (bc3.below hb4).alloc (.cells (enc fs) 46)
  have bv4 := (bv3.below hb4).alloc (.cells (enc fs) 46)
  have ba4 := (ba3.below hb4).alloc (.cells (enc fs) 46)
  have bo4 := (bo3.below hb4).alloc (.cells (enc fs) 46)
  have bs4 := (bs3.below hb4).alloc (.cells (enc fs) 46)
  have bw4 := Blk.new w4 (enc fs) 46
  rw [hV4] at bc4 bv4 ba4 bo4 bs4 bw4
  clear hV4 bc3 bv3 ba3 bo3 bs3 hB3
  have v0 : V4.cell? ⟨w.heap.size + 1, 0, none⟩ = some (.bool t) := bv4.cell 0
  have v1 : V4.cell? ⟨w.heap.size + 1, 1, none⟩ = some (.int .u64 (m : Nat)) := bv4.cell 1
  have v2 : V4.cell? ⟨w.heap.size + 1, 2, none⟩ = some (.int .u64 (a : Nat)) := bv4.cell 2
  go_upto_region 6 with (fail)
  clear v0 v1 v2
  first | refine wp_at (fun V5 hV5 => ?_) | refine calls_at (fun V5 hV5 => ?_)
  have hB5 : Below w.heap.size w V5 := by rw [← hV5]; exact Below.alloc hB4 hB4.size _
  have bc5 := bc4.alloc (.cells #[.bool t, .int .u64 (m : Nat), .int .u64 (a : Nat)] 43)
  have bv5 := bv4.alloc (.cells #[.bool t, .int .u64 (m : Nat), .int .u64 (a : Nat)] 43)
  have ba5 := ba4.alloc (.cells #[.bool t, .int .u64 (m : Nat), .int .u64 (a : Nat)] 43)
  have bo5 := bo4.alloc (.cells #[.bool t, .int .u64 (m : Nat), .int .u64 (a : Nat)] 43)
  have bs5 := bs4.alloc (.cells #[.bool t, .int .u64 (m : Nat), .int .u64 (a : Nat)] 43)
  have bw5 := bw4.alloc (.cells #[.bool t, .int .u64 (m : Nat), .int .u64 (a : Nat)] 43)
  have bx5 := Blk.new V4 #[.bool t, .int .u64 (m : Nat), .int .u64 (a : Nat)] 43
  rw [hV5] at bc5 bv5 ba5 bo5 bs5 bw5 bx5
  clear hV5 bc4 bv4 ba4 bo4 bs4 bw4 hB4
  go_wp2_with ((with_reducible refine wpList_at ?_); (refine wpList_load_row rfl 27 _ rfl (w.heap.size) rfl 27 (enc f) (0, 0) _ bc5 Try.underlying27 rfl (info_enc f) ?_))
  (go_at_call 11; refine (QNil.out _).mono ?_; rintro e w6 ⟨rfl, hb6⟩)
  go_upto_region 7 with ((with_reducible refine wpList_at ?_); (refine wpList_store_row rfl 27 _ _ rfl (w6.heap.size) (enc f) rfl rfl 27 (enc fun _ => zc) (Blk.new w6 _ _) (info_enc f) ((enc_size fun _ => zc).trans (enc_size f).symm) (enc_one f) ?_; rw [setRow_at rfl]))
  first | refine wp_at (fun V6 hV6 => ?_) | refine calls_at (fun V6 hV6 => ?_)
  have hB6 : Below w.heap.size w V6 := by rw [← hV6]; exact Below.alloc (hB5.trans (hb6.mono hB5.size)) (Nat.le_trans hB5.size hb6.size) _
  have bc6 := (bc5.below hb6).alloc (.cells (enc f) 27)
  have bv6 := (bv5.below hb6).alloc (.cells (enc f) 27)
  have ba6 := (ba5.below hb6).alloc (.cells (enc f) 27)
  have bo6 := (bo5.below hb6).alloc (.cells (enc f) 27)
  have bs6 := (bs5.below hb6).alloc (.cells (enc f) 27)
  have bw6 := (bw5.below hb6).alloc (.cells (enc f) 27)
  have bx6 := (bx5.below hb6).alloc (.cells (enc f) 27)
  have bn6 := Blk.new w6 (enc f) 27
  rw [hV6] at bc6 bv6 ba6 bo6 bs6 bw6 bx6 bn6
  clear hV6 bc5 bv5 ba5 bo5 bs5 bw5 bx5 hB5
  have heq3 := HEQ.out.1
  have heq4 := HEQ.out.2.1
  have heq5 := HEQ.out.2.2
  have hput := HPUT.out.1
  have hs0 := HPUT.out.2
  have v0 : V6.cell? ⟨w.heap.size + 1, 0, none⟩ = some (.bool t) := bv6.cell 0
  have kv0 := cell_regrown v0
  have v1 : V6.cell? ⟨w.heap.size + 1, 1, none⟩ = some (.int .u64 (m : Nat)) := bv6.cell 1
  have kv1 := cell_regrown v1
  have v2 : V6.cell? ⟨w.heap.size + 1, 2, none⟩ = some (.int .u64 (a : Nat)) := bv6.cell 2
  have kv2 := cell_regrown v2
  have x0 : V6.cell? ⟨V4.heap.size, 0, none⟩ = some (.bool t) := bx6.cell 0
  have kx0 := cell_regrown x0
  have x1 : V6.cell? ⟨V4.heap.size, 1, none⟩ = some (.int .u64 (m : Nat)) := bx6.cell 1
  have kx1 := cell_regrown x1
  have x2 : V6.cell? ⟨V4.heap.size, 2, none⟩ = some (.int .u64 (a : Nat)) := bx6.cell 2
  have kx2 := cell_regrown x2
  clear v0 v1 v2
  simp only [List.append_eq, List.cons_append, List.nil_append]
  refine wp_region_quiet_below (by kernel_rfl) (by kernel_rfl) ?_
  (repeat (first
    | (go_big_quiet_want; refine quiet_row 27 _ rfl (w.heap.size) rfl (enc f) (row_in bc6) (by simp only [Act.put, List.setIfInBounds_toArray, List.set_cons_succ, List.set_cons_zero]; exact rfl) ?_; go_big_quiet_on)
    | (go_big_quiet_want; refine quiet_row 46 _ rfl (w2.heap.size) rfl (enc f) (row_inR bo6) (by simp only [Act.put, List.setIfInBounds_toArray, List.set_cons_succ, List.set_cons_zero]; exact rfl) ?_; go_big_quiet_on)
    | (go_big_quiet_want; refine quiet_row 27 _ rfl (w3.heap.size) rfl (enc fs) (row_in bs6) (by simp only [Act.put, List.setIfInBounds_toArray, List.set_cons_succ, List.set_cons_zero]; exact rfl) ?_; go_big_quiet_on)
    | (go_big_quiet_want; refine quiet_row 46 _ rfl (w4.heap.size) rfl (enc fs) (row_inR bw6) (by simp only [Act.put, List.setIfInBounds_toArray, List.set_cons_succ, List.set_cons_zero]; exact rfl) ?_; go_big_quiet_on)
    | (go_big_quiet_want; refine quiet_row 27 _ rfl (w6.heap.size) rfl (enc f) (row_in bn6) (by simp only [Act.put, List.setIfInBounds_toArray, List.set_cons_succ, List.set_cons_zero]; exact rfl) ?_; go_big_quiet_on)
    | go_big_quiet_step (first | (go_at_call 8; exact Calls.regrown_of (QG.out _)) | (go_at_call 22; exact Calls.regrown_of (QRG.out _)) | (go_at_call 23; exact Calls.regrown_of (QA1.out _)) | (go_at_call_of 19 (Value.agg (enc fa)); exact Calls.regrown_of (QA2.out _)) | (go_at_call_of 19 (Value.agg (enc fb)); exact Calls.regrown_of (QB2.out _)) | (go_at_call_of 19 (Value.agg (enc fs)); exact Calls.regrown_of (QOw3.out _)) | (go_at_call_of 24 (Value.bool t); exact Calls.regrown_of (QA3.out _)) | (go_at_call_of 24 (Value.bool false); exact Calls.regrown_of (QB3.out _)) | (go_at_call 25; exact Calls.regrown_of (QB1.out _)) | (go_at_call 26; exact Calls.regrown_of (QZ.out _)) | (go_at_call 15; exact Calls.regrown_of (QOne.out _)))))
  refine wpQuiet_nil ?_
  intro W7 hW7
  obtain ⟨pq, hpq⟩ := hW7
  have hb7 : Below V6.heap.size V6 W7 := by rw [hpq]; exact below_regrown _ _ _
  clear hpq
  go_wp2
  go_ret
  exact ⟨rfl, hB6.trans (hb7.mono hB6.size)⟩
end Go.Proofs.Ytkfeabekdjbphaa
