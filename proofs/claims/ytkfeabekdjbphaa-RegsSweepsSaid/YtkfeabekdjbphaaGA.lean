
/-
  The walk of RegsSweeps: it returns true, and only makes new memory.
-/
import Derived.Test.YtkfeabekdjbphaaG9
import Derived.Test.YtkfeabekdjbphaaGL
set_option linter.unusedSimpArgs false
set_option linter.unusedVariables false
namespace Go.Proofs.Ytkfeabekdjbphaa
open Go.RowKit Go.Sort

theorem app1 (b : Nat) (u : Value) : (#[Value.int .u64 (b : Nat)] ++ #[u] : Array Value) = #[.int .u64 (b : Nat), u] := rfl
theorem app2 (b : Nat) (u v : Value) : (#[Value.int .u64 (b : Nat)] ++ #[u, v] : Array Value) = #[.int .u64 (b : Nat), u, v] := rfl
theorem c1_app (B x y : Nat) (W : World) (h0 : W.cell? ⟨B, 0, none⟩ = some (.int .u64 (x : Nat))) (h1 : W.cell? ⟨B, 1, none⟩ = some (.int .u64 (y : Nat))) (b : Nat) :
    Calls Try.prog 16 (#[.int .u64 (b : Nat)] ++ #[.pointer (some ⟨B, 0, none⟩)]) W fun r W' => r = .returned (.bool (rng x y b)) ∧ Below W.heap.size W W' := by
  rw [app1]; exact c1_any B x y b W h0 h1
theorem c2_app (B x y : Nat) (W : World) (h0 : W.cell? ⟨B, 2, none⟩ = some (.int .u64 (x : Nat))) (h1 : W.cell? ⟨B, 3, none⟩ = some (.int .u64 (y : Nat))) (b : Nat) :
    Calls Try.prog 17 (#[.int .u64 (b : Nat)] ++ #[.pointer (some ⟨B, 0, none⟩)]) W fun r W' => r = .returned (.bool (rng x y b)) ∧ Below W.heap.size W W' := by
  rw [app1]; exact c2_any B x y b W h0 h1
theorem c3_app (B B5 B6 x y z u : Nat) (w : World) (h0 : w.cell? ⟨B, 0, none⟩ = some (.int .u64 (x : Nat))) (h1 : w.cell? ⟨B, 1, none⟩ = some (.int .u64 (y : Nat)))
    (h2 : w.cell? ⟨B, 2, none⟩ = some (.int .u64 (z : Nat))) (h3 : w.cell? ⟨B, 3, none⟩ = some (.int .u64 (u : Nat)))
    (h5 : w.cell? ⟨B5, 0, none⟩ = some (.func (.func 16) #[] #[.pointer (some ⟨B, 0, none⟩)])) (h6 : w.cell? ⟨B6, 0, none⟩ = some (.func (.func 17) #[] #[.pointer (some ⟨B, 0, none⟩)])) (b : Nat) :
    Calls Try.prog 18 (#[.int .u64 (b : Nat)] ++ #[.pointer (some ⟨B5, 0, none⟩), .pointer (some ⟨B6, 0, none⟩)]) w fun r w' => r = .returned (.bool (rng x y b || rng z u b)) ∧ Below w.heap.size w w' := by
  rw [app2]; exact c3_any B B5 B6 x y z u b w h0 h1 h2 h3 h5 h6
theorem swF_a (p : Nat → Bool) (f : Nat → Cp) (i : Nat) : (swF p f i).a = (f i).a := by unfold swF; split <;> rfl
theorem swN_none2 (p q : Nat → Bool) (f : Nat → Cp) : swN q (swF (fun b => p b || q b) f) = 0 := by
  unfold swN
  rw [List.length_eq_zero_iff, List.filter_eq_nil_iff]
  intro i _
  rw [hit_swF, hit_or]; cases hit p f i <;> cases hit q f i <;> simp
set_option maxHeartbeats 16000000 in
set_option maxRecDepth 100000 in
theorem walk_sweeps (f : Nat → Cp) (hM : ∀ i, (f i).m < 18446744073709551616) (hA : ∀ i, (f i).a < 18446744073709551616) (l0 l1 l2 l3 : Nat) (w : World) :
    Calls Try.prog 4 #[.agg (enc f), .agg #[.int .u64 (l0 : Nat), .int .u64 (l1 : Nat), .int .u64 (l2 : Nat), .int .u64 (l3 : Nat)]] w fun r w' => r = .returned (.bool true) ∧ Below w.heap.size w w' := by
  have hz := zeroC
  obtain ⟨pa, hpa⟩ : ∃ pa, rng l0 l1 = pa := ⟨_, rfl⟩
  obtain ⟨pb, hpb⟩ : ∃ pb, rng l2 l3 = pb := ⟨_, rfl⟩
  have K1 := Lib.hid (fun (W : World) (h : Blk W (w.heap.size + 1) #[.int .u64 (l0 : Nat), .int .u64 (l1 : Nat), .int .u64 (l2 : Nat), .int .u64 (l3 : Nat)] 40) => c1_app (w.heap.size + 1) l0 l1 W (h.cell 0) (h.cell 1))
  have K2 := Lib.hid (fun (W : World) (h : Blk W (w.heap.size + 1) #[.int .u64 (l0 : Nat), .int .u64 (l1 : Nat), .int .u64 (l2 : Nat), .int .u64 (l3 : Nat)] 40) => c2_app (w.heap.size + 1) l2 l3 W (h.cell 2) (h.cell 3))
  have K3 := Lib.hid (fun (W : World) (h : Blk W (w.heap.size + 1) #[.int .u64 (l0 : Nat), .int .u64 (l1 : Nat), .int .u64 (l2 : Nat), .int .u64 (l3 : Nat)] 40) (h5 : Blk W (w.heap.size + 1 + 1) #[.func (.func 16) #[] #[.pointer (some ⟨w.heap.size + 1, 0, none⟩)]] 36) (h6 : Blk W (w.heap.size + 1 + 1 + 1) #[.func (.func 17) #[] #[.pointer (some ⟨w.heap.size + 1, 0, none⟩)]] 36) => c3_app (w.heap.size + 1) (w.heap.size + 1 + 1) (w.heap.size + 1 + 1 + 1) l0 l1 l2 l3 W (h.cell 0) (h.cell 1) (h.cell 2) (h.cell 3) (h5.cell 0) (h6.cell 0))
  rw [hpa] at K1 K3
  rw [hpb] at K2 K3
  have hsum := swN_both pa pb f
  have hnone := swN_none2 pa pb f
  have e1 := sw_both pa pb f
  have e2 := sw_both' pa pb f
  have hMx : ∀ i, (swF pa f i).m < 18446744073709551616 := fun i => by rw [swF_m]; exact hM i
  have hMu : ∀ i, (swF pb f i).m < 18446744073709551616 := fun i => by rw [swF_m]; exact hM i
  have hMg : ∀ i, (swF (fun b => pa b || pb b) f i).m < 18446744073709551616 := fun i => by rw [swF_m]; exact hM i
  have hAg : ∀ i, (swF (fun b => pa b || pb b) f i).a < 18446744073709551616 := fun i => by rw [swF_a]; exact hA i
  have heq := run_eqA _ hMg hAg
  have q3 := fun V eg hG => swept2 f hM 16 #[.pointer (some ⟨w.heap.size + 1, 0, none⟩)] pa V eg hG
  have q4 := fun V eg hG => swept2 _ hMx 17 #[.pointer (some ⟨w.heap.size + 1, 0, none⟩)] pb V eg hG
  have q5 := fun V eg hG => swept2 f hM 18 #[.pointer (some ⟨w.heap.size + 1 + 1, 0, none⟩), .pointer (some ⟨w.heap.size + 1 + 1 + 1, 0, none⟩)] (fun b => pa b || pb b) V eg hG
  have q6 := fun V eg hG => swept2 f hM 17 #[.pointer (some ⟨w.heap.size + 1, 0, none⟩)] pb V eg hG
  have q7 := fun V eg hG => swept2 _ hMu 16 #[.pointer (some ⟨w.heap.size + 1, 0, none⟩)] pa V eg hG
  have q8 := fun V eg hG => swept2 _ hMg 17 #[.pointer (some ⟨w.heap.size + 1, 0, none⟩)] pb V eg hG
  rw [e1] at q4
  rw [e2] at q7
  rw [hnone] at q8
  have s1 := swN_le pa f
  have s2 := swN_le pb (swF pa f)
  rw [← hsum] at q5
  generalize swN pa f = n at *
  generalize swN pb (swF pa f) = m at *
  generalize swF (fun b => pa b || pb b) f = g at *
  generalize swF pa f = gx at *
  generalize swF pb f = gu at *
  have QQ3 := Lib.hid q3
  have QQ4 := Lib.hid q4
  have QQ5 := Lib.hid q5
  have QQ6 := Lib.hid q6
  have QQ7 := Lib.hid q7
  have QQ8 := Lib.hid q8
  have HEQ := Lib.hid heq
  clear q3 q4 q5 q6 q7 q8 heq hsum hnone e1 e2 hMx hMu hMg hAg hM hA hpa hpb
  have E1 := Lib.hid (enters_of Try.func16 (by kernel_rfl) rfl)
  have E2 := Lib.hid (enters_of Try.func17 (by kernel_rfl) rfl)
  have E3 := Lib.hid (enters_of Try.func18 (by kernel_rfl) rfl)
  go_enter Try.func4, Try.ntmps4
  go_upto_region 3 with (fail)
  first | refine wp_at (fun V2 hV2 => ?_) | refine calls_at (fun V2 hV2 => ?_)
  have hB2 : Below w.heap.size w V2 := by rw [← hV2]; exact (by repeat' (first | (with_reducible exact Below.refl _ _) | (with_reducible assumption) | (with_reducible refine Below.alloc ?_ ?_ _) | (with_reducible refine Below.setCell ?_ ?_ _) | (with_reducible refine Below.drew ?_) | (with_reducible refine below_drewN ?_ _) | go_size))
  have bc2 : Blk V2 (w.heap.size) (enc f) 27 := by rw [← hV2]; exact (((Blk.at' (by simp)).alloc _).alloc _).alloc _
  have bl2 : Blk V2 (w.heap.size + 1) #[.int .u64 (l0 : Nat), .int .u64 (l1 : Nat), .int .u64 (l2 : Nat), .int .u64 (l3 : Nat)] 40 := by rw [← hV2]; exact ((Blk.at' (by simp)).alloc _).alloc _
  have b52 : Blk V2 (w.heap.size + 1 + 1) #[.func (.func 16) #[] #[.pointer (some ⟨w.heap.size + 1, 0, none⟩)]] 36 := by rw [← hV2]; exact (Blk.at' (by simp)).alloc _
  have b62 : Blk V2 (w.heap.size + 1 + 1 + 1) #[.func (.func 17) #[] #[.pointer (some ⟨w.heap.size + 1, 0, none⟩)]] 36 := by rw [← hV2]; exact Blk.at' (by simp)
  clear hV2
  have c52 := b52.cell 0
  simp only [List.getElem?_toArray, List.getElem?_cons_zero] at c52
  go_wp2_with ((with_reducible refine wpList_at ?_); refine wpList_load_row rfl 27 _ rfl (w.heap.size) rfl 27 (enc f) (0, 0) _ bc2 Try.underlying27 rfl (info_enc f) ?_)
  (go_at_call 11; refine (QQ3.out V2 E1.out (fun b W hW => K1.out W (bl2.below hW) b)).mono ?_; rintro e w3 ⟨rfl, hb3⟩)
  go_upto_region 4 with ((with_reducible refine wpList_at ?_); refine wpList_store_row rfl 27 _ _ rfl w3.heap.size (enc gx) rfl rfl 27 (enc fun _ => zc) (Blk.new w3 _ _) (info_enc gx) ((enc_size fun _ => zc).trans (enc_size gx).symm) (enc_one gx) ?_; rw [setRow_at rfl])
  first | refine wp_at (fun V3 hV3 => ?_) | refine calls_at (fun V3 hV3 => ?_)
  have hB3 : Below w.heap.size w V3 := by rw [← hV3]; exact Below.alloc (hB2.trans (hb3.mono hB2.size)) (Nat.le_trans hB2.size hb3.size) _
  have bc3 := (bc2.below hb3).alloc (.cells (enc gx) 27)
  have bl3 := (bl2.below hb3).alloc (.cells (enc gx) 27)
  have b53 := (b52.below hb3).alloc (.cells (enc gx) 27)
  have b63 := (b62.below hb3).alloc (.cells (enc gx) 27)
  have bx3 := Blk.new w3 (enc gx) 27
  rw [hV3] at bc3 bl3 b53 b63 bx3
  clear hV3 bc2 bl2 b52 b62 hB2
  have c63 := b63.cell 0
  simp only [List.getElem?_toArray, List.getElem?_cons_zero] at c63
  go_wp2_with ((with_reducible refine wpList_at ?_); refine wpList_load_row rfl 27 _ rfl (w3.heap.size) rfl 27 (enc gx) (0, 0) _ bx3 Try.underlying27 rfl (info_enc gx) ?_)
  (go_at_call 11; refine (QQ4.out V3 E2.out (fun b W hW => K2.out W (bl3.below hW) b)).mono ?_; rintro e w4 ⟨rfl, hb4⟩)
  go_upto_region 5 with ((with_reducible refine wpList_at ?_); refine wpList_store_row rfl 27 _ _ rfl w4.heap.size (enc g) rfl rfl 27 (enc fun _ => zc) (Blk.new w4 _ _) (info_enc g) ((enc_size fun _ => zc).trans (enc_size g).symm) (enc_one g) ?_; rw [setRow_at rfl])
  first | refine wp_at (fun V4 hV4 => ?_) | refine calls_at (fun V4 hV4 => ?_)
  have hB4 : Below w.heap.size w V4 := by rw [← hV4]; exact Below.alloc (hB3.trans (hb4.mono hB3.size)) (Nat.le_trans hB3.size hb4.size) _
  have bc4 := (bc3.below hb4).alloc (.cells (enc g) 27)
  have bl4 := (bl3.below hb4).alloc (.cells (enc g) 27)
  have b54 := (b53.below hb4).alloc (.cells (enc g) 27)
  have b64 := (b63.below hb4).alloc (.cells (enc g) 27)
  have bx4 := (bx3.below hb4).alloc (.cells (enc g) 27)
  have by4 := Blk.new w4 (enc g) 27
  rw [hV4] at bc4 bl4 b54 b64 bx4 by4
  clear hV4 bc3 bl3 b53 b63 bx3 hB3
  go_wp2_with ((with_reducible refine wpList_at ?_); refine wpList_load_row rfl 27 _ rfl (w.heap.size) rfl 27 (enc f) (0, 0) _ bc4 Try.underlying27 rfl (info_enc f) ?_)
  (go_at_call 11; refine (QQ5.out V4 E3.out (fun b W hW => K3.out W (bl4.below hW) (b54.below hW) (b64.below hW) b)).mono ?_; rintro e w5 ⟨rfl, hb5⟩)
  go_upto_region 6 with ((with_reducible refine wpList_at ?_); refine wpList_store_row rfl 27 _ _ rfl w5.heap.size (enc g) rfl rfl 27 (enc fun _ => zc) (Blk.new w5 _ _) (info_enc g) ((enc_size fun _ => zc).trans (enc_size g).symm) (enc_one g) ?_; rw [setRow_at rfl])
  first | refine wp_at (fun V5 hV5 => ?_) | refine calls_at (fun V5 hV5 => ?_)
  have hB5 : Below w.heap.size w V5 := by rw [← hV5]; exact Below.alloc (hB4.trans (hb5.mono hB4.size)) (Nat.le_trans hB4.size hb5.size) _
  have bc5 := (bc4.below hb5).alloc (.cells (enc g) 27)
  have bl5 := (bl4.below hb5).alloc (.cells (enc g) 27)
  have b55 := (b54.below hb5).alloc (.cells (enc g) 27)
  have b65 := (b64.below hb5).alloc (.cells (enc g) 27)
  have bx5 := (bx4.below hb5).alloc (.cells (enc g) 27)
  have by5 := (by4.below hb5).alloc (.cells (enc g) 27)
  have bz5 := Blk.new w5 (enc g) 27
  rw [hV5] at bc5 bl5 b55 b65 bx5 by5 bz5
  clear hV5 bc4 bl4 b54 b64 bx4 by4 hB4
  have c65 := b65.cell 0
  simp only [List.getElem?_toArray, List.getElem?_cons_zero] at c65
  go_wp2_with ((with_reducible refine wpList_at ?_); refine wpList_load_row rfl 27 _ rfl (w.heap.size) rfl 27 (enc f) (0, 0) _ bc5 Try.underlying27 rfl (info_enc f) ?_)
  (go_at_call 11; refine (QQ6.out V5 E2.out (fun b W hW => K2.out W (bl5.below hW) b)).mono ?_; rintro e w6 ⟨rfl, hb6⟩)
  go_upto_region 7 with ((with_reducible refine wpList_at ?_); refine wpList_store_row rfl 27 _ _ rfl w6.heap.size (enc gu) rfl rfl 27 (enc fun _ => zc) (Blk.new w6 _ _) (info_enc gu) ((enc_size fun _ => zc).trans (enc_size gu).symm) (enc_one gu) ?_; rw [setRow_at rfl])
  first | refine wp_at (fun V6 hV6 => ?_) | refine calls_at (fun V6 hV6 => ?_)
  have hB6 : Below w.heap.size w V6 := by rw [← hV6]; exact Below.alloc (hB5.trans (hb6.mono hB5.size)) (Nat.le_trans hB5.size hb6.size) _
  have bc6 := (bc5.below hb6).alloc (.cells (enc gu) 27)
  have bl6 := (bl5.below hb6).alloc (.cells (enc gu) 27)
  have b56 := (b55.below hb6).alloc (.cells (enc gu) 27)
  have b66 := (b65.below hb6).alloc (.cells (enc gu) 27)
  have bx6 := (bx5.below hb6).alloc (.cells (enc gu) 27)
  have by6 := (by5.below hb6).alloc (.cells (enc gu) 27)
  have bz6 := (bz5.below hb6).alloc (.cells (enc gu) 27)
  have bu6 := Blk.new w6 (enc gu) 27
  rw [hV6] at bc6 bl6 b56 b66 bx6 by6 bz6 bu6
  clear hV6 bc5 bl5 b55 b65 bx5 by5 bz5 hB5
  have c56 := b56.cell 0
  simp only [List.getElem?_toArray, List.getElem?_cons_zero] at c56
  go_wp2_with ((with_reducible refine wpList_at ?_); refine wpList_load_row rfl 27 _ rfl (w6.heap.size) rfl 27 (enc gu) (0, 0) _ bu6 Try.underlying27 rfl (info_enc gu) ?_)
  (go_at_call 11; refine (QQ7.out V6 E1.out (fun b W hW => K1.out W (bl6.below hW) b)).mono ?_; rintro e w7 ⟨rfl, hb7⟩)
  go_upto_region 8 with ((with_reducible refine wpList_at ?_); refine wpList_store_row rfl 27 _ _ rfl w7.heap.size (enc g) rfl rfl 27 (enc fun _ => zc) (Blk.new w7 _ _) (info_enc g) ((enc_size fun _ => zc).trans (enc_size g).symm) (enc_one g) ?_; rw [setRow_at rfl])
  first | refine wp_at (fun V7 hV7 => ?_) | refine calls_at (fun V7 hV7 => ?_)
  have hB7 : Below w.heap.size w V7 := by rw [← hV7]; exact Below.alloc (hB6.trans (hb7.mono hB6.size)) (Nat.le_trans hB6.size hb7.size) _
  have bc7 := (bc6.below hb7).alloc (.cells (enc g) 27)
  have bl7 := (bl6.below hb7).alloc (.cells (enc g) 27)
  have b57 := (b56.below hb7).alloc (.cells (enc g) 27)
  have b67 := (b66.below hb7).alloc (.cells (enc g) 27)
  have bx7 := (bx6.below hb7).alloc (.cells (enc g) 27)
  have by7 := (by6.below hb7).alloc (.cells (enc g) 27)
  have bz7 := (bz6.below hb7).alloc (.cells (enc g) 27)
  have bu7 := (bu6.below hb7).alloc (.cells (enc g) 27)
  have bv7 := Blk.new w7 (enc g) 27
  rw [hV7] at bc7 bl7 b57 b67 bx7 by7 bz7 bu7 bv7
  clear hV7 bc6 bl6 b56 b66 bx6 by6 bz6 bu6 hB6
  have c67 := b67.cell 0
  simp only [List.getElem?_toArray, List.getElem?_cons_zero] at c67
  go_wp2_with ((with_reducible refine wpList_at ?_); refine wpList_load_row rfl 27 _ rfl (w4.heap.size) rfl 27 (enc g) (0, 0) _ by7 Try.underlying27 rfl (info_enc g) ?_)
  (go_at_call 11; refine (QQ8.out V7 E2.out (fun b W hW => K2.out W (bl7.below hW) b)).mono ?_; rintro e w8 ⟨rfl, hb8⟩)
  generalize swF pb g = gs at *
  go_upto_region 9 with ((with_reducible refine wpList_at ?_); refine wpList_store_row rfl 27 _ _ rfl w8.heap.size (enc gs) rfl rfl 27 (enc fun _ => zc) (Blk.new w8 _ _) (info_enc gs) ((enc_size fun _ => zc).trans (enc_size gs).symm) (enc_one gs) ?_; rw [setRow_at rfl])
  first | refine wp_at (fun V8 hV8 => ?_) | refine calls_at (fun V8 hV8 => ?_)
  have hB8 : Below w.heap.size w V8 := by rw [← hV8]; exact Below.alloc (hB7.trans (hb8.mono hB7.size)) (Nat.le_trans hB7.size hb8.size) _
  have bc8 := (bc7.below hb8).alloc (.cells (enc gs) 27)
  have bl8 := (bl7.below hb8).alloc (.cells (enc gs) 27)
  have b58 := (b57.below hb8).alloc (.cells (enc gs) 27)
  have b68 := (b67.below hb8).alloc (.cells (enc gs) 27)
  have bx8 := (bx7.below hb8).alloc (.cells (enc gs) 27)
  have by8 := (by7.below hb8).alloc (.cells (enc gs) 27)
  have bz8 := (bz7.below hb8).alloc (.cells (enc gs) 27)
  have bu8 := (bu7.below hb8).alloc (.cells (enc gs) 27)
  have bv8 := (bv7.below hb8).alloc (.cells (enc gs) 27)
  have bs8 := Blk.new w8 (enc gs) 27
  rw [hV8] at bc8 bl8 b58 b68 bx8 by8 bz8 bu8 bv8 bs8
  clear hV8 bc7 bl7 b57 b67 bx7 by7 bz7 bu7 bv7 hB7
  have heq := HEQ.out
  have Q1 := Lib.hid (fun W => one_any W)
  go_wp2_with (first
    | ((with_reducible refine wpList_at ?_); first
      | (refine wpList_load_row rfl 27 _ rfl w4.heap.size rfl 27 (enc g) (0, 0) _ by8 Try.underlying27 rfl (info_enc g) ?_)
      | (refine wpList_load_row rfl 27 _ rfl w5.heap.size rfl 27 (enc g) (0, 0) _ bz8 Try.underlying27 rfl (info_enc g) ?_)
      | (refine wpList_row 27 _ rfl 3 true rfl rfl w7.heap.size rfl 27 (enc g) (0, 0) _ bv8 Try.underlying27 rfl (info_enc g) ?_)
      | (refine wpList_row 27 _ rfl 3 true rfl rfl w5.heap.size rfl 27 (enc g) (0, 0) _ bz8 Try.underlying27 rfl (info_enc g) ?_))
    | (go_at_call 15; refine (Q1.out _).mono ?_; rintro e w9 ⟨rfl, hb9⟩))
  go_ret
  exact ⟨rfl, hB8.trans (hb9.mono hB8.size)⟩
end Go.Proofs.Ytkfeabekdjbphaa
