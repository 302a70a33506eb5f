/- The walks of laws: SelectIds. No statement is proved here; no conditions. Written by a program (genlaw.py). -/
import Derived.Test.YthbebbnidgeaeaaGreatSel
import Derived.Test.YthbebbnidgeaeaaGreatBox
import Derived.Test.YthbebbnidgeaeaaGreatSz
import Derived.Test.YthbebbnidgeaeaaGreatTo
import Derived.Test.YthbebbnidgeaeaaGreatEq
import Derived.Test.YthbebbnidgeaeaaGreatMarkV
import Derived.Test.YthbebbnidgeaeaaGreatHeld
import Derived.Deep.RegionHeld3
namespace Go.Proofs.YthbebbnidgeaeaaGreat
open Go.ChangeShapes Go.WideShapes Go.ChangeAt Go.RowKit Go.Deep
set_option maxRecDepth 100000
set_option linter.unusedVariables false

set_option maxHeartbeats 4000000 in
theorem lawSelectIds {W : World} {bs0 : List Nat} {cs0 : List Value} {a0 : Schema} {bs1 : List Nat} {cs1 : List Value} {a1 : Store} {a2 : Int} {bs3 : List Nat} {v3 : Value} {a3 : List Cond} (h0 : SchemaR W bs0 cs0 a0) (h1 : StoreR W bs1 cs1 a1) (h2 : (Lit.int .i64 a2).wf = true) (h3 : CondSR W bs3 [v3] a3) :
    Calls Tryz.prog 6 #[.agg cs0.toArray, .agg cs1.toArray, .int .i64 a2, v3] W fun e w' => e = .returned (.bool true) ∧ Below W.heap.size W w' := by
  have H0 := h0
  have H1 := h1
  have H3 := h3
  obtain ⟨p0v0, p0b0, rfl, rfl, hf0, p0r0⟩ := h0
  clear p0r0
  obtain ⟨p1v0, p1b0, rfl, rfl, hf1, p1r0⟩ := h1
  clear p1r0
  obtain ⟨A3, c3, rfl, _, _, _⟩ := h3.use
  have wf2 := wf_bounds h2
  go_enter Tryz.func6, Tryz.ntmps6
  go_wp2_with fail
  by_cases n0 : (1048576 : Int) - (Schema.bulk a0 : Int) < 0
  · refine (szSchema (((Below.refl W.heap.size W).alloc (Nat.le_refl _) (.cells #[p0v0] 51)).alloc (by simp; try omega) (.cells #[p1v0, .int .i64 a1.next] 54)) H0 (by omega) (by omega)).mono ?_; rw [clip_neg (by omega)]; rintro e w' ⟨rfl, hb'⟩
    go_wp2_with fail
    go_ret
    exact ⟨rfl, nxt (((Below.refl W.heap.size W).alloc (Nat.le_refl _) (.cells #[p0v0] 51)).alloc (by simp; try omega) (.cells #[p1v0, .int .i64 a1.next] 54)) hb'⟩
  refine (szSchema (((Below.refl W.heap.size W).alloc (Nat.le_refl _) (.cells #[p0v0] 51)).alloc (by simp; try omega) (.cells #[p1v0, .int .i64 a1.next] 54)) H0 (by omega) (by omega)).mono ?_; rw [clip_pos (by omega)]; rintro e w1 ⟨rfl, hb1⟩; have st1 := nxt' (((Below.refl W.heap.size W).alloc (Nat.le_refl _) (.cells #[p0v0] 51)).alloc (by simp; try omega) (.cells #[p1v0, .int .i64 a1.next] 54)) hb1; obtain ⟨q0, q1⟩ := two_at hb1; have hw_w1 := nxt (Below.refl W.heap.size W) st1
  have k0 : Schema.bulk a0 ≤ 1048576 := by omega
  go_wp2_with fail
  by_cases n1 : (1048576 : Int) - (Schema.bulk a0 : Int) - (Store.bulk a1 : Int) < 0
  · refine (szStore hw_w1 H1 (by omega) (by omega)).mono ?_; rw [clip_neg (by omega)]; rintro e w' ⟨rfl, hb'⟩
    go_wp2_with fail
    go_ret
    exact ⟨rfl, nxt hw_w1 hb'⟩
  refine (szStore hw_w1 H1 (by omega) (by omega)).mono ?_; rw [clip_pos (by omega)]; rintro e w2 ⟨rfl, hb2⟩; have q0 := box_on q0 rfl hb2; have q1 := box_on q1 rfl hb2; have hw_w2 := nxt hw_w1 hb2
  have k1 : Store.bulk a1 ≤ 1048576 := by omega
  go_wp2_with fail
  by_cases n3 : (1048576 : Int) - (Schema.bulk a0 : Int) - (Store.bulk a1 : Int) - (CondS.bulk a3 : Int) < 0
  · refine (szCondS hw_w2 H3 (by omega) (by omega)).mono ?_; rw [clip_neg (by omega)]; rintro e w' ⟨rfl, hb'⟩
    go_wp2_with fail
    go_ret
    exact ⟨rfl, nxt hw_w2 hb'⟩
  refine (szCondS hw_w2 H3 (by omega) (by omega)).mono ?_; rw [clip_pos (by omega)]; rintro e w3 ⟨rfl, hb3⟩; have q0 := box_on q0 rfl hb3; have q1 := box_on q1 rfl hb3; have hw_w3 := nxt hw_w2 hb3
  have k3 : CondS.bulk a3 ≤ 1048576 := by omega
  obtain ⟨ok, co, hok⟩ : ∃ ok co, selAns a0 a1 a2 a3 = (ok, co) := ⟨_, _, rfl⟩
  have HO := hide hok
  have qq1 : (ok != ok) = false := by simp
  have qq2 : (co != co) = false := by simp
  clear hok
  have qi := hni
  have hbd := selAns_wt a0 a1 a2 a3
  rw [HO.out] at hbd
  have hbd : (IntS.wt ok : Int) ≤ 1073741824 := by have := hbd; (try simp only [] at this); omega
  go_wp2_with fail
  go_region_held3 (fun w' => (w'.cell? ⟨W.heap.size, 0, none⟩ = some (p0v0)) ∧ (w'.cell? ⟨W.heap.size + 1, 0, none⟩ = some (p1v0) ∧ w'.cell? ⟨W.heap.size + 1, 1, none⟩ = some (.int .i64 a1.next))) (exact ⟨q0 0, ⟨q1 0, q1 1⟩⟩)
    (first | (go_at_call 21; (with_reducible refine (toSchema hw_w3.drew H0 k0).mono ?_); rintro e w4 ⟨cs_s0, bs_s0, rfl, r_s0, f_s0, hb4⟩; have hd4 := nxt (Below.refl _ _).drew hb4; have q0 := box_on q0 rfl hd4; have q1 := box_on q1 rfl hd4; have hw_w4 := nxt hw_w3 hd4; have r_s0_4 := r_s0; obtain ⟨s0v0, s0b0, rfl, rfl, _, s0r0⟩ := r_s0; obtain ⟨s0A0, s0c0, rfl, _, _, _⟩ := s0r0.use) | (go_at_call 22; (with_reducible refine (toStore hw_w4 H1 k1).mono ?_); rintro e w5 ⟨cs_s1, bs_s1, rfl, r_s1, f_s1, hb5⟩; have q0 := box_on q0 rfl hb5; have q1 := box_on q1 rfl hb5; have r_s0_4 := SchemaR.good.nxt hb5 r_s0_4; have hw_w5 := nxt hw_w4 hb5; have r_s1_5 := r_s1; obtain ⟨s1v0, s1b0, rfl, rfl, _, s1r0⟩ := r_s1; obtain ⟨s1A0, s1c0, rfl, _, _, _⟩ := s1r0.use) | (go_at_call 13; (with_reducible refine (toCondS hw_w5 H3 k3).mono ?_); rintro e w6 ⟨v_s3, bs_s3, rfl, r_s3, f_s3, hb6⟩; have q0 := box_on q0 rfl hb6; have q1 := box_on q1 rfl hb6; have r_s0_4 := SchemaR.good.nxt hb6 r_s0_4; have r_s1_5 := StoreR.good.nxt hb6 r_s1_5; have hw_w6 := nxt hw_w5 hb6; have r_s3_6 := r_s3; obtain ⟨A_s3, c_s3, rfl, _, _, _⟩ := r_s3.use) | (go_at_call 28; (with_reducible refine (spec_SelectIds r_s0_4 r_s1_5 a2 r_s3_6).mono ?_); rw [HO.out]; rintro e w7 ⟨v_w, bs_w, rfl, r_w, hb7⟩; have q0 := box_on q0 rfl hb7; have q1 := box_on q1 rfl hb7; have r_s0_4 := SchemaR.good.nxt hb7 r_s0_4; have r_s1_5 := StoreR.good.nxt hb7 r_s1_5; have r_s3_6 := CondSR.good.nxt hb7 r_s3_6; have hw_w7 := nxt hw_w6 hb7; have r_w0 : IntSR w7 bs_w [v_w] ok := r_w; clear r_w; have r_w := r_w0; obtain ⟨A_w, c_w, rfl, _, _, _⟩ := r_w0.use))
  clear r_s0_4
  clear r_s1_5
  clear r_s3_6
  have ob_x0_0 := hide (Nat.lt_of_lt_of_le (World.block_lt_of_cell? _ ⟨W.heap.size, 0, none⟩ (box_cell q0 0 rfl)) ((Below.refl w7.heap.size w7)).size)
  have ob_x0_1 := hide (Nat.lt_of_lt_of_le (World.block_lt_of_cell? _ ⟨W.heap.size + 1, 0, none⟩ (box_cell q1 0 rfl)) ((Below.refl w7.heap.size w7)).size)
  have od_x0_r_w := hide (IntSR.good.lt r_w)
  have lo_x0 := hide (hw_w7).size
  go_wp2_with fail
  refine (toSchema hw_w7 H0 k0).mono ?_; rintro e w8 ⟨cs_x0, bs_x0, rfl, r_x0, f_x0, hb8⟩; have q0 := box_on q0 rfl hb8; have q1 := box_on q1 rfl hb8; have r_w := IntSR.good.nxt hb8 r_w; have hw_w8 := nxt hw_w7 hb8; have r_x0_8 := r_x0; obtain ⟨x0v0, x0b0, rfl, rfl, _, x0r0⟩ := r_x0; obtain ⟨x0A0, x0c0, rfl, _, _, _⟩ := x0r0.use
  have q0p := box_on q0 rfl ((Below.refl w8.heap.size w8).alloc (Nat.le_refl _) (.cells #[.slice x0A0 a0.tables.length x0c0] 61))
  have q1p := box_on q1 rfl ((Below.refl w8.heap.size w8).alloc (Nat.le_refl _) (.cells #[.slice x0A0 a0.tables.length x0c0] 61))
  have ly_x0_2 := hide (SchemaR.good.lt r_x0_8)
  have ob_x1_0 := hide (Nat.lt_of_lt_of_le (World.block_lt_of_cell? _ ⟨W.heap.size, 0, none⟩ (box_cell q0 0 rfl)) (((Below.refl w8.heap.size w8).alloc (Nat.le_refl _) (.cells #[.slice x0A0 a0.tables.length x0c0] 61))).size)
  have ob_x1_1 := hide (Nat.lt_of_lt_of_le (World.block_lt_of_cell? _ ⟨W.heap.size + 1, 0, none⟩ (box_cell q1 0 rfl)) (((Below.refl w8.heap.size w8).alloc (Nat.le_refl _) (.cells #[.slice x0A0 a0.tables.length x0c0] 61))).size)
  have od_x1_r_w := hide (IntSR.good.lt (IntSR.good.nxt ((Below.refl w8.heap.size w8).alloc (Nat.le_refl _) (.cells #[.slice x0A0 a0.tables.length x0c0] 61)) r_w))
  have od_x1_r_x0 := hide (SchemaR.good.lt (SchemaR.good.nxt ((Below.refl w8.heap.size w8).alloc (Nat.le_refl _) (.cells #[.slice x0A0 a0.tables.length x0c0] 61)) r_x0_8))
  have lo_x1 := hide ((hw_w8.alloc (hw_w8.size) (.cells #[.slice x0A0 a0.tables.length x0c0] 61))).size
  go_wp2_with fail
  refine (toStore (hw_w8.alloc (hw_w8.size) (.cells #[.slice x0A0 a0.tables.length x0c0] 61)) H1 k1).mono ?_; rintro e w9 ⟨cs_x1, bs_x1, rfl, r_x1, f_x1, hb9⟩; have st9 := nxt' ((Below.refl w8.heap.size w8).alloc (Nat.le_refl _) (.cells #[.slice x0A0 a0.tables.length x0c0] 61)) hb9; have q0 := box_on q0 rfl st9; have q1 := box_on q1 rfl st9; have q2 := box_at hb9; have r_w := IntSR.good.nxt st9 r_w; have r_x0_8 := SchemaR.good.nxt st9 r_x0_8; have f_x0 := f_x0.below st9; have hw_w9 := nxt hw_w8 st9; have r_x1_9 := r_x1; obtain ⟨x1v0, x1b0, rfl, rfl, _, x1r0⟩ := r_x1; obtain ⟨x1A0, x1c0, rfl, _, _, _⟩ := x1r0.use
  have q0p := box_on q0 rfl ((Below.refl w9.heap.size w9).alloc (Nat.le_refl _) (.cells #[.slice x1A0 a1.tables.length x1c0, .int .i64 a1.next] 65))
  have q1p := box_on q1 rfl ((Below.refl w9.heap.size w9).alloc (Nat.le_refl _) (.cells #[.slice x1A0 a1.tables.length x1c0, .int .i64 a1.next] 65))
  have q2p := box_on q2 rfl ((Below.refl w9.heap.size w9).alloc (Nat.le_refl _) (.cells #[.slice x1A0 a1.tables.length x1c0, .int .i64 a1.next] 65))
  have ly_x0_3 := hide (SchemaR.good.lt r_x0_8)
  have ly_x1_3 := hide (StoreR.good.lt r_x1_9)
  have ob_x3_0 := hide (Nat.lt_of_lt_of_le (World.block_lt_of_cell? _ ⟨W.heap.size, 0, none⟩ (box_cell q0 0 rfl)) (((Below.refl w9.heap.size w9).alloc (Nat.le_refl _) (.cells #[.slice x1A0 a1.tables.length x1c0, .int .i64 a1.next] 65))).size)
  have ob_x3_1 := hide (Nat.lt_of_lt_of_le (World.block_lt_of_cell? _ ⟨W.heap.size + 1, 0, none⟩ (box_cell q1 0 rfl)) (((Below.refl w9.heap.size w9).alloc (Nat.le_refl _) (.cells #[.slice x1A0 a1.tables.length x1c0, .int .i64 a1.next] 65))).size)
  have ob_x3_2 := hide (Nat.lt_of_lt_of_le (World.block_lt_of_cell? _ ⟨w8.heap.size, 0, none⟩ (box_cell q2 0 rfl)) (((Below.refl w9.heap.size w9).alloc (Nat.le_refl _) (.cells #[.slice x1A0 a1.tables.length x1c0, .int .i64 a1.next] 65))).size)
  have od_x3_r_w := hide (IntSR.good.lt (IntSR.good.nxt ((Below.refl w9.heap.size w9).alloc (Nat.le_refl _) (.cells #[.slice x1A0 a1.tables.length x1c0, .int .i64 a1.next] 65)) r_w))
  have od_x3_r_x0 := hide (SchemaR.good.lt (SchemaR.good.nxt ((Below.refl w9.heap.size w9).alloc (Nat.le_refl _) (.cells #[.slice x1A0 a1.tables.length x1c0, .int .i64 a1.next] 65)) r_x0_8))
  have od_x3_r_x1 := hide (StoreR.good.lt (StoreR.good.nxt ((Below.refl w9.heap.size w9).alloc (Nat.le_refl _) (.cells #[.slice x1A0 a1.tables.length x1c0, .int .i64 a1.next] 65)) r_x1_9))
  have lo_x3 := hide ((hw_w9.alloc (hw_w9.size) (.cells #[.slice x1A0 a1.tables.length x1c0, .int .i64 a1.next] 65))).size
  go_wp2_with fail
  refine (toCondS (hw_w9.alloc (hw_w9.size) (.cells #[.slice x1A0 a1.tables.length x1c0, .int .i64 a1.next] 65)) H3 k3).mono ?_; rintro e w10 ⟨v_x3, bs_x3, rfl, r_x3, f_x3, hb10⟩; have st10 := nxt' ((Below.refl w9.heap.size w9).alloc (Nat.le_refl _) (.cells #[.slice x1A0 a1.tables.length x1c0, .int .i64 a1.next] 65)) hb10; have q0 := box_on q0 rfl st10; have q1 := box_on q1 rfl st10; have q2 := box_on q2 rfl st10; have q3 := box_at hb10; have r_w := IntSR.good.nxt st10 r_w; have r_x0_8 := SchemaR.good.nxt st10 r_x0_8; have r_x1_9 := StoreR.good.nxt st10 r_x1_9; have f_x0 := f_x0.below st10; have f_x1 := f_x1.below st10; have hw_w10 := nxt hw_w9 st10; have r_x3_10 := r_x3; obtain ⟨A_x3, c_x3, rfl, _, _, _⟩ := r_x3.use
  have ob_g_0 := hide (Nat.lt_of_lt_of_le (World.block_lt_of_cell? _ ⟨W.heap.size, 0, none⟩ (box_cell q0 0 rfl)) ((Below.refl w10.heap.size w10)).size)
  have ob_g_1 := hide (Nat.lt_of_lt_of_le (World.block_lt_of_cell? _ ⟨W.heap.size + 1, 0, none⟩ (box_cell q1 0 rfl)) ((Below.refl w10.heap.size w10)).size)
  have ob_g_2 := hide (Nat.lt_of_lt_of_le (World.block_lt_of_cell? _ ⟨w8.heap.size, 0, none⟩ (box_cell q2 0 rfl)) ((Below.refl w10.heap.size w10)).size)
  have ob_g_3 := hide (Nat.lt_of_lt_of_le (World.block_lt_of_cell? _ ⟨w9.heap.size, 0, none⟩ (box_cell q3 0 rfl)) ((Below.refl w10.heap.size w10)).size)
  have od_g_r_w := hide (IntSR.good.lt r_w)
  have od_g_r_x0 := hide (SchemaR.good.lt r_x0_8)
  have od_g_r_x1 := hide (StoreR.good.lt r_x1_9)
  have od_g_r_x3 := hide (CondSR.good.lt r_x3_10)
  have lo_g := hide (hw_w10).size
  go_wp2_with fail
  refine (impl_SelectIds r_x0_8 r_x1_9 a2 r_x3_10).mono ?_; rw [HO.out]; rintro e w11 ⟨v_g, bs_g, rfl, r_g, f_g, hb11⟩; have q0 := box_on q0 rfl hb11; have q1 := box_on q1 rfl hb11; have q2 := box_on q2 rfl hb11; have q3 := box_on q3 rfl hb11; have r_w := IntSR.good.nxt hb11 r_w; have r_x0_8 := SchemaR.good.nxt hb11 r_x0_8; have r_x1_9 := StoreR.good.nxt hb11 r_x1_9; have r_x3_10 := CondSR.good.nxt hb11 r_x3_10; have f_x0 := f_x0.below hb11; have f_x1 := f_x1.below hb11; have f_x3 := f_x3.below hb11; have hw_w11 := nxt hw_w10 hb11; have r_g0 : IntSR w11 bs_g [v_g] ok := r_g; clear r_g; have r_g := r_g0; obtain ⟨A_g, c_g, rfl, _, _, _⟩ := r_g0.use
  go_wp2_with fail
  refine (eqIntS (Below.refl _ _) r_g r_w).mono ?_; rintro e w12 ⟨rfl, hb12⟩; have q0 := box_on q0 rfl hb12; have q1 := box_on q1 rfl hb12; have q2 := box_on q2 rfl hb12; have q3 := box_on q3 rfl hb12; have r_w := IntSR.good.nxt hb12 r_w; have r_x0_8 := SchemaR.good.nxt hb12 r_x0_8; have r_x1_9 := StoreR.good.nxt hb12 r_x1_9; have r_x3_10 := CondSR.good.nxt hb12 r_x3_10; have r_g := IntSR.good.nxt hb12 r_g; have f_x0 := f_x0.below hb12; have f_x1 := f_x1.below hb12; have f_x3 := f_x3.below hb12; have f_g := f_g.below hb12; have hw_w12 := nxt hw_w11 hb12
  go_wp2_with fail
  go_region_held3 (fun w' => (w'.cell? ⟨W.heap.size, 0, none⟩ = some (p0v0)) ∧ (w'.cell? ⟨w8.heap.size, 0, none⟩ = some (.slice x0A0 a0.tables.length x0c0))) (exact ⟨q0 0, q2 0⟩)
    (first | (go_at_call 21; (with_reducible refine (toSchema hw_w12.drew H0 k0).mono ?_); rintro e w13 ⟨cs_y0, bs_y0, rfl, r_y0, f_y0, hb13⟩; have hd13 := nxt (Below.refl _ _).drew hb13; have q0 := box_on q0 rfl hd13; have q1 := box_on q1 rfl hd13; have q2 := box_on q2 rfl hd13; have q3 := box_on q3 rfl hd13; have r_w := IntSR.good.nxt hd13 r_w; have r_x0_8 := SchemaR.good.nxt hd13 r_x0_8; have r_x1_9 := StoreR.good.nxt hd13 r_x1_9; have r_x3_10 := CondSR.good.nxt hd13 r_x3_10; have r_g := IntSR.good.nxt hd13 r_g; have f_x0 := f_x0.below hd13; have f_x1 := f_x1.below hd13; have f_x3 := f_x3.below hd13; have f_g := f_g.below hd13; have hw_w13 := nxt hw_w12 hd13; have r_y0_13 := r_y0; obtain ⟨y0v0, y0b0, rfl, rfl, _, y0r0⟩ := r_y0; obtain ⟨y0A0, y0c0, rfl, _, _, _⟩ := y0r0.use) | (go_at_call 24; (with_reducible refine (eqSchema (Below.refl _ _) r_x0_8 r_y0_13).mono ?_); rintro e w14 ⟨rfl, hb14⟩; have q0 := box_on q0 rfl hb14; have q1 := box_on q1 rfl hb14; have q2 := box_on q2 rfl hb14; have q3 := box_on q3 rfl hb14; have r_w := IntSR.good.nxt hb14 r_w; have r_x0_8 := SchemaR.good.nxt hb14 r_x0_8; have r_x1_9 := StoreR.good.nxt hb14 r_x1_9; have r_x3_10 := CondSR.good.nxt hb14 r_x3_10; have r_g := IntSR.good.nxt hb14 r_g; have r_y0_13 := SchemaR.good.nxt hb14 r_y0_13; have f_x0 := f_x0.below hb14; have f_x1 := f_x1.below hb14; have f_x3 := f_x3.below hb14; have f_g := f_g.below hb14; have hw_w14 := nxt hw_w13 hb14))
  clear r_y0_13
  go_wp2_with fail
  go_region_held3 (fun w' => (w'.cell? ⟨W.heap.size + 1, 0, none⟩ = some (p1v0) ∧ w'.cell? ⟨W.heap.size + 1, 1, none⟩ = some (.int .i64 a1.next)) ∧ (w'.cell? ⟨w9.heap.size, 0, none⟩ = some (.slice x1A0 a1.tables.length x1c0) ∧ w'.cell? ⟨w9.heap.size, 1, none⟩ = some (.int .i64 a1.next))) (exact ⟨⟨q1 0, q1 1⟩, ⟨q3 0, q3 1⟩⟩)
    (first | (go_at_call 22; (with_reducible refine (toStore hw_w14.drew H1 k1).mono ?_); rintro e w15 ⟨cs_y1, bs_y1, rfl, r_y1, f_y1, hb15⟩; have hd15 := nxt (Below.refl _ _).drew hb15; have q0 := box_on q0 rfl hd15; have q1 := box_on q1 rfl hd15; have q2 := box_on q2 rfl hd15; have q3 := box_on q3 rfl hd15; have r_w := IntSR.good.nxt hd15 r_w; have r_x0_8 := SchemaR.good.nxt hd15 r_x0_8; have r_x1_9 := StoreR.good.nxt hd15 r_x1_9; have r_x3_10 := CondSR.good.nxt hd15 r_x3_10; have r_g := IntSR.good.nxt hd15 r_g; have f_x0 := f_x0.below hd15; have f_x1 := f_x1.below hd15; have f_x3 := f_x3.below hd15; have f_g := f_g.below hd15; have hw_w15 := nxt hw_w14 hd15; have r_y1_15 := r_y1; obtain ⟨y1v0, y1b0, rfl, rfl, _, y1r0⟩ := r_y1; obtain ⟨y1A0, y1c0, rfl, _, _, _⟩ := y1r0.use) | (go_at_call 25; (with_reducible refine (eqStore (Below.refl _ _) r_x1_9 r_y1_15).mono ?_); rintro e w16 ⟨rfl, hb16⟩; have q0 := box_on q0 rfl hb16; have q1 := box_on q1 rfl hb16; have q2 := box_on q2 rfl hb16; have q3 := box_on q3 rfl hb16; have r_w := IntSR.good.nxt hb16 r_w; have r_x0_8 := SchemaR.good.nxt hb16 r_x0_8; have r_x1_9 := StoreR.good.nxt hb16 r_x1_9; have r_x3_10 := CondSR.good.nxt hb16 r_x3_10; have r_g := IntSR.good.nxt hb16 r_g; have r_y1_15 := StoreR.good.nxt hb16 r_y1_15; have f_x0 := f_x0.below hb16; have f_x1 := f_x1.below hb16; have f_x3 := f_x3.below hb16; have f_g := f_g.below hb16; have hw_w16 := nxt hw_w15 hb16))
  clear r_y1_15
  go_wp2_with fail
  refine (toCondS hw_w16 H3 k3).mono ?_; rintro e w17 ⟨v_y3, bs_y3, rfl, r_y3, f_y3, hb17⟩; have q0 := box_on q0 rfl hb17; have q1 := box_on q1 rfl hb17; have q2 := box_on q2 rfl hb17; have q3 := box_on q3 rfl hb17; have r_w := IntSR.good.nxt hb17 r_w; have r_x0_8 := SchemaR.good.nxt hb17 r_x0_8; have r_x1_9 := StoreR.good.nxt hb17 r_x1_9; have r_x3_10 := CondSR.good.nxt hb17 r_x3_10; have r_g := IntSR.good.nxt hb17 r_g; have f_x0 := f_x0.below hb17; have f_x1 := f_x1.below hb17; have f_x3 := f_x3.below hb17; have f_g := f_g.below hb17; have hw_w17 := nxt hw_w16 hb17; have r_y3_17 := r_y3; obtain ⟨A_y3, c_y3, rfl, _, _, _⟩ := r_y3.use
  go_wp2_with fail
  refine (eqCondS (Below.refl _ _) r_x3_10 r_y3_17).mono ?_; rintro e w18 ⟨rfl, hb18⟩; have q0 := box_on q0 rfl hb18; have q1 := box_on q1 rfl hb18; have q2 := box_on q2 rfl hb18; have q3 := box_on q3 rfl hb18; have r_w := IntSR.good.nxt hb18 r_w; have r_x0_8 := SchemaR.good.nxt hb18 r_x0_8; have r_x1_9 := StoreR.good.nxt hb18 r_x1_9; have r_x3_10 := CondSR.good.nxt hb18 r_x3_10; have r_g := IntSR.good.nxt hb18 r_g; have r_y3_17 := CondSR.good.nxt hb18 r_y3_17; have f_x0 := f_x0.below hb18; have f_x1 := f_x1.below hb18; have f_x3 := f_x3.below hb18; have f_g := f_g.below hb18; have hw_w18 := nxt hw_w17 hb18
  clear r_y3_17
  have wx0 := Schema.wtV_le a0
  go_wp2_with fail
  refine (markVSchema r_x0_8 f_x0 (by omega) (by omega)).mono ?_; rintro e w19 ⟨rfl, rm19, fm19, u19⟩; have q0 := box_upd q0 rfl u19 (fun hm => by have := (f_x0.2 _ hm).1; have := ob_x0_0.out; omega); have q1 := box_upd q1 rfl u19 (fun hm => by have := (f_x0.2 _ hm).1; have := ob_x0_1.out; omega); have q2 := box_upd q2 rfl u19 (fun hm => by have := ly_x0_2.out _ hm; omega); have q3 := box_upd q3 rfl u19 (fun hm => by have := ly_x0_3.out _ hm; omega); have r_w := IntSR.good.upd r_w u19 (fun b hb hm => by have := od_x0_r_w.out b hb; have := (f_x0.2 b hm).1; omega); have r_x1_9 := StoreR.good.upd r_x1_9 u19 (fun b hb hm => by have := od_x1_r_x0.out b hm; have := (f_x1.2 b hb).1; omega); have r_x3_10 := CondSR.good.upd r_x3_10 u19 (fun b hb hm => by have := od_x3_r_x0.out b hm; have := (f_x3.2 b hb).1; omega); have r_g := IntSR.good.upd r_g u19 (fun b hb hm => by have := od_g_r_x0.out b hm; have := (f_g.2 b hb).1; omega); have hw_w19 := hw_w18.trans (u19.below W.heap.size hw_w18.size (fun b hb => by have := (f_x0.2 b hb).1; have := lo_x0.out; omega)); have f_x1 := f_x1.upd u19; have f_x3 := f_x3.upd u19; have f_g := f_g.upd u19
  clear rm19 fm19
  have wx1 := Store.wtV_le a1
  go_wp2_with fail
  refine (markVStore r_x1_9 f_x1 (by omega) (by omega)).mono ?_; rintro e w20 ⟨rfl, rm20, fm20, u20⟩; have q0 := box_upd q0 rfl u20 (fun hm => by have := (f_x1.2 _ hm).1; have := ob_x1_0.out; omega); have q1 := box_upd q1 rfl u20 (fun hm => by have := (f_x1.2 _ hm).1; have := ob_x1_1.out; omega); have q2 := box_upd q2 rfl u20 (fun hm => by have := (f_x1.2 _ hm).1; simp at this; omega); have q3 := box_upd q3 rfl u20 (fun hm => by have := ly_x1_3.out _ hm; omega); have r_w := IntSR.good.upd r_w u20 (fun b hb hm => by have := od_x1_r_w.out b hb; have := (f_x1.2 b hm).1; omega); have r_x3_10 := CondSR.good.upd r_x3_10 u20 (fun b hb hm => by have := od_x3_r_x1.out b hm; have := (f_x3.2 b hb).1; omega); have r_g := IntSR.good.upd r_g u20 (fun b hb hm => by have := od_g_r_x1.out b hm; have := (f_g.2 b hb).1; omega); have hw_w20 := hw_w19.trans (u20.below W.heap.size hw_w19.size (fun b hb => by have := (f_x1.2 b hb).1; have := lo_x1.out; omega)); have f_x3 := f_x3.upd u20; have f_g := f_g.upd u20
  clear rm20 fm20
  have wx3 := CondS.wt_le a3
  go_wp2_with fail
  refine (markCondS r_x3_10 f_x3 (by omega) (by omega)).mono ?_; rintro e w21 ⟨rfl, rm21, fm21, u21⟩; have q0 := box_upd q0 rfl u21 (fun hm => by have := (f_x3.2 _ hm).1; have := ob_x3_0.out; omega); have q1 := box_upd q1 rfl u21 (fun hm => by have := (f_x3.2 _ hm).1; have := ob_x3_1.out; omega); have q2 := box_upd q2 rfl u21 (fun hm => by have := (f_x3.2 _ hm).1; have := ob_x3_2.out; omega); have q3 := box_upd q3 rfl u21 (fun hm => by have := (f_x3.2 _ hm).1; simp at this; omega); have r_w := IntSR.good.upd r_w u21 (fun b hb hm => by have := od_x3_r_w.out b hb; have := (f_x3.2 b hm).1; omega); have r_g := IntSR.good.upd r_g u21 (fun b hb hm => by have := od_g_r_x3.out b hm; have := (f_g.2 b hb).1; omega); have hw_w21 := hw_w20.trans (u21.below W.heap.size hw_w20.size (fun b hb => by have := (f_x3.2 b hb).1; have := lo_x3.out; omega)); have f_g := f_g.upd u21
  clear rm21 fm21
  go_wp2_with fail
  refine (eqIntS (Below.refl _ _) r_g r_w).mono ?_; rintro e w22 ⟨rfl, hb22⟩; have q0 := box_on q0 rfl hb22; have q1 := box_on q1 rfl hb22; have q2 := box_on q2 rfl hb22; have q3 := box_on q3 rfl hb22; have r_w := IntSR.good.nxt hb22 r_w; have r_g := IntSR.good.nxt hb22 r_g; have f_g := f_g.below hb22; have hw_w22 := nxt hw_w21 hb22
  go_wp2_with fail
  refine (markIntS r_g f_g (by omega) (by omega)).mono ?_; rintro e w23 ⟨rfl, rm23, fm23, u23⟩; have q0 := box_upd q0 rfl u23 (fun hm => by have := (f_g.2 _ hm).1; have := ob_g_0.out; omega); have q1 := box_upd q1 rfl u23 (fun hm => by have := (f_g.2 _ hm).1; have := ob_g_1.out; omega); have q2 := box_upd q2 rfl u23 (fun hm => by have := (f_g.2 _ hm).1; have := ob_g_2.out; omega); have q3 := box_upd q3 rfl u23 (fun hm => by have := (f_g.2 _ hm).1; have := ob_g_3.out; omega); have r_w := IntSR.good.upd r_w u23 (fun b hb hm => by have := od_g_r_w.out b hb; have := (f_g.2 b hm).1; omega); have hw_w23 := hw_w22.trans (u23.below W.heap.size hw_w22.size (fun b hb => by have := (f_g.2 b hb).1; have := lo_g.out; omega)); have r_g := rm23; have f_g := fm23
  go_wp2_with fail
  refine (heldIntS (Below.refl _ _) r_g (by omega) (by omega)).mono ?_; rintro e w24 ⟨rfl, hb24⟩; have q0 := box_on q0 rfl hb24; have q1 := box_on q1 rfl hb24; have q2 := box_on q2 rfl hb24; have q3 := box_on q3 rfl hb24; have r_w := IntSR.good.nxt hb24 r_w; have r_g := IntSR.good.nxt hb24 r_g; have f_g := f_g.below hb24; have hw_w24 := nxt hw_w23 hb24
  go_wp2_with fail
  go_region_held3 (fun w' => (w'.cell? ⟨W.heap.size, 0, none⟩ = some (p0v0)) ∧ (w'.cell? ⟨W.heap.size + 1, 0, none⟩ = some (p1v0) ∧ w'.cell? ⟨W.heap.size + 1, 1, none⟩ = some (.int .i64 a1.next))) (exact ⟨q0 0, ⟨q1 0, q1 1⟩⟩)
    (first | (go_at_call 21; (with_reducible refine (toSchema hw_w24.drew H0 k0).mono ?_); rintro e w25 ⟨cs_z0, bs_z0, rfl, r_z0, f_z0, hb25⟩; have hd25 := nxt (Below.refl _ _).drew hb25; have q0 := box_on q0 rfl hd25; have q1 := box_on q1 rfl hd25; have q2 := box_on q2 rfl hd25; have q3 := box_on q3 rfl hd25; have r_w := IntSR.good.nxt hd25 r_w; have r_g := IntSR.good.nxt hd25 r_g; have f_g := f_g.below hd25; have hw_w25 := nxt hw_w24 hd25; have r_z0_25 := r_z0; obtain ⟨z0v0, z0b0, rfl, rfl, _, z0r0⟩ := r_z0; obtain ⟨z0A0, z0c0, rfl, _, _, _⟩ := z0r0.use) | (go_at_call 22; (with_reducible refine (toStore hw_w25 H1 k1).mono ?_); rintro e w26 ⟨cs_z1, bs_z1, rfl, r_z1, f_z1, hb26⟩; have q0 := box_on q0 rfl hb26; have q1 := box_on q1 rfl hb26; have q2 := box_on q2 rfl hb26; have q3 := box_on q3 rfl hb26; have r_w := IntSR.good.nxt hb26 r_w; have r_g := IntSR.good.nxt hb26 r_g; have r_z0_25 := SchemaR.good.nxt hb26 r_z0_25; have f_g := f_g.below hb26; have hw_w26 := nxt hw_w25 hb26; have r_z1_26 := r_z1; obtain ⟨z1v0, z1b0, rfl, rfl, _, z1r0⟩ := r_z1; obtain ⟨z1A0, z1c0, rfl, _, _, _⟩ := z1r0.use) | (go_at_call 13; (with_reducible refine (toCondS hw_w26 H3 k3).mono ?_); rintro e w27 ⟨v_z3, bs_z3, rfl, r_z3, f_z3, hb27⟩; have q0 := box_on q0 rfl hb27; have q1 := box_on q1 rfl hb27; have q2 := box_on q2 rfl hb27; have q3 := box_on q3 rfl hb27; have r_w := IntSR.good.nxt hb27 r_w; have r_g := IntSR.good.nxt hb27 r_g; have r_z0_25 := SchemaR.good.nxt hb27 r_z0_25; have r_z1_26 := StoreR.good.nxt hb27 r_z1_26; have f_g := f_g.below hb27; have hw_w27 := nxt hw_w26 hb27; have r_z3_27 := r_z3; obtain ⟨A_z3, c_z3, rfl, _, _, _⟩ := r_z3.use) | (go_at_call 29; (with_reducible refine (impl_SelectIds r_z0_25 r_z1_26 a2 r_z3_27).mono ?_); rw [HO.out]; rintro e w28 ⟨v_h, bs_h, rfl, r_h, f_h, hb28⟩; have q0 := box_on q0 rfl hb28; have q1 := box_on q1 rfl hb28; have q2 := box_on q2 rfl hb28; have q3 := box_on q3 rfl hb28; have r_w := IntSR.good.nxt hb28 r_w; have r_g := IntSR.good.nxt hb28 r_g; have r_z0_25 := SchemaR.good.nxt hb28 r_z0_25; have r_z1_26 := StoreR.good.nxt hb28 r_z1_26; have r_z3_27 := CondSR.good.nxt hb28 r_z3_27; have f_g := f_g.below hb28; have hw_w28 := nxt hw_w27 hb28; have r_h0 : IntSR w28 bs_h [v_h] ok := r_h; clear r_h; have r_h := r_h0; obtain ⟨A_h, c_h, rfl, _, _, _⟩ := r_h0.use))
  clear r_z0_25
  clear r_z1_26
  clear r_z3_27
  go_wp2_with fail
  refine (eqIntS (Below.refl _ _) r_h r_w).mono ?_; rintro e w29 ⟨rfl, hb29⟩; have q0 := box_on q0 rfl hb29; have q1 := box_on q1 rfl hb29; have q2 := box_on q2 rfl hb29; have q3 := box_on q3 rfl hb29; have r_w := IntSR.good.nxt hb29 r_w; have r_g := IntSR.good.nxt hb29 r_g; have r_h := IntSR.good.nxt hb29 r_h; have f_g := f_g.below hb29; have hw_w29 := nxt hw_w28 hb29
  clear r_h
  go_wp2_with fail
  refine (heldIntS (Below.refl _ _) r_g (by omega) (by omega)).mono ?_; rintro e w30 ⟨rfl, hb30⟩; have q0 := box_on q0 rfl hb30; have q1 := box_on q1 rfl hb30; have q2 := box_on q2 rfl hb30; have q3 := box_on q3 rfl hb30; have r_w := IntSR.good.nxt hb30 r_w; have r_g := IntSR.good.nxt hb30 r_g; have f_g := f_g.below hb30; have hw_w30 := nxt hw_w29 hb30
  go_wp2_with fail
  go_ret
  exact ⟨rfl, hw_w30⟩
end Go.Proofs.YthbebbnidgeaeaaGreat
