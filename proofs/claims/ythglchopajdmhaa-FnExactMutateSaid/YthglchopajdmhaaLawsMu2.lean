/- The walks of laws: Mutate. No statement is proved here; no conditions. Written by a program (genlaw.py). -/
import Derived.Test.YthglchopajdmhaaMutT
import Derived.Test.YthglchopajdmhaaBox
import Derived.Test.YthglchopajdmhaaSz
import Derived.Test.YthglchopajdmhaaTo
import Derived.Test.YthglchopajdmhaaEq
import Derived.Test.YthglchopajdmhaaMarkV
import Derived.Test.YthglchopajdmhaaHeld
import Derived.Deep.RegionHeld3
namespace Go.Proofs.Ythglchopajdmhaa
open Go.ChangeShapes Go.WideShapes Go.ChangeAt Go.RowKit Go.Deep
set_option maxRecDepth 100000
set_option linter.unusedVariables false

set_option maxHeartbeats 4000000 in
theorem lawMutate {W : World} {bs0 : List Nat} {cs0 : List Value} {a0 : Column} {bs1 : List Nat} {v1 : Value} {a1 : List Atom} {bs2 : List Nat} {cs2 : List Value} {a2 : Mut} (h0 : ColumnR W bs0 cs0 a0) (h1 : AtomSR W bs1 [v1] a1) (h2 : MutR W bs2 cs2 a2) :
    Calls Try.prog 10 #[.agg cs0.toArray, v1, .agg cs2.toArray] W fun e w' => e = .returned (.bool true) ∧ Below W.heap.size W w' := by
  have H0 := h0
  have H1 := h1
  have H2 := h2
  obtain ⟨rfl, rfl, hf0⟩ := h0
  obtain ⟨p2v2, p2b2, rfl, rfl, hf2, p2r2⟩ := h2
  clear p2r2
  obtain ⟨A1, c1, rfl, _, _, _⟩ := h1.use
  go_enter Try.func10, Try.ntmps10
  go_wp2_with fail
  by_cases n0 : (1048576 : Int) - (Column.bulk a0 : Int) < 0
  · refine (szColumn (((Below.refl W.heap.size W).alloc (Nat.le_refl _) (.cells #[.string a0.name, .int .i64 a0.kind, .int .i64 a0.min, .int .i64 a0.max, .int .i64 a0.low, .int .i64 a0.high, .string a0.ref, .bool a0.strong] 53)).alloc (by simp; try omega) (.cells #[.string a2.column, .int .i64 a2.func, p2v2] 55)) H0 (by omega) (by omega)).mono ?_; rw [clip_neg (by omega)]; rintro e w' ⟨rfl, hb'⟩
    go_wp2_with fail
    go_ret
    exact ⟨rfl, nxt (((Below.refl W.heap.size W).alloc (Nat.le_refl _) (.cells #[.string a0.name, .int .i64 a0.kind, .int .i64 a0.min, .int .i64 a0.max, .int .i64 a0.low, .int .i64 a0.high, .string a0.ref, .bool a0.strong] 53)).alloc (by simp; try omega) (.cells #[.string a2.column, .int .i64 a2.func, p2v2] 55)) hb'⟩
  refine (szColumn (((Below.refl W.heap.size W).alloc (Nat.le_refl _) (.cells #[.string a0.name, .int .i64 a0.kind, .int .i64 a0.min, .int .i64 a0.max, .int .i64 a0.low, .int .i64 a0.high, .string a0.ref, .bool a0.strong] 53)).alloc (by simp; try omega) (.cells #[.string a2.column, .int .i64 a2.func, p2v2] 55)) H0 (by omega) (by omega)).mono ?_; rw [clip_pos (by omega)]; rintro e w1 ⟨rfl, hb1⟩; have st1 := nxt' (((Below.refl W.heap.size W).alloc (Nat.le_refl _) (.cells #[.string a0.name, .int .i64 a0.kind, .int .i64 a0.min, .int .i64 a0.max, .int .i64 a0.low, .int .i64 a0.high, .string a0.ref, .bool a0.strong] 53)).alloc (by simp; try omega) (.cells #[.string a2.column, .int .i64 a2.func, p2v2] 55)) hb1; obtain ⟨q0, q1⟩ := two_at hb1; have hw_w1 := nxt (Below.refl W.heap.size W) st1
  have k0 : Column.bulk a0 ≤ 1048576 := by omega
  go_wp2_with fail
  by_cases n1 : (1048576 : Int) - (Column.bulk a0 : Int) - (AtomS.bulk a1 : Int) < 0
  · refine (szAtomS hw_w1 H1 (by omega) (by omega)).mono ?_; rw [clip_neg (by omega)]; rintro e w' ⟨rfl, hb'⟩
    go_wp2_with fail
    go_ret
    exact ⟨rfl, nxt hw_w1 hb'⟩
  refine (szAtomS hw_w1 H1 (by omega) (by omega)).mono ?_; rw [clip_pos (by omega)]; rintro e w2 ⟨rfl, hb2⟩; have q0 := box_on q0 rfl hb2; have q1 := box_on q1 rfl hb2; have hw_w2 := nxt hw_w1 hb2
  have k1 : AtomS.bulk a1 ≤ 1048576 := by omega
  go_wp2_with fail
  by_cases n2 : (1048576 : Int) - (Column.bulk a0 : Int) - (AtomS.bulk a1 : Int) - (Mut.bulk a2 : Int) < 0
  · refine (szMut hw_w2 H2 (by omega) (by omega)).mono ?_; rw [clip_neg (by omega)]; rintro e w' ⟨rfl, hb'⟩
    go_wp2_with fail
    go_ret
    exact ⟨rfl, nxt hw_w2 hb'⟩
  refine (szMut hw_w2 H2 (by omega) (by omega)).mono ?_; rw [clip_pos (by omega)]; rintro e w3 ⟨rfl, hb3⟩; have q0 := box_on q0 rfl hb3; have q1 := box_on q1 rfl hb3; have hw_w3 := nxt hw_w2 hb3
  have k2 : Mut.bulk a2 ≤ 1048576 := by omega
  obtain ⟨ok, co, hok⟩ : ∃ ok co, mutateAns a0 a1 a2 = (ok, co) := ⟨_, _, rfl⟩
  have HO := hide hok
  have qq1 : (ok != ok) = false := by simp
  have qq2 : (co != co) = false := by simp
  clear hok
  have qi := hni
  have hbd := mutateAns_wt a0 a1 a2
  rw [HO.out] at hbd
  have hbd : (AtomS.wt ok : Int) ≤ 1073741824 := by have := hbd; (try simp only [] at this); omega
  go_wp2_with fail
  go_region_held3 (fun w' => (w'.cell? ⟨W.heap.size, 0, none⟩ = some (.string a0.name) ∧ w'.cell? ⟨W.heap.size, 1, none⟩ = some (.int .i64 a0.kind) ∧ w'.cell? ⟨W.heap.size, 2, none⟩ = some (.int .i64 a0.min) ∧ w'.cell? ⟨W.heap.size, 3, none⟩ = some (.int .i64 a0.max) ∧ w'.cell? ⟨W.heap.size, 4, none⟩ = some (.int .i64 a0.low) ∧ w'.cell? ⟨W.heap.size, 5, none⟩ = some (.int .i64 a0.high) ∧ w'.cell? ⟨W.heap.size, 6, none⟩ = some (.string a0.ref) ∧ w'.cell? ⟨W.heap.size, 7, none⟩ = some (.bool a0.strong)) ∧ (w'.cell? ⟨W.heap.size + 1, 0, none⟩ = some (.string a2.column) ∧ w'.cell? ⟨W.heap.size + 1, 1, none⟩ = some (.int .i64 a2.func) ∧ w'.cell? ⟨W.heap.size + 1, 2, none⟩ = some (p2v2))) (exact ⟨⟨q0 0, q0 1, q0 2, q0 3, q0 4, q0 5, q0 6, q0 7⟩, ⟨q1 0, q1 1, q1 2⟩⟩)
    (first | (go_at_call 38; (with_reducible refine (toColumn H0).mono ?_); rintro e w4 ⟨rfl, hb4⟩; have hd4 := nxt (Below.refl _ _).drew hb4; have q0 := box_on q0 rfl hd4; have q1 := box_on q1 rfl hd4; have hw_w4 := nxt hw_w3 hd4) | (go_at_call 28; (with_reducible refine (toAtomS hw_w4 H1 k1).mono ?_); rintro e w5 ⟨v_s1, bs_s1, rfl, r_s1, f_s1, hb5⟩; have q0 := box_on q0 rfl hb5; have q1 := box_on q1 rfl hb5; have hw_w5 := nxt hw_w4 hb5; have r_s1_5 := r_s1; obtain ⟨A_s1, c_s1, rfl, _, _, _⟩ := r_s1.use) | (go_at_call 39; (with_reducible refine (toMut hw_w5 H2 k2).mono ?_); rintro e w6 ⟨cs_s2, bs_s2, rfl, r_s2, f_s2, hb6⟩; have q0 := box_on q0 rfl hb6; have q1 := box_on q1 rfl hb6; have r_s1_5 := AtomSR.good.nxt hb6 r_s1_5; have hw_w6 := nxt hw_w5 hb6; have r_s2_6 := r_s2; obtain ⟨s2v2, s2b2, rfl, rfl, _, s2r2⟩ := r_s2; obtain ⟨s2A2, s2c2, rfl, _, _, _⟩ := s2r2.use) | (go_at_call 37; (with_reducible refine (spec_Mutate a0 r_s1_5 r_s2_6 hf0).mono ?_); rw [HO.out]; rintro e w7 ⟨v_w, bs_w, rfl, r_w, hb7⟩; have q0 := box_on q0 rfl hb7; have q1 := box_on q1 rfl hb7; have r_s1_5 := AtomSR.good.nxt hb7 r_s1_5; have r_s2_6 := MutR.good.nxt hb7 r_s2_6; have hw_w7 := nxt hw_w6 hb7; have r_w0 : AtomSR w7 bs_w [v_w] ok := r_w; clear r_w; have r_w := r_w0; obtain ⟨A_w, c_w, rfl, _, _, _⟩ := r_w0.use))
  clear r_s1_5
  clear r_s2_6
  have ob_x1_0 := hide (Nat.lt_of_lt_of_le (World.block_lt_of_cell? _ ⟨W.heap.size, 0, none⟩ (box_cell q0 0 rfl)) ((Below.refl w7.heap.size w7)).size)
  have ob_x1_1 := hide (Nat.lt_of_lt_of_le (World.block_lt_of_cell? _ ⟨W.heap.size + 1, 0, none⟩ (box_cell q1 0 rfl)) ((Below.refl w7.heap.size w7)).size)
  have od_x1_r_w := hide (AtomSR.good.lt r_w)
  have lo_x1 := hide (hw_w7).size
  go_wp2_with fail
  refine (toAtomS hw_w7 H1 k1).mono ?_; rintro e w8 ⟨v_x1, bs_x1, rfl, r_x1, f_x1, hb8⟩; have q0 := box_on q0 rfl hb8; have q1 := box_on q1 rfl hb8; have r_w := AtomSR.good.nxt hb8 r_w; have hw_w8 := nxt hw_w7 hb8; have r_x1_8 := r_x1; obtain ⟨A_x1, c_x1, rfl, _, _, _⟩ := r_x1.use
  have ob_x2_0 := hide (Nat.lt_of_lt_of_le (World.block_lt_of_cell? _ ⟨W.heap.size, 0, none⟩ (box_cell q0 0 rfl)) ((Below.refl w8.heap.size w8)).size)
  have ob_x2_1 := hide (Nat.lt_of_lt_of_le (World.block_lt_of_cell? _ ⟨W.heap.size + 1, 0, none⟩ (box_cell q1 0 rfl)) ((Below.refl w8.heap.size w8)).size)
  have od_x2_r_w := hide (AtomSR.good.lt r_w)
  have od_x2_r_x1 := hide (AtomSR.good.lt r_x1_8)
  have lo_x2 := hide (hw_w8).size
  go_wp2_with fail
  refine (toMut hw_w8 H2 k2).mono ?_; rintro e w9 ⟨cs_x2, bs_x2, rfl, r_x2, f_x2, hb9⟩; have q0 := box_on q0 rfl hb9; have q1 := box_on q1 rfl hb9; have r_w := AtomSR.good.nxt hb9 r_w; have r_x1_8 := AtomSR.good.nxt hb9 r_x1_8; have f_x1 := f_x1.below hb9; have hw_w9 := nxt hw_w8 hb9; have r_x2_9 := r_x2; obtain ⟨x2v2, x2b2, rfl, rfl, _, x2r2⟩ := r_x2; obtain ⟨x2A2, x2c2, rfl, _, _, _⟩ := x2r2.use
  have q0p := box_on q0 rfl ((Below.refl w9.heap.size w9).alloc (Nat.le_refl _) (.cells #[.string a2.column, .int .i64 a2.func, .slice x2A2 a2.value.length x2c2] 62))
  have q1p := box_on q1 rfl ((Below.refl w9.heap.size w9).alloc (Nat.le_refl _) (.cells #[.string a2.column, .int .i64 a2.func, .slice x2A2 a2.value.length x2c2] 62))
  have ly_x1_2 := hide (AtomSR.good.lt r_x1_8)
  have ly_x2_2 := hide (MutR.good.lt r_x2_9)
  go_wp2_with fail
  go_region_held3 (fun w' => (w'.cell? ⟨W.heap.size, 0, none⟩ = some (.string a0.name) ∧ w'.cell? ⟨W.heap.size, 1, none⟩ = some (.int .i64 a0.kind) ∧ w'.cell? ⟨W.heap.size, 2, none⟩ = some (.int .i64 a0.min) ∧ w'.cell? ⟨W.heap.size, 3, none⟩ = some (.int .i64 a0.max) ∧ w'.cell? ⟨W.heap.size, 4, none⟩ = some (.int .i64 a0.low) ∧ w'.cell? ⟨W.heap.size, 5, none⟩ = some (.int .i64 a0.high) ∧ w'.cell? ⟨W.heap.size, 6, none⟩ = some (.string a0.ref) ∧ w'.cell? ⟨W.heap.size, 7, none⟩ = some (.bool a0.strong)) ∧ (w'.cell? ⟨w9.heap.size, 0, none⟩ = some (.string a2.column) ∧ w'.cell? ⟨w9.heap.size, 1, none⟩ = some (.int .i64 a2.func) ∧ w'.cell? ⟨w9.heap.size, 2, none⟩ = some (.slice x2A2 a2.value.length x2c2))) (first | exact ⟨⟨box_cell q0p 0 rfl, box_cell q0p 1 rfl, box_cell q0p 2 rfl, box_cell q0p 3 rfl, box_cell q0p 4 rfl, box_cell q0p 5 rfl, box_cell q0p 6 rfl, box_cell q0p 7 rfl⟩, ⟨box_cell (blk_cells (blk_new w9 #[.string a2.column, .int .i64 a2.func, .slice x2A2 a2.value.length x2c2] 62)) 0 rfl, box_cell (blk_cells (blk_new w9 #[.string a2.column, .int .i64 a2.func, .slice x2A2 a2.value.length x2c2] 62)) 1 rfl, box_cell (blk_cells (blk_new w9 #[.string a2.column, .int .i64 a2.func, .slice x2A2 a2.value.length x2c2] 62)) 2 rfl⟩⟩ | exact ⟨⟨box_cell q0 0 rfl, box_cell q0 1 rfl, box_cell q0 2 rfl, box_cell q0 3 rfl, box_cell q0 4 rfl, box_cell q0 5 rfl, box_cell q0 6 rfl, box_cell q0 7 rfl⟩, ⟨box_cell q2 0 rfl, box_cell q2 1 rfl, box_cell q2 2 rfl⟩⟩)
    (first | (go_at_call 38; (with_reducible refine (toColumn H0).mono ?_); rintro e w10 ⟨rfl, hb10⟩; have hd10 := nxt (Below.refl _ _).drew hb10; have st10 := nxt' ((Below.refl w9.heap.size w9).alloc (Nat.le_refl _) (.cells #[.string a2.column, .int .i64 a2.func, .slice x2A2 a2.value.length x2c2] 62)) hd10; have q0 := box_on q0 rfl st10; have q1 := box_on q1 rfl st10; have q2 := box_at hd10; have r_w := AtomSR.good.nxt st10 r_w; have r_x1_8 := AtomSR.good.nxt st10 r_x1_8; have r_x2_9 := MutR.good.nxt st10 r_x2_9; have f_x1 := f_x1.below st10; have f_x2 := f_x2.below st10; have hw_w10 := nxt hw_w9 st10; have ob_g_0 := hide (Nat.lt_of_lt_of_le (World.block_lt_of_cell? _ ⟨W.heap.size, 0, none⟩ (box_cell q0 0 rfl)) ((Below.refl w10.heap.size w10)).size); have ob_g_1 := hide (Nat.lt_of_lt_of_le (World.block_lt_of_cell? _ ⟨W.heap.size + 1, 0, none⟩ (box_cell q1 0 rfl)) ((Below.refl w10.heap.size w10)).size); have ob_g_2 := hide (Nat.lt_of_lt_of_le (World.block_lt_of_cell? _ ⟨w9.heap.size, 0, none⟩ (box_cell q2 0 rfl)) ((Below.refl w10.heap.size w10)).size); have od_g_r_w := hide (AtomSR.good.lt r_w); have od_g_r_x1 := hide (AtomSR.good.lt r_x1_8); have od_g_r_x2 := hide (MutR.good.lt r_x2_9); have lo_g := hide (hw_w10).size) | (go_at_call 40; (with_reducible refine (impl_Mutate a0 r_x1_8 r_x2_9 hf0).mono ?_); rw [HO.out]; rintro e w11 ⟨v_g, bs_g, rfl, r_g, f_g, hb11⟩; have q0 := box_on q0 rfl hb11; have q1 := box_on q1 rfl hb11; have q2 := box_on q2 rfl hb11; have r_w := AtomSR.good.nxt hb11 r_w; have r_x1_8 := AtomSR.good.nxt hb11 r_x1_8; have r_x2_9 := MutR.good.nxt hb11 r_x2_9; have f_x1 := f_x1.below hb11; have f_x2 := f_x2.below hb11; have hw_w11 := nxt hw_w10 hb11; have r_g0 : AtomSR w11 bs_g [v_g] ok := r_g; clear r_g; have r_g := r_g0; obtain ⟨A_g, c_g, rfl, _, _, _⟩ := r_g0.use))
  go_wp2_with fail
  refine (eqAtomS (Below.refl _ _) r_g r_w).mono ?_; rintro e w12 ⟨rfl, hb12⟩; have q0 := box_on q0 rfl hb12; have q1 := box_on q1 rfl hb12; have q2 := box_on q2 rfl hb12; have r_w := AtomSR.good.nxt hb12 r_w; have r_x1_8 := AtomSR.good.nxt hb12 r_x1_8; have r_x2_9 := MutR.good.nxt hb12 r_x2_9; have r_g := AtomSR.good.nxt hb12 r_g; have f_x1 := f_x1.below hb12; have f_x2 := f_x2.below hb12; have f_g := f_g.below hb12; have hw_w12 := nxt hw_w11 hb12
  go_wp2_with fail
  refine (toAtomS hw_w12 H1 k1).mono ?_; rintro e w13 ⟨v_y1, bs_y1, rfl, r_y1, f_y1, hb13⟩; have q0 := box_on q0 rfl hb13; have q1 := box_on q1 rfl hb13; have q2 := box_on q2 rfl hb13; have r_w := AtomSR.good.nxt hb13 r_w; have r_x1_8 := AtomSR.good.nxt hb13 r_x1_8; have r_x2_9 := MutR.good.nxt hb13 r_x2_9; have r_g := AtomSR.good.nxt hb13 r_g; have f_x1 := f_x1.below hb13; have f_x2 := f_x2.below hb13; have f_g := f_g.below hb13; have hw_w13 := nxt hw_w12 hb13; have r_y1_13 := r_y1; obtain ⟨A_y1, c_y1, rfl, _, _, _⟩ := r_y1.use
  go_wp2_with fail
  refine (eqAtomS (Below.refl _ _) r_x1_8 r_y1_13).mono ?_; rintro e w14 ⟨rfl, hb14⟩; have q0 := box_on q0 rfl hb14; have q1 := box_on q1 rfl hb14; have q2 := box_on q2 rfl hb14; have r_w := AtomSR.good.nxt hb14 r_w; have r_x1_8 := AtomSR.good.nxt hb14 r_x1_8; have r_x2_9 := MutR.good.nxt hb14 r_x2_9; have r_g := AtomSR.good.nxt hb14 r_g; have r_y1_13 := AtomSR.good.nxt hb14 r_y1_13; have f_x1 := f_x1.below hb14; have f_x2 := f_x2.below hb14; have f_g := f_g.below hb14; have hw_w14 := nxt hw_w13 hb14
  clear r_y1_13
  go_wp2_with fail
  go_region_held3 (fun w' => (w'.cell? ⟨W.heap.size + 1, 0, none⟩ = some (.string a2.column) ∧ w'.cell? ⟨W.heap.size + 1, 1, none⟩ = some (.int .i64 a2.func) ∧ w'.cell? ⟨W.heap.size + 1, 2, none⟩ = some (p2v2)) ∧ (w'.cell? ⟨w9.heap.size, 0, none⟩ = some (.string a2.column) ∧ w'.cell? ⟨w9.heap.size, 1, none⟩ = some (.int .i64 a2.func) ∧ w'.cell? ⟨w9.heap.size, 2, none⟩ = some (.slice x2A2 a2.value.length x2c2))) (exact ⟨⟨q1 0, q1 1, q1 2⟩, ⟨q2 0, q2 1, q2 2⟩⟩)
    (first | (go_at_call 39; (with_reducible refine (toMut hw_w14.drew H2 k2).mono ?_); rintro e w15 ⟨cs_y2, bs_y2, rfl, r_y2, f_y2, hb15⟩; have hd15 := nxt (Below.refl _ _).drew hb15; have q0 := box_on q0 rfl hd15; have q1 := box_on q1 rfl hd15; have q2 := box_on q2 rfl hd15; have r_w := AtomSR.good.nxt hd15 r_w; have r_x1_8 := AtomSR.good.nxt hd15 r_x1_8; have r_x2_9 := MutR.good.nxt hd15 r_x2_9; have r_g := AtomSR.good.nxt hd15 r_g; have f_x1 := f_x1.below hd15; have f_x2 := f_x2.below hd15; have f_g := f_g.below hd15; have hw_w15 := nxt hw_w14 hd15; have r_y2_15 := r_y2; obtain ⟨y2v2, y2b2, rfl, rfl, _, y2r2⟩ := r_y2; obtain ⟨y2A2, y2c2, rfl, _, _, _⟩ := y2r2.use) | (go_at_call 41; (with_reducible refine (eqMut (Below.refl _ _) r_x2_9 r_y2_15).mono ?_); rintro e w16 ⟨rfl, hb16⟩; have q0 := box_on q0 rfl hb16; have q1 := box_on q1 rfl hb16; have q2 := box_on q2 rfl hb16; have r_w := AtomSR.good.nxt hb16 r_w; have r_x1_8 := AtomSR.good.nxt hb16 r_x1_8; have r_x2_9 := MutR.good.nxt hb16 r_x2_9; have r_g := AtomSR.good.nxt hb16 r_g; have r_y2_15 := MutR.good.nxt hb16 r_y2_15; have f_x1 := f_x1.below hb16; have f_x2 := f_x2.below hb16; have f_g := f_g.below hb16; have hw_w16 := nxt hw_w15 hb16))
  clear r_y2_15
  have wx1 := AtomS.wt_le a1
  go_wp2_with fail
  refine (markAtomS r_x1_8 f_x1 (by omega) (by omega)).mono ?_; rintro e w17 ⟨rfl, rm17, fm17, u17⟩; have q0 := box_upd q0 rfl u17 (fun hm => by have := (f_x1.2 _ hm).1; have := ob_x1_0.out; omega); have q1 := box_upd q1 rfl u17 (fun hm => by have := (f_x1.2 _ hm).1; have := ob_x1_1.out; omega); have q2 := box_upd q2 rfl u17 (fun hm => by have := ly_x1_2.out _ hm; omega); have r_w := AtomSR.good.upd r_w u17 (fun b hb hm => by have := od_x1_r_w.out b hb; have := (f_x1.2 b hm).1; omega); have r_x2_9 := MutR.good.upd r_x2_9 u17 (fun b hb hm => by have := od_x2_r_x1.out b hm; have := (f_x2.2 b hb).1; omega); have r_g := AtomSR.good.upd r_g u17 (fun b hb hm => by have := od_g_r_x1.out b hm; have := (f_g.2 b hb).1; omega); have hw_w17 := hw_w16.trans (u17.below W.heap.size hw_w16.size (fun b hb => by have := (f_x1.2 b hb).1; have := lo_x1.out; omega)); have f_x2 := f_x2.upd u17; have f_g := f_g.upd u17
  clear rm17 fm17
  have wx2 := Mut.wtV_le a2
  go_wp2_with fail
  refine (markVMut r_x2_9 f_x2 (by omega) (by omega)).mono ?_; rintro e w18 ⟨rfl, rm18, fm18, u18⟩; have q0 := box_upd q0 rfl u18 (fun hm => by have := (f_x2.2 _ hm).1; have := ob_x2_0.out; omega); have q1 := box_upd q1 rfl u18 (fun hm => by have := (f_x2.2 _ hm).1; have := ob_x2_1.out; omega); have q2 := box_upd q2 rfl u18 (fun hm => by have := ly_x2_2.out _ hm; omega); have r_w := AtomSR.good.upd r_w u18 (fun b hb hm => by have := od_x2_r_w.out b hb; have := (f_x2.2 b hm).1; omega); have r_g := AtomSR.good.upd r_g u18 (fun b hb hm => by have := od_g_r_x2.out b hm; have := (f_g.2 b hb).1; omega); have hw_w18 := hw_w17.trans (u18.below W.heap.size hw_w17.size (fun b hb => by have := (f_x2.2 b hb).1; have := lo_x2.out; omega)); have f_g := f_g.upd u18
  clear rm18 fm18
  go_wp2_with fail
  refine (eqAtomS (Below.refl _ _) r_g r_w).mono ?_; rintro e w19 ⟨rfl, hb19⟩; have q0 := box_on q0 rfl hb19; have q1 := box_on q1 rfl hb19; have q2 := box_on q2 rfl hb19; have r_w := AtomSR.good.nxt hb19 r_w; have r_g := AtomSR.good.nxt hb19 r_g; have f_g := f_g.below hb19; have hw_w19 := nxt hw_w18 hb19
  go_wp2_with fail
  refine (markAtomS r_g f_g (by omega) (by omega)).mono ?_; rintro e w20 ⟨rfl, rm20, fm20, u20⟩; have q0 := box_upd q0 rfl u20 (fun hm => by have := (f_g.2 _ hm).1; have := ob_g_0.out; omega); have q1 := box_upd q1 rfl u20 (fun hm => by have := (f_g.2 _ hm).1; have := ob_g_1.out; omega); have q2 := box_upd q2 rfl u20 (fun hm => by have := (f_g.2 _ hm).1; have := ob_g_2.out; omega); have r_w := AtomSR.good.upd r_w u20 (fun b hb hm => by have := od_g_r_w.out b hb; have := (f_g.2 b hm).1; omega); have hw_w20 := hw_w19.trans (u20.below W.heap.size hw_w19.size (fun b hb => by have := (f_g.2 b hb).1; have := lo_g.out; omega)); have r_g := rm20; have f_g := fm20
  go_wp2_with fail
  refine (heldAtomS (Below.refl _ _) r_g (by omega) (by omega)).mono ?_; rintro e w21 ⟨rfl, hb21⟩; have q0 := box_on q0 rfl hb21; have q1 := box_on q1 rfl hb21; have q2 := box_on q2 rfl hb21; have r_w := AtomSR.good.nxt hb21 r_w; have r_g := AtomSR.good.nxt hb21 r_g; have f_g := f_g.below hb21; have hw_w21 := nxt hw_w20 hb21
  go_wp2_with fail
  go_region_held3 (fun w' => (w'.cell? ⟨W.heap.size, 0, none⟩ = some (.string a0.name) ∧ w'.cell? ⟨W.heap.size, 1, none⟩ = some (.int .i64 a0.kind) ∧ w'.cell? ⟨W.heap.size, 2, none⟩ = some (.int .i64 a0.min) ∧ w'.cell? ⟨W.heap.size, 3, none⟩ = some (.int .i64 a0.max) ∧ w'.cell? ⟨W.heap.size, 4, none⟩ = some (.int .i64 a0.low) ∧ w'.cell? ⟨W.heap.size, 5, none⟩ = some (.int .i64 a0.high) ∧ w'.cell? ⟨W.heap.size, 6, none⟩ = some (.string a0.ref) ∧ w'.cell? ⟨W.heap.size, 7, none⟩ = some (.bool a0.strong)) ∧ (w'.cell? ⟨W.heap.size + 1, 0, none⟩ = some (.string a2.column) ∧ w'.cell? ⟨W.heap.size + 1, 1, none⟩ = some (.int .i64 a2.func) ∧ w'.cell? ⟨W.heap.size + 1, 2, none⟩ = some (p2v2))) (exact ⟨⟨q0 0, q0 1, q0 2, q0 3, q0 4, q0 5, q0 6, q0 7⟩, ⟨q1 0, q1 1, q1 2⟩⟩)
    (first | (go_at_call 38; (with_reducible refine (toColumn H0).mono ?_); rintro e w22 ⟨rfl, hb22⟩; have hd22 := nxt (Below.refl _ _).drew hb22; have q0 := box_on q0 rfl hd22; have q1 := box_on q1 rfl hd22; have q2 := box_on q2 rfl hd22; have r_w := AtomSR.good.nxt hd22 r_w; have r_g := AtomSR.good.nxt hd22 r_g; have f_g := f_g.below hd22; have hw_w22 := nxt hw_w21 hd22) | (go_at_call 28; (with_reducible refine (toAtomS hw_w22 H1 k1).mono ?_); rintro e w23 ⟨v_z1, bs_z1, rfl, r_z1, f_z1, hb23⟩; have q0 := box_on q0 rfl hb23; have q1 := box_on q1 rfl hb23; have q2 := box_on q2 rfl hb23; have r_w := AtomSR.good.nxt hb23 r_w; have r_g := AtomSR.good.nxt hb23 r_g; have f_g := f_g.below hb23; have hw_w23 := nxt hw_w22 hb23; have r_z1_23 := r_z1; obtain ⟨A_z1, c_z1, rfl, _, _, _⟩ := r_z1.use) | (go_at_call 39; (with_reducible refine (toMut hw_w23 H2 k2).mono ?_); rintro e w24 ⟨cs_z2, bs_z2, rfl, r_z2, f_z2, hb24⟩; have q0 := box_on q0 rfl hb24; have q1 := box_on q1 rfl hb24; have q2 := box_on q2 rfl hb24; have r_w := AtomSR.good.nxt hb24 r_w; have r_g := AtomSR.good.nxt hb24 r_g; have r_z1_23 := AtomSR.good.nxt hb24 r_z1_23; have f_g := f_g.below hb24; have hw_w24 := nxt hw_w23 hb24; have r_z2_24 := r_z2; obtain ⟨z2v2, z2b2, rfl, rfl, _, z2r2⟩ := r_z2; obtain ⟨z2A2, z2c2, rfl, _, _, _⟩ := z2r2.use) | (go_at_call 40; (with_reducible refine (impl_Mutate a0 r_z1_23 r_z2_24 hf0).mono ?_); rw [HO.out]; rintro e w25 ⟨v_h, bs_h, rfl, r_h, f_h, hb25⟩; have q0 := box_on q0 rfl hb25; have q1 := box_on q1 rfl hb25; have q2 := box_on q2 rfl hb25; have r_w := AtomSR.good.nxt hb25 r_w; have r_g := AtomSR.good.nxt hb25 r_g; have r_z1_23 := AtomSR.good.nxt hb25 r_z1_23; have r_z2_24 := MutR.good.nxt hb25 r_z2_24; have f_g := f_g.below hb25; have hw_w25 := nxt hw_w24 hb25; have r_h0 : AtomSR w25 bs_h [v_h] ok := r_h; clear r_h; have r_h := r_h0; obtain ⟨A_h, c_h, rfl, _, _, _⟩ := r_h0.use))
  clear r_z1_23
  clear r_z2_24
  go_wp2_with fail
  refine (eqAtomS (Below.refl _ _) r_h r_w).mono ?_; rintro e w26 ⟨rfl, hb26⟩; have q0 := box_on q0 rfl hb26; have q1 := box_on q1 rfl hb26; have q2 := box_on q2 rfl hb26; have r_w := AtomSR.good.nxt hb26 r_w; have r_g := AtomSR.good.nxt hb26 r_g; have r_h := AtomSR.good.nxt hb26 r_h; have f_g := f_g.below hb26; have hw_w26 := nxt hw_w25 hb26
  clear r_h
  go_wp2_with fail
  refine (heldAtomS (Below.refl _ _) r_g (by omega) (by omega)).mono ?_; rintro e w27 ⟨rfl, hb27⟩; have q0 := box_on q0 rfl hb27; have q1 := box_on q1 rfl hb27; have q2 := box_on q2 rfl hb27; have r_w := AtomSR.good.nxt hb27 r_w; have r_g := AtomSR.good.nxt hb27 r_g; have f_g := f_g.below hb27; have hw_w27 := nxt hw_w26 hb27
  go_wp2_with fail
  go_ret
  exact ⟨rfl, hw_w27⟩
end Go.Proofs.Ythglchopajdmhaa
