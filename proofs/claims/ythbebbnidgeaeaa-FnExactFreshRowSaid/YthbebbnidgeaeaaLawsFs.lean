/- The walks of laws: FreshRow. No statement is proved here; no conditions. Written by a program (genlaw.py). -/
import Derived.Test.YthbebbnidgeaeaaFresh
import Derived.Test.YthbebbnidgeaeaaBox
import Derived.Test.YthbebbnidgeaeaaSz
import Derived.Test.YthbebbnidgeaeaaTo
import Derived.Test.YthbebbnidgeaeaaEq
import Derived.Test.YthbebbnidgeaeaaMarkV
import Derived.Test.YthbebbnidgeaeaaHeld
import Derived.Deep.RegionHeld3
namespace Go.Proofs.Ythbebbnidgeaeaa
open Go.ChangeShapes Go.WideShapes Go.ChangeAt Go.RowKit Go.Deep
set_option maxRecDepth 100000
set_option linter.unusedVariables false

set_option maxHeartbeats 4000000 in
theorem lawFreshRow {W : World} {bs0 : List Nat} {cs0 : List Value} {a0 : Table} {a1 : Int} (h0 : TableR W bs0 cs0 a0) (h1 : (Lit.int .i64 a1).wf = true) :
    Calls Try.prog 6 #[.agg cs0.toArray, .int .i64 a1] W fun e w' => e = .returned (.bool true) ∧ Below W.heap.size W w' := by
  have H0 := h0
  obtain ⟨p0v1, p0b1, p0v2, p0b2, rfl, rfl, hf0, p0r1, p0r2⟩ := h0
  clear p0r1
  clear p0r2
  have wf1 := wf_bounds h1
  go_enter Try.func6, Try.ntmps6
  go_wp2_with fail
  by_cases n0 : (1048576 : Int) - (Table.bulk a0 : Int) < 0
  · refine (szTable ((Below.refl W.heap.size W).alloc (Nat.le_refl _) (.cells #[.string a0.name, p0v1, p0v2, .bool a0.root] 58)) H0 (by omega) (by omega)).mono ?_; rw [clip_neg (by omega)]; rintro e w' ⟨rfl, hb'⟩
    go_wp2_with fail
    go_ret
    exact ⟨rfl, nxt ((Below.refl W.heap.size W).alloc (Nat.le_refl _) (.cells #[.string a0.name, p0v1, p0v2, .bool a0.root] 58)) hb'⟩
  refine (szTable ((Below.refl W.heap.size W).alloc (Nat.le_refl _) (.cells #[.string a0.name, p0v1, p0v2, .bool a0.root] 58)) H0 (by omega) (by omega)).mono ?_; rw [clip_pos (by omega)]; rintro e w1 ⟨rfl, hb1⟩; have st1 := nxt' ((Below.refl W.heap.size W).alloc (Nat.le_refl _) (.cells #[.string a0.name, p0v1, p0v2, .bool a0.root] 58)) hb1; have q0 := box_at hb1; have hw_w1 := nxt (Below.refl W.heap.size W) st1
  have k0 : Table.bulk a0 ≤ 1048576 := by omega
  obtain ⟨ok, co, hok⟩ : ∃ ok co, freshAns a0 a1 = (ok, co) := ⟨_, _, rfl⟩
  have HO := hide hok
  have qq1 : (ok != ok) = false := by simp
  have qq2 : (co != co) = false := by simp
  clear hok
  have qi := hni
  have hbd := freshAns_wt k0 a1
  rw [HO.out] at hbd
  have hbd : (Row.wtV ok : Int) ≤ 1073741824 := by have := hbd; simp only [] at this; omega
  go_wp2_with fail
  refine (toTable hw_w1 H0 k0).mono ?_; rintro e w2 ⟨cs_s0, bs_s0, rfl, r_s0, f_s0, hb2⟩; have q0 := box_on q0 rfl hb2; have hw_w2 := nxt hw_w1 hb2; have r_s0_2 := r_s0; obtain ⟨s0v1, s0b1, s0v2, s0b2, rfl, rfl, _, s0r1, s0r2⟩ := r_s0; obtain ⟨s0A1, s0c1, rfl, _, _, _⟩ := s0r1.use; obtain ⟨s0A2, s0c2, rfl, _, _, _⟩ := s0r2.use
  go_wp2_with fail
  refine (spec_FreshRow r_s0_2 a1).mono ?_; rw [HO.out]; rintro e w3 ⟨cs_w, bs_w, rfl, r_w, hb3⟩; have q0 := box_on q0 rfl hb3; have r_s0_2 := TableR.good.nxt hb3 r_s0_2; have hw_w3 := nxt hw_w2 hb3; have r_w0 : RowR w3 bs_w cs_w ok := r_w; clear r_w; have r_w := r_w0; obtain ⟨wv1, wb1, wbs, rfl, _, wr1⟩ := r_w0; subst wbs; obtain ⟨wA1, wc1, rfl, _, _, _⟩ := wr1.use
  clear r_s0_2
  have q0p := box_on q0 rfl ((Below.refl w3.heap.size w3).alloc (Nat.le_refl _) (.cells #[.int .i64 ok.id, .slice wA1 ok.cells.length wc1] 62))
  have ob_x0_0 := hide (Nat.lt_of_lt_of_le (World.block_lt_of_cell? _ ⟨W.heap.size, 0, none⟩ (box_cell q0 0 rfl)) (((Below.refl w3.heap.size w3).alloc (Nat.le_refl _) (.cells #[.int .i64 ok.id, .slice wA1 ok.cells.length wc1] 62))).size)
  have od_x0_r_w := hide (RowR.good.lt (RowR.good.nxt ((Below.refl w3.heap.size w3).alloc (Nat.le_refl _) (.cells #[.int .i64 ok.id, .slice wA1 ok.cells.length wc1] 62)) r_w))
  have lo_x0 := hide ((hw_w3.alloc (hw_w3.size) (.cells #[.int .i64 ok.id, .slice wA1 ok.cells.length wc1] 62))).size
  go_wp2_with fail
  refine (toTable (hw_w3.alloc (hw_w3.size) (.cells #[.int .i64 ok.id, .slice wA1 ok.cells.length wc1] 62)) H0 k0).mono ?_; rintro e w4 ⟨cs_x0, bs_x0, rfl, r_x0, f_x0, hb4⟩; have st4 := nxt' ((Below.refl w3.heap.size w3).alloc (Nat.le_refl _) (.cells #[.int .i64 ok.id, .slice wA1 ok.cells.length wc1] 62)) hb4; have q0 := box_on q0 rfl st4; have q1 := box_at hb4; have r_w := RowR.good.nxt st4 r_w; have hw_w4 := nxt hw_w3 st4; have r_x0_4 := r_x0; obtain ⟨x0v1, x0b1, x0v2, x0b2, rfl, rfl, _, x0r1, x0r2⟩ := r_x0; obtain ⟨x0A1, x0c1, rfl, _, _, _⟩ := x0r1.use; obtain ⟨x0A2, x0c2, rfl, _, _, _⟩ := x0r2.use
  have q0p := box_on q0 rfl ((Below.refl w4.heap.size w4).alloc (Nat.le_refl _) (.cells #[.string a0.name, .slice x0A1 a0.columns.length x0c1, .slice x0A2 a0.unique.length x0c2, .bool a0.root] 34))
  have q1p := box_on q1 rfl ((Below.refl w4.heap.size w4).alloc (Nat.le_refl _) (.cells #[.string a0.name, .slice x0A1 a0.columns.length x0c1, .slice x0A2 a0.unique.length x0c2, .bool a0.root] 34))
  have ly_x0_2 := hide (TableR.good.lt r_x0_4)
  have ob_g_0 := hide (Nat.lt_of_lt_of_le (World.block_lt_of_cell? _ ⟨W.heap.size, 0, none⟩ (box_cell q0 0 rfl)) (((Below.refl w4.heap.size w4).alloc (Nat.le_refl _) (.cells #[.string a0.name, .slice x0A1 a0.columns.length x0c1, .slice x0A2 a0.unique.length x0c2, .bool a0.root] 34))).size)
  have ob_g_1 := hide (Nat.lt_of_lt_of_le (World.block_lt_of_cell? _ ⟨w3.heap.size, 0, none⟩ (box_cell q1 0 rfl)) (((Below.refl w4.heap.size w4).alloc (Nat.le_refl _) (.cells #[.string a0.name, .slice x0A1 a0.columns.length x0c1, .slice x0A2 a0.unique.length x0c2, .bool a0.root] 34))).size)
  have od_g_r_w := hide (RowR.good.lt (RowR.good.nxt ((Below.refl w4.heap.size w4).alloc (Nat.le_refl _) (.cells #[.string a0.name, .slice x0A1 a0.columns.length x0c1, .slice x0A2 a0.unique.length x0c2, .bool a0.root] 34)) r_w))
  have od_g_r_x0 := hide (TableR.good.lt (TableR.good.nxt ((Below.refl w4.heap.size w4).alloc (Nat.le_refl _) (.cells #[.string a0.name, .slice x0A1 a0.columns.length x0c1, .slice x0A2 a0.unique.length x0c2, .bool a0.root] 34)) r_x0_4))
  have lo_g := hide ((hw_w4.alloc (hw_w4.size) (.cells #[.string a0.name, .slice x0A1 a0.columns.length x0c1, .slice x0A2 a0.unique.length x0c2, .bool a0.root] 34))).size
  go_wp2_with fail
  refine (impl_FreshRow (TableR.good.nxt ((Below.refl w4.heap.size w4).alloc (Nat.le_refl _) (.cells #[.string a0.name, .slice x0A1 a0.columns.length x0c1, .slice x0A2 a0.unique.length x0c2, .bool a0.root] 34)) r_x0_4) a1).mono ?_; rw [HO.out]; rintro e w5 ⟨cs_g, bs_g, rfl, r_g, f_g, hb5⟩; have st5 := nxt' ((Below.refl w4.heap.size w4).alloc (Nat.le_refl _) (.cells #[.string a0.name, .slice x0A1 a0.columns.length x0c1, .slice x0A2 a0.unique.length x0c2, .bool a0.root] 34)) hb5; have q0 := box_on q0 rfl st5; have q1 := box_on q1 rfl st5; have q2 := box_at hb5; have r_w := RowR.good.nxt st5 r_w; have r_x0_4 := TableR.good.nxt st5 r_x0_4; have f_x0 := f_x0.below st5; have hw_w5 := nxt hw_w4 st5; have r_g0 : RowR w5 bs_g cs_g ok := r_g; clear r_g; have r_g := r_g0; obtain ⟨gv1, gb1, gbs, rfl, _, gr1⟩ := r_g0; subst gbs; obtain ⟨gA1, gc1, rfl, _, _, _⟩ := gr1.use
  have q0p := box_on q0 rfl ((Below.refl w5.heap.size w5).alloc (Nat.le_refl _) (.cells #[.int .i64 ok.id, .slice gA1 ok.cells.length gc1] 62))
  have q1p := box_on q1 rfl ((Below.refl w5.heap.size w5).alloc (Nat.le_refl _) (.cells #[.int .i64 ok.id, .slice gA1 ok.cells.length gc1] 62))
  have q2p := box_on q2 rfl ((Below.refl w5.heap.size w5).alloc (Nat.le_refl _) (.cells #[.int .i64 ok.id, .slice gA1 ok.cells.length gc1] 62))
  have ly_x0_3 := hide (TableR.good.lt r_x0_4)
  have ly_g_3 := hide (RowR.good.lt r_g)
  go_wp2_with fail
  refine (eqRow (Below.refl _ _) (RowR.good.nxt ((Below.refl w5.heap.size w5).alloc (Nat.le_refl _) (.cells #[.int .i64 ok.id, .slice gA1 ok.cells.length gc1] 62)) r_g) (RowR.good.nxt ((Below.refl w5.heap.size w5).alloc (Nat.le_refl _) (.cells #[.int .i64 ok.id, .slice gA1 ok.cells.length gc1] 62)) r_w)).mono ?_; rintro e w6 ⟨rfl, hb6⟩; have st6 := nxt' ((Below.refl w5.heap.size w5).alloc (Nat.le_refl _) (.cells #[.int .i64 ok.id, .slice gA1 ok.cells.length gc1] 62)) hb6; have q0 := box_on q0 rfl st6; have q1 := box_on q1 rfl st6; have q2 := box_on q2 rfl st6; have q3 := box_at hb6; have r_w := RowR.good.nxt st6 r_w; have r_x0_4 := TableR.good.nxt st6 r_x0_4; have r_g := RowR.good.nxt st6 r_g; have f_x0 := f_x0.below st6; have f_g := f_g.below st6; have hw_w6 := nxt hw_w5 st6
  go_wp2_with fail
  go_region_held3 (fun w' => (w'.cell? ⟨W.heap.size, 0, none⟩ = some (.string a0.name) ∧ w'.cell? ⟨W.heap.size, 1, none⟩ = some (p0v1) ∧ w'.cell? ⟨W.heap.size, 2, none⟩ = some (p0v2) ∧ w'.cell? ⟨W.heap.size, 3, none⟩ = some (.bool a0.root)) ∧ (w'.cell? ⟨w4.heap.size, 0, none⟩ = some (.string a0.name) ∧ w'.cell? ⟨w4.heap.size, 1, none⟩ = some (.slice x0A1 a0.columns.length x0c1) ∧ w'.cell? ⟨w4.heap.size, 2, none⟩ = some (.slice x0A2 a0.unique.length x0c2) ∧ w'.cell? ⟨w4.heap.size, 3, none⟩ = some (.bool a0.root))) (exact ⟨⟨q0 0, q0 1, q0 2, q0 3⟩, ⟨q2 0, q2 1, q2 2, q2 3⟩⟩)
    (first | (go_at_call 30; (with_reducible refine (toTable hw_w6.drew H0 k0).mono ?_); rintro e w7 ⟨cs_y0, bs_y0, rfl, r_y0, f_y0, hb7⟩; have hd7 := nxt (Below.refl _ _).drew hb7; have q0 := box_on q0 rfl hd7; have q1 := box_on q1 rfl hd7; have q2 := box_on q2 rfl hd7; have q3 := box_on q3 rfl hd7; have r_w := RowR.good.nxt hd7 r_w; have r_x0_4 := TableR.good.nxt hd7 r_x0_4; have r_g := RowR.good.nxt hd7 r_g; have f_x0 := f_x0.below hd7; have f_g := f_g.below hd7; have hw_w7 := nxt hw_w6 hd7; have r_y0_7 := r_y0; obtain ⟨y0v1, y0b1, y0v2, y0b2, rfl, rfl, _, y0r1, y0r2⟩ := r_y0; obtain ⟨y0A1, y0c1, rfl, _, _, _⟩ := y0r1.use; obtain ⟨y0A2, y0c2, rfl, _, _, _⟩ := y0r2.use) | (go_at_call 33; (with_reducible refine (eqTable (Below.refl _ _) r_x0_4 r_y0_7).mono ?_); rintro e w8 ⟨rfl, hb8⟩; have q0 := box_on q0 rfl hb8; have q1 := box_on q1 rfl hb8; have q2 := box_on q2 rfl hb8; have q3 := box_on q3 rfl hb8; have r_w := RowR.good.nxt hb8 r_w; have r_x0_4 := TableR.good.nxt hb8 r_x0_4; have r_g := RowR.good.nxt hb8 r_g; have r_y0_7 := TableR.good.nxt hb8 r_y0_7; have f_x0 := f_x0.below hb8; have f_g := f_g.below hb8; have hw_w8 := nxt hw_w7 hb8))
  clear r_y0_7
  have wx0 := Table.wtV_le a0
  go_wp2_with fail
  refine (markVTable r_x0_4 f_x0 (by omega) (by omega)).mono ?_; rintro e w9 ⟨rfl, rm9, fm9, u9⟩; have q0 := box_upd q0 rfl u9 (fun hm => by have := (f_x0.2 _ hm).1; have := ob_x0_0.out; omega); have q1 := box_upd q1 rfl u9 (fun hm => by have := (f_x0.2 _ hm).1; simp at this; omega); have q2 := box_upd q2 rfl u9 (fun hm => by have := ly_x0_2.out _ hm; omega); have q3 := box_upd q3 rfl u9 (fun hm => by have := ly_x0_3.out _ hm; omega); have r_w := RowR.good.upd r_w u9 (fun b hb hm => by have := od_x0_r_w.out b hb; have := (f_x0.2 b hm).1; omega); have r_g := RowR.good.upd r_g u9 (fun b hb hm => by have := od_g_r_x0.out b hm; have := (f_g.2 b hb).1; omega); have hw_w9 := hw_w8.trans (u9.below W.heap.size hw_w8.size (fun b hb => by have := (f_x0.2 b hb).1; have := lo_x0.out; omega)); have f_g := f_g.upd u9
  clear rm9 fm9
  go_wp2_with fail
  refine (eqRow (Below.refl _ _) r_g r_w).mono ?_; rintro e w10 ⟨rfl, hb10⟩; have q0 := box_on q0 rfl hb10; have q1 := box_on q1 rfl hb10; have q2 := box_on q2 rfl hb10; have q3 := box_on q3 rfl hb10; have r_w := RowR.good.nxt hb10 r_w; have r_g := RowR.good.nxt hb10 r_g; have f_g := f_g.below hb10; have hw_w10 := nxt hw_w9 hb10
  go_wp2_with fail
  refine (markVRow r_g f_g (by omega) (by omega)).mono ?_; rintro e w11 ⟨rfl, rm11, fm11, u11⟩; have q0 := box_upd q0 rfl u11 (fun hm => by have := (f_g.2 _ hm).1; have := ob_g_0.out; omega); have q1 := box_upd q1 rfl u11 (fun hm => by have := (f_g.2 _ hm).1; have := ob_g_1.out; omega); have q2 := box_upd q2 rfl u11 (fun hm => by have := (f_g.2 _ hm).1; simp at this; omega); have q3 := box_upd q3 rfl u11 (fun hm => by have := ly_g_3.out _ hm; omega); have r_w := RowR.good.upd r_w u11 (fun b hb hm => by have := od_g_r_w.out b hb; have := (f_g.2 b hm).1; omega); have hw_w11 := hw_w10.trans (u11.below W.heap.size hw_w10.size (fun b hb => by have := (f_g.2 b hb).1; have := lo_g.out; omega)); have r_g := rm11; have f_g := fm11
  go_wp2_with fail
  refine (heldVRow (Below.refl _ _) r_g (by omega) (by omega)).mono ?_; rintro e w12 ⟨rfl, hb12⟩; have q0 := box_on q0 rfl hb12; have q1 := box_on q1 rfl hb12; have q2 := box_on q2 rfl hb12; have q3 := box_on q3 rfl hb12; have r_w := RowR.good.nxt hb12 r_w; have r_g := RowR.good.nxt hb12 r_g; have f_g := f_g.below hb12; have hw_w12 := nxt hw_w11 hb12
  go_wp2_with fail
  refine (toTable hw_w12 H0 k0).mono ?_; rintro e w13 ⟨cs_z0, bs_z0, rfl, r_z0, f_z0, hb13⟩; have q0 := box_on q0 rfl hb13; have q1 := box_on q1 rfl hb13; have q2 := box_on q2 rfl hb13; have q3 := box_on q3 rfl hb13; have r_w := RowR.good.nxt hb13 r_w; have r_g := RowR.good.nxt hb13 r_g; have f_g := f_g.below hb13; have hw_w13 := nxt hw_w12 hb13; have r_z0_13 := r_z0; obtain ⟨z0v1, z0b1, z0v2, z0b2, rfl, rfl, _, z0r1, z0r2⟩ := r_z0; obtain ⟨z0A1, z0c1, rfl, _, _, _⟩ := z0r1.use; obtain ⟨z0A2, z0c2, rfl, _, _, _⟩ := z0r2.use
  go_wp2_with fail
  refine (impl_FreshRow r_z0_13 a1).mono ?_; rw [HO.out]; rintro e w14 ⟨cs_h, bs_h, rfl, r_h, f_h, hb14⟩; have q0 := box_on q0 rfl hb14; have q1 := box_on q1 rfl hb14; have q2 := box_on q2 rfl hb14; have q3 := box_on q3 rfl hb14; have r_w := RowR.good.nxt hb14 r_w; have r_g := RowR.good.nxt hb14 r_g; have r_z0_13 := TableR.good.nxt hb14 r_z0_13; have f_g := f_g.below hb14; have hw_w14 := nxt hw_w13 hb14; have r_h0 : RowR w14 bs_h cs_h ok := r_h; clear r_h; have r_h := r_h0; obtain ⟨hv1, hb1, hbs, rfl, _, hr1⟩ := r_h0; subst hbs; obtain ⟨hA1, hc1, rfl, _, _, _⟩ := hr1.use
  clear r_z0_13
  have q0p := box_on q0 rfl ((Below.refl w14.heap.size w14).alloc (Nat.le_refl _) (.cells #[.int .i64 ok.id, .slice hA1 ok.cells.length hc1] 62))
  have q1p := box_on q1 rfl ((Below.refl w14.heap.size w14).alloc (Nat.le_refl _) (.cells #[.int .i64 ok.id, .slice hA1 ok.cells.length hc1] 62))
  have q2p := box_on q2 rfl ((Below.refl w14.heap.size w14).alloc (Nat.le_refl _) (.cells #[.int .i64 ok.id, .slice hA1 ok.cells.length hc1] 62))
  have q3p := box_on q3 rfl ((Below.refl w14.heap.size w14).alloc (Nat.le_refl _) (.cells #[.int .i64 ok.id, .slice hA1 ok.cells.length hc1] 62))
  have ly_g_4 := hide (RowR.good.lt r_g)
  go_wp2_with fail
  refine (eqRow (Below.refl _ _) (RowR.good.nxt ((Below.refl w14.heap.size w14).alloc (Nat.le_refl _) (.cells #[.int .i64 ok.id, .slice hA1 ok.cells.length hc1] 62)) r_h) (RowR.good.nxt ((Below.refl w14.heap.size w14).alloc (Nat.le_refl _) (.cells #[.int .i64 ok.id, .slice hA1 ok.cells.length hc1] 62)) r_w)).mono ?_; rintro e w15 ⟨rfl, hb15⟩; have st15 := nxt' ((Below.refl w14.heap.size w14).alloc (Nat.le_refl _) (.cells #[.int .i64 ok.id, .slice hA1 ok.cells.length hc1] 62)) hb15; have q0 := box_on q0 rfl st15; have q1 := box_on q1 rfl st15; have q2 := box_on q2 rfl st15; have q3 := box_on q3 rfl st15; have q4 := box_at hb15; have r_w := RowR.good.nxt st15 r_w; have r_g := RowR.good.nxt st15 r_g; have r_h := RowR.good.nxt st15 r_h; have f_g := f_g.below st15; have hw_w15 := nxt hw_w14 st15
  clear r_h
  go_wp2_with fail
  refine (heldVRow (Below.refl _ _) r_g (by omega) (by omega)).mono ?_; rintro e w16 ⟨rfl, hb16⟩; have q0 := box_on q0 rfl hb16; have q1 := box_on q1 rfl hb16; have q2 := box_on q2 rfl hb16; have q3 := box_on q3 rfl hb16; have q4 := box_on q4 rfl hb16; have r_w := RowR.good.nxt hb16 r_w; have r_g := RowR.good.nxt hb16 r_g; have f_g := f_g.below hb16; have hw_w16 := nxt hw_w15 hb16
  go_wp2_with fail
  go_ret
  exact ⟨rfl, hw_w16⟩
end Go.Proofs.Ythbebbnidgeaeaa
