/- The walks of laws: MutateRow. No statement is proved here; no conditions. Written by a program (genlaw.py). -/
import Derived.Test.YthglchopajdmhaaGreatMuRT
import Derived.Test.YthglchopajdmhaaGreatBox
import Derived.Test.YthglchopajdmhaaGreatSz
import Derived.Test.YthglchopajdmhaaGreatTo
import Derived.Test.YthglchopajdmhaaGreatEq
import Derived.Test.YthglchopajdmhaaGreatMarkV
import Derived.Test.YthglchopajdmhaaGreatHeld
import Derived.Deep.RegionHeld3
namespace Go.Proofs.YthglchopajdmhaaGreat
open Go.ChangeShapes Go.WideShapes Go.ChangeAt Go.RowKit Go.Deep
set_option maxRecDepth 100000
set_option linter.unusedVariables false
set_option linter.unusedSimpArgs false

set_option maxHeartbeats 60000000 in
theorem lawMutateRow {W : World} {bs0 : List Nat} {cs0 : List Value} {a0 : Table} {bs1 : List Nat} {cs1 : List Value} {a1 : Row} {bs2 : List Nat} {v2 : Value} {a2 : List Mut} (h0 : TableR W bs0 cs0 a0) (h1 : RowR W bs1 cs1 a1) (h2 : MutSR W bs2 [v2] a2) :
    Calls Tryz.prog 3 #[.agg cs0.toArray, .agg cs1.toArray, v2] W fun e w' => e = .returned (.bool true) ∧ Below W.heap.size W w' := by
  have H0 := h0
  have H1 := h1
  have H2 := h2
  obtain ⟨p0v1, p0b1, p0v2, p0b2, rfl, rfl, hf0, p0r1, p0r2⟩ := h0
  clear p0r1
  clear p0r2
  obtain ⟨p1v1, p1b1, rfl, rfl, hf1, p1r1⟩ := h1
  clear p1r1
  obtain ⟨A2, c2, rfl, _, _, _⟩ := h2.use
  go_enter Tryz.func3, Tryz.ntmps3
  go_wp2_with fail
  by_cases n0 : (1048576 : Int) - (Table.bulk a0 : Int) < 0
  · refine (szTable (((Below.refl W.heap.size W).alloc (Nat.le_refl _) (.cells #[.string a0.name, p0v1, p0v2, .bool a0.root] 25)).alloc (by simp; try omega) (.cells #[.int .i64 a1.id, p1v1] 28)) H0 (by omega) (by omega)).mono ?_; rw [clip_neg (by omega)]; rintro e w' ⟨rfl, hb'⟩
    go_wp2_with fail
    go_ret
    exact ⟨rfl, nxt (((Below.refl W.heap.size W).alloc (Nat.le_refl _) (.cells #[.string a0.name, p0v1, p0v2, .bool a0.root] 25)).alloc (by simp; try omega) (.cells #[.int .i64 a1.id, p1v1] 28)) hb'⟩
  refine (szTable (((Below.refl W.heap.size W).alloc (Nat.le_refl _) (.cells #[.string a0.name, p0v1, p0v2, .bool a0.root] 25)).alloc (by simp; try omega) (.cells #[.int .i64 a1.id, p1v1] 28)) H0 (by omega) (by omega)).mono ?_; rw [clip_pos (by omega)]; rintro e w1 ⟨rfl, hb1⟩; have st1 := nxt' (((Below.refl W.heap.size W).alloc (Nat.le_refl _) (.cells #[.string a0.name, p0v1, p0v2, .bool a0.root] 25)).alloc (by simp; try omega) (.cells #[.int .i64 a1.id, p1v1] 28)) hb1; obtain ⟨q0, q1⟩ := two_at hb1; have hw_w1 := nxt (Below.refl W.heap.size W) st1
  have k0 : Table.bulk a0 ≤ 1048576 := by omega
  go_wp2_with fail
  by_cases n1 : (1048576 : Int) - (Table.bulk a0 : Int) - (Row.bulk a1 : Int) < 0
  · refine (szRow hw_w1 H1 (by omega) (by omega)).mono ?_; rw [clip_neg (by omega)]; rintro e w' ⟨rfl, hb'⟩
    go_wp2_with fail
    go_ret
    exact ⟨rfl, nxt hw_w1 hb'⟩
  refine (szRow hw_w1 H1 (by omega) (by omega)).mono ?_; rw [clip_pos (by omega)]; rintro e w2 ⟨rfl, hb2⟩; have q0 := box_on q0 rfl hb2; have q1 := box_on q1 rfl hb2; have hw_w2 := nxt hw_w1 hb2
  have k1 : Row.bulk a1 ≤ 1048576 := by omega
  go_wp2_with fail
  by_cases n2 : (1048576 : Int) - (Table.bulk a0 : Int) - (Row.bulk a1 : Int) - (MutS.bulk a2 : Int) < 0
  · refine (szMutS hw_w2 H2 (by omega) (by omega)).mono ?_; rw [clip_neg (by omega)]; rintro e w' ⟨rfl, hb'⟩
    go_wp2_with fail
    go_ret
    exact ⟨rfl, nxt hw_w2 hb'⟩
  refine (szMutS hw_w2 H2 (by omega) (by omega)).mono ?_; rw [clip_pos (by omega)]; rintro e w3 ⟨rfl, hb3⟩; have q0 := box_on q0 rfl hb3; have q1 := box_on q1 rfl hb3; have hw_w3 := nxt hw_w2 hb3
  have k2 : MutS.bulk a2 ≤ 1048576 := by omega
  obtain ⟨ok, co, hok⟩ : ∃ ok co, mrowAns a0 a1 a2 = (ok, co) := ⟨_, _, rfl⟩
  have HO := hide hok
  have qq1 : (ok != ok) = false := by simp
  have qq2 : (co != co) = false := by simp
  clear hok
  have qi := hni
  have hbd := mrowAns_wt a0 a1 a2
  rw [HO.out] at hbd
  have hbd : (Row.wtV ok : Int) ≤ 1073741824 := by have := hbd; (try simp only [] at this); omega
  go_wp2_with fail
  refine wp_region_tail (fun w' => w'.cell? ⟨W.heap.size, 0, none⟩ = some (.string a0.name) ∧ w'.cell? ⟨W.heap.size, 1, none⟩ = some (p0v1) ∧ w'.cell? ⟨W.heap.size, 2, none⟩ = some (p0v2) ∧ w'.cell? ⟨W.heap.size, 3, none⟩ = some (.bool a0.root) ∧ w'.cell? ⟨W.heap.size + 1, 0, none⟩ = some (.int .i64 a1.id) ∧ w'.cell? ⟨W.heap.size + 1, 1, none⟩ = some (p1v1)) 12 (by kernel_rfl) (by decide) (show _ from ⟨box_cell q0 0 rfl, box_cell q0 1 rfl, box_cell q0 2 rfl, box_cell q0 3 rfl, box_cell q1 0 rfl, box_cell q1 1 rfl⟩) (fun hHeld => ?_)
  refine wpT_take (i := 0) rfl (by kernel_rfl) (fun _ _ _ h => h) (Or.inl ⟨by rfl, fun w hSw => by (try dsimp only at hSw); first | (go_simp; done) | (go_simp; with_reducible rfl)⟩) (by assumption) ?_
  (try simp only [Act.put, List.setIfInBounds_toArray, List.set_cons_zero, List.set_cons_succ])
  refine wpT_take (i := 2) rfl (by kernel_rfl) (fun _ _ _ h => h) (Or.inl ⟨by rfl, fun w hSw => by (try dsimp only at hSw); first | (go_simp; done) | (go_simp; with_reducible rfl)⟩) (by assumption) ?_
  (try simp only [Act.put, List.setIfInBounds_toArray, List.set_cons_zero, List.set_cons_succ])
  refine wpT_take (i := 4) rfl (by kernel_rfl) (fun _ _ _ h => h) (Or.inl ⟨by rfl, fun w hSw => by (try dsimp only at hSw); first | (go_simp; done) | (go_simp; with_reducible rfl)⟩) (by assumption) ?_
  (try simp only [Act.put, List.setIfInBounds_toArray, List.set_cons_zero, List.set_cons_succ])
  refine wpT_two (i := 1) (j := 10) rfl rfl (by kernel_rfl) (fun K hK => ?_) (fun K hK => ?_)
  go_simp; go_at_call 8; refine (toTable hw_w3.drew H0 k0).mono ?_; rintro e w4 ⟨cs_s0, bs_s0, rfl, r_s0, f_s0, hb4⟩; have hd4 := nxt (Below.refl _ _).drew hb4; have q0 := box_on q0 rfl hd4; have q1 := box_on q1 rfl hd4; have hw_w4 := nxt hw_w3 hd4; have r_s0_4 := r_s0; obtain ⟨s0v1, s0b1, s0v2, s0b2, rfl, rfl, _, s0r1, s0r2⟩ := r_s0; obtain ⟨s0A1, s0c1, rfl, _, _, _⟩ := s0r1.use; obtain ⟨s0A2, s0c2, rfl, _, _, _⟩ := s0r2.use
  clear hHeld; refine hK.out _ _ (show _ from ⟨box_cell q0 0 rfl, box_cell q0 1 rfl, box_cell q0 2 rfl, box_cell q0 3 rfl, box_cell q1 0 rfl, box_cell q1 1 rfl⟩) (fun hHeld => ?_); clear hK K
  (try simp only [Act.put, List.setIfInBounds_toArray, List.set_cons_zero, List.set_cons_succ])
  refine wpT_two (i := 3) (j := 10) rfl rfl (by kernel_rfl) (fun K hK => ?_) (fun K hK => ?_)
  go_simp; go_at_call 9; refine (toRow hw_w4 H1 k1).mono ?_; rintro e w5 ⟨cs_s1, bs_s1, rfl, r_s1, f_s1, hb5⟩; have q0 := box_on q0 rfl hb5; have q1 := box_on q1 rfl hb5; have r_s0_4 := TableR.good.nxt hb5 r_s0_4; have hw_w5 := nxt hw_w4 hb5; have r_s1_5 := r_s1; obtain ⟨s1v1, s1b1, rfl, rfl, _, s1r1⟩ := r_s1; obtain ⟨s1A1, s1c1, rfl, _, _, _⟩ := s1r1.use
  clear hHeld; refine hK.out _ _ (show _ from ⟨box_cell q0 0 rfl, box_cell q0 1 rfl, box_cell q0 2 rfl, box_cell q0 3 rfl, box_cell q1 0 rfl, box_cell q1 1 rfl⟩) (fun hHeld => ?_); clear hK K
  (try simp only [Act.put, List.setIfInBounds_toArray, List.set_cons_zero, List.set_cons_succ])
  refine wpT_two (i := 5) (j := 10) rfl rfl (by kernel_rfl) (fun K hK => ?_) (fun K hK => ?_)
  go_simp; go_at_call 10; refine (toMutS hw_w5 H2 k2).mono ?_; rintro e w6 ⟨v_s2, bs_s2, rfl, r_s2, f_s2, hb6⟩; have q0 := box_on q0 rfl hb6; have q1 := box_on q1 rfl hb6; have r_s0_4 := TableR.good.nxt hb6 r_s0_4; have r_s1_5 := RowR.good.nxt hb6 r_s1_5; have hw_w6 := nxt hw_w5 hb6; have r_s2_6 := r_s2; obtain ⟨A_s2, c_s2, rfl, _, _, _⟩ := r_s2.use
  clear hHeld; refine hK.out _ _ (show _ from ⟨box_cell q0 0 rfl, box_cell q0 1 rfl, box_cell q0 2 rfl, box_cell q0 3 rfl, box_cell q1 0 rfl, box_cell q1 1 rfl⟩) (fun hHeld => ?_); clear hK K
  (try simp only [Act.put, List.setIfInBounds_toArray, List.set_cons_zero, List.set_cons_succ])
  refine wpT_two (i := 6) (j := 10) rfl rfl (by kernel_rfl) (fun K hK => ?_) (fun K hK => ?_)
  go_simp; go_at_call 7; refine (spec_MutateRow r_s0_4 r_s1_5 r_s2_6 k1).mono ?_; rw [HO.out]; rintro e w7 ⟨cs_w, bs_w, rfl, r_w, f_w, hb7⟩; have q0 := box_on q0 rfl hb7; have q1 := box_on q1 rfl hb7; have hw_w7 := nxt hw_w6 hb7; have r_w0 : RowR w7 bs_w cs_w ok := r_w; clear r_w; have r_w := r_w0; obtain ⟨wv1, wb1, wbs, rfl, _, wr1⟩ := r_w0; subst wbs; obtain ⟨wA1, wc1, rfl, _, _, _⟩ := wr1.use
  clear hHeld; refine hK.out _ _ (show _ from ⟨box_cell q0 0 rfl, box_cell q0 1 rfl, box_cell q0 2 rfl, box_cell q0 3 rfl, box_cell q1 0 rfl, box_cell q1 1 rfl⟩) (fun hHeld => ?_); clear hK K
  (try simp only [Act.put, List.setIfInBounds_toArray, List.set_cons_zero, List.set_cons_succ])
  refine wpT_take (i := 7) rfl (by kernel_rfl) (fun _ _ _ h => h) (Or.inl ⟨by rfl, fun w hSw => by (try dsimp only at hSw); first | (go_simp; done) | (go_simp; with_reducible rfl)⟩) (by assumption) ?_
  (try simp only [Act.put, List.setIfInBounds_toArray, List.set_cons_zero, List.set_cons_succ])
  refine wpT_take (i := 8) rfl (by kernel_rfl) (fun _ _ _ h => h) (Or.inl ⟨by rfl, fun w hSw => by (try dsimp only at hSw); first | (go_simp; done) | (go_simp; with_reducible rfl)⟩) (by assumption) ?_
  (try simp only [Act.put, List.setIfInBounds_toArray, List.set_cons_zero, List.set_cons_succ])
  refine wpT_take (i := 9) rfl (by kernel_rfl) (fun _ _ _ h => h) (Or.inl ⟨by rfl, fun w hSw => by (try dsimp only at hSw); first | (go_simp; done) | (go_simp; with_reducible rfl)⟩) (by assumption) ?_
  (try simp only [Act.put, List.setIfInBounds_toArray, List.set_cons_zero, List.set_cons_succ])
  refine wpT_one (i := 10) rfl (by kernel_rfl) (fun K hK => ?_)
  have lb_q0 := hide (show W.heap.size < _ from World.block_lt_of_cell? _ ⟨W.heap.size, 0, none⟩ (box_cell q0 0 rfl))
  have lb_q1 := hide (show W.heap.size + 1 < _ from World.block_lt_of_cell? _ ⟨W.heap.size + 1, 0, none⟩ (box_cell q1 0 rfl))
  have lr_r_w := hide (RowR.good.lt r_w)
  have lw := hide hw_w7.size
  go_simp
  have stz : Below (World.heap w7).size w7 (World.alloc w7 (.cells #[.int .i64 0, .slice none 0 0] 35)) := (Below.refl _ _).alloc (Nat.le_refl _) (.cells #[.int .i64 0, .slice none 0 0] 35)
  have zB : (World.heap (World.alloc w7 (.cells #[.int .i64 0, .slice none 0 0] 35)))[(World.heap w7).size]? = some (.cells #[.int .i64 0, .slice none 0 0] 35 (0, 0)) := blk_new w7 _ _
  clear hHeld; refine hK.out _ (World.alloc w7 (.cells #[.int .i64 0, .slice none 0 0] 35)) (show _ from ⟨cell_on (box_cell q0 0 rfl) stz, cell_on (box_cell q0 1 rfl) stz, cell_on (box_cell q0 2 rfl) stz, cell_on (box_cell q0 3 rfl) stz, cell_on (box_cell q1 0 rfl) stz, cell_on (box_cell q1 1 rfl) stz⟩) (fun hHeld => ?_); clear hK K
  (try simp only [Act.put, List.setIfInBounds_toArray, List.set_cons_zero, List.set_cons_succ])
  generalize World.alloc w7 (.cells #[.int .i64 0, .slice none 0 0] 35) = wz8 at stz zB hHeld ⊢
  replace q0 := box_on q0 rfl stz
  replace q1 := box_on q1 rfl stz
  replace r_w := RowR.good.nxt stz r_w
  replace f_w := f_w.below stz
  have hw_wz8 := nxt hw_w7 stz
  refine wpT_one (i := 11) rfl (by kernel_rfl) (fun K hK => ?_)
  have zf := blk_free zB; have zc0 := blk_cells zB 0; have zc1 := blk_cells zB 1
  have HUs := ((Upd.refl [(World.heap w7).size] wz8).set (p := ⟨(World.heap w7).size, 0, none⟩) (by simp) rfl (.int .i64 ok.id)).set (p := ⟨(World.heap w7).size, 1, none⟩) (by simp) rfl (.slice wA1 ok.cells.length wc1)
  have zF : (World.heap (World.setCell (World.setCell wz8 ⟨(World.heap w7).size, 0, none⟩ (.int .i64 ok.id)) ⟨(World.heap w7).size, 1, none⟩ (.slice wA1 ok.cells.length wc1)))[(World.heap w7).size]? = some (.cells #[.int .i64 ok.id, .slice wA1 ok.cells.length wc1] 35 (0, 0)) := blk_set (blk_set zB 0 (.int .i64 ok.id)) 1 (.slice wA1 ok.cells.length wc1)
  go_simp
  replace q0 := box_upd q0 rfl HUs (fun hm => by have := lb_q0.out; simp at hm; omega)
  replace q1 := box_upd q1 rfl HUs (fun hm => by have := lb_q1.out; simp at hm; omega)
  replace r_w := RowR.good.upd r_w HUs (fun b hb hm => by have := lr_r_w.out b hb; simp at hm; omega)
  have hw_wF := (hw_wz8.setCell (p := ⟨(World.heap w7).size, 0, none⟩) lw.out (.int .i64 ok.id)).setCell (p := ⟨(World.heap w7).size, 1, none⟩) lw.out (.slice wA1 ok.cells.length wc1)
  clear hHeld; refine hK.out _ (World.setCell (World.setCell wz8 ⟨(World.heap w7).size, 0, none⟩ (.int .i64 ok.id)) ⟨(World.heap w7).size, 1, none⟩ (.slice wA1 ok.cells.length wc1)) (show _ from ⟨box_cell q0 0 rfl, box_cell q0 1 rfl, box_cell q0 2 rfl, box_cell q0 3 rfl, box_cell q1 0 rfl, box_cell q1 1 rfl⟩) (fun hHeld => ?_); clear hK K
  (try simp only [Act.put, List.setIfInBounds_toArray, List.set_cons_zero, List.set_cons_succ])
  refine wpT_done (by kernel_rfl) ?_
  simp only [List.drop_succ_cons, List.drop_zero]
  clear hHeld HUs zB zf zc0 zc1
  generalize (World.setCell (World.setCell wz8 ⟨(World.heap w7).size, 0, none⟩ (.int .i64 ok.id)) ⟨(World.heap w7).size, 1, none⟩ (.slice wA1 ok.cells.length wc1)) = wF at zF hw_wF q0 q1 r_w ⊢
  obtain ⟨obw, hobw⟩ : ∃ ob, (World.heap w7).size = ob := ⟨_, rfl⟩; rw [hobw] at zF ⊢; have HOBw := hide hobw; clear hobw
  have q2 := blk_cells zF; clear zF
  rotate_left 1
  have lb_q0 := hide (show W.heap.size < _ from World.block_lt_of_cell? _ ⟨W.heap.size, 0, none⟩ (box_cell q0 0 rfl))
  have lb_q1 := hide (show W.heap.size + 1 < _ from World.block_lt_of_cell? _ ⟨W.heap.size + 1, 0, none⟩ (box_cell q1 0 rfl))
  have lr_r_s0 := hide (TableR.good.lt r_s0_4)
  have lr_r_s1 := hide (RowR.good.lt r_s1_5)
  have lr_r_s2 := hide (MutSR.good.lt r_s2_6)
  have lw := hide hw_w6.size
  go_simp
  have stz : Below (World.heap w6).size w6 (World.alloc w6 (.cells #[.int .i64 0, .slice none 0 0] 35)) := (Below.refl _ _).alloc (Nat.le_refl _) (.cells #[.int .i64 0, .slice none 0 0] 35)
  have zB : (World.heap (World.alloc w6 (.cells #[.int .i64 0, .slice none 0 0] 35)))[(World.heap w6).size]? = some (.cells #[.int .i64 0, .slice none 0 0] 35 (0, 0)) := blk_new w6 _ _
  clear hHeld; refine hK.out _ (World.alloc w6 (.cells #[.int .i64 0, .slice none 0 0] 35)) (show _ from ⟨cell_on (box_cell q0 0 rfl) stz, cell_on (box_cell q0 1 rfl) stz, cell_on (box_cell q0 2 rfl) stz, cell_on (box_cell q0 3 rfl) stz, cell_on (box_cell q1 0 rfl) stz, cell_on (box_cell q1 1 rfl) stz⟩) (fun hHeld => ?_); clear hK K
  (try simp only [Act.put, List.setIfInBounds_toArray, List.set_cons_zero, List.set_cons_succ])
  generalize World.alloc w6 (.cells #[.int .i64 0, .slice none 0 0] 35) = wz7 at stz zB hHeld ⊢
  replace q0 := box_on q0 rfl stz
  replace q1 := box_on q1 rfl stz
  replace r_s0_4 := TableR.good.nxt stz r_s0_4
  replace r_s1_5 := RowR.good.nxt stz r_s1_5
  replace r_s2_6 := MutSR.good.nxt stz r_s2_6
  have hw_wz7 := nxt hw_w6 stz
  refine wpT_one (i := 6) rfl (by kernel_rfl) (fun K hK => ?_)
  have lz := hide (lt_of_cells zB)
  go_simp; go_at_call 7; refine (spec_MutateRow r_s0_4 r_s1_5 r_s2_6 k1).mono ?_; rw [HO.out]; rintro e w8 ⟨cs_w, bs_w, rfl, r_w, f_w, hb8⟩; have q0 := box_on q0 rfl hb8; have q1 := box_on q1 rfl hb8; have hw_w8 := nxt hw_wz7 hb8; have r_w0 : RowR w8 bs_w cs_w ok := r_w; clear r_w; have r_w := r_w0; obtain ⟨wv1, wb1, wbs, rfl, _, wr1⟩ := r_w0; subst wbs; obtain ⟨wA1, wc1, rfl, _, _, _⟩ := wr1.use
  replace zB := blk_on zB hb8
  clear hHeld; refine hK.out _ _ (show _ from ⟨box_cell q0 0 rfl, box_cell q0 1 rfl, box_cell q0 2 rfl, box_cell q0 3 rfl, box_cell q1 0 rfl, box_cell q1 1 rfl⟩) (fun hHeld => ?_); clear hK K
  (try simp only [Act.put, List.setIfInBounds_toArray, List.set_cons_zero, List.set_cons_succ])
  refine wpT_take (i := 7) rfl (by kernel_rfl) (fun _ _ _ h => h) (Or.inl ⟨by rfl, fun w hSw => by (try dsimp only at hSw); first | (go_simp; done) | (go_simp; with_reducible rfl)⟩) (by assumption) ?_
  (try simp only [Act.put, List.setIfInBounds_toArray, List.set_cons_zero, List.set_cons_succ])
  refine wpT_take (i := 8) rfl (by kernel_rfl) (fun _ _ _ h => h) (Or.inl ⟨by rfl, fun w hSw => by (try dsimp only at hSw); first | (go_simp; done) | (go_simp; with_reducible rfl)⟩) (by assumption) ?_
  (try simp only [Act.put, List.setIfInBounds_toArray, List.set_cons_zero, List.set_cons_succ])
  refine wpT_take (i := 9) rfl (by kernel_rfl) (fun _ _ _ h => h) (Or.inl ⟨by rfl, fun w hSw => by (try dsimp only at hSw); first | (go_simp; done) | (go_simp; with_reducible rfl)⟩) (by assumption) ?_
  (try simp only [Act.put, List.setIfInBounds_toArray, List.set_cons_zero, List.set_cons_succ])
  refine wpT_one (i := 11) rfl (by kernel_rfl) (fun K hK => ?_)
  have zf := blk_free zB; have zc0 := blk_cells zB 0; have zc1 := blk_cells zB 1
  have HUs := ((Upd.refl [(World.heap w6).size] w8).set (p := ⟨(World.heap w6).size, 0, none⟩) (by simp) rfl (.int .i64 ok.id)).set (p := ⟨(World.heap w6).size, 1, none⟩) (by simp) rfl (.slice wA1 ok.cells.length wc1)
  have zF : (World.heap (World.setCell (World.setCell w8 ⟨(World.heap w6).size, 0, none⟩ (.int .i64 ok.id)) ⟨(World.heap w6).size, 1, none⟩ (.slice wA1 ok.cells.length wc1)))[(World.heap w6).size]? = some (.cells #[.int .i64 ok.id, .slice wA1 ok.cells.length wc1] 35 (0, 0)) := blk_set (blk_set zB 0 (.int .i64 ok.id)) 1 (.slice wA1 ok.cells.length wc1)
  go_simp
  replace q0 := box_upd q0 rfl HUs (fun hm => by have := lb_q0.out; simp at hm; omega)
  replace q1 := box_upd q1 rfl HUs (fun hm => by have := lb_q1.out; simp at hm; omega)
  replace r_w := RowR.good.upd r_w HUs (fun b hb hm => by have := (f_w.2 b hb).1; have := lz.out; simp at hm; omega)
  have hw_wF := (hw_w8.setCell (p := ⟨(World.heap w6).size, 0, none⟩) lw.out (.int .i64 ok.id)).setCell (p := ⟨(World.heap w6).size, 1, none⟩) lw.out (.slice wA1 ok.cells.length wc1)
  clear hHeld; refine hK.out _ (World.setCell (World.setCell w8 ⟨(World.heap w6).size, 0, none⟩ (.int .i64 ok.id)) ⟨(World.heap w6).size, 1, none⟩ (.slice wA1 ok.cells.length wc1)) (show _ from ⟨box_cell q0 0 rfl, box_cell q0 1 rfl, box_cell q0 2 rfl, box_cell q0 3 rfl, box_cell q1 0 rfl, box_cell q1 1 rfl⟩) (fun hHeld => ?_); clear hK K
  (try simp only [Act.put, List.setIfInBounds_toArray, List.set_cons_zero, List.set_cons_succ])
  refine wpT_done (by kernel_rfl) ?_
  simp only [List.drop_succ_cons, List.drop_zero]
  clear hHeld HUs zB zf zc0 zc1
  generalize (World.setCell (World.setCell w8 ⟨(World.heap w6).size, 0, none⟩ (.int .i64 ok.id)) ⟨(World.heap w6).size, 1, none⟩ (.slice wA1 ok.cells.length wc1)) = wF at zF hw_wF q0 q1 r_w ⊢
  obtain ⟨obw, hobw⟩ : ∃ ob, (World.heap w6).size = ob := ⟨_, rfl⟩; rw [hobw] at zF ⊢; have HOBw := hide hobw; clear hobw
  have q2 := blk_cells zF; clear zF
  rotate_left 1
  have lb_q0 := hide (show W.heap.size < _ from World.block_lt_of_cell? _ ⟨W.heap.size, 0, none⟩ (box_cell q0 0 rfl))
  have lb_q1 := hide (show W.heap.size + 1 < _ from World.block_lt_of_cell? _ ⟨W.heap.size + 1, 0, none⟩ (box_cell q1 0 rfl))
  have lr_r_s0 := hide (TableR.good.lt r_s0_4)
  have lr_r_s1 := hide (RowR.good.lt r_s1_5)
  have lw := hide hw_w5.size
  go_simp
  have stz : Below (World.heap w5).size w5 (World.alloc w5 (.cells #[.int .i64 0, .slice none 0 0] 35)) := (Below.refl _ _).alloc (Nat.le_refl _) (.cells #[.int .i64 0, .slice none 0 0] 35)
  have zB : (World.heap (World.alloc w5 (.cells #[.int .i64 0, .slice none 0 0] 35)))[(World.heap w5).size]? = some (.cells #[.int .i64 0, .slice none 0 0] 35 (0, 0)) := blk_new w5 _ _
  clear hHeld; refine hK.out _ (World.alloc w5 (.cells #[.int .i64 0, .slice none 0 0] 35)) (show _ from ⟨cell_on (box_cell q0 0 rfl) stz, cell_on (box_cell q0 1 rfl) stz, cell_on (box_cell q0 2 rfl) stz, cell_on (box_cell q0 3 rfl) stz, cell_on (box_cell q1 0 rfl) stz, cell_on (box_cell q1 1 rfl) stz⟩) (fun hHeld => ?_); clear hK K
  (try simp only [Act.put, List.setIfInBounds_toArray, List.set_cons_zero, List.set_cons_succ])
  generalize World.alloc w5 (.cells #[.int .i64 0, .slice none 0 0] 35) = wz6 at stz zB hHeld ⊢
  replace q0 := box_on q0 rfl stz
  replace q1 := box_on q1 rfl stz
  replace r_s0_4 := TableR.good.nxt stz r_s0_4
  replace r_s1_5 := RowR.good.nxt stz r_s1_5
  have hw_wz6 := nxt hw_w5 stz
  refine wpT_one (i := 5) rfl (by kernel_rfl) (fun K hK => ?_)
  go_simp; go_at_call 10; refine (toMutS hw_wz6 H2 k2).mono ?_; rintro e w7 ⟨v_s2, bs_s2, rfl, r_s2, f_s2, hb7⟩; have q0 := box_on q0 rfl hb7; have q1 := box_on q1 rfl hb7; have r_s0_4 := TableR.good.nxt hb7 r_s0_4; have r_s1_5 := RowR.good.nxt hb7 r_s1_5; have hw_w7 := nxt hw_wz6 hb7; have r_s2_7 := r_s2; obtain ⟨A_s2, c_s2, rfl, _, _, _⟩ := r_s2.use
  replace zB := blk_on zB hb7
  clear hHeld; refine hK.out _ _ (show _ from ⟨box_cell q0 0 rfl, box_cell q0 1 rfl, box_cell q0 2 rfl, box_cell q0 3 rfl, box_cell q1 0 rfl, box_cell q1 1 rfl⟩) (fun hHeld => ?_); clear hK K
  (try simp only [Act.put, List.setIfInBounds_toArray, List.set_cons_zero, List.set_cons_succ])
  refine wpT_one (i := 6) rfl (by kernel_rfl) (fun K hK => ?_)
  have lz := hide (lt_of_cells zB)
  go_simp; go_at_call 7; refine (spec_MutateRow r_s0_4 r_s1_5 r_s2_7 k1).mono ?_; rw [HO.out]; rintro e w8 ⟨cs_w, bs_w, rfl, r_w, f_w, hb8⟩; have q0 := box_on q0 rfl hb8; have q1 := box_on q1 rfl hb8; have hw_w8 := nxt hw_w7 hb8; have r_w0 : RowR w8 bs_w cs_w ok := r_w; clear r_w; have r_w := r_w0; obtain ⟨wv1, wb1, wbs, rfl, _, wr1⟩ := r_w0; subst wbs; obtain ⟨wA1, wc1, rfl, _, _, _⟩ := wr1.use
  replace zB := blk_on zB hb8
  clear hHeld; refine hK.out _ _ (show _ from ⟨box_cell q0 0 rfl, box_cell q0 1 rfl, box_cell q0 2 rfl, box_cell q0 3 rfl, box_cell q1 0 rfl, box_cell q1 1 rfl⟩) (fun hHeld => ?_); clear hK K
  (try simp only [Act.put, List.setIfInBounds_toArray, List.set_cons_zero, List.set_cons_succ])
  refine wpT_take (i := 7) rfl (by kernel_rfl) (fun _ _ _ h => h) (Or.inl ⟨by rfl, fun w hSw => by (try dsimp only at hSw); first | (go_simp; done) | (go_simp; with_reducible rfl)⟩) (by assumption) ?_
  (try simp only [Act.put, List.setIfInBounds_toArray, List.set_cons_zero, List.set_cons_succ])
  refine wpT_take (i := 8) rfl (by kernel_rfl) (fun _ _ _ h => h) (Or.inl ⟨by rfl, fun w hSw => by (try dsimp only at hSw); first | (go_simp; done) | (go_simp; with_reducible rfl)⟩) (by assumption) ?_
  (try simp only [Act.put, List.setIfInBounds_toArray, List.set_cons_zero, List.set_cons_succ])
  refine wpT_take (i := 9) rfl (by kernel_rfl) (fun _ _ _ h => h) (Or.inl ⟨by rfl, fun w hSw => by (try dsimp only at hSw); first | (go_simp; done) | (go_simp; with_reducible rfl)⟩) (by assumption) ?_
  (try simp only [Act.put, List.setIfInBounds_toArray, List.set_cons_zero, List.set_cons_succ])
  refine wpT_one (i := 11) rfl (by kernel_rfl) (fun K hK => ?_)
  have zf := blk_free zB; have zc0 := blk_cells zB 0; have zc1 := blk_cells zB 1
  have HUs := ((Upd.refl [(World.heap w5).size] w8).set (p := ⟨(World.heap w5).size, 0, none⟩) (by simp) rfl (.int .i64 ok.id)).set (p := ⟨(World.heap w5).size, 1, none⟩) (by simp) rfl (.slice wA1 ok.cells.length wc1)
  have zF : (World.heap (World.setCell (World.setCell w8 ⟨(World.heap w5).size, 0, none⟩ (.int .i64 ok.id)) ⟨(World.heap w5).size, 1, none⟩ (.slice wA1 ok.cells.length wc1)))[(World.heap w5).size]? = some (.cells #[.int .i64 ok.id, .slice wA1 ok.cells.length wc1] 35 (0, 0)) := blk_set (blk_set zB 0 (.int .i64 ok.id)) 1 (.slice wA1 ok.cells.length wc1)
  go_simp
  replace q0 := box_upd q0 rfl HUs (fun hm => by have := lb_q0.out; simp at hm; omega)
  replace q1 := box_upd q1 rfl HUs (fun hm => by have := lb_q1.out; simp at hm; omega)
  replace r_w := RowR.good.upd r_w HUs (fun b hb hm => by have := (f_w.2 b hb).1; have := lz.out; simp at hm; omega)
  have hw_wF := (hw_w8.setCell (p := ⟨(World.heap w5).size, 0, none⟩) lw.out (.int .i64 ok.id)).setCell (p := ⟨(World.heap w5).size, 1, none⟩) lw.out (.slice wA1 ok.cells.length wc1)
  clear hHeld; refine hK.out _ (World.setCell (World.setCell w8 ⟨(World.heap w5).size, 0, none⟩ (.int .i64 ok.id)) ⟨(World.heap w5).size, 1, none⟩ (.slice wA1 ok.cells.length wc1)) (show _ from ⟨box_cell q0 0 rfl, box_cell q0 1 rfl, box_cell q0 2 rfl, box_cell q0 3 rfl, box_cell q1 0 rfl, box_cell q1 1 rfl⟩) (fun hHeld => ?_); clear hK K
  (try simp only [Act.put, List.setIfInBounds_toArray, List.set_cons_zero, List.set_cons_succ])
  refine wpT_done (by kernel_rfl) ?_
  simp only [List.drop_succ_cons, List.drop_zero]
  clear hHeld HUs zB zf zc0 zc1
  generalize (World.setCell (World.setCell w8 ⟨(World.heap w5).size, 0, none⟩ (.int .i64 ok.id)) ⟨(World.heap w5).size, 1, none⟩ (.slice wA1 ok.cells.length wc1)) = wF at zF hw_wF q0 q1 r_w ⊢
  obtain ⟨obw, hobw⟩ : ∃ ob, (World.heap w5).size = ob := ⟨_, rfl⟩; rw [hobw] at zF ⊢; have HOBw := hide hobw; clear hobw
  have q2 := blk_cells zF; clear zF
  rotate_left 1
  have lb_q0 := hide (show W.heap.size < _ from World.block_lt_of_cell? _ ⟨W.heap.size, 0, none⟩ (box_cell q0 0 rfl))
  have lb_q1 := hide (show W.heap.size + 1 < _ from World.block_lt_of_cell? _ ⟨W.heap.size + 1, 0, none⟩ (box_cell q1 0 rfl))
  have lr_r_s0 := hide (TableR.good.lt r_s0_4)
  have lw := hide hw_w4.size
  go_simp
  have stz : Below (World.heap w4).size w4 (World.alloc w4 (.cells #[.int .i64 0, .slice none 0 0] 35)) := (Below.refl _ _).alloc (Nat.le_refl _) (.cells #[.int .i64 0, .slice none 0 0] 35)
  have zB : (World.heap (World.alloc w4 (.cells #[.int .i64 0, .slice none 0 0] 35)))[(World.heap w4).size]? = some (.cells #[.int .i64 0, .slice none 0 0] 35 (0, 0)) := blk_new w4 _ _
  clear hHeld; refine hK.out _ (World.alloc w4 (.cells #[.int .i64 0, .slice none 0 0] 35)) (show _ from ⟨cell_on (box_cell q0 0 rfl) stz, cell_on (box_cell q0 1 rfl) stz, cell_on (box_cell q0 2 rfl) stz, cell_on (box_cell q0 3 rfl) stz, cell_on (box_cell q1 0 rfl) stz, cell_on (box_cell q1 1 rfl) stz⟩) (fun hHeld => ?_); clear hK K
  (try simp only [Act.put, List.setIfInBounds_toArray, List.set_cons_zero, List.set_cons_succ])
  generalize World.alloc w4 (.cells #[.int .i64 0, .slice none 0 0] 35) = wz5 at stz zB hHeld ⊢
  replace q0 := box_on q0 rfl stz
  replace q1 := box_on q1 rfl stz
  replace r_s0_4 := TableR.good.nxt stz r_s0_4
  have hw_wz5 := nxt hw_w4 stz
  refine wpT_one (i := 3) rfl (by kernel_rfl) (fun K hK => ?_)
  go_simp; go_at_call 9; refine (toRow hw_wz5 H1 k1).mono ?_; rintro e w6 ⟨cs_s1, bs_s1, rfl, r_s1, f_s1, hb6⟩; have q0 := box_on q0 rfl hb6; have q1 := box_on q1 rfl hb6; have r_s0_4 := TableR.good.nxt hb6 r_s0_4; have hw_w6 := nxt hw_wz5 hb6; have r_s1_6 := r_s1; obtain ⟨s1v1, s1b1, rfl, rfl, _, s1r1⟩ := r_s1; obtain ⟨s1A1, s1c1, rfl, _, _, _⟩ := s1r1.use
  replace zB := blk_on zB hb6
  clear hHeld; refine hK.out _ _ (show _ from ⟨box_cell q0 0 rfl, box_cell q0 1 rfl, box_cell q0 2 rfl, box_cell q0 3 rfl, box_cell q1 0 rfl, box_cell q1 1 rfl⟩) (fun hHeld => ?_); clear hK K
  (try simp only [Act.put, List.setIfInBounds_toArray, List.set_cons_zero, List.set_cons_succ])
  refine wpT_one (i := 5) rfl (by kernel_rfl) (fun K hK => ?_)
  go_simp; go_at_call 10; refine (toMutS hw_w6 H2 k2).mono ?_; rintro e w7 ⟨v_s2, bs_s2, rfl, r_s2, f_s2, hb7⟩; have q0 := box_on q0 rfl hb7; have q1 := box_on q1 rfl hb7; have r_s0_4 := TableR.good.nxt hb7 r_s0_4; have r_s1_6 := RowR.good.nxt hb7 r_s1_6; have hw_w7 := nxt hw_w6 hb7; have r_s2_7 := r_s2; obtain ⟨A_s2, c_s2, rfl, _, _, _⟩ := r_s2.use
  replace zB := blk_on zB hb7
  clear hHeld; refine hK.out _ _ (show _ from ⟨box_cell q0 0 rfl, box_cell q0 1 rfl, box_cell q0 2 rfl, box_cell q0 3 rfl, box_cell q1 0 rfl, box_cell q1 1 rfl⟩) (fun hHeld => ?_); clear hK K
  (try simp only [Act.put, List.setIfInBounds_toArray, List.set_cons_zero, List.set_cons_succ])
  refine wpT_one (i := 6) rfl (by kernel_rfl) (fun K hK => ?_)
  have lz := hide (lt_of_cells zB)
  go_simp; go_at_call 7; refine (spec_MutateRow r_s0_4 r_s1_6 r_s2_7 k1).mono ?_; rw [HO.out]; rintro e w8 ⟨cs_w, bs_w, rfl, r_w, f_w, hb8⟩; have q0 := box_on q0 rfl hb8; have q1 := box_on q1 rfl hb8; have hw_w8 := nxt hw_w7 hb8; have r_w0 : RowR w8 bs_w cs_w ok := r_w; clear r_w; have r_w := r_w0; obtain ⟨wv1, wb1, wbs, rfl, _, wr1⟩ := r_w0; subst wbs; obtain ⟨wA1, wc1, rfl, _, _, _⟩ := wr1.use
  replace zB := blk_on zB hb8
  clear hHeld; refine hK.out _ _ (show _ from ⟨box_cell q0 0 rfl, box_cell q0 1 rfl, box_cell q0 2 rfl, box_cell q0 3 rfl, box_cell q1 0 rfl, box_cell q1 1 rfl⟩) (fun hHeld => ?_); clear hK K
  (try simp only [Act.put, List.setIfInBounds_toArray, List.set_cons_zero, List.set_cons_succ])
  refine wpT_take (i := 7) rfl (by kernel_rfl) (fun _ _ _ h => h) (Or.inl ⟨by rfl, fun w hSw => by (try dsimp only at hSw); first | (go_simp; done) | (go_simp; with_reducible rfl)⟩) (by assumption) ?_
  (try simp only [Act.put, List.setIfInBounds_toArray, List.set_cons_zero, List.set_cons_succ])
  refine wpT_take (i := 8) rfl (by kernel_rfl) (fun _ _ _ h => h) (Or.inl ⟨by rfl, fun w hSw => by (try dsimp only at hSw); first | (go_simp; done) | (go_simp; with_reducible rfl)⟩) (by assumption) ?_
  (try simp only [Act.put, List.setIfInBounds_toArray, List.set_cons_zero, List.set_cons_succ])
  refine wpT_take (i := 9) rfl (by kernel_rfl) (fun _ _ _ h => h) (Or.inl ⟨by rfl, fun w hSw => by (try dsimp only at hSw); first | (go_simp; done) | (go_simp; with_reducible rfl)⟩) (by assumption) ?_
  (try simp only [Act.put, List.setIfInBounds_toArray, List.set_cons_zero, List.set_cons_succ])
  refine wpT_one (i := 11) rfl (by kernel_rfl) (fun K hK => ?_)
  have zf := blk_free zB; have zc0 := blk_cells zB 0; have zc1 := blk_cells zB 1
  have HUs := ((Upd.refl [(World.heap w4).size] w8).set (p := ⟨(World.heap w4).size, 0, none⟩) (by simp) rfl (.int .i64 ok.id)).set (p := ⟨(World.heap w4).size, 1, none⟩) (by simp) rfl (.slice wA1 ok.cells.length wc1)
  have zF : (World.heap (World.setCell (World.setCell w8 ⟨(World.heap w4).size, 0, none⟩ (.int .i64 ok.id)) ⟨(World.heap w4).size, 1, none⟩ (.slice wA1 ok.cells.length wc1)))[(World.heap w4).size]? = some (.cells #[.int .i64 ok.id, .slice wA1 ok.cells.length wc1] 35 (0, 0)) := blk_set (blk_set zB 0 (.int .i64 ok.id)) 1 (.slice wA1 ok.cells.length wc1)
  go_simp
  replace q0 := box_upd q0 rfl HUs (fun hm => by have := lb_q0.out; simp at hm; omega)
  replace q1 := box_upd q1 rfl HUs (fun hm => by have := lb_q1.out; simp at hm; omega)
  replace r_w := RowR.good.upd r_w HUs (fun b hb hm => by have := (f_w.2 b hb).1; have := lz.out; simp at hm; omega)
  have hw_wF := (hw_w8.setCell (p := ⟨(World.heap w4).size, 0, none⟩) lw.out (.int .i64 ok.id)).setCell (p := ⟨(World.heap w4).size, 1, none⟩) lw.out (.slice wA1 ok.cells.length wc1)
  clear hHeld; refine hK.out _ (World.setCell (World.setCell w8 ⟨(World.heap w4).size, 0, none⟩ (.int .i64 ok.id)) ⟨(World.heap w4).size, 1, none⟩ (.slice wA1 ok.cells.length wc1)) (show _ from ⟨box_cell q0 0 rfl, box_cell q0 1 rfl, box_cell q0 2 rfl, box_cell q0 3 rfl, box_cell q1 0 rfl, box_cell q1 1 rfl⟩) (fun hHeld => ?_); clear hK K
  (try simp only [Act.put, List.setIfInBounds_toArray, List.set_cons_zero, List.set_cons_succ])
  refine wpT_done (by kernel_rfl) ?_
  simp only [List.drop_succ_cons, List.drop_zero]
  clear hHeld HUs zB zf zc0 zc1
  generalize (World.setCell (World.setCell w8 ⟨(World.heap w4).size, 0, none⟩ (.int .i64 ok.id)) ⟨(World.heap w4).size, 1, none⟩ (.slice wA1 ok.cells.length wc1)) = wF at zF hw_wF q0 q1 r_w ⊢
  obtain ⟨obw, hobw⟩ : ∃ ob, (World.heap w4).size = ob := ⟨_, rfl⟩; rw [hobw] at zF ⊢; have HOBw := hide hobw; clear hobw
  have q2 := blk_cells zF; clear zF
  rotate_left 1
  have lb_q0 := hide (show W.heap.size < _ from World.block_lt_of_cell? _ ⟨W.heap.size, 0, none⟩ (box_cell q0 0 rfl))
  have lb_q1 := hide (show W.heap.size + 1 < _ from World.block_lt_of_cell? _ ⟨W.heap.size + 1, 0, none⟩ (box_cell q1 0 rfl))
  have lw := hide hw_w3.size
  go_simp
  have stz : Below (World.heap w3).size w3 (World.alloc (World.drew w3) (.cells #[.int .i64 0, .slice none 0 0] 35)) := (Below.refl _ _).drew.alloc (Nat.le_refl _) (.cells #[.int .i64 0, .slice none 0 0] 35)
  have zB : (World.heap (World.alloc (World.drew w3) (.cells #[.int .i64 0, .slice none 0 0] 35)))[(World.heap w3).size]? = some (.cells #[.int .i64 0, .slice none 0 0] 35 (0, 0)) := blk_new (World.drew w3) _ _
  clear hHeld; refine hK.out _ (World.alloc (World.drew w3) (.cells #[.int .i64 0, .slice none 0 0] 35)) (show _ from ⟨cell_on (box_cell q0 0 rfl) stz, cell_on (box_cell q0 1 rfl) stz, cell_on (box_cell q0 2 rfl) stz, cell_on (box_cell q0 3 rfl) stz, cell_on (box_cell q1 0 rfl) stz, cell_on (box_cell q1 1 rfl) stz⟩) (fun hHeld => ?_); clear hK K
  (try simp only [Act.put, List.setIfInBounds_toArray, List.set_cons_zero, List.set_cons_succ])
  generalize World.alloc (World.drew w3) (.cells #[.int .i64 0, .slice none 0 0] 35) = wz4 at stz zB hHeld ⊢
  replace q0 := box_on q0 rfl stz
  replace q1 := box_on q1 rfl stz
  have hw_wz4 := nxt hw_w3 stz
  refine wpT_one (i := 1) rfl (by kernel_rfl) (fun K hK => ?_)
  go_simp; go_at_call 8; refine (toTable hw_wz4 H0 k0).mono ?_; rintro e w5 ⟨cs_s0, bs_s0, rfl, r_s0, f_s0, hb5⟩; have q0 := box_on q0 rfl hb5; have q1 := box_on q1 rfl hb5; have hw_w5 := nxt hw_wz4 hb5; have r_s0_5 := r_s0; obtain ⟨s0v1, s0b1, s0v2, s0b2, rfl, rfl, _, s0r1, s0r2⟩ := r_s0; obtain ⟨s0A1, s0c1, rfl, _, _, _⟩ := s0r1.use; obtain ⟨s0A2, s0c2, rfl, _, _, _⟩ := s0r2.use
  replace zB := blk_on zB hb5
  clear hHeld; refine hK.out _ _ (show _ from ⟨box_cell q0 0 rfl, box_cell q0 1 rfl, box_cell q0 2 rfl, box_cell q0 3 rfl, box_cell q1 0 rfl, box_cell q1 1 rfl⟩) (fun hHeld => ?_); clear hK K
  (try simp only [Act.put, List.setIfInBounds_toArray, List.set_cons_zero, List.set_cons_succ])
  refine wpT_one (i := 3) rfl (by kernel_rfl) (fun K hK => ?_)
  go_simp; go_at_call 9; refine (toRow hw_w5 H1 k1).mono ?_; rintro e w6 ⟨cs_s1, bs_s1, rfl, r_s1, f_s1, hb6⟩; have q0 := box_on q0 rfl hb6; have q1 := box_on q1 rfl hb6; have r_s0_5 := TableR.good.nxt hb6 r_s0_5; have hw_w6 := nxt hw_w5 hb6; have r_s1_6 := r_s1; obtain ⟨s1v1, s1b1, rfl, rfl, _, s1r1⟩ := r_s1; obtain ⟨s1A1, s1c1, rfl, _, _, _⟩ := s1r1.use
  replace zB := blk_on zB hb6
  clear hHeld; refine hK.out _ _ (show _ from ⟨box_cell q0 0 rfl, box_cell q0 1 rfl, box_cell q0 2 rfl, box_cell q0 3 rfl, box_cell q1 0 rfl, box_cell q1 1 rfl⟩) (fun hHeld => ?_); clear hK K
  (try simp only [Act.put, List.setIfInBounds_toArray, List.set_cons_zero, List.set_cons_succ])
  refine wpT_one (i := 5) rfl (by kernel_rfl) (fun K hK => ?_)
  go_simp; go_at_call 10; refine (toMutS hw_w6 H2 k2).mono ?_; rintro e w7 ⟨v_s2, bs_s2, rfl, r_s2, f_s2, hb7⟩; have q0 := box_on q0 rfl hb7; have q1 := box_on q1 rfl hb7; have r_s0_5 := TableR.good.nxt hb7 r_s0_5; have r_s1_6 := RowR.good.nxt hb7 r_s1_6; have hw_w7 := nxt hw_w6 hb7; have r_s2_7 := r_s2; obtain ⟨A_s2, c_s2, rfl, _, _, _⟩ := r_s2.use
  replace zB := blk_on zB hb7
  clear hHeld; refine hK.out _ _ (show _ from ⟨box_cell q0 0 rfl, box_cell q0 1 rfl, box_cell q0 2 rfl, box_cell q0 3 rfl, box_cell q1 0 rfl, box_cell q1 1 rfl⟩) (fun hHeld => ?_); clear hK K
  (try simp only [Act.put, List.setIfInBounds_toArray, List.set_cons_zero, List.set_cons_succ])
  refine wpT_one (i := 6) rfl (by kernel_rfl) (fun K hK => ?_)
  have lz := hide (lt_of_cells zB)
  go_simp; go_at_call 7; refine (spec_MutateRow r_s0_5 r_s1_6 r_s2_7 k1).mono ?_; rw [HO.out]; rintro e w8 ⟨cs_w, bs_w, rfl, r_w, f_w, hb8⟩; have q0 := box_on q0 rfl hb8; have q1 := box_on q1 rfl hb8; have hw_w8 := nxt hw_w7 hb8; have r_w0 : RowR w8 bs_w cs_w ok := r_w; clear r_w; have r_w := r_w0; obtain ⟨wv1, wb1, wbs, rfl, _, wr1⟩ := r_w0; subst wbs; obtain ⟨wA1, wc1, rfl, _, _, _⟩ := wr1.use
  replace zB := blk_on zB hb8
  clear hHeld; refine hK.out _ _ (show _ from ⟨box_cell q0 0 rfl, box_cell q0 1 rfl, box_cell q0 2 rfl, box_cell q0 3 rfl, box_cell q1 0 rfl, box_cell q1 1 rfl⟩) (fun hHeld => ?_); clear hK K
  (try simp only [Act.put, List.setIfInBounds_toArray, List.set_cons_zero, List.set_cons_succ])
  refine wpT_take (i := 7) rfl (by kernel_rfl) (fun _ _ _ h => h) (Or.inl ⟨by rfl, fun w hSw => by (try dsimp only at hSw); first | (go_simp; done) | (go_simp; with_reducible rfl)⟩) (by assumption) ?_
  (try simp only [Act.put, List.setIfInBounds_toArray, List.set_cons_zero, List.set_cons_succ])
  refine wpT_take (i := 8) rfl (by kernel_rfl) (fun _ _ _ h => h) (Or.inl ⟨by rfl, fun w hSw => by (try dsimp only at hSw); first | (go_simp; done) | (go_simp; with_reducible rfl)⟩) (by assumption) ?_
  (try simp only [Act.put, List.setIfInBounds_toArray, List.set_cons_zero, List.set_cons_succ])
  refine wpT_take (i := 9) rfl (by kernel_rfl) (fun _ _ _ h => h) (Or.inl ⟨by rfl, fun w hSw => by (try dsimp only at hSw); first | (go_simp; done) | (go_simp; with_reducible rfl)⟩) (by assumption) ?_
  (try simp only [Act.put, List.setIfInBounds_toArray, List.set_cons_zero, List.set_cons_succ])
  refine wpT_one (i := 11) rfl (by kernel_rfl) (fun K hK => ?_)
  have zf := blk_free zB; have zc0 := blk_cells zB 0; have zc1 := blk_cells zB 1
  have HUs := ((Upd.refl [(World.heap w3).size] w8).set (p := ⟨(World.heap w3).size, 0, none⟩) (by simp) rfl (.int .i64 ok.id)).set (p := ⟨(World.heap w3).size, 1, none⟩) (by simp) rfl (.slice wA1 ok.cells.length wc1)
  have zF : (World.heap (World.setCell (World.setCell w8 ⟨(World.heap w3).size, 0, none⟩ (.int .i64 ok.id)) ⟨(World.heap w3).size, 1, none⟩ (.slice wA1 ok.cells.length wc1)))[(World.heap w3).size]? = some (.cells #[.int .i64 ok.id, .slice wA1 ok.cells.length wc1] 35 (0, 0)) := blk_set (blk_set zB 0 (.int .i64 ok.id)) 1 (.slice wA1 ok.cells.length wc1)
  go_simp
  replace q0 := box_upd q0 rfl HUs (fun hm => by have := lb_q0.out; simp at hm; omega)
  replace q1 := box_upd q1 rfl HUs (fun hm => by have := lb_q1.out; simp at hm; omega)
  replace r_w := RowR.good.upd r_w HUs (fun b hb hm => by have := (f_w.2 b hb).1; have := lz.out; simp at hm; omega)
  have hw_wF := (hw_w8.setCell (p := ⟨(World.heap w3).size, 0, none⟩) lw.out (.int .i64 ok.id)).setCell (p := ⟨(World.heap w3).size, 1, none⟩) lw.out (.slice wA1 ok.cells.length wc1)
  clear hHeld; refine hK.out _ (World.setCell (World.setCell w8 ⟨(World.heap w3).size, 0, none⟩ (.int .i64 ok.id)) ⟨(World.heap w3).size, 1, none⟩ (.slice wA1 ok.cells.length wc1)) (show _ from ⟨box_cell q0 0 rfl, box_cell q0 1 rfl, box_cell q0 2 rfl, box_cell q0 3 rfl, box_cell q1 0 rfl, box_cell q1 1 rfl⟩) (fun hHeld => ?_); clear hK K
  (try simp only [Act.put, List.setIfInBounds_toArray, List.set_cons_zero, List.set_cons_succ])
  refine wpT_done (by kernel_rfl) ?_
  simp only [List.drop_succ_cons, List.drop_zero]
  clear hHeld HUs zB zf zc0 zc1
  generalize (World.setCell (World.setCell w8 ⟨(World.heap w3).size, 0, none⟩ (.int .i64 ok.id)) ⟨(World.heap w3).size, 1, none⟩ (.slice wA1 ok.cells.length wc1)) = wF at zF hw_wF q0 q1 r_w ⊢
  obtain ⟨obw, hobw⟩ : ∃ ob, (World.heap w3).size = ob := ⟨_, rfl⟩; rw [hobw] at zF ⊢; have HOBw := hide hobw; clear hobw
  have q2 := blk_cells zF; clear zF
  all_goals
    have ob_x0_0 := hide (Nat.lt_of_lt_of_le (World.block_lt_of_cell? _ ⟨W.heap.size, 0, none⟩ (box_cell q0 0 rfl)) ((Below.refl wF.heap.size wF)).size)
    have ob_x0_1 := hide (Nat.lt_of_lt_of_le (World.block_lt_of_cell? _ ⟨W.heap.size + 1, 0, none⟩ (box_cell q1 0 rfl)) ((Below.refl wF.heap.size wF)).size)
    have ob_x0_2 := hide (Nat.lt_of_lt_of_le (World.block_lt_of_cell? _ ⟨obw, 0, none⟩ (box_cell q2 0 rfl)) ((Below.refl wF.heap.size wF)).size)
    have od_x0_r_w := hide (RowR.good.lt r_w)
    have lo_x0 := hide (hw_wF).size
    go_wp2_with fail
    refine (toTable hw_wF H0 k0).mono ?_; rintro e w9 ⟨cs_x0, bs_x0, rfl, r_x0, f_x0, hb9⟩; have q0 := box_on q0 rfl hb9; have q1 := box_on q1 rfl hb9; have q2 := box_on q2 rfl hb9; have r_w := RowR.good.nxt hb9 r_w; have hw_w9 := nxt hw_wF hb9; have r_x0_9 := r_x0; obtain ⟨x0v1, x0b1, x0v2, x0b2, rfl, rfl, _, x0r1, x0r2⟩ := r_x0; obtain ⟨x0A1, x0c1, rfl, _, _, _⟩ := x0r1.use; obtain ⟨x0A2, x0c2, rfl, _, _, _⟩ := x0r2.use
    have q0p := box_on q0 rfl ((Below.refl w9.heap.size w9).alloc (Nat.le_refl _) (.cells #[.string a0.name, .slice x0A1 a0.columns.length x0c1, .slice x0A2 a0.unique.length x0c2, .bool a0.root] 40))
    have q1p := box_on q1 rfl ((Below.refl w9.heap.size w9).alloc (Nat.le_refl _) (.cells #[.string a0.name, .slice x0A1 a0.columns.length x0c1, .slice x0A2 a0.unique.length x0c2, .bool a0.root] 40))
    have q2p := box_on q2 rfl ((Below.refl w9.heap.size w9).alloc (Nat.le_refl _) (.cells #[.string a0.name, .slice x0A1 a0.columns.length x0c1, .slice x0A2 a0.unique.length x0c2, .bool a0.root] 40))
    have ly_x0_3 := hide (TableR.good.lt r_x0_9)
    have ob_x1_0 := hide (Nat.lt_of_lt_of_le (World.block_lt_of_cell? _ ⟨W.heap.size, 0, none⟩ (box_cell q0 0 rfl)) (((Below.refl w9.heap.size w9).alloc (Nat.le_refl _) (.cells #[.string a0.name, .slice x0A1 a0.columns.length x0c1, .slice x0A2 a0.unique.length x0c2, .bool a0.root] 40))).size)
    have ob_x1_1 := hide (Nat.lt_of_lt_of_le (World.block_lt_of_cell? _ ⟨W.heap.size + 1, 0, none⟩ (box_cell q1 0 rfl)) (((Below.refl w9.heap.size w9).alloc (Nat.le_refl _) (.cells #[.string a0.name, .slice x0A1 a0.columns.length x0c1, .slice x0A2 a0.unique.length x0c2, .bool a0.root] 40))).size)
    have ob_x1_2 := hide (Nat.lt_of_lt_of_le (World.block_lt_of_cell? _ ⟨obw, 0, none⟩ (box_cell q2 0 rfl)) (((Below.refl w9.heap.size w9).alloc (Nat.le_refl _) (.cells #[.string a0.name, .slice x0A1 a0.columns.length x0c1, .slice x0A2 a0.unique.length x0c2, .bool a0.root] 40))).size)
    have od_x1_r_w := hide (RowR.good.lt (RowR.good.nxt ((Below.refl w9.heap.size w9).alloc (Nat.le_refl _) (.cells #[.string a0.name, .slice x0A1 a0.columns.length x0c1, .slice x0A2 a0.unique.length x0c2, .bool a0.root] 40)) r_w))
    have od_x1_r_x0 := hide (TableR.good.lt (TableR.good.nxt ((Below.refl w9.heap.size w9).alloc (Nat.le_refl _) (.cells #[.string a0.name, .slice x0A1 a0.columns.length x0c1, .slice x0A2 a0.unique.length x0c2, .bool a0.root] 40)) r_x0_9))
    have lo_x1 := hide ((hw_w9.alloc (hw_w9.size) (.cells #[.string a0.name, .slice x0A1 a0.columns.length x0c1, .slice x0A2 a0.unique.length x0c2, .bool a0.root] 40))).size
    go_wp2_with fail
    refine (toRow (hw_w9.alloc (hw_w9.size) (.cells #[.string a0.name, .slice x0A1 a0.columns.length x0c1, .slice x0A2 a0.unique.length x0c2, .bool a0.root] 40)) H1 k1).mono ?_; rintro e w10 ⟨cs_x1, bs_x1, rfl, r_x1, f_x1, hb10⟩; have st10 := nxt' ((Below.refl w9.heap.size w9).alloc (Nat.le_refl _) (.cells #[.string a0.name, .slice x0A1 a0.columns.length x0c1, .slice x0A2 a0.unique.length x0c2, .bool a0.root] 40)) hb10; have q0 := box_on q0 rfl st10; have q1 := box_on q1 rfl st10; have q2 := box_on q2 rfl st10; have q3 := box_at hb10; have r_w := RowR.good.nxt st10 r_w; have r_x0_9 := TableR.good.nxt st10 r_x0_9; have f_x0 := f_x0.below st10; have hw_w10 := nxt hw_w9 st10; have r_x1_10 := r_x1; obtain ⟨x1v1, x1b1, rfl, rfl, _, x1r1⟩ := r_x1; obtain ⟨x1A1, x1c1, rfl, _, _, _⟩ := x1r1.use
    have q0p := box_on q0 rfl ((Below.refl w10.heap.size w10).alloc (Nat.le_refl _) (.cells #[.int .i64 a1.id, .slice x1A1 a1.cells.length x1c1] 35))
    have q1p := box_on q1 rfl ((Below.refl w10.heap.size w10).alloc (Nat.le_refl _) (.cells #[.int .i64 a1.id, .slice x1A1 a1.cells.length x1c1] 35))
    have q2p := box_on q2 rfl ((Below.refl w10.heap.size w10).alloc (Nat.le_refl _) (.cells #[.int .i64 a1.id, .slice x1A1 a1.cells.length x1c1] 35))
    have q3p := box_on q3 rfl ((Below.refl w10.heap.size w10).alloc (Nat.le_refl _) (.cells #[.int .i64 a1.id, .slice x1A1 a1.cells.length x1c1] 35))
    have ly_x0_4 := hide (TableR.good.lt r_x0_9)
    have ly_x1_4 := hide (RowR.good.lt r_x1_10)
    have ob_x2_0 := hide (Nat.lt_of_lt_of_le (World.block_lt_of_cell? _ ⟨W.heap.size, 0, none⟩ (box_cell q0 0 rfl)) (((Below.refl w10.heap.size w10).alloc (Nat.le_refl _) (.cells #[.int .i64 a1.id, .slice x1A1 a1.cells.length x1c1] 35))).size)
    have ob_x2_1 := hide (Nat.lt_of_lt_of_le (World.block_lt_of_cell? _ ⟨W.heap.size + 1, 0, none⟩ (box_cell q1 0 rfl)) (((Below.refl w10.heap.size w10).alloc (Nat.le_refl _) (.cells #[.int .i64 a1.id, .slice x1A1 a1.cells.length x1c1] 35))).size)
    have ob_x2_2 := hide (Nat.lt_of_lt_of_le (World.block_lt_of_cell? _ ⟨obw, 0, none⟩ (box_cell q2 0 rfl)) (((Below.refl w10.heap.size w10).alloc (Nat.le_refl _) (.cells #[.int .i64 a1.id, .slice x1A1 a1.cells.length x1c1] 35))).size)
    have ob_x2_3 := hide (Nat.lt_of_lt_of_le (World.block_lt_of_cell? _ ⟨w9.heap.size, 0, none⟩ (box_cell q3 0 rfl)) (((Below.refl w10.heap.size w10).alloc (Nat.le_refl _) (.cells #[.int .i64 a1.id, .slice x1A1 a1.cells.length x1c1] 35))).size)
    have od_x2_r_w := hide (RowR.good.lt (RowR.good.nxt ((Below.refl w10.heap.size w10).alloc (Nat.le_refl _) (.cells #[.int .i64 a1.id, .slice x1A1 a1.cells.length x1c1] 35)) r_w))
    have od_x2_r_x0 := hide (TableR.good.lt (TableR.good.nxt ((Below.refl w10.heap.size w10).alloc (Nat.le_refl _) (.cells #[.int .i64 a1.id, .slice x1A1 a1.cells.length x1c1] 35)) r_x0_9))
    have od_x2_r_x1 := hide (RowR.good.lt (RowR.good.nxt ((Below.refl w10.heap.size w10).alloc (Nat.le_refl _) (.cells #[.int .i64 a1.id, .slice x1A1 a1.cells.length x1c1] 35)) r_x1_10))
    have lo_x2 := hide ((hw_w10.alloc (hw_w10.size) (.cells #[.int .i64 a1.id, .slice x1A1 a1.cells.length x1c1] 35))).size
    go_wp2_with fail
    refine (toMutS (hw_w10.alloc (hw_w10.size) (.cells #[.int .i64 a1.id, .slice x1A1 a1.cells.length x1c1] 35)) H2 k2).mono ?_; rintro e w11 ⟨v_x2, bs_x2, rfl, r_x2, f_x2, hb11⟩; have st11 := nxt' ((Below.refl w10.heap.size w10).alloc (Nat.le_refl _) (.cells #[.int .i64 a1.id, .slice x1A1 a1.cells.length x1c1] 35)) hb11; have q0 := box_on q0 rfl st11; have q1 := box_on q1 rfl st11; have q2 := box_on q2 rfl st11; have q3 := box_on q3 rfl st11; have q4 := box_at hb11; have r_w := RowR.good.nxt st11 r_w; have r_x0_9 := TableR.good.nxt st11 r_x0_9; have r_x1_10 := RowR.good.nxt st11 r_x1_10; have f_x0 := f_x0.below st11; have f_x1 := f_x1.below st11; have hw_w11 := nxt hw_w10 st11; have r_x2_11 := r_x2; obtain ⟨A_x2, c_x2, rfl, _, _, _⟩ := r_x2.use
    have ob_g_0 := hide (Nat.lt_of_lt_of_le (World.block_lt_of_cell? _ ⟨W.heap.size, 0, none⟩ (box_cell q0 0 rfl)) ((Below.refl w11.heap.size w11)).size)
    have ob_g_1 := hide (Nat.lt_of_lt_of_le (World.block_lt_of_cell? _ ⟨W.heap.size + 1, 0, none⟩ (box_cell q1 0 rfl)) ((Below.refl w11.heap.size w11)).size)
    have ob_g_2 := hide (Nat.lt_of_lt_of_le (World.block_lt_of_cell? _ ⟨obw, 0, none⟩ (box_cell q2 0 rfl)) ((Below.refl w11.heap.size w11)).size)
    have ob_g_3 := hide (Nat.lt_of_lt_of_le (World.block_lt_of_cell? _ ⟨w9.heap.size, 0, none⟩ (box_cell q3 0 rfl)) ((Below.refl w11.heap.size w11)).size)
    have ob_g_4 := hide (Nat.lt_of_lt_of_le (World.block_lt_of_cell? _ ⟨w10.heap.size, 0, none⟩ (box_cell q4 0 rfl)) ((Below.refl w11.heap.size w11)).size)
    have od_g_r_w := hide (RowR.good.lt r_w)
    have od_g_r_x0 := hide (TableR.good.lt r_x0_9)
    have od_g_r_x1 := hide (RowR.good.lt r_x1_10)
    have od_g_r_x2 := hide (MutSR.good.lt r_x2_11)
    have lo_g := hide (hw_w11).size
    go_wp2_with fail
    refine (impl_MutateRow r_x0_9 r_x1_10 r_x2_11 k1).mono ?_; rw [HO.out]; rintro e w12 ⟨cs_g, bs_g, rfl, r_g, f_g, hb12⟩; have q0 := box_on q0 rfl hb12; have q1 := box_on q1 rfl hb12; have q2 := box_on q2 rfl hb12; have q3 := box_on q3 rfl hb12; have q4 := box_on q4 rfl hb12; have r_w := RowR.good.nxt hb12 r_w; have r_x0_9 := TableR.good.nxt hb12 r_x0_9; have r_x1_10 := RowR.good.nxt hb12 r_x1_10; have r_x2_11 := MutSR.good.nxt hb12 r_x2_11; have f_x0 := f_x0.below hb12; have f_x1 := f_x1.below hb12; have f_x2 := f_x2.below hb12; have hw_w12 := nxt hw_w11 hb12; have r_g0 : RowR w12 bs_g cs_g ok := r_g; clear r_g; have r_g := r_g0; obtain ⟨gv1, gb1, gbs, rfl, _, gr1⟩ := r_g0; subst gbs; obtain ⟨gA1, gc1, rfl, _, _, _⟩ := gr1.use
    have q0p := box_on q0 rfl ((Below.refl w12.heap.size w12).alloc (Nat.le_refl _) (.cells #[.int .i64 ok.id, .slice gA1 ok.cells.length gc1] 35))
    have q1p := box_on q1 rfl ((Below.refl w12.heap.size w12).alloc (Nat.le_refl _) (.cells #[.int .i64 ok.id, .slice gA1 ok.cells.length gc1] 35))
    have q2p := box_on q2 rfl ((Below.refl w12.heap.size w12).alloc (Nat.le_refl _) (.cells #[.int .i64 ok.id, .slice gA1 ok.cells.length gc1] 35))
    have q3p := box_on q3 rfl ((Below.refl w12.heap.size w12).alloc (Nat.le_refl _) (.cells #[.int .i64 ok.id, .slice gA1 ok.cells.length gc1] 35))
    have q4p := box_on q4 rfl ((Below.refl w12.heap.size w12).alloc (Nat.le_refl _) (.cells #[.int .i64 ok.id, .slice gA1 ok.cells.length gc1] 35))
    have ly_x0_5 := hide (TableR.good.lt r_x0_9)
    have ly_x1_5 := hide (RowR.good.lt r_x1_10)
    have ly_x2_5 := hide (MutSR.good.lt r_x2_11)
    have ly_g_5 := hide (RowR.good.lt r_g)
    go_wp2_with fail
    refine (eqRow (Below.refl _ _) (RowR.good.nxt ((Below.refl w12.heap.size w12).alloc (Nat.le_refl _) (.cells #[.int .i64 ok.id, .slice gA1 ok.cells.length gc1] 35)) r_g) (RowR.good.nxt ((Below.refl w12.heap.size w12).alloc (Nat.le_refl _) (.cells #[.int .i64 ok.id, .slice gA1 ok.cells.length gc1] 35)) r_w)).mono ?_; rintro e w13 ⟨rfl, hb13⟩; have st13 := nxt' ((Below.refl w12.heap.size w12).alloc (Nat.le_refl _) (.cells #[.int .i64 ok.id, .slice gA1 ok.cells.length gc1] 35)) hb13; have q0 := box_on q0 rfl st13; have q1 := box_on q1 rfl st13; have q2 := box_on q2 rfl st13; have q3 := box_on q3 rfl st13; have q4 := box_on q4 rfl st13; have q5 := box_at hb13; have r_w := RowR.good.nxt st13 r_w; have r_x0_9 := TableR.good.nxt st13 r_x0_9; have r_x1_10 := RowR.good.nxt st13 r_x1_10; have r_x2_11 := MutSR.good.nxt st13 r_x2_11; have r_g := RowR.good.nxt st13 r_g; have f_x0 := f_x0.below st13; have f_x1 := f_x1.below st13; have f_x2 := f_x2.below st13; have f_g := f_g.below st13; have hw_w13 := nxt hw_w12 st13
    go_wp2_with fail
    go_region_held3 (fun w' => (w'.cell? ⟨W.heap.size, 0, none⟩ = some (.string a0.name) ∧ w'.cell? ⟨W.heap.size, 1, none⟩ = some (p0v1) ∧ w'.cell? ⟨W.heap.size, 2, none⟩ = some (p0v2) ∧ w'.cell? ⟨W.heap.size, 3, none⟩ = some (.bool a0.root)) ∧ (w'.cell? ⟨w9.heap.size, 0, none⟩ = some (.string a0.name) ∧ w'.cell? ⟨w9.heap.size, 1, none⟩ = some (.slice x0A1 a0.columns.length x0c1) ∧ w'.cell? ⟨w9.heap.size, 2, none⟩ = some (.slice x0A2 a0.unique.length x0c2) ∧ w'.cell? ⟨w9.heap.size, 3, none⟩ = some (.bool a0.root))) (first | exact ⟨⟨q0 0, q0 1, q0 2, q0 3⟩, ⟨q3 0, q3 1, q3 2, q3 3⟩⟩ | exact ⟨⟨cell_al (box_cell q0 0 rfl) _, cell_al (box_cell q0 1 rfl) _, cell_al (box_cell q0 2 rfl) _, cell_al (box_cell q0 3 rfl) _⟩, ⟨cell_al (box_cell q3 0 rfl) _, cell_al (box_cell q3 1 rfl) _, cell_al (box_cell q3 2 rfl) _, cell_al (box_cell q3 3 rfl) _⟩⟩)
      (first | (go_at_call 8; (with_reducible refine (toTable hw_w13.drew H0 k0).mono ?_); rintro e w14 ⟨cs_y0, bs_y0, rfl, r_y0, f_y0, hb14⟩; have hd14 := nxt (Below.refl _ _).drew hb14; have q0 := box_on q0 rfl hd14; have q1 := box_on q1 rfl hd14; have q2 := box_on q2 rfl hd14; have q3 := box_on q3 rfl hd14; have q4 := box_on q4 rfl hd14; have q5 := box_on q5 rfl hd14; have r_w := RowR.good.nxt hd14 r_w; have r_x0_9 := TableR.good.nxt hd14 r_x0_9; have r_x1_10 := RowR.good.nxt hd14 r_x1_10; have r_x2_11 := MutSR.good.nxt hd14 r_x2_11; have r_g := RowR.good.nxt hd14 r_g; have f_x0 := f_x0.below hd14; have f_x1 := f_x1.below hd14; have f_x2 := f_x2.below hd14; have f_g := f_g.below hd14; have hw_w14 := nxt hw_w13 hd14; have r_y0_14 := r_y0; obtain ⟨y0v1, y0b1, y0v2, y0b2, rfl, rfl, _, y0r1, y0r2⟩ := r_y0; obtain ⟨y0A1, y0c1, rfl, _, _, _⟩ := y0r1.use; obtain ⟨y0A2, y0c2, rfl, _, _, _⟩ := y0r2.use) | (go_at_call 13; (with_reducible refine (eqTable (Below.refl _ _) r_x0_9 r_y0_14).mono ?_); rintro e w15 ⟨rfl, hb15⟩; have q0 := box_on q0 rfl hb15; have q1 := box_on q1 rfl hb15; have q2 := box_on q2 rfl hb15; have q3 := box_on q3 rfl hb15; have q4 := box_on q4 rfl hb15; have q5 := box_on q5 rfl hb15; have r_w := RowR.good.nxt hb15 r_w; have r_x0_9 := TableR.good.nxt hb15 r_x0_9; have r_x1_10 := RowR.good.nxt hb15 r_x1_10; have r_x2_11 := MutSR.good.nxt hb15 r_x2_11; have r_g := RowR.good.nxt hb15 r_g; have r_y0_14 := TableR.good.nxt hb15 r_y0_14; have f_x0 := f_x0.below hb15; have f_x1 := f_x1.below hb15; have f_x2 := f_x2.below hb15; have f_g := f_g.below hb15; have hw_w15 := nxt hw_w14 hb15))
    clear r_y0_14
    go_wp2_with fail
    go_region_held3 (fun w' => (w'.cell? ⟨W.heap.size + 1, 0, none⟩ = some (.int .i64 a1.id) ∧ w'.cell? ⟨W.heap.size + 1, 1, none⟩ = some (p1v1)) ∧ (w'.cell? ⟨w10.heap.size, 0, none⟩ = some (.int .i64 a1.id) ∧ w'.cell? ⟨w10.heap.size, 1, none⟩ = some (.slice x1A1 a1.cells.length x1c1))) (first | exact ⟨⟨q1 0, q1 1⟩, ⟨q4 0, q4 1⟩⟩ | exact ⟨⟨cell_al (box_cell q1 0 rfl) _, cell_al (box_cell q1 1 rfl) _⟩, ⟨cell_al (box_cell q4 0 rfl) _, cell_al (box_cell q4 1 rfl) _⟩⟩)
      (first | (go_at_call 9; (with_reducible refine (toRow hw_w15.drew H1 k1).mono ?_); rintro e w16 ⟨cs_y1, bs_y1, rfl, r_y1, f_y1, hb16⟩; have hd16 := nxt (Below.refl _ _).drew hb16; have q0 := box_on q0 rfl hd16; have q1 := box_on q1 rfl hd16; have q2 := box_on q2 rfl hd16; have q3 := box_on q3 rfl hd16; have q4 := box_on q4 rfl hd16; have q5 := box_on q5 rfl hd16; have r_w := RowR.good.nxt hd16 r_w; have r_x0_9 := TableR.good.nxt hd16 r_x0_9; have r_x1_10 := RowR.good.nxt hd16 r_x1_10; have r_x2_11 := MutSR.good.nxt hd16 r_x2_11; have r_g := RowR.good.nxt hd16 r_g; have f_x0 := f_x0.below hd16; have f_x1 := f_x1.below hd16; have f_x2 := f_x2.below hd16; have f_g := f_g.below hd16; have hw_w16 := nxt hw_w15 hd16; have r_y1_16 := r_y1; obtain ⟨y1v1, y1b1, rfl, rfl, _, y1r1⟩ := r_y1; obtain ⟨y1A1, y1c1, rfl, _, _, _⟩ := y1r1.use) | (go_at_call 12; (with_reducible refine (eqRow (Below.refl _ _) r_x1_10 r_y1_16).mono ?_); rintro e w17 ⟨rfl, hb17⟩; have q0 := box_on q0 rfl hb17; have q1 := box_on q1 rfl hb17; have q2 := box_on q2 rfl hb17; have q3 := box_on q3 rfl hb17; have q4 := box_on q4 rfl hb17; have q5 := box_on q5 rfl hb17; have r_w := RowR.good.nxt hb17 r_w; have r_x0_9 := TableR.good.nxt hb17 r_x0_9; have r_x1_10 := RowR.good.nxt hb17 r_x1_10; have r_x2_11 := MutSR.good.nxt hb17 r_x2_11; have r_g := RowR.good.nxt hb17 r_g; have r_y1_16 := RowR.good.nxt hb17 r_y1_16; have f_x0 := f_x0.below hb17; have f_x1 := f_x1.below hb17; have f_x2 := f_x2.below hb17; have f_g := f_g.below hb17; have hw_w17 := nxt hw_w16 hb17))
    clear r_y1_16
    go_wp2_with fail
    refine (toMutS hw_w17 H2 k2).mono ?_; rintro e w18 ⟨v_y2, bs_y2, rfl, r_y2, f_y2, hb18⟩; have q0 := box_on q0 rfl hb18; have q1 := box_on q1 rfl hb18; have q2 := box_on q2 rfl hb18; have q3 := box_on q3 rfl hb18; have q4 := box_on q4 rfl hb18; have q5 := box_on q5 rfl hb18; have r_w := RowR.good.nxt hb18 r_w; have r_x0_9 := TableR.good.nxt hb18 r_x0_9; have r_x1_10 := RowR.good.nxt hb18 r_x1_10; have r_x2_11 := MutSR.good.nxt hb18 r_x2_11; have r_g := RowR.good.nxt hb18 r_g; have f_x0 := f_x0.below hb18; have f_x1 := f_x1.below hb18; have f_x2 := f_x2.below hb18; have f_g := f_g.below hb18; have hw_w18 := nxt hw_w17 hb18; have r_y2_18 := r_y2; obtain ⟨A_y2, c_y2, rfl, _, _, _⟩ := r_y2.use
    go_wp2_with fail
    refine (eqMutS (Below.refl _ _) r_x2_11 r_y2_18).mono ?_; rintro e w19 ⟨rfl, hb19⟩; have q0 := box_on q0 rfl hb19; have q1 := box_on q1 rfl hb19; have q2 := box_on q2 rfl hb19; have q3 := box_on q3 rfl hb19; have q4 := box_on q4 rfl hb19; have q5 := box_on q5 rfl hb19; have r_w := RowR.good.nxt hb19 r_w; have r_x0_9 := TableR.good.nxt hb19 r_x0_9; have r_x1_10 := RowR.good.nxt hb19 r_x1_10; have r_x2_11 := MutSR.good.nxt hb19 r_x2_11; have r_g := RowR.good.nxt hb19 r_g; have r_y2_18 := MutSR.good.nxt hb19 r_y2_18; have f_x0 := f_x0.below hb19; have f_x1 := f_x1.below hb19; have f_x2 := f_x2.below hb19; have f_g := f_g.below hb19; have hw_w19 := nxt hw_w18 hb19
    clear r_y2_18
    have wx0 := Table.wtV_le a0
    go_wp2_with fail
    refine (markVTable r_x0_9 f_x0 (by omega) (by omega)).mono ?_; rintro e w20 ⟨rfl, rm20, fm20, u20⟩; have q0 := box_upd q0 rfl u20 (fun hm => by have := (f_x0.2 _ hm).1; have := ob_x0_0.out; omega); have q1 := box_upd q1 rfl u20 (fun hm => by have := (f_x0.2 _ hm).1; have := ob_x0_1.out; omega); have q2 := box_upd q2 rfl u20 (fun hm => by have := (f_x0.2 _ hm).1; have := ob_x0_2.out; omega); have q3 := box_upd q3 rfl u20 (fun hm => by have := ly_x0_3.out _ hm; omega); have q4 := box_upd q4 rfl u20 (fun hm => by have := ly_x0_4.out _ hm; omega); have q5 := box_upd q5 rfl u20 (fun hm => by have := ly_x0_5.out _ hm; omega); have r_w := RowR.good.upd r_w u20 (fun b hb hm => by have := od_x0_r_w.out b hb; have := (f_x0.2 b hm).1; omega); have r_x1_10 := RowR.good.upd r_x1_10 u20 (fun b hb hm => by have := od_x1_r_x0.out b hm; have := (f_x1.2 b hb).1; omega); have r_x2_11 := MutSR.good.upd r_x2_11 u20 (fun b hb hm => by have := od_x2_r_x0.out b hm; have := (f_x2.2 b hb).1; omega); have r_g := RowR.good.upd r_g u20 (fun b hb hm => by have := od_g_r_x0.out b hm; have := (f_g.2 b hb).1; omega); have hw_w20 := hw_w19.trans (u20.below W.heap.size hw_w19.size (fun b hb => by have := (f_x0.2 b hb).1; have := lo_x0.out; omega)); have f_x1 := f_x1.upd u20; have f_x2 := f_x2.upd u20; have f_g := f_g.upd u20
    clear rm20 fm20
    have wx1 := Row.wtV_le a1
    go_wp2_with fail
    refine (markVRow r_x1_10 f_x1 (by omega) (by omega)).mono ?_; rintro e w21 ⟨rfl, rm21, fm21, u21⟩; have q0 := box_upd q0 rfl u21 (fun hm => by have := (f_x1.2 _ hm).1; have := ob_x1_0.out; omega); have q1 := box_upd q1 rfl u21 (fun hm => by have := (f_x1.2 _ hm).1; have := ob_x1_1.out; omega); have q2 := box_upd q2 rfl u21 (fun hm => by have := (f_x1.2 _ hm).1; have := ob_x1_2.out; omega); have q3 := box_upd q3 rfl u21 (fun hm => by have := (f_x1.2 _ hm).1; simp at this; omega); have q4 := box_upd q4 rfl u21 (fun hm => by have := ly_x1_4.out _ hm; omega); have q5 := box_upd q5 rfl u21 (fun hm => by have := ly_x1_5.out _ hm; omega); have r_w := RowR.good.upd r_w u21 (fun b hb hm => by have := od_x1_r_w.out b hb; have := (f_x1.2 b hm).1; omega); have r_x2_11 := MutSR.good.upd r_x2_11 u21 (fun b hb hm => by have := od_x2_r_x1.out b hm; have := (f_x2.2 b hb).1; omega); have r_g := RowR.good.upd r_g u21 (fun b hb hm => by have := od_g_r_x1.out b hm; have := (f_g.2 b hb).1; omega); have hw_w21 := hw_w20.trans (u21.below W.heap.size hw_w20.size (fun b hb => by have := (f_x1.2 b hb).1; have := lo_x1.out; omega)); have f_x2 := f_x2.upd u21; have f_g := f_g.upd u21
    clear rm21 fm21
    have wx2 := MutS.wt_le a2
    go_wp2_with fail
    refine (markMutS r_x2_11 f_x2 (by omega) (by omega)).mono ?_; rintro e w22 ⟨rfl, rm22, fm22, u22⟩; have q0 := box_upd q0 rfl u22 (fun hm => by have := (f_x2.2 _ hm).1; have := ob_x2_0.out; omega); have q1 := box_upd q1 rfl u22 (fun hm => by have := (f_x2.2 _ hm).1; have := ob_x2_1.out; omega); have q2 := box_upd q2 rfl u22 (fun hm => by have := (f_x2.2 _ hm).1; have := ob_x2_2.out; omega); have q3 := box_upd q3 rfl u22 (fun hm => by have := (f_x2.2 _ hm).1; have := ob_x2_3.out; omega); have q4 := box_upd q4 rfl u22 (fun hm => by have := (f_x2.2 _ hm).1; simp at this; omega); have q5 := box_upd q5 rfl u22 (fun hm => by have := ly_x2_5.out _ hm; omega); have r_w := RowR.good.upd r_w u22 (fun b hb hm => by have := od_x2_r_w.out b hb; have := (f_x2.2 b hm).1; omega); have r_g := RowR.good.upd r_g u22 (fun b hb hm => by have := od_g_r_x2.out b hm; have := (f_g.2 b hb).1; omega); have hw_w22 := hw_w21.trans (u22.below W.heap.size hw_w21.size (fun b hb => by have := (f_x2.2 b hb).1; have := lo_x2.out; omega)); have f_g := f_g.upd u22
    clear rm22 fm22
    go_wp2_with fail
    refine (eqRow (Below.refl _ _) r_g r_w).mono ?_; rintro e w23 ⟨rfl, hb23⟩; have q0 := box_on q0 rfl hb23; have q1 := box_on q1 rfl hb23; have q2 := box_on q2 rfl hb23; have q3 := box_on q3 rfl hb23; have q4 := box_on q4 rfl hb23; have q5 := box_on q5 rfl hb23; have r_w := RowR.good.nxt hb23 r_w; have r_g := RowR.good.nxt hb23 r_g; have f_g := f_g.below hb23; have hw_w23 := nxt hw_w22 hb23
    go_wp2_with fail
    refine (markVRow r_g f_g (by omega) (by omega)).mono ?_; rintro e w24 ⟨rfl, rm24, fm24, u24⟩; have q0 := box_upd q0 rfl u24 (fun hm => by have := (f_g.2 _ hm).1; have := ob_g_0.out; omega); have q1 := box_upd q1 rfl u24 (fun hm => by have := (f_g.2 _ hm).1; have := ob_g_1.out; omega); have q2 := box_upd q2 rfl u24 (fun hm => by have := (f_g.2 _ hm).1; have := ob_g_2.out; omega); have q3 := box_upd q3 rfl u24 (fun hm => by have := (f_g.2 _ hm).1; have := ob_g_3.out; omega); have q4 := box_upd q4 rfl u24 (fun hm => by have := (f_g.2 _ hm).1; have := ob_g_4.out; omega); have q5 := box_upd q5 rfl u24 (fun hm => by have := ly_g_5.out _ hm; omega); have r_w := RowR.good.upd r_w u24 (fun b hb hm => by have := od_g_r_w.out b hb; have := (f_g.2 b hm).1; omega); have hw_w24 := hw_w23.trans (u24.below W.heap.size hw_w23.size (fun b hb => by have := (f_g.2 b hb).1; have := lo_g.out; omega)); have r_g := rm24; have f_g := fm24
    go_wp2_with fail
    refine (heldVRow (Below.refl _ _) r_g (by omega) (by omega)).mono ?_; rintro e w25 ⟨rfl, hb25⟩; have q0 := box_on q0 rfl hb25; have q1 := box_on q1 rfl hb25; have q2 := box_on q2 rfl hb25; have q3 := box_on q3 rfl hb25; have q4 := box_on q4 rfl hb25; have q5 := box_on q5 rfl hb25; have r_w := RowR.good.nxt hb25 r_w; have r_g := RowR.good.nxt hb25 r_g; have f_g := f_g.below hb25; have hw_w25 := nxt hw_w24 hb25
    go_wp2_with fail
    refine wp_region_tail (fun w' => w'.cell? ⟨W.heap.size, 0, none⟩ = some (.string a0.name) ∧ w'.cell? ⟨W.heap.size, 1, none⟩ = some (p0v1) ∧ w'.cell? ⟨W.heap.size, 2, none⟩ = some (p0v2) ∧ w'.cell? ⟨W.heap.size, 3, none⟩ = some (.bool a0.root) ∧ w'.cell? ⟨W.heap.size + 1, 0, none⟩ = some (.int .i64 a1.id) ∧ w'.cell? ⟨W.heap.size + 1, 1, none⟩ = some (p1v1)) 12 (by kernel_rfl) (by decide) (show _ from ⟨box_cell q0 0 rfl, box_cell q0 1 rfl, box_cell q0 2 rfl, box_cell q0 3 rfl, box_cell q1 0 rfl, box_cell q1 1 rfl⟩) (fun hHeld => ?_)
    refine wpT_take (i := 0) rfl (by kernel_rfl) (fun _ _ _ h => h) (Or.inl ⟨by rfl, fun w hSw => by (try dsimp only at hSw); first | (go_simp; done) | (go_simp; with_reducible rfl)⟩) (by assumption) ?_
    (try simp only [Act.put, List.setIfInBounds_toArray, List.set_cons_zero, List.set_cons_succ])
    refine wpT_take (i := 2) rfl (by kernel_rfl) (fun _ _ _ h => h) (Or.inl ⟨by rfl, fun w hSw => by (try dsimp only at hSw); first | (go_simp; done) | (go_simp; with_reducible rfl)⟩) (by assumption) ?_
    (try simp only [Act.put, List.setIfInBounds_toArray, List.set_cons_zero, List.set_cons_succ])
    refine wpT_take (i := 4) rfl (by kernel_rfl) (fun _ _ _ h => h) (Or.inl ⟨by rfl, fun w hSw => by (try dsimp only at hSw); first | (go_simp; done) | (go_simp; with_reducible rfl)⟩) (by assumption) ?_
    (try simp only [Act.put, List.setIfInBounds_toArray, List.set_cons_zero, List.set_cons_succ])
    refine wpT_two (i := 1) (j := 10) rfl rfl (by kernel_rfl) (fun K hK => ?_) (fun K hK => ?_)
    go_simp; go_at_call 8; refine (toTable hw_w25.drew H0 k0).mono ?_; rintro e w26 ⟨cs_z0, bs_z0, rfl, r_z0, f_z0, hb26⟩; have hd26 := nxt (Below.refl _ _).drew hb26; have q0 := box_on q0 rfl hd26; have q1 := box_on q1 rfl hd26; have q2 := box_on q2 rfl hd26; have q3 := box_on q3 rfl hd26; have q4 := box_on q4 rfl hd26; have q5 := box_on q5 rfl hd26; have r_w := RowR.good.nxt hd26 r_w; have r_g := RowR.good.nxt hd26 r_g; have f_g := f_g.below hd26; have hw_w26 := nxt hw_w25 hd26; have r_z0_26 := r_z0; obtain ⟨z0v1, z0b1, z0v2, z0b2, rfl, rfl, _, z0r1, z0r2⟩ := r_z0; obtain ⟨z0A1, z0c1, rfl, _, _, _⟩ := z0r1.use; obtain ⟨z0A2, z0c2, rfl, _, _, _⟩ := z0r2.use
    clear hHeld; refine hK.out _ _ (show _ from ⟨box_cell q0 0 rfl, box_cell q0 1 rfl, box_cell q0 2 rfl, box_cell q0 3 rfl, box_cell q1 0 rfl, box_cell q1 1 rfl⟩) (fun hHeld => ?_); clear hK K
    (try simp only [Act.put, List.setIfInBounds_toArray, List.set_cons_zero, List.set_cons_succ])
    refine wpT_two (i := 3) (j := 10) rfl rfl (by kernel_rfl) (fun K hK => ?_) (fun K hK => ?_)
    go_simp; go_at_call 9; refine (toRow hw_w26 H1 k1).mono ?_; rintro e w27 ⟨cs_z1, bs_z1, rfl, r_z1, f_z1, hb27⟩; have q0 := box_on q0 rfl hb27; have q1 := box_on q1 rfl hb27; have q2 := box_on q2 rfl hb27; have q3 := box_on q3 rfl hb27; have q4 := box_on q4 rfl hb27; have q5 := box_on q5 rfl hb27; have r_w := RowR.good.nxt hb27 r_w; have r_g := RowR.good.nxt hb27 r_g; have r_z0_26 := TableR.good.nxt hb27 r_z0_26; have f_g := f_g.below hb27; have hw_w27 := nxt hw_w26 hb27; have r_z1_27 := r_z1; obtain ⟨z1v1, z1b1, rfl, rfl, _, z1r1⟩ := r_z1; obtain ⟨z1A1, z1c1, rfl, _, _, _⟩ := z1r1.use
    clear hHeld; refine hK.out _ _ (show _ from ⟨box_cell q0 0 rfl, box_cell q0 1 rfl, box_cell q0 2 rfl, box_cell q0 3 rfl, box_cell q1 0 rfl, box_cell q1 1 rfl⟩) (fun hHeld => ?_); clear hK K
    (try simp only [Act.put, List.setIfInBounds_toArray, List.set_cons_zero, List.set_cons_succ])
    refine wpT_two (i := 5) (j := 10) rfl rfl (by kernel_rfl) (fun K hK => ?_) (fun K hK => ?_)
    go_simp; go_at_call 10; refine (toMutS hw_w27 H2 k2).mono ?_; rintro e w28 ⟨v_z2, bs_z2, rfl, r_z2, f_z2, hb28⟩; have q0 := box_on q0 rfl hb28; have q1 := box_on q1 rfl hb28; have q2 := box_on q2 rfl hb28; have q3 := box_on q3 rfl hb28; have q4 := box_on q4 rfl hb28; have q5 := box_on q5 rfl hb28; have r_w := RowR.good.nxt hb28 r_w; have r_g := RowR.good.nxt hb28 r_g; have r_z0_26 := TableR.good.nxt hb28 r_z0_26; have r_z1_27 := RowR.good.nxt hb28 r_z1_27; have f_g := f_g.below hb28; have hw_w28 := nxt hw_w27 hb28; have r_z2_28 := r_z2; obtain ⟨A_z2, c_z2, rfl, _, _, _⟩ := r_z2.use
    clear hHeld; refine hK.out _ _ (show _ from ⟨box_cell q0 0 rfl, box_cell q0 1 rfl, box_cell q0 2 rfl, box_cell q0 3 rfl, box_cell q1 0 rfl, box_cell q1 1 rfl⟩) (fun hHeld => ?_); clear hK K
    (try simp only [Act.put, List.setIfInBounds_toArray, List.set_cons_zero, List.set_cons_succ])
    refine wpT_two (i := 6) (j := 10) rfl rfl (by kernel_rfl) (fun K hK => ?_) (fun K hK => ?_)
    go_simp; go_at_call 11; refine (impl_MutateRow r_z0_26 r_z1_27 r_z2_28 k1).mono ?_; rw [HO.out]; rintro e w29 ⟨cs_h, bs_h, rfl, r_h, f_h, hb29⟩; have q0 := box_on q0 rfl hb29; have q1 := box_on q1 rfl hb29; have q2 := box_on q2 rfl hb29; have q3 := box_on q3 rfl hb29; have q4 := box_on q4 rfl hb29; have q5 := box_on q5 rfl hb29; have r_w := RowR.good.nxt hb29 r_w; have r_g := RowR.good.nxt hb29 r_g; have f_g := f_g.below hb29; have hw_w29 := nxt hw_w28 hb29; have r_h0 : RowR w29 bs_h cs_h ok := r_h; clear r_h; have r_h := r_h0; obtain ⟨hv1, hb1, hbs, rfl, _, hr1⟩ := r_h0; subst hbs; obtain ⟨hA1, hc1, rfl, _, _, _⟩ := hr1.use
    clear hHeld; refine hK.out _ _ (show _ from ⟨box_cell q0 0 rfl, box_cell q0 1 rfl, box_cell q0 2 rfl, box_cell q0 3 rfl, box_cell q1 0 rfl, box_cell q1 1 rfl⟩) (fun hHeld => ?_); clear hK K
    (try simp only [Act.put, List.setIfInBounds_toArray, List.set_cons_zero, List.set_cons_succ])
    refine wpT_take (i := 7) rfl (by kernel_rfl) (fun _ _ _ h => h) (Or.inl ⟨by rfl, fun w hSw => by (try dsimp only at hSw); first | (go_simp; done) | (go_simp; with_reducible rfl)⟩) (by assumption) ?_
    (try simp only [Act.put, List.setIfInBounds_toArray, List.set_cons_zero, List.set_cons_succ])
    refine wpT_take (i := 8) rfl (by kernel_rfl) (fun _ _ _ h => h) (Or.inl ⟨by rfl, fun w hSw => by (try dsimp only at hSw); first | (go_simp; done) | (go_simp; with_reducible rfl)⟩) (by assumption) ?_
    (try simp only [Act.put, List.setIfInBounds_toArray, List.set_cons_zero, List.set_cons_succ])
    refine wpT_take (i := 9) rfl (by kernel_rfl) (fun _ _ _ h => h) (Or.inl ⟨by rfl, fun w hSw => by (try dsimp only at hSw); first | (go_simp; done) | (go_simp; with_reducible rfl)⟩) (by assumption) ?_
    (try simp only [Act.put, List.setIfInBounds_toArray, List.set_cons_zero, List.set_cons_succ])
    refine wpT_one (i := 10) rfl (by kernel_rfl) (fun K hK => ?_)
    have lb_q0 := hide (show W.heap.size < _ from World.block_lt_of_cell? _ ⟨W.heap.size, 0, none⟩ (box_cell q0 0 rfl))
    have lb_q1 := hide (show W.heap.size + 1 < _ from World.block_lt_of_cell? _ ⟨W.heap.size + 1, 0, none⟩ (box_cell q1 0 rfl))
    have lb_q2 := hide (show obw < _ from World.block_lt_of_cell? _ ⟨obw, 0, none⟩ (box_cell q2 0 rfl))
    have lb_q3 := hide (show w9.heap.size < _ from World.block_lt_of_cell? _ ⟨w9.heap.size, 0, none⟩ (box_cell q3 0 rfl))
    have lb_q4 := hide (show w10.heap.size < _ from World.block_lt_of_cell? _ ⟨w10.heap.size, 0, none⟩ (box_cell q4 0 rfl))
    have lb_q5 := hide (show w12.heap.size < _ from World.block_lt_of_cell? _ ⟨w12.heap.size, 0, none⟩ (box_cell q5 0 rfl))
    have lr_r_w := hide (RowR.good.lt r_w)
    have lr_r_g := hide (RowR.good.lt r_g)
    have lr_r_h := hide (RowR.good.lt r_h)
    have lw := hide hw_w29.size
    go_simp
    have stz : Below (World.heap w29).size w29 (World.alloc w29 (.cells #[.int .i64 0, .slice none 0 0] 35)) := (Below.refl _ _).alloc (Nat.le_refl _) (.cells #[.int .i64 0, .slice none 0 0] 35)
    have zB : (World.heap (World.alloc w29 (.cells #[.int .i64 0, .slice none 0 0] 35)))[(World.heap w29).size]? = some (.cells #[.int .i64 0, .slice none 0 0] 35 (0, 0)) := blk_new w29 _ _
    clear hHeld; refine hK.out _ (World.alloc w29 (.cells #[.int .i64 0, .slice none 0 0] 35)) (show _ from ⟨cell_on (box_cell q0 0 rfl) stz, cell_on (box_cell q0 1 rfl) stz, cell_on (box_cell q0 2 rfl) stz, cell_on (box_cell q0 3 rfl) stz, cell_on (box_cell q1 0 rfl) stz, cell_on (box_cell q1 1 rfl) stz⟩) (fun hHeld => ?_); clear hK K
    (try simp only [Act.put, List.setIfInBounds_toArray, List.set_cons_zero, List.set_cons_succ])
    generalize World.alloc w29 (.cells #[.int .i64 0, .slice none 0 0] 35) = wz30 at stz zB hHeld ⊢
    replace q0 := box_on q0 rfl stz
    replace q1 := box_on q1 rfl stz
    replace q2 := box_on q2 rfl stz
    replace q3 := box_on q3 rfl stz
    replace q4 := box_on q4 rfl stz
    replace q5 := box_on q5 rfl stz
    replace r_w := RowR.good.nxt stz r_w
    replace r_g := RowR.good.nxt stz r_g
    replace r_h := RowR.good.nxt stz r_h
    replace f_g := f_g.below stz
    replace f_h := f_h.below stz
    have hw_wz30 := nxt hw_w29 stz
    refine wpT_one (i := 11) rfl (by kernel_rfl) (fun K hK => ?_)
    have zf := blk_free zB; have zc0 := blk_cells zB 0; have zc1 := blk_cells zB 1
    have HUs := ((Upd.refl [(World.heap w29).size] wz30).set (p := ⟨(World.heap w29).size, 0, none⟩) (by simp) rfl (.int .i64 ok.id)).set (p := ⟨(World.heap w29).size, 1, none⟩) (by simp) rfl (.slice hA1 ok.cells.length hc1)
    have zF : (World.heap (World.setCell (World.setCell wz30 ⟨(World.heap w29).size, 0, none⟩ (.int .i64 ok.id)) ⟨(World.heap w29).size, 1, none⟩ (.slice hA1 ok.cells.length hc1)))[(World.heap w29).size]? = some (.cells #[.int .i64 ok.id, .slice hA1 ok.cells.length hc1] 35 (0, 0)) := blk_set (blk_set zB 0 (.int .i64 ok.id)) 1 (.slice hA1 ok.cells.length hc1)
    go_simp
    replace q0 := box_upd q0 rfl HUs (fun hm => by have := lb_q0.out; simp at hm; omega)
    replace q1 := box_upd q1 rfl HUs (fun hm => by have := lb_q1.out; simp at hm; omega)
    replace q2 := box_upd q2 rfl HUs (fun hm => by have := lb_q2.out; simp at hm; omega)
    replace q3 := box_upd q3 rfl HUs (fun hm => by have := lb_q3.out; simp at hm; omega)
    replace q4 := box_upd q4 rfl HUs (fun hm => by have := lb_q4.out; simp at hm; omega)
    replace q5 := box_upd q5 rfl HUs (fun hm => by have := lb_q5.out; simp at hm; omega)
    replace r_w := RowR.good.upd r_w HUs (fun b hb hm => by have := lr_r_w.out b hb; simp at hm; omega)
    replace r_g := RowR.good.upd r_g HUs (fun b hb hm => by have := lr_r_g.out b hb; simp at hm; omega)
    replace r_h := RowR.good.upd r_h HUs (fun b hb hm => by have := lr_r_h.out b hb; simp at hm; omega)
    replace f_g := f_g.upd HUs
    replace f_h := f_h.upd HUs
    have hw_wH := (hw_wz30.setCell (p := ⟨(World.heap w29).size, 0, none⟩) lw.out (.int .i64 ok.id)).setCell (p := ⟨(World.heap w29).size, 1, none⟩) lw.out (.slice hA1 ok.cells.length hc1)
    clear hHeld; refine hK.out _ (World.setCell (World.setCell wz30 ⟨(World.heap w29).size, 0, none⟩ (.int .i64 ok.id)) ⟨(World.heap w29).size, 1, none⟩ (.slice hA1 ok.cells.length hc1)) (show _ from ⟨box_cell q0 0 rfl, box_cell q0 1 rfl, box_cell q0 2 rfl, box_cell q0 3 rfl, box_cell q1 0 rfl, box_cell q1 1 rfl⟩) (fun hHeld => ?_); clear hK K
    (try simp only [Act.put, List.setIfInBounds_toArray, List.set_cons_zero, List.set_cons_succ])
    refine wpT_done (by kernel_rfl) ?_
    simp only [List.drop_succ_cons, List.drop_zero]
    clear hHeld HUs zB zf zc0 zc1
    generalize (World.setCell (World.setCell wz30 ⟨(World.heap w29).size, 0, none⟩ (.int .i64 ok.id)) ⟨(World.heap w29).size, 1, none⟩ (.slice hA1 ok.cells.length hc1)) = wH at zF hw_wH q0 q1 q2 q3 q4 q5 r_w r_g r_h f_g f_h ⊢
    obtain ⟨obh, hobh⟩ : ∃ ob, (World.heap w29).size = ob := ⟨_, rfl⟩; rw [hobh] at zF ⊢; have HOBh := hide hobh; clear hobh
    have q6 := blk_cells zF; clear zF
    rotate_left 1
    have lb_q0 := hide (show W.heap.size < _ from World.block_lt_of_cell? _ ⟨W.heap.size, 0, none⟩ (box_cell q0 0 rfl))
    have lb_q1 := hide (show W.heap.size + 1 < _ from World.block_lt_of_cell? _ ⟨W.heap.size + 1, 0, none⟩ (box_cell q1 0 rfl))
    have lb_q2 := hide (show obw < _ from World.block_lt_of_cell? _ ⟨obw, 0, none⟩ (box_cell q2 0 rfl))
    have lb_q3 := hide (show w9.heap.size < _ from World.block_lt_of_cell? _ ⟨w9.heap.size, 0, none⟩ (box_cell q3 0 rfl))
    have lb_q4 := hide (show w10.heap.size < _ from World.block_lt_of_cell? _ ⟨w10.heap.size, 0, none⟩ (box_cell q4 0 rfl))
    have lb_q5 := hide (show w12.heap.size < _ from World.block_lt_of_cell? _ ⟨w12.heap.size, 0, none⟩ (box_cell q5 0 rfl))
    have lr_r_w := hide (RowR.good.lt r_w)
    have lr_r_g := hide (RowR.good.lt r_g)
    have lr_r_z0 := hide (TableR.good.lt r_z0_26)
    have lr_r_z1 := hide (RowR.good.lt r_z1_27)
    have lr_r_z2 := hide (MutSR.good.lt r_z2_28)
    have lw := hide hw_w28.size
    go_simp
    have stz : Below (World.heap w28).size w28 (World.alloc w28 (.cells #[.int .i64 0, .slice none 0 0] 35)) := (Below.refl _ _).alloc (Nat.le_refl _) (.cells #[.int .i64 0, .slice none 0 0] 35)
    have zB : (World.heap (World.alloc w28 (.cells #[.int .i64 0, .slice none 0 0] 35)))[(World.heap w28).size]? = some (.cells #[.int .i64 0, .slice none 0 0] 35 (0, 0)) := blk_new w28 _ _
    clear hHeld; refine hK.out _ (World.alloc w28 (.cells #[.int .i64 0, .slice none 0 0] 35)) (show _ from ⟨cell_on (box_cell q0 0 rfl) stz, cell_on (box_cell q0 1 rfl) stz, cell_on (box_cell q0 2 rfl) stz, cell_on (box_cell q0 3 rfl) stz, cell_on (box_cell q1 0 rfl) stz, cell_on (box_cell q1 1 rfl) stz⟩) (fun hHeld => ?_); clear hK K
    (try simp only [Act.put, List.setIfInBounds_toArray, List.set_cons_zero, List.set_cons_succ])
    generalize World.alloc w28 (.cells #[.int .i64 0, .slice none 0 0] 35) = wz29 at stz zB hHeld ⊢
    replace q0 := box_on q0 rfl stz
    replace q1 := box_on q1 rfl stz
    replace q2 := box_on q2 rfl stz
    replace q3 := box_on q3 rfl stz
    replace q4 := box_on q4 rfl stz
    replace q5 := box_on q5 rfl stz
    replace r_w := RowR.good.nxt stz r_w
    replace r_g := RowR.good.nxt stz r_g
    replace r_z0_26 := TableR.good.nxt stz r_z0_26
    replace r_z1_27 := RowR.good.nxt stz r_z1_27
    replace r_z2_28 := MutSR.good.nxt stz r_z2_28
    replace f_g := f_g.below stz
    have hw_wz29 := nxt hw_w28 stz
    refine wpT_one (i := 6) rfl (by kernel_rfl) (fun K hK => ?_)
    have lz := hide (lt_of_cells zB)
    go_simp; go_at_call 11; refine (impl_MutateRow r_z0_26 r_z1_27 r_z2_28 k1).mono ?_; rw [HO.out]; rintro e w30 ⟨cs_h, bs_h, rfl, r_h, f_h, hb30⟩; have q0 := box_on q0 rfl hb30; have q1 := box_on q1 rfl hb30; have q2 := box_on q2 rfl hb30; have q3 := box_on q3 rfl hb30; have q4 := box_on q4 rfl hb30; have q5 := box_on q5 rfl hb30; have r_w := RowR.good.nxt hb30 r_w; have r_g := RowR.good.nxt hb30 r_g; have f_g := f_g.below hb30; have hw_w30 := nxt hw_wz29 hb30; have r_h0 : RowR w30 bs_h cs_h ok := r_h; clear r_h; have r_h := r_h0; obtain ⟨hv1, hb1, hbs, rfl, _, hr1⟩ := r_h0; subst hbs; obtain ⟨hA1, hc1, rfl, _, _, _⟩ := hr1.use
    replace zB := blk_on zB hb30
    clear hHeld; refine hK.out _ _ (show _ from ⟨box_cell q0 0 rfl, box_cell q0 1 rfl, box_cell q0 2 rfl, box_cell q0 3 rfl, box_cell q1 0 rfl, box_cell q1 1 rfl⟩) (fun hHeld => ?_); clear hK K
    (try simp only [Act.put, List.setIfInBounds_toArray, List.set_cons_zero, List.set_cons_succ])
    refine wpT_take (i := 7) rfl (by kernel_rfl) (fun _ _ _ h => h) (Or.inl ⟨by rfl, fun w hSw => by (try dsimp only at hSw); first | (go_simp; done) | (go_simp; with_reducible rfl)⟩) (by assumption) ?_
    (try simp only [Act.put, List.setIfInBounds_toArray, List.set_cons_zero, List.set_cons_succ])
    refine wpT_take (i := 8) rfl (by kernel_rfl) (fun _ _ _ h => h) (Or.inl ⟨by rfl, fun w hSw => by (try dsimp only at hSw); first | (go_simp; done) | (go_simp; with_reducible rfl)⟩) (by assumption) ?_
    (try simp only [Act.put, List.setIfInBounds_toArray, List.set_cons_zero, List.set_cons_succ])
    refine wpT_take (i := 9) rfl (by kernel_rfl) (fun _ _ _ h => h) (Or.inl ⟨by rfl, fun w hSw => by (try dsimp only at hSw); first | (go_simp; done) | (go_simp; with_reducible rfl)⟩) (by assumption) ?_
    (try simp only [Act.put, List.setIfInBounds_toArray, List.set_cons_zero, List.set_cons_succ])
    refine wpT_one (i := 11) rfl (by kernel_rfl) (fun K hK => ?_)
    have zf := blk_free zB; have zc0 := blk_cells zB 0; have zc1 := blk_cells zB 1
    have HUs := ((Upd.refl [(World.heap w28).size] w30).set (p := ⟨(World.heap w28).size, 0, none⟩) (by simp) rfl (.int .i64 ok.id)).set (p := ⟨(World.heap w28).size, 1, none⟩) (by simp) rfl (.slice hA1 ok.cells.length hc1)
    have zF : (World.heap (World.setCell (World.setCell w30 ⟨(World.heap w28).size, 0, none⟩ (.int .i64 ok.id)) ⟨(World.heap w28).size, 1, none⟩ (.slice hA1 ok.cells.length hc1)))[(World.heap w28).size]? = some (.cells #[.int .i64 ok.id, .slice hA1 ok.cells.length hc1] 35 (0, 0)) := blk_set (blk_set zB 0 (.int .i64 ok.id)) 1 (.slice hA1 ok.cells.length hc1)
    go_simp
    replace q0 := box_upd q0 rfl HUs (fun hm => by have := lb_q0.out; simp at hm; omega)
    replace q1 := box_upd q1 rfl HUs (fun hm => by have := lb_q1.out; simp at hm; omega)
    replace q2 := box_upd q2 rfl HUs (fun hm => by have := lb_q2.out; simp at hm; omega)
    replace q3 := box_upd q3 rfl HUs (fun hm => by have := lb_q3.out; simp at hm; omega)
    replace q4 := box_upd q4 rfl HUs (fun hm => by have := lb_q4.out; simp at hm; omega)
    replace q5 := box_upd q5 rfl HUs (fun hm => by have := lb_q5.out; simp at hm; omega)
    replace r_w := RowR.good.upd r_w HUs (fun b hb hm => by have := lr_r_w.out b hb; simp at hm; omega)
    replace r_g := RowR.good.upd r_g HUs (fun b hb hm => by have := lr_r_g.out b hb; simp at hm; omega)
    replace r_h := RowR.good.upd r_h HUs (fun b hb hm => by have := (f_h.2 b hb).1; have := lz.out; simp at hm; omega)
    replace f_g := f_g.upd HUs
    replace f_h := f_h.upd HUs
    have hw_wH := (hw_w30.setCell (p := ⟨(World.heap w28).size, 0, none⟩) lw.out (.int .i64 ok.id)).setCell (p := ⟨(World.heap w28).size, 1, none⟩) lw.out (.slice hA1 ok.cells.length hc1)
    clear hHeld; refine hK.out _ (World.setCell (World.setCell w30 ⟨(World.heap w28).size, 0, none⟩ (.int .i64 ok.id)) ⟨(World.heap w28).size, 1, none⟩ (.slice hA1 ok.cells.length hc1)) (show _ from ⟨box_cell q0 0 rfl, box_cell q0 1 rfl, box_cell q0 2 rfl, box_cell q0 3 rfl, box_cell q1 0 rfl, box_cell q1 1 rfl⟩) (fun hHeld => ?_); clear hK K
    (try simp only [Act.put, List.setIfInBounds_toArray, List.set_cons_zero, List.set_cons_succ])
    refine wpT_done (by kernel_rfl) ?_
    simp only [List.drop_succ_cons, List.drop_zero]
    clear hHeld HUs zB zf zc0 zc1
    generalize (World.setCell (World.setCell w30 ⟨(World.heap w28).size, 0, none⟩ (.int .i64 ok.id)) ⟨(World.heap w28).size, 1, none⟩ (.slice hA1 ok.cells.length hc1)) = wH at zF hw_wH q0 q1 q2 q3 q4 q5 r_w r_g r_h f_g f_h ⊢
    obtain ⟨obh, hobh⟩ : ∃ ob, (World.heap w28).size = ob := ⟨_, rfl⟩; rw [hobh] at zF ⊢; have HOBh := hide hobh; clear hobh
    have q6 := blk_cells zF; clear zF
    rotate_left 1
    have lb_q0 := hide (show W.heap.size < _ from World.block_lt_of_cell? _ ⟨W.heap.size, 0, none⟩ (box_cell q0 0 rfl))
    have lb_q1 := hide (show W.heap.size + 1 < _ from World.block_lt_of_cell? _ ⟨W.heap.size + 1, 0, none⟩ (box_cell q1 0 rfl))
    have lb_q2 := hide (show obw < _ from World.block_lt_of_cell? _ ⟨obw, 0, none⟩ (box_cell q2 0 rfl))
    have lb_q3 := hide (show w9.heap.size < _ from World.block_lt_of_cell? _ ⟨w9.heap.size, 0, none⟩ (box_cell q3 0 rfl))
    have lb_q4 := hide (show w10.heap.size < _ from World.block_lt_of_cell? _ ⟨w10.heap.size, 0, none⟩ (box_cell q4 0 rfl))
    have lb_q5 := hide (show w12.heap.size < _ from World.block_lt_of_cell? _ ⟨w12.heap.size, 0, none⟩ (box_cell q5 0 rfl))
    have lr_r_w := hide (RowR.good.lt r_w)
    have lr_r_g := hide (RowR.good.lt r_g)
    have lr_r_z0 := hide (TableR.good.lt r_z0_26)
    have lr_r_z1 := hide (RowR.good.lt r_z1_27)
    have lw := hide hw_w27.size
    go_simp
    have stz : Below (World.heap w27).size w27 (World.alloc w27 (.cells #[.int .i64 0, .slice none 0 0] 35)) := (Below.refl _ _).alloc (Nat.le_refl _) (.cells #[.int .i64 0, .slice none 0 0] 35)
    have zB : (World.heap (World.alloc w27 (.cells #[.int .i64 0, .slice none 0 0] 35)))[(World.heap w27).size]? = some (.cells #[.int .i64 0, .slice none 0 0] 35 (0, 0)) := blk_new w27 _ _
    clear hHeld; refine hK.out _ (World.alloc w27 (.cells #[.int .i64 0, .slice none 0 0] 35)) (show _ from ⟨cell_on (box_cell q0 0 rfl) stz, cell_on (box_cell q0 1 rfl) stz, cell_on (box_cell q0 2 rfl) stz, cell_on (box_cell q0 3 rfl) stz, cell_on (box_cell q1 0 rfl) stz, cell_on (box_cell q1 1 rfl) stz⟩) (fun hHeld => ?_); clear hK K
    (try simp only [Act.put, List.setIfInBounds_toArray, List.set_cons_zero, List.set_cons_succ])
    generalize World.alloc w27 (.cells #[.int .i64 0, .slice none 0 0] 35) = wz28 at stz zB hHeld ⊢
    replace q0 := box_on q0 rfl stz
    replace q1 := box_on q1 rfl stz
    replace q2 := box_on q2 rfl stz
    replace q3 := box_on q3 rfl stz
    replace q4 := box_on q4 rfl stz
    replace q5 := box_on q5 rfl stz
    replace r_w := RowR.good.nxt stz r_w
    replace r_g := RowR.good.nxt stz r_g
    replace r_z0_26 := TableR.good.nxt stz r_z0_26
    replace r_z1_27 := RowR.good.nxt stz r_z1_27
    replace f_g := f_g.below stz
    have hw_wz28 := nxt hw_w27 stz
    refine wpT_one (i := 5) rfl (by kernel_rfl) (fun K hK => ?_)
    go_simp; go_at_call 10; refine (toMutS hw_wz28 H2 k2).mono ?_; rintro e w29 ⟨v_z2, bs_z2, rfl, r_z2, f_z2, hb29⟩; have q0 := box_on q0 rfl hb29; have q1 := box_on q1 rfl hb29; have q2 := box_on q2 rfl hb29; have q3 := box_on q3 rfl hb29; have q4 := box_on q4 rfl hb29; have q5 := box_on q5 rfl hb29; have r_w := RowR.good.nxt hb29 r_w; have r_g := RowR.good.nxt hb29 r_g; have r_z0_26 := TableR.good.nxt hb29 r_z0_26; have r_z1_27 := RowR.good.nxt hb29 r_z1_27; have f_g := f_g.below hb29; have hw_w29 := nxt hw_wz28 hb29; have r_z2_29 := r_z2; obtain ⟨A_z2, c_z2, rfl, _, _, _⟩ := r_z2.use
    replace zB := blk_on zB hb29
    clear hHeld; refine hK.out _ _ (show _ from ⟨box_cell q0 0 rfl, box_cell q0 1 rfl, box_cell q0 2 rfl, box_cell q0 3 rfl, box_cell q1 0 rfl, box_cell q1 1 rfl⟩) (fun hHeld => ?_); clear hK K
    (try simp only [Act.put, List.setIfInBounds_toArray, List.set_cons_zero, List.set_cons_succ])
    refine wpT_one (i := 6) rfl (by kernel_rfl) (fun K hK => ?_)
    have lz := hide (lt_of_cells zB)
    go_simp; go_at_call 11; refine (impl_MutateRow r_z0_26 r_z1_27 r_z2_29 k1).mono ?_; rw [HO.out]; rintro e w30 ⟨cs_h, bs_h, rfl, r_h, f_h, hb30⟩; have q0 := box_on q0 rfl hb30; have q1 := box_on q1 rfl hb30; have q2 := box_on q2 rfl hb30; have q3 := box_on q3 rfl hb30; have q4 := box_on q4 rfl hb30; have q5 := box_on q5 rfl hb30; have r_w := RowR.good.nxt hb30 r_w; have r_g := RowR.good.nxt hb30 r_g; have f_g := f_g.below hb30; have hw_w30 := nxt hw_w29 hb30; have r_h0 : RowR w30 bs_h cs_h ok := r_h; clear r_h; have r_h := r_h0; obtain ⟨hv1, hb1, hbs, rfl, _, hr1⟩ := r_h0; subst hbs; obtain ⟨hA1, hc1, rfl, _, _, _⟩ := hr1.use
    replace zB := blk_on zB hb30
    clear hHeld; refine hK.out _ _ (show _ from ⟨box_cell q0 0 rfl, box_cell q0 1 rfl, box_cell q0 2 rfl, box_cell q0 3 rfl, box_cell q1 0 rfl, box_cell q1 1 rfl⟩) (fun hHeld => ?_); clear hK K
    (try simp only [Act.put, List.setIfInBounds_toArray, List.set_cons_zero, List.set_cons_succ])
    refine wpT_take (i := 7) rfl (by kernel_rfl) (fun _ _ _ h => h) (Or.inl ⟨by rfl, fun w hSw => by (try dsimp only at hSw); first | (go_simp; done) | (go_simp; with_reducible rfl)⟩) (by assumption) ?_
    (try simp only [Act.put, List.setIfInBounds_toArray, List.set_cons_zero, List.set_cons_succ])
    refine wpT_take (i := 8) rfl (by kernel_rfl) (fun _ _ _ h => h) (Or.inl ⟨by rfl, fun w hSw => by (try dsimp only at hSw); first | (go_simp; done) | (go_simp; with_reducible rfl)⟩) (by assumption) ?_
    (try simp only [Act.put, List.setIfInBounds_toArray, List.set_cons_zero, List.set_cons_succ])
    refine wpT_take (i := 9) rfl (by kernel_rfl) (fun _ _ _ h => h) (Or.inl ⟨by rfl, fun w hSw => by (try dsimp only at hSw); first | (go_simp; done) | (go_simp; with_reducible rfl)⟩) (by assumption) ?_
    (try simp only [Act.put, List.setIfInBounds_toArray, List.set_cons_zero, List.set_cons_succ])
    refine wpT_one (i := 11) rfl (by kernel_rfl) (fun K hK => ?_)
    have zf := blk_free zB; have zc0 := blk_cells zB 0; have zc1 := blk_cells zB 1
    have HUs := ((Upd.refl [(World.heap w27).size] w30).set (p := ⟨(World.heap w27).size, 0, none⟩) (by simp) rfl (.int .i64 ok.id)).set (p := ⟨(World.heap w27).size, 1, none⟩) (by simp) rfl (.slice hA1 ok.cells.length hc1)
    have zF : (World.heap (World.setCell (World.setCell w30 ⟨(World.heap w27).size, 0, none⟩ (.int .i64 ok.id)) ⟨(World.heap w27).size, 1, none⟩ (.slice hA1 ok.cells.length hc1)))[(World.heap w27).size]? = some (.cells #[.int .i64 ok.id, .slice hA1 ok.cells.length hc1] 35 (0, 0)) := blk_set (blk_set zB 0 (.int .i64 ok.id)) 1 (.slice hA1 ok.cells.length hc1)
    go_simp
    replace q0 := box_upd q0 rfl HUs (fun hm => by have := lb_q0.out; simp at hm; omega)
    replace q1 := box_upd q1 rfl HUs (fun hm => by have := lb_q1.out; simp at hm; omega)
    replace q2 := box_upd q2 rfl HUs (fun hm => by have := lb_q2.out; simp at hm; omega)
    replace q3 := box_upd q3 rfl HUs (fun hm => by have := lb_q3.out; simp at hm; omega)
    replace q4 := box_upd q4 rfl HUs (fun hm => by have := lb_q4.out; simp at hm; omega)
    replace q5 := box_upd q5 rfl HUs (fun hm => by have := lb_q5.out; simp at hm; omega)
    replace r_w := RowR.good.upd r_w HUs (fun b hb hm => by have := lr_r_w.out b hb; simp at hm; omega)
    replace r_g := RowR.good.upd r_g HUs (fun b hb hm => by have := lr_r_g.out b hb; simp at hm; omega)
    replace r_h := RowR.good.upd r_h HUs (fun b hb hm => by have := (f_h.2 b hb).1; have := lz.out; simp at hm; omega)
    replace f_g := f_g.upd HUs
    replace f_h := f_h.upd HUs
    have hw_wH := (hw_w30.setCell (p := ⟨(World.heap w27).size, 0, none⟩) lw.out (.int .i64 ok.id)).setCell (p := ⟨(World.heap w27).size, 1, none⟩) lw.out (.slice hA1 ok.cells.length hc1)
    clear hHeld; refine hK.out _ (World.setCell (World.setCell w30 ⟨(World.heap w27).size, 0, none⟩ (.int .i64 ok.id)) ⟨(World.heap w27).size, 1, none⟩ (.slice hA1 ok.cells.length hc1)) (show _ from ⟨box_cell q0 0 rfl, box_cell q0 1 rfl, box_cell q0 2 rfl, box_cell q0 3 rfl, box_cell q1 0 rfl, box_cell q1 1 rfl⟩) (fun hHeld => ?_); clear hK K
    (try simp only [Act.put, List.setIfInBounds_toArray, List.set_cons_zero, List.set_cons_succ])
    refine wpT_done (by kernel_rfl) ?_
    simp only [List.drop_succ_cons, List.drop_zero]
    clear hHeld HUs zB zf zc0 zc1
    generalize (World.setCell (World.setCell w30 ⟨(World.heap w27).size, 0, none⟩ (.int .i64 ok.id)) ⟨(World.heap w27).size, 1, none⟩ (.slice hA1 ok.cells.length hc1)) = wH at zF hw_wH q0 q1 q2 q3 q4 q5 r_w r_g r_h f_g f_h ⊢
    obtain ⟨obh, hobh⟩ : ∃ ob, (World.heap w27).size = ob := ⟨_, rfl⟩; rw [hobh] at zF ⊢; have HOBh := hide hobh; clear hobh
    have q6 := blk_cells zF; clear zF
    rotate_left 1
    have lb_q0 := hide (show W.heap.size < _ from World.block_lt_of_cell? _ ⟨W.heap.size, 0, none⟩ (box_cell q0 0 rfl))
    have lb_q1 := hide (show W.heap.size + 1 < _ from World.block_lt_of_cell? _ ⟨W.heap.size + 1, 0, none⟩ (box_cell q1 0 rfl))
    have lb_q2 := hide (show obw < _ from World.block_lt_of_cell? _ ⟨obw, 0, none⟩ (box_cell q2 0 rfl))
    have lb_q3 := hide (show w9.heap.size < _ from World.block_lt_of_cell? _ ⟨w9.heap.size, 0, none⟩ (box_cell q3 0 rfl))
    have lb_q4 := hide (show w10.heap.size < _ from World.block_lt_of_cell? _ ⟨w10.heap.size, 0, none⟩ (box_cell q4 0 rfl))
    have lb_q5 := hide (show w12.heap.size < _ from World.block_lt_of_cell? _ ⟨w12.heap.size, 0, none⟩ (box_cell q5 0 rfl))
    have lr_r_w := hide (RowR.good.lt r_w)
    have lr_r_g := hide (RowR.good.lt r_g)
    have lr_r_z0 := hide (TableR.good.lt r_z0_26)
    have lw := hide hw_w26.size
    go_simp
    have stz : Below (World.heap w26).size w26 (World.alloc w26 (.cells #[.int .i64 0, .slice none 0 0] 35)) := (Below.refl _ _).alloc (Nat.le_refl _) (.cells #[.int .i64 0, .slice none 0 0] 35)
    have zB : (World.heap (World.alloc w26 (.cells #[.int .i64 0, .slice none 0 0] 35)))[(World.heap w26).size]? = some (.cells #[.int .i64 0, .slice none 0 0] 35 (0, 0)) := blk_new w26 _ _
    clear hHeld; refine hK.out _ (World.alloc w26 (.cells #[.int .i64 0, .slice none 0 0] 35)) (show _ from ⟨cell_on (box_cell q0 0 rfl) stz, cell_on (box_cell q0 1 rfl) stz, cell_on (box_cell q0 2 rfl) stz, cell_on (box_cell q0 3 rfl) stz, cell_on (box_cell q1 0 rfl) stz, cell_on (box_cell q1 1 rfl) stz⟩) (fun hHeld => ?_); clear hK K
    (try simp only [Act.put, List.setIfInBounds_toArray, List.set_cons_zero, List.set_cons_succ])
    generalize World.alloc w26 (.cells #[.int .i64 0, .slice none 0 0] 35) = wz27 at stz zB hHeld ⊢
    replace q0 := box_on q0 rfl stz
    replace q1 := box_on q1 rfl stz
    replace q2 := box_on q2 rfl stz
    replace q3 := box_on q3 rfl stz
    replace q4 := box_on q4 rfl stz
    replace q5 := box_on q5 rfl stz
    replace r_w := RowR.good.nxt stz r_w
    replace r_g := RowR.good.nxt stz r_g
    replace r_z0_26 := TableR.good.nxt stz r_z0_26
    replace f_g := f_g.below stz
    have hw_wz27 := nxt hw_w26 stz
    refine wpT_one (i := 3) rfl (by kernel_rfl) (fun K hK => ?_)
    go_simp; go_at_call 9; refine (toRow hw_wz27 H1 k1).mono ?_; rintro e w28 ⟨cs_z1, bs_z1, rfl, r_z1, f_z1, hb28⟩; have q0 := box_on q0 rfl hb28; have q1 := box_on q1 rfl hb28; have q2 := box_on q2 rfl hb28; have q3 := box_on q3 rfl hb28; have q4 := box_on q4 rfl hb28; have q5 := box_on q5 rfl hb28; have r_w := RowR.good.nxt hb28 r_w; have r_g := RowR.good.nxt hb28 r_g; have r_z0_26 := TableR.good.nxt hb28 r_z0_26; have f_g := f_g.below hb28; have hw_w28 := nxt hw_wz27 hb28; have r_z1_28 := r_z1; obtain ⟨z1v1, z1b1, rfl, rfl, _, z1r1⟩ := r_z1; obtain ⟨z1A1, z1c1, rfl, _, _, _⟩ := z1r1.use
    replace zB := blk_on zB hb28
    clear hHeld; refine hK.out _ _ (show _ from ⟨box_cell q0 0 rfl, box_cell q0 1 rfl, box_cell q0 2 rfl, box_cell q0 3 rfl, box_cell q1 0 rfl, box_cell q1 1 rfl⟩) (fun hHeld => ?_); clear hK K
    (try simp only [Act.put, List.setIfInBounds_toArray, List.set_cons_zero, List.set_cons_succ])
    refine wpT_one (i := 5) rfl (by kernel_rfl) (fun K hK => ?_)
    go_simp; go_at_call 10; refine (toMutS hw_w28 H2 k2).mono ?_; rintro e w29 ⟨v_z2, bs_z2, rfl, r_z2, f_z2, hb29⟩; have q0 := box_on q0 rfl hb29; have q1 := box_on q1 rfl hb29; have q2 := box_on q2 rfl hb29; have q3 := box_on q3 rfl hb29; have q4 := box_on q4 rfl hb29; have q5 := box_on q5 rfl hb29; have r_w := RowR.good.nxt hb29 r_w; have r_g := RowR.good.nxt hb29 r_g; have r_z0_26 := TableR.good.nxt hb29 r_z0_26; have r_z1_28 := RowR.good.nxt hb29 r_z1_28; have f_g := f_g.below hb29; have hw_w29 := nxt hw_w28 hb29; have r_z2_29 := r_z2; obtain ⟨A_z2, c_z2, rfl, _, _, _⟩ := r_z2.use
    replace zB := blk_on zB hb29
    clear hHeld; refine hK.out _ _ (show _ from ⟨box_cell q0 0 rfl, box_cell q0 1 rfl, box_cell q0 2 rfl, box_cell q0 3 rfl, box_cell q1 0 rfl, box_cell q1 1 rfl⟩) (fun hHeld => ?_); clear hK K
    (try simp only [Act.put, List.setIfInBounds_toArray, List.set_cons_zero, List.set_cons_succ])
    refine wpT_one (i := 6) rfl (by kernel_rfl) (fun K hK => ?_)
    have lz := hide (lt_of_cells zB)
    go_simp; go_at_call 11; refine (impl_MutateRow r_z0_26 r_z1_28 r_z2_29 k1).mono ?_; rw [HO.out]; rintro e w30 ⟨cs_h, bs_h, rfl, r_h, f_h, hb30⟩; have q0 := box_on q0 rfl hb30; have q1 := box_on q1 rfl hb30; have q2 := box_on q2 rfl hb30; have q3 := box_on q3 rfl hb30; have q4 := box_on q4 rfl hb30; have q5 := box_on q5 rfl hb30; have r_w := RowR.good.nxt hb30 r_w; have r_g := RowR.good.nxt hb30 r_g; have f_g := f_g.below hb30; have hw_w30 := nxt hw_w29 hb30; have r_h0 : RowR w30 bs_h cs_h ok := r_h; clear r_h; have r_h := r_h0; obtain ⟨hv1, hb1, hbs, rfl, _, hr1⟩ := r_h0; subst hbs; obtain ⟨hA1, hc1, rfl, _, _, _⟩ := hr1.use
    replace zB := blk_on zB hb30
    clear hHeld; refine hK.out _ _ (show _ from ⟨box_cell q0 0 rfl, box_cell q0 1 rfl, box_cell q0 2 rfl, box_cell q0 3 rfl, box_cell q1 0 rfl, box_cell q1 1 rfl⟩) (fun hHeld => ?_); clear hK K
    (try simp only [Act.put, List.setIfInBounds_toArray, List.set_cons_zero, List.set_cons_succ])
    refine wpT_take (i := 7) rfl (by kernel_rfl) (fun _ _ _ h => h) (Or.inl ⟨by rfl, fun w hSw => by (try dsimp only at hSw); first | (go_simp; done) | (go_simp; with_reducible rfl)⟩) (by assumption) ?_
    (try simp only [Act.put, List.setIfInBounds_toArray, List.set_cons_zero, List.set_cons_succ])
    refine wpT_take (i := 8) rfl (by kernel_rfl) (fun _ _ _ h => h) (Or.inl ⟨by rfl, fun w hSw => by (try dsimp only at hSw); first | (go_simp; done) | (go_simp; with_reducible rfl)⟩) (by assumption) ?_
    (try simp only [Act.put, List.setIfInBounds_toArray, List.set_cons_zero, List.set_cons_succ])
    refine wpT_take (i := 9) rfl (by kernel_rfl) (fun _ _ _ h => h) (Or.inl ⟨by rfl, fun w hSw => by (try dsimp only at hSw); first | (go_simp; done) | (go_simp; with_reducible rfl)⟩) (by assumption) ?_
    (try simp only [Act.put, List.setIfInBounds_toArray, List.set_cons_zero, List.set_cons_succ])
    refine wpT_one (i := 11) rfl (by kernel_rfl) (fun K hK => ?_)
    have zf := blk_free zB; have zc0 := blk_cells zB 0; have zc1 := blk_cells zB 1
    have HUs := ((Upd.refl [(World.heap w26).size] w30).set (p := ⟨(World.heap w26).size, 0, none⟩) (by simp) rfl (.int .i64 ok.id)).set (p := ⟨(World.heap w26).size, 1, none⟩) (by simp) rfl (.slice hA1 ok.cells.length hc1)
    have zF : (World.heap (World.setCell (World.setCell w30 ⟨(World.heap w26).size, 0, none⟩ (.int .i64 ok.id)) ⟨(World.heap w26).size, 1, none⟩ (.slice hA1 ok.cells.length hc1)))[(World.heap w26).size]? = some (.cells #[.int .i64 ok.id, .slice hA1 ok.cells.length hc1] 35 (0, 0)) := blk_set (blk_set zB 0 (.int .i64 ok.id)) 1 (.slice hA1 ok.cells.length hc1)
    go_simp
    replace q0 := box_upd q0 rfl HUs (fun hm => by have := lb_q0.out; simp at hm; omega)
    replace q1 := box_upd q1 rfl HUs (fun hm => by have := lb_q1.out; simp at hm; omega)
    replace q2 := box_upd q2 rfl HUs (fun hm => by have := lb_q2.out; simp at hm; omega)
    replace q3 := box_upd q3 rfl HUs (fun hm => by have := lb_q3.out; simp at hm; omega)
    replace q4 := box_upd q4 rfl HUs (fun hm => by have := lb_q4.out; simp at hm; omega)
    replace q5 := box_upd q5 rfl HUs (fun hm => by have := lb_q5.out; simp at hm; omega)
    replace r_w := RowR.good.upd r_w HUs (fun b hb hm => by have := lr_r_w.out b hb; simp at hm; omega)
    replace r_g := RowR.good.upd r_g HUs (fun b hb hm => by have := lr_r_g.out b hb; simp at hm; omega)
    replace r_h := RowR.good.upd r_h HUs (fun b hb hm => by have := (f_h.2 b hb).1; have := lz.out; simp at hm; omega)
    replace f_g := f_g.upd HUs
    replace f_h := f_h.upd HUs
    have hw_wH := (hw_w30.setCell (p := ⟨(World.heap w26).size, 0, none⟩) lw.out (.int .i64 ok.id)).setCell (p := ⟨(World.heap w26).size, 1, none⟩) lw.out (.slice hA1 ok.cells.length hc1)
    clear hHeld; refine hK.out _ (World.setCell (World.setCell w30 ⟨(World.heap w26).size, 0, none⟩ (.int .i64 ok.id)) ⟨(World.heap w26).size, 1, none⟩ (.slice hA1 ok.cells.length hc1)) (show _ from ⟨box_cell q0 0 rfl, box_cell q0 1 rfl, box_cell q0 2 rfl, box_cell q0 3 rfl, box_cell q1 0 rfl, box_cell q1 1 rfl⟩) (fun hHeld => ?_); clear hK K
    (try simp only [Act.put, List.setIfInBounds_toArray, List.set_cons_zero, List.set_cons_succ])
    refine wpT_done (by kernel_rfl) ?_
    simp only [List.drop_succ_cons, List.drop_zero]
    clear hHeld HUs zB zf zc0 zc1
    generalize (World.setCell (World.setCell w30 ⟨(World.heap w26).size, 0, none⟩ (.int .i64 ok.id)) ⟨(World.heap w26).size, 1, none⟩ (.slice hA1 ok.cells.length hc1)) = wH at zF hw_wH q0 q1 q2 q3 q4 q5 r_w r_g r_h f_g f_h ⊢
    obtain ⟨obh, hobh⟩ : ∃ ob, (World.heap w26).size = ob := ⟨_, rfl⟩; rw [hobh] at zF ⊢; have HOBh := hide hobh; clear hobh
    have q6 := blk_cells zF; clear zF
    rotate_left 1
    have lb_q0 := hide (show W.heap.size < _ from World.block_lt_of_cell? _ ⟨W.heap.size, 0, none⟩ (box_cell q0 0 rfl))
    have lb_q1 := hide (show W.heap.size + 1 < _ from World.block_lt_of_cell? _ ⟨W.heap.size + 1, 0, none⟩ (box_cell q1 0 rfl))
    have lb_q2 := hide (show obw < _ from World.block_lt_of_cell? _ ⟨obw, 0, none⟩ (box_cell q2 0 rfl))
    have lb_q3 := hide (show w9.heap.size < _ from World.block_lt_of_cell? _ ⟨w9.heap.size, 0, none⟩ (box_cell q3 0 rfl))
    have lb_q4 := hide (show w10.heap.size < _ from World.block_lt_of_cell? _ ⟨w10.heap.size, 0, none⟩ (box_cell q4 0 rfl))
    have lb_q5 := hide (show w12.heap.size < _ from World.block_lt_of_cell? _ ⟨w12.heap.size, 0, none⟩ (box_cell q5 0 rfl))
    have lr_r_w := hide (RowR.good.lt r_w)
    have lr_r_g := hide (RowR.good.lt r_g)
    have lw := hide hw_w25.size
    go_simp
    have stz : Below (World.heap w25).size w25 (World.alloc (World.drew w25) (.cells #[.int .i64 0, .slice none 0 0] 35)) := (Below.refl _ _).drew.alloc (Nat.le_refl _) (.cells #[.int .i64 0, .slice none 0 0] 35)
    have zB : (World.heap (World.alloc (World.drew w25) (.cells #[.int .i64 0, .slice none 0 0] 35)))[(World.heap w25).size]? = some (.cells #[.int .i64 0, .slice none 0 0] 35 (0, 0)) := blk_new (World.drew w25) _ _
    clear hHeld; refine hK.out _ (World.alloc (World.drew w25) (.cells #[.int .i64 0, .slice none 0 0] 35)) (show _ from ⟨cell_on (box_cell q0 0 rfl) stz, cell_on (box_cell q0 1 rfl) stz, cell_on (box_cell q0 2 rfl) stz, cell_on (box_cell q0 3 rfl) stz, cell_on (box_cell q1 0 rfl) stz, cell_on (box_cell q1 1 rfl) stz⟩) (fun hHeld => ?_); clear hK K
    (try simp only [Act.put, List.setIfInBounds_toArray, List.set_cons_zero, List.set_cons_succ])
    generalize World.alloc (World.drew w25) (.cells #[.int .i64 0, .slice none 0 0] 35) = wz26 at stz zB hHeld ⊢
    replace q0 := box_on q0 rfl stz
    replace q1 := box_on q1 rfl stz
    replace q2 := box_on q2 rfl stz
    replace q3 := box_on q3 rfl stz
    replace q4 := box_on q4 rfl stz
    replace q5 := box_on q5 rfl stz
    replace r_w := RowR.good.nxt stz r_w
    replace r_g := RowR.good.nxt stz r_g
    replace f_g := f_g.below stz
    have hw_wz26 := nxt hw_w25 stz
    refine wpT_one (i := 1) rfl (by kernel_rfl) (fun K hK => ?_)
    go_simp; go_at_call 8; refine (toTable hw_wz26 H0 k0).mono ?_; rintro e w27 ⟨cs_z0, bs_z0, rfl, r_z0, f_z0, hb27⟩; have q0 := box_on q0 rfl hb27; have q1 := box_on q1 rfl hb27; have q2 := box_on q2 rfl hb27; have q3 := box_on q3 rfl hb27; have q4 := box_on q4 rfl hb27; have q5 := box_on q5 rfl hb27; have r_w := RowR.good.nxt hb27 r_w; have r_g := RowR.good.nxt hb27 r_g; have f_g := f_g.below hb27; have hw_w27 := nxt hw_wz26 hb27; have r_z0_27 := r_z0; obtain ⟨z0v1, z0b1, z0v2, z0b2, rfl, rfl, _, z0r1, z0r2⟩ := r_z0; obtain ⟨z0A1, z0c1, rfl, _, _, _⟩ := z0r1.use; obtain ⟨z0A2, z0c2, rfl, _, _, _⟩ := z0r2.use
    replace zB := blk_on zB hb27
    clear hHeld; refine hK.out _ _ (show _ from ⟨box_cell q0 0 rfl, box_cell q0 1 rfl, box_cell q0 2 rfl, box_cell q0 3 rfl, box_cell q1 0 rfl, box_cell q1 1 rfl⟩) (fun hHeld => ?_); clear hK K
    (try simp only [Act.put, List.setIfInBounds_toArray, List.set_cons_zero, List.set_cons_succ])
    refine wpT_one (i := 3) rfl (by kernel_rfl) (fun K hK => ?_)
    go_simp; go_at_call 9; refine (toRow hw_w27 H1 k1).mono ?_; rintro e w28 ⟨cs_z1, bs_z1, rfl, r_z1, f_z1, hb28⟩; have q0 := box_on q0 rfl hb28; have q1 := box_on q1 rfl hb28; have q2 := box_on q2 rfl hb28; have q3 := box_on q3 rfl hb28; have q4 := box_on q4 rfl hb28; have q5 := box_on q5 rfl hb28; have r_w := RowR.good.nxt hb28 r_w; have r_g := RowR.good.nxt hb28 r_g; have r_z0_27 := TableR.good.nxt hb28 r_z0_27; have f_g := f_g.below hb28; have hw_w28 := nxt hw_w27 hb28; have r_z1_28 := r_z1; obtain ⟨z1v1, z1b1, rfl, rfl, _, z1r1⟩ := r_z1; obtain ⟨z1A1, z1c1, rfl, _, _, _⟩ := z1r1.use
    replace zB := blk_on zB hb28
    clear hHeld; refine hK.out _ _ (show _ from ⟨box_cell q0 0 rfl, box_cell q0 1 rfl, box_cell q0 2 rfl, box_cell q0 3 rfl, box_cell q1 0 rfl, box_cell q1 1 rfl⟩) (fun hHeld => ?_); clear hK K
    (try simp only [Act.put, List.setIfInBounds_toArray, List.set_cons_zero, List.set_cons_succ])
    refine wpT_one (i := 5) rfl (by kernel_rfl) (fun K hK => ?_)
    go_simp; go_at_call 10; refine (toMutS hw_w28 H2 k2).mono ?_; rintro e w29 ⟨v_z2, bs_z2, rfl, r_z2, f_z2, hb29⟩; have q0 := box_on q0 rfl hb29; have q1 := box_on q1 rfl hb29; have q2 := box_on q2 rfl hb29; have q3 := box_on q3 rfl hb29; have q4 := box_on q4 rfl hb29; have q5 := box_on q5 rfl hb29; have r_w := RowR.good.nxt hb29 r_w; have r_g := RowR.good.nxt hb29 r_g; have r_z0_27 := TableR.good.nxt hb29 r_z0_27; have r_z1_28 := RowR.good.nxt hb29 r_z1_28; have f_g := f_g.below hb29; have hw_w29 := nxt hw_w28 hb29; have r_z2_29 := r_z2; obtain ⟨A_z2, c_z2, rfl, _, _, _⟩ := r_z2.use
    replace zB := blk_on zB hb29
    clear hHeld; refine hK.out _ _ (show _ from ⟨box_cell q0 0 rfl, box_cell q0 1 rfl, box_cell q0 2 rfl, box_cell q0 3 rfl, box_cell q1 0 rfl, box_cell q1 1 rfl⟩) (fun hHeld => ?_); clear hK K
    (try simp only [Act.put, List.setIfInBounds_toArray, List.set_cons_zero, List.set_cons_succ])
    refine wpT_one (i := 6) rfl (by kernel_rfl) (fun K hK => ?_)
    have lz := hide (lt_of_cells zB)
    go_simp; go_at_call 11; refine (impl_MutateRow r_z0_27 r_z1_28 r_z2_29 k1).mono ?_; rw [HO.out]; rintro e w30 ⟨cs_h, bs_h, rfl, r_h, f_h, hb30⟩; have q0 := box_on q0 rfl hb30; have q1 := box_on q1 rfl hb30; have q2 := box_on q2 rfl hb30; have q3 := box_on q3 rfl hb30; have q4 := box_on q4 rfl hb30; have q5 := box_on q5 rfl hb30; have r_w := RowR.good.nxt hb30 r_w; have r_g := RowR.good.nxt hb30 r_g; have f_g := f_g.below hb30; have hw_w30 := nxt hw_w29 hb30; have r_h0 : RowR w30 bs_h cs_h ok := r_h; clear r_h; have r_h := r_h0; obtain ⟨hv1, hb1, hbs, rfl, _, hr1⟩ := r_h0; subst hbs; obtain ⟨hA1, hc1, rfl, _, _, _⟩ := hr1.use
    replace zB := blk_on zB hb30
    clear hHeld; refine hK.out _ _ (show _ from ⟨box_cell q0 0 rfl, box_cell q0 1 rfl, box_cell q0 2 rfl, box_cell q0 3 rfl, box_cell q1 0 rfl, box_cell q1 1 rfl⟩) (fun hHeld => ?_); clear hK K
    (try simp only [Act.put, List.setIfInBounds_toArray, List.set_cons_zero, List.set_cons_succ])
    refine wpT_take (i := 7) rfl (by kernel_rfl) (fun _ _ _ h => h) (Or.inl ⟨by rfl, fun w hSw => by (try dsimp only at hSw); first | (go_simp; done) | (go_simp; with_reducible rfl)⟩) (by assumption) ?_
    (try simp only [Act.put, List.setIfInBounds_toArray, List.set_cons_zero, List.set_cons_succ])
    refine wpT_take (i := 8) rfl (by kernel_rfl) (fun _ _ _ h => h) (Or.inl ⟨by rfl, fun w hSw => by (try dsimp only at hSw); first | (go_simp; done) | (go_simp; with_reducible rfl)⟩) (by assumption) ?_
    (try simp only [Act.put, List.setIfInBounds_toArray, List.set_cons_zero, List.set_cons_succ])
    refine wpT_take (i := 9) rfl (by kernel_rfl) (fun _ _ _ h => h) (Or.inl ⟨by rfl, fun w hSw => by (try dsimp only at hSw); first | (go_simp; done) | (go_simp; with_reducible rfl)⟩) (by assumption) ?_
    (try simp only [Act.put, List.setIfInBounds_toArray, List.set_cons_zero, List.set_cons_succ])
    refine wpT_one (i := 11) rfl (by kernel_rfl) (fun K hK => ?_)
    have zf := blk_free zB; have zc0 := blk_cells zB 0; have zc1 := blk_cells zB 1
    have HUs := ((Upd.refl [(World.heap w25).size] w30).set (p := ⟨(World.heap w25).size, 0, none⟩) (by simp) rfl (.int .i64 ok.id)).set (p := ⟨(World.heap w25).size, 1, none⟩) (by simp) rfl (.slice hA1 ok.cells.length hc1)
    have zF : (World.heap (World.setCell (World.setCell w30 ⟨(World.heap w25).size, 0, none⟩ (.int .i64 ok.id)) ⟨(World.heap w25).size, 1, none⟩ (.slice hA1 ok.cells.length hc1)))[(World.heap w25).size]? = some (.cells #[.int .i64 ok.id, .slice hA1 ok.cells.length hc1] 35 (0, 0)) := blk_set (blk_set zB 0 (.int .i64 ok.id)) 1 (.slice hA1 ok.cells.length hc1)
    go_simp
    replace q0 := box_upd q0 rfl HUs (fun hm => by have := lb_q0.out; simp at hm; omega)
    replace q1 := box_upd q1 rfl HUs (fun hm => by have := lb_q1.out; simp at hm; omega)
    replace q2 := box_upd q2 rfl HUs (fun hm => by have := lb_q2.out; simp at hm; omega)
    replace q3 := box_upd q3 rfl HUs (fun hm => by have := lb_q3.out; simp at hm; omega)
    replace q4 := box_upd q4 rfl HUs (fun hm => by have := lb_q4.out; simp at hm; omega)
    replace q5 := box_upd q5 rfl HUs (fun hm => by have := lb_q5.out; simp at hm; omega)
    replace r_w := RowR.good.upd r_w HUs (fun b hb hm => by have := lr_r_w.out b hb; simp at hm; omega)
    replace r_g := RowR.good.upd r_g HUs (fun b hb hm => by have := lr_r_g.out b hb; simp at hm; omega)
    replace r_h := RowR.good.upd r_h HUs (fun b hb hm => by have := (f_h.2 b hb).1; have := lz.out; simp at hm; omega)
    replace f_g := f_g.upd HUs
    replace f_h := f_h.upd HUs
    have hw_wH := (hw_w30.setCell (p := ⟨(World.heap w25).size, 0, none⟩) lw.out (.int .i64 ok.id)).setCell (p := ⟨(World.heap w25).size, 1, none⟩) lw.out (.slice hA1 ok.cells.length hc1)
    clear hHeld; refine hK.out _ (World.setCell (World.setCell w30 ⟨(World.heap w25).size, 0, none⟩ (.int .i64 ok.id)) ⟨(World.heap w25).size, 1, none⟩ (.slice hA1 ok.cells.length hc1)) (show _ from ⟨box_cell q0 0 rfl, box_cell q0 1 rfl, box_cell q0 2 rfl, box_cell q0 3 rfl, box_cell q1 0 rfl, box_cell q1 1 rfl⟩) (fun hHeld => ?_); clear hK K
    (try simp only [Act.put, List.setIfInBounds_toArray, List.set_cons_zero, List.set_cons_succ])
    refine wpT_done (by kernel_rfl) ?_
    simp only [List.drop_succ_cons, List.drop_zero]
    clear hHeld HUs zB zf zc0 zc1
    generalize (World.setCell (World.setCell w30 ⟨(World.heap w25).size, 0, none⟩ (.int .i64 ok.id)) ⟨(World.heap w25).size, 1, none⟩ (.slice hA1 ok.cells.length hc1)) = wH at zF hw_wH q0 q1 q2 q3 q4 q5 r_w r_g r_h f_g f_h ⊢
    obtain ⟨obh, hobh⟩ : ∃ ob, (World.heap w25).size = ob := ⟨_, rfl⟩; rw [hobh] at zF ⊢; have HOBh := hide hobh; clear hobh
    have q6 := blk_cells zF; clear zF
    all_goals
      go_wp2_with fail
      refine (eqRow (Below.refl _ _) r_h r_w).mono ?_; rintro e w31 ⟨rfl, hb31⟩; have q0 := box_on q0 rfl hb31; have q1 := box_on q1 rfl hb31; have q2 := box_on q2 rfl hb31; have q3 := box_on q3 rfl hb31; have q4 := box_on q4 rfl hb31; have q5 := box_on q5 rfl hb31; have q6 := box_on q6 rfl hb31; have r_w := RowR.good.nxt hb31 r_w; have r_g := RowR.good.nxt hb31 r_g; have r_h := RowR.good.nxt hb31 r_h; have f_g := f_g.below hb31; have hw_w31 := nxt hw_wH hb31
      clear r_h
      go_wp2_with fail
      refine (heldVRow (Below.refl _ _) r_g (by omega) (by omega)).mono ?_; rintro e w32 ⟨rfl, hb32⟩; have q0 := box_on q0 rfl hb32; have q1 := box_on q1 rfl hb32; have q2 := box_on q2 rfl hb32; have q3 := box_on q3 rfl hb32; have q4 := box_on q4 rfl hb32; have q5 := box_on q5 rfl hb32; have q6 := box_on q6 rfl hb32; have r_w := RowR.good.nxt hb32 r_w; have r_g := RowR.good.nxt hb32 r_g; have f_g := f_g.below hb32; have hw_w32 := nxt hw_w31 hb32
      go_wp2_with fail
      go_ret
      exact ⟨rfl, hw_w32⟩
end Go.Proofs.YthglchopajdmhaaGreat
