/- The walks of laws: PutRow. No statement is proved here; no conditions. Written by a program (genlaw.py). -/
import Derived.Test.YtfkpllkgganejaaPutRow
import Derived.Test.YtfkpllkgganejaaBox
import Derived.Test.YtfkpllkgganejaaSz
import Derived.Test.YtfkpllkgganejaaTo
import Derived.Test.YtfkpllkgganejaaEq
import Derived.Test.YtfkpllkgganejaaMarkV
import Derived.Test.YtfkpllkgganejaaHeld
import Derived.Deep.RegionHeld3
namespace Go.Proofs.Ytfkpllkgganejaa
open Go.ChangeShapes Go.WideShapes Go.ChangeAt Go.RowKit Go.Deep
set_option maxRecDepth 100000
set_option linter.unusedVariables false
set_option linter.unusedSimpArgs false

set_option maxHeartbeats 60000000 in
theorem lawPutRow {W : World} {bs0 : List Nat} {cs0 : List Value} {a0 : Store} {a1 : Int} {bs2 : List Nat} {cs2 : List Value} {a2 : Row} (h0 : StoreR W bs0 cs0 a0) (h1 : (Lit.int .i64 a1).wf = true) (h2 : RowR W bs2 cs2 a2) :
    Calls Try.prog 3 #[.agg cs0.toArray, .int .i64 a1, .agg cs2.toArray] W fun e w' => e = .returned (.bool true) ∧ Below W.heap.size W w' := by
  have H0 := h0
  have H2 := h2
  obtain ⟨p0v0, p0b0, rfl, rfl, hf0, p0r0⟩ := h0
  clear p0r0
  obtain ⟨p2v1, p2b1, rfl, rfl, hf2, p2r1⟩ := h2
  clear p2r1
  have wf1 := wf_bounds h1
  go_enter Try.func3, Try.ntmps3
  go_wp2_with fail
  by_cases n0 : (1048576 : Int) - (Store.bulk a0 : Int) < 0
  · refine (szStore (((Below.refl W.heap.size W).alloc (Nat.le_refl _) (.cells #[p0v0, .int .i64 a0.next] 24)).alloc (by simp; try omega) (.cells #[.int .i64 a2.id, p2v1] 27)) H0 (by omega) (by omega)).mono ?_; rw [clip_neg (by omega)]; rintro e w' ⟨rfl, hb'⟩
    go_wp2_with fail
    go_ret
    exact ⟨rfl, nxt (((Below.refl W.heap.size W).alloc (Nat.le_refl _) (.cells #[p0v0, .int .i64 a0.next] 24)).alloc (by simp; try omega) (.cells #[.int .i64 a2.id, p2v1] 27)) hb'⟩
  refine (szStore (((Below.refl W.heap.size W).alloc (Nat.le_refl _) (.cells #[p0v0, .int .i64 a0.next] 24)).alloc (by simp; try omega) (.cells #[.int .i64 a2.id, p2v1] 27)) H0 (by omega) (by omega)).mono ?_; rw [clip_pos (by omega)]; rintro e w1 ⟨rfl, hb1⟩; have st1 := nxt' (((Below.refl W.heap.size W).alloc (Nat.le_refl _) (.cells #[p0v0, .int .i64 a0.next] 24)).alloc (by simp; try omega) (.cells #[.int .i64 a2.id, p2v1] 27)) hb1; obtain ⟨q0, q1⟩ := two_at hb1; have hw_w1 := nxt (Below.refl W.heap.size W) st1
  have k0 : Store.bulk a0 ≤ 1048576 := by omega
  go_wp2_with fail
  by_cases n2 : (1048576 : Int) - (Store.bulk a0 : Int) - (Row.bulk a2 : Int) < 0
  · refine (szRow hw_w1 H2 (by omega) (by omega)).mono ?_; rw [clip_neg (by omega)]; rintro e w' ⟨rfl, hb'⟩
    go_wp2_with fail
    go_ret
    exact ⟨rfl, nxt hw_w1 hb'⟩
  refine (szRow hw_w1 H2 (by omega) (by omega)).mono ?_; rw [clip_pos (by omega)]; rintro e w2 ⟨rfl, hb2⟩; have q0 := box_on q0 rfl hb2; have q1 := box_on q1 rfl hb2; have hw_w2 := nxt hw_w1 hb2
  have k2 : Row.bulk a2 ≤ 1048576 := by omega
  obtain ⟨ok, co, hok⟩ : ∃ ok co, putAns a0 a1 a2 = (ok, co) := ⟨_, _, rfl⟩
  have HO := hide hok
  have qq1 : (ok != ok) = false := by simp
  have qq2 : (co != co) = false := by simp
  clear hok
  have qi := hni
  have hbd := putAns_wt k0 k2 a1
  rw [HO.out] at hbd
  have hbd : (Store.wtV ok : Int) ≤ 1073741824 := by have := hbd; (try simp only [] at this); omega
  go_wp2_with fail
  refine wp_region_tail (fun w' => w'.cell? ⟨W.heap.size, 0, none⟩ = some (p0v0) ∧ w'.cell? ⟨W.heap.size, 1, none⟩ = some (.int .i64 a0.next) ∧ w'.cell? ⟨W.heap.size + 1, 0, none⟩ = some (.int .i64 a2.id) ∧ w'.cell? ⟨W.heap.size + 1, 1, none⟩ = some (p2v1)) 11 (by kernel_rfl) (by decide) (show _ from ⟨box_cell q0 0 rfl, box_cell q0 1 rfl, box_cell q1 0 rfl, box_cell q1 1 rfl⟩) (fun hHeld => ?_)
  refine wpT_take (i := 0) rfl (by kernel_rfl) (fun _ _ _ h => h) (Or.inl ⟨by rfl, fun w hSw => by (try dsimp only at hSw); first | (go_simp; done) | (go_simp; with_reducible rfl)⟩) (by assumption) ?_
  (try simp only [Act.put, List.setIfInBounds_toArray, List.set_cons_zero, List.set_cons_succ])
  refine wpT_take (i := 2) rfl (by kernel_rfl) (fun _ _ _ h => h) (Or.inl ⟨by rfl, fun w hSw => by (try dsimp only at hSw); first | (go_simp; done) | (go_simp; with_reducible rfl)⟩) (by assumption) ?_
  (try simp only [Act.put, List.setIfInBounds_toArray, List.set_cons_zero, List.set_cons_succ])
  refine wpT_take (i := 3) rfl (by kernel_rfl) (fun _ _ _ h => h) (Or.inl ⟨by rfl, fun w hSw => by (try dsimp only at hSw); first | (go_simp; done) | (go_simp; with_reducible rfl)⟩) (by assumption) ?_
  (try simp only [Act.put, List.setIfInBounds_toArray, List.set_cons_zero, List.set_cons_succ])
  refine wpT_two (i := 1) (j := 9) rfl rfl (by kernel_rfl) (fun K hK => ?_) (fun K hK => ?_)
  go_simp; go_at_call 7; refine (toStore hw_w2.drew H0 k0).mono ?_; rintro e w3 ⟨cs_s0, bs_s0, rfl, r_s0, f_s0, hb3⟩; have hd3 := nxt (Below.refl _ _).drew hb3; have q0 := box_on q0 rfl hd3; have q1 := box_on q1 rfl hd3; have hw_w3 := nxt hw_w2 hd3; have r_s0_3 := r_s0; obtain ⟨s0v0, s0b0, rfl, rfl, _, s0r0⟩ := r_s0; obtain ⟨s0A0, s0c0, rfl, _, _, _⟩ := s0r0.use
  clear hHeld; refine hK.out _ _ (show _ from ⟨box_cell q0 0 rfl, box_cell q0 1 rfl, box_cell q1 0 rfl, box_cell q1 1 rfl⟩) (fun hHeld => ?_); clear hK K
  (try simp only [Act.put, List.setIfInBounds_toArray, List.set_cons_zero, List.set_cons_succ])
  refine wpT_two (i := 4) (j := 9) rfl rfl (by kernel_rfl) (fun K hK => ?_) (fun K hK => ?_)
  go_simp; go_at_call 8; refine (toRow hw_w3 H2 k2).mono ?_; rintro e w4 ⟨cs_s2, bs_s2, rfl, r_s2, f_s2, hb4⟩; have q0 := box_on q0 rfl hb4; have q1 := box_on q1 rfl hb4; have r_s0_3 := StoreR.good.nxt hb4 r_s0_3; have hw_w4 := nxt hw_w3 hb4; have r_s2_4 := r_s2; obtain ⟨s2v1, s2b1, rfl, rfl, _, s2r1⟩ := r_s2; obtain ⟨s2A1, s2c1, rfl, _, _, _⟩ := s2r1.use
  clear hHeld; refine hK.out _ _ (show _ from ⟨box_cell q0 0 rfl, box_cell q0 1 rfl, box_cell q1 0 rfl, box_cell q1 1 rfl⟩) (fun hHeld => ?_); clear hK K
  (try simp only [Act.put, List.setIfInBounds_toArray, List.set_cons_zero, List.set_cons_succ])
  refine wpT_two (i := 5) (j := 9) rfl rfl (by kernel_rfl) (fun K hK => ?_) (fun K hK => ?_)
  go_simp; go_at_call 6; refine (spec_PutRow r_s0_3 a1 r_s2_4 k0 k2).mono ?_; rw [HO.out]; rintro e w5 ⟨cs_w, bs_w, rfl, r_w, f_w, hb5⟩; have q0 := box_on q0 rfl hb5; have q1 := box_on q1 rfl hb5; have hw_w5 := nxt hw_w4 hb5; have r_w0 : StoreR w5 bs_w cs_w ok := r_w; clear r_w; have r_w := r_w0; obtain ⟨wv0, wb0, wbs, rfl, _, wr0⟩ := r_w0; subst wbs; obtain ⟨wA0, wc0, rfl, _, _, _⟩ := wr0.use
  clear hHeld; refine hK.out _ _ (show _ from ⟨box_cell q0 0 rfl, box_cell q0 1 rfl, box_cell q1 0 rfl, box_cell q1 1 rfl⟩) (fun hHeld => ?_); clear hK K
  (try simp only [Act.put, List.setIfInBounds_toArray, List.set_cons_zero, List.set_cons_succ])
  refine wpT_take (i := 6) rfl (by kernel_rfl) (fun _ _ _ h => h) (Or.inl ⟨by rfl, fun w hSw => by (try dsimp only at hSw); first | (go_simp; done) | (go_simp; with_reducible rfl)⟩) (by assumption) ?_
  (try simp only [Act.put, List.setIfInBounds_toArray, List.set_cons_zero, List.set_cons_succ])
  refine wpT_take (i := 7) rfl (by kernel_rfl) (fun _ _ _ h => h) (Or.inl ⟨by rfl, fun w hSw => by (try dsimp only at hSw); first | (go_simp; done) | (go_simp; with_reducible rfl)⟩) (by assumption) ?_
  (try simp only [Act.put, List.setIfInBounds_toArray, List.set_cons_zero, List.set_cons_succ])
  refine wpT_take (i := 8) rfl (by kernel_rfl) (fun _ _ _ h => h) (Or.inl ⟨by rfl, fun w hSw => by (try dsimp only at hSw); first | (go_simp; done) | (go_simp; with_reducible rfl)⟩) (by assumption) ?_
  (try simp only [Act.put, List.setIfInBounds_toArray, List.set_cons_zero, List.set_cons_succ])
  refine wpT_one (i := 9) rfl (by kernel_rfl) (fun K hK => ?_)
  have lb_q0 := hide (show W.heap.size < _ from World.block_lt_of_cell? _ ⟨W.heap.size, 0, none⟩ (box_cell q0 0 rfl))
  have lb_q1 := hide (show W.heap.size + 1 < _ from World.block_lt_of_cell? _ ⟨W.heap.size + 1, 0, none⟩ (box_cell q1 0 rfl))
  have lr_r_w := hide (StoreR.good.lt r_w)
  have lw := hide hw_w5.size
  go_simp
  have stz : Below (World.heap w5).size w5 (World.alloc w5 (.cells #[.slice none 0 0, .int .i64 0] 32)) := (Below.refl _ _).alloc (Nat.le_refl _) (.cells #[.slice none 0 0, .int .i64 0] 32)
  have zB : (World.heap (World.alloc w5 (.cells #[.slice none 0 0, .int .i64 0] 32)))[(World.heap w5).size]? = some (.cells #[.slice none 0 0, .int .i64 0] 32 (0, 0)) := blk_new w5 _ _
  clear hHeld; refine hK.out _ (World.alloc w5 (.cells #[.slice none 0 0, .int .i64 0] 32)) (show _ from ⟨cell_on (box_cell q0 0 rfl) stz, cell_on (box_cell q0 1 rfl) stz, cell_on (box_cell q1 0 rfl) stz, cell_on (box_cell q1 1 rfl) stz⟩) (fun hHeld => ?_); clear hK K
  (try simp only [Act.put, List.setIfInBounds_toArray, List.set_cons_zero, List.set_cons_succ])
  generalize World.alloc w5 (.cells #[.slice none 0 0, .int .i64 0] 32) = wz6 at stz zB hHeld ⊢
  replace q0 := box_on q0 rfl stz
  replace q1 := box_on q1 rfl stz
  replace r_w := StoreR.good.nxt stz r_w
  have hw_wz6 := nxt hw_w5 stz
  refine wpT_one (i := 10) rfl (by kernel_rfl) (fun K hK => ?_)
  have zf := blk_free zB; have zc0 := blk_cells zB 0; have zc1 := blk_cells zB 1
  have HUs := ((Upd.refl [(World.heap w5).size] wz6).set (p := ⟨(World.heap w5).size, 0, none⟩) (by simp) rfl (.slice wA0 ok.tables.length wc0)).set (p := ⟨(World.heap w5).size, 1, none⟩) (by simp) rfl (.int .i64 ok.next)
  have zF : (World.heap (World.setCell (World.setCell wz6 ⟨(World.heap w5).size, 0, none⟩ (.slice wA0 ok.tables.length wc0)) ⟨(World.heap w5).size, 1, none⟩ (.int .i64 ok.next)))[(World.heap w5).size]? = some (.cells #[.slice wA0 ok.tables.length wc0, .int .i64 ok.next] 32 (0, 0)) := blk_set (blk_set zB 0 (.slice wA0 ok.tables.length wc0)) 1 (.int .i64 ok.next)
  go_simp
  replace q0 := box_upd q0 rfl HUs (fun hm => by have := lb_q0.out; simp at hm; omega)
  replace q1 := box_upd q1 rfl HUs (fun hm => by have := lb_q1.out; simp at hm; omega)
  replace r_w := StoreR.good.upd r_w HUs (fun b hb hm => by have := lr_r_w.out b hb; simp at hm; omega)
  have hw_wF := (hw_wz6.setCell (p := ⟨(World.heap w5).size, 0, none⟩) lw.out (.slice wA0 ok.tables.length wc0)).setCell (p := ⟨(World.heap w5).size, 1, none⟩) lw.out (.int .i64 ok.next)
  clear hHeld; refine hK.out _ (World.setCell (World.setCell wz6 ⟨(World.heap w5).size, 0, none⟩ (.slice wA0 ok.tables.length wc0)) ⟨(World.heap w5).size, 1, none⟩ (.int .i64 ok.next)) (show _ from ⟨box_cell q0 0 rfl, box_cell q0 1 rfl, box_cell q1 0 rfl, box_cell q1 1 rfl⟩) (fun hHeld => ?_); clear hK K
  (try simp only [Act.put, List.setIfInBounds_toArray, List.set_cons_zero, List.set_cons_succ])
  refine wpT_done (by kernel_rfl) ?_
  simp only [List.drop_succ_cons, List.drop_zero]
  clear hHeld HUs zB zf zc0 zc1
  generalize (World.setCell (World.setCell wz6 ⟨(World.heap w5).size, 0, none⟩ (.slice wA0 ok.tables.length wc0)) ⟨(World.heap w5).size, 1, none⟩ (.int .i64 ok.next)) = wF at zF hw_wF q0 q1 r_w ⊢
  obtain ⟨obw, hobw⟩ : ∃ ob, (World.heap w5).size = ob := ⟨_, rfl⟩; rw [hobw] at zF ⊢; have HOBw := hide hobw; clear hobw
  have q2 := blk_cells zF; clear zF
  rotate_left 1
  have lb_q0 := hide (show W.heap.size < _ from World.block_lt_of_cell? _ ⟨W.heap.size, 0, none⟩ (box_cell q0 0 rfl))
  have lb_q1 := hide (show W.heap.size + 1 < _ from World.block_lt_of_cell? _ ⟨W.heap.size + 1, 0, none⟩ (box_cell q1 0 rfl))
  have lr_r_s0 := hide (StoreR.good.lt r_s0_3)
  have lr_r_s2 := hide (RowR.good.lt r_s2_4)
  have lw := hide hw_w4.size
  go_simp
  have stz : Below (World.heap w4).size w4 (World.alloc w4 (.cells #[.slice none 0 0, .int .i64 0] 32)) := (Below.refl _ _).alloc (Nat.le_refl _) (.cells #[.slice none 0 0, .int .i64 0] 32)
  have zB : (World.heap (World.alloc w4 (.cells #[.slice none 0 0, .int .i64 0] 32)))[(World.heap w4).size]? = some (.cells #[.slice none 0 0, .int .i64 0] 32 (0, 0)) := blk_new w4 _ _
  clear hHeld; refine hK.out _ (World.alloc w4 (.cells #[.slice none 0 0, .int .i64 0] 32)) (show _ from ⟨cell_on (box_cell q0 0 rfl) stz, cell_on (box_cell q0 1 rfl) stz, cell_on (box_cell q1 0 rfl) stz, cell_on (box_cell q1 1 rfl) stz⟩) (fun hHeld => ?_); clear hK K
  (try simp only [Act.put, List.setIfInBounds_toArray, List.set_cons_zero, List.set_cons_succ])
  generalize World.alloc w4 (.cells #[.slice none 0 0, .int .i64 0] 32) = wz5 at stz zB hHeld ⊢
  replace q0 := box_on q0 rfl stz
  replace q1 := box_on q1 rfl stz
  replace r_s0_3 := StoreR.good.nxt stz r_s0_3
  replace r_s2_4 := RowR.good.nxt stz r_s2_4
  have hw_wz5 := nxt hw_w4 stz
  refine wpT_one (i := 5) rfl (by kernel_rfl) (fun K hK => ?_)
  have lz := hide (lt_of_cells zB)
  go_simp; go_at_call 6; refine (spec_PutRow r_s0_3 a1 r_s2_4 k0 k2).mono ?_; rw [HO.out]; rintro e w6 ⟨cs_w, bs_w, rfl, r_w, f_w, hb6⟩; have q0 := box_on q0 rfl hb6; have q1 := box_on q1 rfl hb6; have hw_w6 := nxt hw_wz5 hb6; have r_w0 : StoreR w6 bs_w cs_w ok := r_w; clear r_w; have r_w := r_w0; obtain ⟨wv0, wb0, wbs, rfl, _, wr0⟩ := r_w0; subst wbs; obtain ⟨wA0, wc0, rfl, _, _, _⟩ := wr0.use
  replace zB := blk_on zB hb6
  clear hHeld; refine hK.out _ _ (show _ from ⟨box_cell q0 0 rfl, box_cell q0 1 rfl, box_cell q1 0 rfl, box_cell q1 1 rfl⟩) (fun hHeld => ?_); clear hK K
  (try simp only [Act.put, List.setIfInBounds_toArray, List.set_cons_zero, List.set_cons_succ])
  refine wpT_take (i := 6) rfl (by kernel_rfl) (fun _ _ _ h => h) (Or.inl ⟨by rfl, fun w hSw => by (try dsimp only at hSw); first | (go_simp; done) | (go_simp; with_reducible rfl)⟩) (by assumption) ?_
  (try simp only [Act.put, List.setIfInBounds_toArray, List.set_cons_zero, List.set_cons_succ])
  refine wpT_take (i := 7) rfl (by kernel_rfl) (fun _ _ _ h => h) (Or.inl ⟨by rfl, fun w hSw => by (try dsimp only at hSw); first | (go_simp; done) | (go_simp; with_reducible rfl)⟩) (by assumption) ?_
  (try simp only [Act.put, List.setIfInBounds_toArray, List.set_cons_zero, List.set_cons_succ])
  refine wpT_take (i := 8) rfl (by kernel_rfl) (fun _ _ _ h => h) (Or.inl ⟨by rfl, fun w hSw => by (try dsimp only at hSw); first | (go_simp; done) | (go_simp; with_reducible rfl)⟩) (by assumption) ?_
  (try simp only [Act.put, List.setIfInBounds_toArray, List.set_cons_zero, List.set_cons_succ])
  refine wpT_one (i := 10) rfl (by kernel_rfl) (fun K hK => ?_)
  have zf := blk_free zB; have zc0 := blk_cells zB 0; have zc1 := blk_cells zB 1
  have HUs := ((Upd.refl [(World.heap w4).size] w6).set (p := ⟨(World.heap w4).size, 0, none⟩) (by simp) rfl (.slice wA0 ok.tables.length wc0)).set (p := ⟨(World.heap w4).size, 1, none⟩) (by simp) rfl (.int .i64 ok.next)
  have zF : (World.heap (World.setCell (World.setCell w6 ⟨(World.heap w4).size, 0, none⟩ (.slice wA0 ok.tables.length wc0)) ⟨(World.heap w4).size, 1, none⟩ (.int .i64 ok.next)))[(World.heap w4).size]? = some (.cells #[.slice wA0 ok.tables.length wc0, .int .i64 ok.next] 32 (0, 0)) := blk_set (blk_set zB 0 (.slice wA0 ok.tables.length wc0)) 1 (.int .i64 ok.next)
  go_simp
  replace q0 := box_upd q0 rfl HUs (fun hm => by have := lb_q0.out; simp at hm; omega)
  replace q1 := box_upd q1 rfl HUs (fun hm => by have := lb_q1.out; simp at hm; omega)
  replace r_w := StoreR.good.upd r_w HUs (fun b hb hm => by have := f_w b hb; have := lz.out; simp at hm; omega)
  have hw_wF := (hw_w6.setCell (p := ⟨(World.heap w4).size, 0, none⟩) lw.out (.slice wA0 ok.tables.length wc0)).setCell (p := ⟨(World.heap w4).size, 1, none⟩) lw.out (.int .i64 ok.next)
  clear hHeld; refine hK.out _ (World.setCell (World.setCell w6 ⟨(World.heap w4).size, 0, none⟩ (.slice wA0 ok.tables.length wc0)) ⟨(World.heap w4).size, 1, none⟩ (.int .i64 ok.next)) (show _ from ⟨box_cell q0 0 rfl, box_cell q0 1 rfl, box_cell q1 0 rfl, box_cell q1 1 rfl⟩) (fun hHeld => ?_); clear hK K
  (try simp only [Act.put, List.setIfInBounds_toArray, List.set_cons_zero, List.set_cons_succ])
  refine wpT_done (by kernel_rfl) ?_
  simp only [List.drop_succ_cons, List.drop_zero]
  clear hHeld HUs zB zf zc0 zc1
  generalize (World.setCell (World.setCell w6 ⟨(World.heap w4).size, 0, none⟩ (.slice wA0 ok.tables.length wc0)) ⟨(World.heap w4).size, 1, none⟩ (.int .i64 ok.next)) = wF at zF hw_wF q0 q1 r_w ⊢
  obtain ⟨obw, hobw⟩ : ∃ ob, (World.heap w4).size = ob := ⟨_, rfl⟩; rw [hobw] at zF ⊢; have HOBw := hide hobw; clear hobw
  have q2 := blk_cells zF; clear zF
  rotate_left 1
  have lb_q0 := hide (show W.heap.size < _ from World.block_lt_of_cell? _ ⟨W.heap.size, 0, none⟩ (box_cell q0 0 rfl))
  have lb_q1 := hide (show W.heap.size + 1 < _ from World.block_lt_of_cell? _ ⟨W.heap.size + 1, 0, none⟩ (box_cell q1 0 rfl))
  have lr_r_s0 := hide (StoreR.good.lt r_s0_3)
  have lw := hide hw_w3.size
  go_simp
  have stz : Below (World.heap w3).size w3 (World.alloc w3 (.cells #[.slice none 0 0, .int .i64 0] 32)) := (Below.refl _ _).alloc (Nat.le_refl _) (.cells #[.slice none 0 0, .int .i64 0] 32)
  have zB : (World.heap (World.alloc w3 (.cells #[.slice none 0 0, .int .i64 0] 32)))[(World.heap w3).size]? = some (.cells #[.slice none 0 0, .int .i64 0] 32 (0, 0)) := blk_new w3 _ _
  clear hHeld; refine hK.out _ (World.alloc w3 (.cells #[.slice none 0 0, .int .i64 0] 32)) (show _ from ⟨cell_on (box_cell q0 0 rfl) stz, cell_on (box_cell q0 1 rfl) stz, cell_on (box_cell q1 0 rfl) stz, cell_on (box_cell q1 1 rfl) stz⟩) (fun hHeld => ?_); clear hK K
  (try simp only [Act.put, List.setIfInBounds_toArray, List.set_cons_zero, List.set_cons_succ])
  generalize World.alloc w3 (.cells #[.slice none 0 0, .int .i64 0] 32) = wz4 at stz zB hHeld ⊢
  replace q0 := box_on q0 rfl stz
  replace q1 := box_on q1 rfl stz
  replace r_s0_3 := StoreR.good.nxt stz r_s0_3
  have hw_wz4 := nxt hw_w3 stz
  refine wpT_one (i := 4) rfl (by kernel_rfl) (fun K hK => ?_)
  go_simp; go_at_call 8; refine (toRow hw_wz4 H2 k2).mono ?_; rintro e w5 ⟨cs_s2, bs_s2, rfl, r_s2, f_s2, hb5⟩; have q0 := box_on q0 rfl hb5; have q1 := box_on q1 rfl hb5; have r_s0_3 := StoreR.good.nxt hb5 r_s0_3; have hw_w5 := nxt hw_wz4 hb5; have r_s2_5 := r_s2; obtain ⟨s2v1, s2b1, rfl, rfl, _, s2r1⟩ := r_s2; obtain ⟨s2A1, s2c1, rfl, _, _, _⟩ := s2r1.use
  replace zB := blk_on zB hb5
  clear hHeld; refine hK.out _ _ (show _ from ⟨box_cell q0 0 rfl, box_cell q0 1 rfl, box_cell q1 0 rfl, box_cell q1 1 rfl⟩) (fun hHeld => ?_); clear hK K
  (try simp only [Act.put, List.setIfInBounds_toArray, List.set_cons_zero, List.set_cons_succ])
  refine wpT_one (i := 5) rfl (by kernel_rfl) (fun K hK => ?_)
  have lz := hide (lt_of_cells zB)
  go_simp; go_at_call 6; refine (spec_PutRow r_s0_3 a1 r_s2_5 k0 k2).mono ?_; rw [HO.out]; rintro e w6 ⟨cs_w, bs_w, rfl, r_w, f_w, hb6⟩; have q0 := box_on q0 rfl hb6; have q1 := box_on q1 rfl hb6; have hw_w6 := nxt hw_w5 hb6; have r_w0 : StoreR w6 bs_w cs_w ok := r_w; clear r_w; have r_w := r_w0; obtain ⟨wv0, wb0, wbs, rfl, _, wr0⟩ := r_w0; subst wbs; obtain ⟨wA0, wc0, rfl, _, _, _⟩ := wr0.use
  replace zB := blk_on zB hb6
  clear hHeld; refine hK.out _ _ (show _ from ⟨box_cell q0 0 rfl, box_cell q0 1 rfl, box_cell q1 0 rfl, box_cell q1 1 rfl⟩) (fun hHeld => ?_); clear hK K
  (try simp only [Act.put, List.setIfInBounds_toArray, List.set_cons_zero, List.set_cons_succ])
  refine wpT_take (i := 6) rfl (by kernel_rfl) (fun _ _ _ h => h) (Or.inl ⟨by rfl, fun w hSw => by (try dsimp only at hSw); first | (go_simp; done) | (go_simp; with_reducible rfl)⟩) (by assumption) ?_
  (try simp only [Act.put, List.setIfInBounds_toArray, List.set_cons_zero, List.set_cons_succ])
  refine wpT_take (i := 7) rfl (by kernel_rfl) (fun _ _ _ h => h) (Or.inl ⟨by rfl, fun w hSw => by (try dsimp only at hSw); first | (go_simp; done) | (go_simp; with_reducible rfl)⟩) (by assumption) ?_
  (try simp only [Act.put, List.setIfInBounds_toArray, List.set_cons_zero, List.set_cons_succ])
  refine wpT_take (i := 8) rfl (by kernel_rfl) (fun _ _ _ h => h) (Or.inl ⟨by rfl, fun w hSw => by (try dsimp only at hSw); first | (go_simp; done) | (go_simp; with_reducible rfl)⟩) (by assumption) ?_
  (try simp only [Act.put, List.setIfInBounds_toArray, List.set_cons_zero, List.set_cons_succ])
  refine wpT_one (i := 10) rfl (by kernel_rfl) (fun K hK => ?_)
  have zf := blk_free zB; have zc0 := blk_cells zB 0; have zc1 := blk_cells zB 1
  have HUs := ((Upd.refl [(World.heap w3).size] w6).set (p := ⟨(World.heap w3).size, 0, none⟩) (by simp) rfl (.slice wA0 ok.tables.length wc0)).set (p := ⟨(World.heap w3).size, 1, none⟩) (by simp) rfl (.int .i64 ok.next)
  have zF : (World.heap (World.setCell (World.setCell w6 ⟨(World.heap w3).size, 0, none⟩ (.slice wA0 ok.tables.length wc0)) ⟨(World.heap w3).size, 1, none⟩ (.int .i64 ok.next)))[(World.heap w3).size]? = some (.cells #[.slice wA0 ok.tables.length wc0, .int .i64 ok.next] 32 (0, 0)) := blk_set (blk_set zB 0 (.slice wA0 ok.tables.length wc0)) 1 (.int .i64 ok.next)
  go_simp
  replace q0 := box_upd q0 rfl HUs (fun hm => by have := lb_q0.out; simp at hm; omega)
  replace q1 := box_upd q1 rfl HUs (fun hm => by have := lb_q1.out; simp at hm; omega)
  replace r_w := StoreR.good.upd r_w HUs (fun b hb hm => by have := f_w b hb; have := lz.out; simp at hm; omega)
  have hw_wF := (hw_w6.setCell (p := ⟨(World.heap w3).size, 0, none⟩) lw.out (.slice wA0 ok.tables.length wc0)).setCell (p := ⟨(World.heap w3).size, 1, none⟩) lw.out (.int .i64 ok.next)
  clear hHeld; refine hK.out _ (World.setCell (World.setCell w6 ⟨(World.heap w3).size, 0, none⟩ (.slice wA0 ok.tables.length wc0)) ⟨(World.heap w3).size, 1, none⟩ (.int .i64 ok.next)) (show _ from ⟨box_cell q0 0 rfl, box_cell q0 1 rfl, box_cell q1 0 rfl, box_cell q1 1 rfl⟩) (fun hHeld => ?_); clear hK K
  (try simp only [Act.put, List.setIfInBounds_toArray, List.set_cons_zero, List.set_cons_succ])
  refine wpT_done (by kernel_rfl) ?_
  simp only [List.drop_succ_cons, List.drop_zero]
  clear hHeld HUs zB zf zc0 zc1
  generalize (World.setCell (World.setCell w6 ⟨(World.heap w3).size, 0, none⟩ (.slice wA0 ok.tables.length wc0)) ⟨(World.heap w3).size, 1, none⟩ (.int .i64 ok.next)) = wF at zF hw_wF q0 q1 r_w ⊢
  obtain ⟨obw, hobw⟩ : ∃ ob, (World.heap w3).size = ob := ⟨_, rfl⟩; rw [hobw] at zF ⊢; have HOBw := hide hobw; clear hobw
  have q2 := blk_cells zF; clear zF
  rotate_left 1
  have lb_q0 := hide (show W.heap.size < _ from World.block_lt_of_cell? _ ⟨W.heap.size, 0, none⟩ (box_cell q0 0 rfl))
  have lb_q1 := hide (show W.heap.size + 1 < _ from World.block_lt_of_cell? _ ⟨W.heap.size + 1, 0, none⟩ (box_cell q1 0 rfl))
  have lw := hide hw_w2.size
  go_simp
  have stz : Below (World.heap w2).size w2 (World.alloc (World.drew w2) (.cells #[.slice none 0 0, .int .i64 0] 32)) := (Below.refl _ _).drew.alloc (Nat.le_refl _) (.cells #[.slice none 0 0, .int .i64 0] 32)
  have zB : (World.heap (World.alloc (World.drew w2) (.cells #[.slice none 0 0, .int .i64 0] 32)))[(World.heap w2).size]? = some (.cells #[.slice none 0 0, .int .i64 0] 32 (0, 0)) := blk_new (World.drew w2) _ _
  clear hHeld; refine hK.out _ (World.alloc (World.drew w2) (.cells #[.slice none 0 0, .int .i64 0] 32)) (show _ from ⟨cell_on (box_cell q0 0 rfl) stz, cell_on (box_cell q0 1 rfl) stz, cell_on (box_cell q1 0 rfl) stz, cell_on (box_cell q1 1 rfl) stz⟩) (fun hHeld => ?_); clear hK K
  (try simp only [Act.put, List.setIfInBounds_toArray, List.set_cons_zero, List.set_cons_succ])
  generalize World.alloc (World.drew w2) (.cells #[.slice none 0 0, .int .i64 0] 32) = wz3 at stz zB hHeld ⊢
  replace q0 := box_on q0 rfl stz
  replace q1 := box_on q1 rfl stz
  have hw_wz3 := nxt hw_w2 stz
  refine wpT_one (i := 1) rfl (by kernel_rfl) (fun K hK => ?_)
  go_simp; go_at_call 7; refine (toStore hw_wz3 H0 k0).mono ?_; rintro e w4 ⟨cs_s0, bs_s0, rfl, r_s0, f_s0, hb4⟩; have q0 := box_on q0 rfl hb4; have q1 := box_on q1 rfl hb4; have hw_w4 := nxt hw_wz3 hb4; have r_s0_4 := r_s0; obtain ⟨s0v0, s0b0, rfl, rfl, _, s0r0⟩ := r_s0; obtain ⟨s0A0, s0c0, rfl, _, _, _⟩ := s0r0.use
  replace zB := blk_on zB hb4
  clear hHeld; refine hK.out _ _ (show _ from ⟨box_cell q0 0 rfl, box_cell q0 1 rfl, box_cell q1 0 rfl, box_cell q1 1 rfl⟩) (fun hHeld => ?_); clear hK K
  (try simp only [Act.put, List.setIfInBounds_toArray, List.set_cons_zero, List.set_cons_succ])
  refine wpT_one (i := 4) rfl (by kernel_rfl) (fun K hK => ?_)
  go_simp; go_at_call 8; refine (toRow hw_w4 H2 k2).mono ?_; rintro e w5 ⟨cs_s2, bs_s2, rfl, r_s2, f_s2, hb5⟩; have q0 := box_on q0 rfl hb5; have q1 := box_on q1 rfl hb5; have r_s0_4 := StoreR.good.nxt hb5 r_s0_4; have hw_w5 := nxt hw_w4 hb5; have r_s2_5 := r_s2; obtain ⟨s2v1, s2b1, rfl, rfl, _, s2r1⟩ := r_s2; obtain ⟨s2A1, s2c1, rfl, _, _, _⟩ := s2r1.use
  replace zB := blk_on zB hb5
  clear hHeld; refine hK.out _ _ (show _ from ⟨box_cell q0 0 rfl, box_cell q0 1 rfl, box_cell q1 0 rfl, box_cell q1 1 rfl⟩) (fun hHeld => ?_); clear hK K
  (try simp only [Act.put, List.setIfInBounds_toArray, List.set_cons_zero, List.set_cons_succ])
  refine wpT_one (i := 5) rfl (by kernel_rfl) (fun K hK => ?_)
  have lz := hide (lt_of_cells zB)
  go_simp; go_at_call 6; refine (spec_PutRow r_s0_4 a1 r_s2_5 k0 k2).mono ?_; rw [HO.out]; rintro e w6 ⟨cs_w, bs_w, rfl, r_w, f_w, hb6⟩; have q0 := box_on q0 rfl hb6; have q1 := box_on q1 rfl hb6; have hw_w6 := nxt hw_w5 hb6; have r_w0 : StoreR w6 bs_w cs_w ok := r_w; clear r_w; have r_w := r_w0; obtain ⟨wv0, wb0, wbs, rfl, _, wr0⟩ := r_w0; subst wbs; obtain ⟨wA0, wc0, rfl, _, _, _⟩ := wr0.use
  replace zB := blk_on zB hb6
  clear hHeld; refine hK.out _ _ (show _ from ⟨box_cell q0 0 rfl, box_cell q0 1 rfl, box_cell q1 0 rfl, box_cell q1 1 rfl⟩) (fun hHeld => ?_); clear hK K
  (try simp only [Act.put, List.setIfInBounds_toArray, List.set_cons_zero, List.set_cons_succ])
  refine wpT_take (i := 6) rfl (by kernel_rfl) (fun _ _ _ h => h) (Or.inl ⟨by rfl, fun w hSw => by (try dsimp only at hSw); first | (go_simp; done) | (go_simp; with_reducible rfl)⟩) (by assumption) ?_
  (try simp only [Act.put, List.setIfInBounds_toArray, List.set_cons_zero, List.set_cons_succ])
  refine wpT_take (i := 7) rfl (by kernel_rfl) (fun _ _ _ h => h) (Or.inl ⟨by rfl, fun w hSw => by (try dsimp only at hSw); first | (go_simp; done) | (go_simp; with_reducible rfl)⟩) (by assumption) ?_
  (try simp only [Act.put, List.setIfInBounds_toArray, List.set_cons_zero, List.set_cons_succ])
  refine wpT_take (i := 8) rfl (by kernel_rfl) (fun _ _ _ h => h) (Or.inl ⟨by rfl, fun w hSw => by (try dsimp only at hSw); first | (go_simp; done) | (go_simp; with_reducible rfl)⟩) (by assumption) ?_
  (try simp only [Act.put, List.setIfInBounds_toArray, List.set_cons_zero, List.set_cons_succ])
  refine wpT_one (i := 10) rfl (by kernel_rfl) (fun K hK => ?_)
  have zf := blk_free zB; have zc0 := blk_cells zB 0; have zc1 := blk_cells zB 1
  have HUs := ((Upd.refl [(World.heap w2).size] w6).set (p := ⟨(World.heap w2).size, 0, none⟩) (by simp) rfl (.slice wA0 ok.tables.length wc0)).set (p := ⟨(World.heap w2).size, 1, none⟩) (by simp) rfl (.int .i64 ok.next)
  have zF : (World.heap (World.setCell (World.setCell w6 ⟨(World.heap w2).size, 0, none⟩ (.slice wA0 ok.tables.length wc0)) ⟨(World.heap w2).size, 1, none⟩ (.int .i64 ok.next)))[(World.heap w2).size]? = some (.cells #[.slice wA0 ok.tables.length wc0, .int .i64 ok.next] 32 (0, 0)) := blk_set (blk_set zB 0 (.slice wA0 ok.tables.length wc0)) 1 (.int .i64 ok.next)
  go_simp
  replace q0 := box_upd q0 rfl HUs (fun hm => by have := lb_q0.out; simp at hm; omega)
  replace q1 := box_upd q1 rfl HUs (fun hm => by have := lb_q1.out; simp at hm; omega)
  replace r_w := StoreR.good.upd r_w HUs (fun b hb hm => by have := f_w b hb; have := lz.out; simp at hm; omega)
  have hw_wF := (hw_w6.setCell (p := ⟨(World.heap w2).size, 0, none⟩) lw.out (.slice wA0 ok.tables.length wc0)).setCell (p := ⟨(World.heap w2).size, 1, none⟩) lw.out (.int .i64 ok.next)
  clear hHeld; refine hK.out _ (World.setCell (World.setCell w6 ⟨(World.heap w2).size, 0, none⟩ (.slice wA0 ok.tables.length wc0)) ⟨(World.heap w2).size, 1, none⟩ (.int .i64 ok.next)) (show _ from ⟨box_cell q0 0 rfl, box_cell q0 1 rfl, box_cell q1 0 rfl, box_cell q1 1 rfl⟩) (fun hHeld => ?_); clear hK K
  (try simp only [Act.put, List.setIfInBounds_toArray, List.set_cons_zero, List.set_cons_succ])
  refine wpT_done (by kernel_rfl) ?_
  simp only [List.drop_succ_cons, List.drop_zero]
  clear hHeld HUs zB zf zc0 zc1
  generalize (World.setCell (World.setCell w6 ⟨(World.heap w2).size, 0, none⟩ (.slice wA0 ok.tables.length wc0)) ⟨(World.heap w2).size, 1, none⟩ (.int .i64 ok.next)) = wF at zF hw_wF q0 q1 r_w ⊢
  obtain ⟨obw, hobw⟩ : ∃ ob, (World.heap w2).size = ob := ⟨_, rfl⟩; rw [hobw] at zF ⊢; have HOBw := hide hobw; clear hobw
  have q2 := blk_cells zF; clear zF
  all_goals
    have ob_x0_0 := hide (Nat.lt_of_lt_of_le (World.block_lt_of_cell? _ ⟨W.heap.size, 0, none⟩ (box_cell q0 0 rfl)) ((Below.refl wF.heap.size wF)).size)
    have ob_x0_1 := hide (Nat.lt_of_lt_of_le (World.block_lt_of_cell? _ ⟨W.heap.size + 1, 0, none⟩ (box_cell q1 0 rfl)) ((Below.refl wF.heap.size wF)).size)
    have ob_x0_2 := hide (Nat.lt_of_lt_of_le (World.block_lt_of_cell? _ ⟨obw, 0, none⟩ (box_cell q2 0 rfl)) ((Below.refl wF.heap.size wF)).size)
    have od_x0_r_w := hide (StoreR.good.lt r_w)
    have lo_x0 := hide (hw_wF).size
    go_wp2_with fail
    refine (toStore hw_wF H0 k0).mono ?_; rintro e w7 ⟨cs_x0, bs_x0, rfl, r_x0, f_x0, hb7⟩; have q0 := box_on q0 rfl hb7; have q1 := box_on q1 rfl hb7; have q2 := box_on q2 rfl hb7; have r_w := StoreR.good.nxt hb7 r_w; have hw_w7 := nxt hw_wF hb7; have r_x0_7 := r_x0; obtain ⟨x0v0, x0b0, rfl, rfl, _, x0r0⟩ := r_x0; obtain ⟨x0A0, x0c0, rfl, _, _, _⟩ := x0r0.use
    have q0p := box_on q0 rfl ((Below.refl w7.heap.size w7).alloc (Nat.le_refl _) (.cells #[.slice x0A0 a0.tables.length x0c0, .int .i64 a0.next] 32))
    have q1p := box_on q1 rfl ((Below.refl w7.heap.size w7).alloc (Nat.le_refl _) (.cells #[.slice x0A0 a0.tables.length x0c0, .int .i64 a0.next] 32))
    have q2p := box_on q2 rfl ((Below.refl w7.heap.size w7).alloc (Nat.le_refl _) (.cells #[.slice x0A0 a0.tables.length x0c0, .int .i64 a0.next] 32))
    have ly_x0_3 := hide (StoreR.good.lt r_x0_7)
    have ob_x2_0 := hide (Nat.lt_of_lt_of_le (World.block_lt_of_cell? _ ⟨W.heap.size, 0, none⟩ (box_cell q0 0 rfl)) (((Below.refl w7.heap.size w7).alloc (Nat.le_refl _) (.cells #[.slice x0A0 a0.tables.length x0c0, .int .i64 a0.next] 32))).size)
    have ob_x2_1 := hide (Nat.lt_of_lt_of_le (World.block_lt_of_cell? _ ⟨W.heap.size + 1, 0, none⟩ (box_cell q1 0 rfl)) (((Below.refl w7.heap.size w7).alloc (Nat.le_refl _) (.cells #[.slice x0A0 a0.tables.length x0c0, .int .i64 a0.next] 32))).size)
    have ob_x2_2 := hide (Nat.lt_of_lt_of_le (World.block_lt_of_cell? _ ⟨obw, 0, none⟩ (box_cell q2 0 rfl)) (((Below.refl w7.heap.size w7).alloc (Nat.le_refl _) (.cells #[.slice x0A0 a0.tables.length x0c0, .int .i64 a0.next] 32))).size)
    have od_x2_r_w := hide (StoreR.good.lt (StoreR.good.nxt ((Below.refl w7.heap.size w7).alloc (Nat.le_refl _) (.cells #[.slice x0A0 a0.tables.length x0c0, .int .i64 a0.next] 32)) r_w))
    have od_x2_r_x0 := hide (StoreR.good.lt (StoreR.good.nxt ((Below.refl w7.heap.size w7).alloc (Nat.le_refl _) (.cells #[.slice x0A0 a0.tables.length x0c0, .int .i64 a0.next] 32)) r_x0_7))
    have lo_x2 := hide ((hw_w7.alloc (hw_w7.size) (.cells #[.slice x0A0 a0.tables.length x0c0, .int .i64 a0.next] 32))).size
    go_wp2_with fail
    refine (toRow (hw_w7.alloc (hw_w7.size) (.cells #[.slice x0A0 a0.tables.length x0c0, .int .i64 a0.next] 32)) H2 k2).mono ?_; rintro e w8 ⟨cs_x2, bs_x2, rfl, r_x2, f_x2, hb8⟩; have st8 := nxt' ((Below.refl w7.heap.size w7).alloc (Nat.le_refl _) (.cells #[.slice x0A0 a0.tables.length x0c0, .int .i64 a0.next] 32)) hb8; have q0 := box_on q0 rfl st8; have q1 := box_on q1 rfl st8; have q2 := box_on q2 rfl st8; have q3 := box_at hb8; have r_w := StoreR.good.nxt st8 r_w; have r_x0_7 := StoreR.good.nxt st8 r_x0_7; have f_x0 := f_x0.below st8; have hw_w8 := nxt hw_w7 st8; have r_x2_8 := r_x2; obtain ⟨x2v1, x2b1, rfl, rfl, _, x2r1⟩ := r_x2; obtain ⟨x2A1, x2c1, rfl, _, _, _⟩ := x2r1.use
    have q0p := box_on q0 rfl ((Below.refl w8.heap.size w8).alloc (Nat.le_refl _) (.cells #[.int .i64 a2.id, .slice x2A1 a2.cells.length x2c1] 38))
    have q1p := box_on q1 rfl ((Below.refl w8.heap.size w8).alloc (Nat.le_refl _) (.cells #[.int .i64 a2.id, .slice x2A1 a2.cells.length x2c1] 38))
    have q2p := box_on q2 rfl ((Below.refl w8.heap.size w8).alloc (Nat.le_refl _) (.cells #[.int .i64 a2.id, .slice x2A1 a2.cells.length x2c1] 38))
    have q3p := box_on q3 rfl ((Below.refl w8.heap.size w8).alloc (Nat.le_refl _) (.cells #[.int .i64 a2.id, .slice x2A1 a2.cells.length x2c1] 38))
    have ly_x0_4 := hide (StoreR.good.lt r_x0_7)
    have ly_x2_4 := hide (RowR.good.lt r_x2_8)
    have ob_g_0 := hide (Nat.lt_of_lt_of_le (World.block_lt_of_cell? _ ⟨W.heap.size, 0, none⟩ (box_cell q0 0 rfl)) (((Below.refl w8.heap.size w8).alloc (Nat.le_refl _) (.cells #[.int .i64 a2.id, .slice x2A1 a2.cells.length x2c1] 38))).size)
    have ob_g_1 := hide (Nat.lt_of_lt_of_le (World.block_lt_of_cell? _ ⟨W.heap.size + 1, 0, none⟩ (box_cell q1 0 rfl)) (((Below.refl w8.heap.size w8).alloc (Nat.le_refl _) (.cells #[.int .i64 a2.id, .slice x2A1 a2.cells.length x2c1] 38))).size)
    have ob_g_2 := hide (Nat.lt_of_lt_of_le (World.block_lt_of_cell? _ ⟨obw, 0, none⟩ (box_cell q2 0 rfl)) (((Below.refl w8.heap.size w8).alloc (Nat.le_refl _) (.cells #[.int .i64 a2.id, .slice x2A1 a2.cells.length x2c1] 38))).size)
    have ob_g_3 := hide (Nat.lt_of_lt_of_le (World.block_lt_of_cell? _ ⟨w7.heap.size, 0, none⟩ (box_cell q3 0 rfl)) (((Below.refl w8.heap.size w8).alloc (Nat.le_refl _) (.cells #[.int .i64 a2.id, .slice x2A1 a2.cells.length x2c1] 38))).size)
    have od_g_r_w := hide (StoreR.good.lt (StoreR.good.nxt ((Below.refl w8.heap.size w8).alloc (Nat.le_refl _) (.cells #[.int .i64 a2.id, .slice x2A1 a2.cells.length x2c1] 38)) r_w))
    have od_g_r_x0 := hide (StoreR.good.lt (StoreR.good.nxt ((Below.refl w8.heap.size w8).alloc (Nat.le_refl _) (.cells #[.int .i64 a2.id, .slice x2A1 a2.cells.length x2c1] 38)) r_x0_7))
    have od_g_r_x2 := hide (RowR.good.lt (RowR.good.nxt ((Below.refl w8.heap.size w8).alloc (Nat.le_refl _) (.cells #[.int .i64 a2.id, .slice x2A1 a2.cells.length x2c1] 38)) r_x2_8))
    have lo_g := hide ((hw_w8.alloc (hw_w8.size) (.cells #[.int .i64 a2.id, .slice x2A1 a2.cells.length x2c1] 38))).size
    go_wp2_with fail
    refine (impl_PutRow (StoreR.good.nxt ((Below.refl w8.heap.size w8).alloc (Nat.le_refl _) (.cells #[.int .i64 a2.id, .slice x2A1 a2.cells.length x2c1] 38)) r_x0_7) a1 (RowR.good.nxt ((Below.refl w8.heap.size w8).alloc (Nat.le_refl _) (.cells #[.int .i64 a2.id, .slice x2A1 a2.cells.length x2c1] 38)) r_x2_8) k0 k2).mono ?_; rw [HO.out]; rintro e w9 ⟨cs_g, bs_g, rfl, r_g, f_g, hb9⟩; have st9 := nxt' ((Below.refl w8.heap.size w8).alloc (Nat.le_refl _) (.cells #[.int .i64 a2.id, .slice x2A1 a2.cells.length x2c1] 38)) hb9; have q0 := box_on q0 rfl st9; have q1 := box_on q1 rfl st9; have q2 := box_on q2 rfl st9; have q3 := box_on q3 rfl st9; have q4 := box_at hb9; have r_w := StoreR.good.nxt st9 r_w; have r_x0_7 := StoreR.good.nxt st9 r_x0_7; have r_x2_8 := RowR.good.nxt st9 r_x2_8; have f_x0 := f_x0.below st9; have f_x2 := f_x2.below st9; have hw_w9 := nxt hw_w8 st9; have r_g0 : StoreR w9 bs_g cs_g ok := r_g; clear r_g; have r_g := r_g0; obtain ⟨gv0, gb0, gbs, rfl, _, gr0⟩ := r_g0; subst gbs; obtain ⟨gA0, gc0, rfl, _, _, _⟩ := gr0.use
    have q0p := box_on q0 rfl ((Below.refl w9.heap.size w9).alloc (Nat.le_refl _) (.cells #[.slice gA0 ok.tables.length gc0, .int .i64 ok.next] 32))
    have q1p := box_on q1 rfl ((Below.refl w9.heap.size w9).alloc (Nat.le_refl _) (.cells #[.slice gA0 ok.tables.length gc0, .int .i64 ok.next] 32))
    have q2p := box_on q2 rfl ((Below.refl w9.heap.size w9).alloc (Nat.le_refl _) (.cells #[.slice gA0 ok.tables.length gc0, .int .i64 ok.next] 32))
    have q3p := box_on q3 rfl ((Below.refl w9.heap.size w9).alloc (Nat.le_refl _) (.cells #[.slice gA0 ok.tables.length gc0, .int .i64 ok.next] 32))
    have q4p := box_on q4 rfl ((Below.refl w9.heap.size w9).alloc (Nat.le_refl _) (.cells #[.slice gA0 ok.tables.length gc0, .int .i64 ok.next] 32))
    have ly_x0_5 := hide (StoreR.good.lt r_x0_7)
    have ly_x2_5 := hide (RowR.good.lt r_x2_8)
    have ly_g_5 := hide (StoreR.good.lt r_g)
    go_wp2_with fail
    refine (eqStore (Below.refl _ _) (StoreR.good.nxt ((Below.refl w9.heap.size w9).alloc (Nat.le_refl _) (.cells #[.slice gA0 ok.tables.length gc0, .int .i64 ok.next] 32)) r_g) (StoreR.good.nxt ((Below.refl w9.heap.size w9).alloc (Nat.le_refl _) (.cells #[.slice gA0 ok.tables.length gc0, .int .i64 ok.next] 32)) r_w)).mono ?_; rintro e w10 ⟨rfl, hb10⟩; have st10 := nxt' ((Below.refl w9.heap.size w9).alloc (Nat.le_refl _) (.cells #[.slice gA0 ok.tables.length gc0, .int .i64 ok.next] 32)) hb10; have q0 := box_on q0 rfl st10; have q1 := box_on q1 rfl st10; have q2 := box_on q2 rfl st10; have q3 := box_on q3 rfl st10; have q4 := box_on q4 rfl st10; have q5 := box_at hb10; have r_w := StoreR.good.nxt st10 r_w; have r_x0_7 := StoreR.good.nxt st10 r_x0_7; have r_x2_8 := RowR.good.nxt st10 r_x2_8; have r_g := StoreR.good.nxt st10 r_g; have f_x0 := f_x0.below st10; have f_x2 := f_x2.below st10; have f_g := f_g.below st10; have hw_w10 := nxt hw_w9 st10
    go_wp2_with fail
    go_region_held3 (fun w' => (w'.cell? ⟨W.heap.size, 0, none⟩ = some (p0v0) ∧ w'.cell? ⟨W.heap.size, 1, none⟩ = some (.int .i64 a0.next)) ∧ (w'.cell? ⟨w7.heap.size, 0, none⟩ = some (.slice x0A0 a0.tables.length x0c0) ∧ w'.cell? ⟨w7.heap.size, 1, none⟩ = some (.int .i64 a0.next))) (first | exact ⟨⟨q0 0, q0 1⟩, ⟨q3 0, q3 1⟩⟩ | exact ⟨⟨cell_al (box_cell q0 0 rfl) _, cell_al (box_cell q0 1 rfl) _⟩, ⟨cell_al (box_cell q3 0 rfl) _, cell_al (box_cell q3 1 rfl) _⟩⟩)
      (first | (go_at_call 7; (with_reducible refine (toStore hw_w10.drew H0 k0).mono ?_); rintro e w11 ⟨cs_y0, bs_y0, rfl, r_y0, f_y0, hb11⟩; have hd11 := nxt (Below.refl _ _).drew hb11; have q0 := box_on q0 rfl hd11; have q1 := box_on q1 rfl hd11; have q2 := box_on q2 rfl hd11; have q3 := box_on q3 rfl hd11; have q4 := box_on q4 rfl hd11; have q5 := box_on q5 rfl hd11; have r_w := StoreR.good.nxt hd11 r_w; have r_x0_7 := StoreR.good.nxt hd11 r_x0_7; have r_x2_8 := RowR.good.nxt hd11 r_x2_8; have r_g := StoreR.good.nxt hd11 r_g; have f_x0 := f_x0.below hd11; have f_x2 := f_x2.below hd11; have f_g := f_g.below hd11; have hw_w11 := nxt hw_w10 hd11; have r_y0_11 := r_y0; obtain ⟨y0v0, y0b0, rfl, rfl, _, y0r0⟩ := r_y0; obtain ⟨y0A0, y0c0, rfl, _, _, _⟩ := y0r0.use) | (go_at_call 10; (with_reducible refine (eqStore (Below.refl _ _) r_x0_7 r_y0_11).mono ?_); rintro e w12 ⟨rfl, hb12⟩; have q0 := box_on q0 rfl hb12; have q1 := box_on q1 rfl hb12; have q2 := box_on q2 rfl hb12; have q3 := box_on q3 rfl hb12; have q4 := box_on q4 rfl hb12; have q5 := box_on q5 rfl hb12; have r_w := StoreR.good.nxt hb12 r_w; have r_x0_7 := StoreR.good.nxt hb12 r_x0_7; have r_x2_8 := RowR.good.nxt hb12 r_x2_8; have r_g := StoreR.good.nxt hb12 r_g; have r_y0_11 := StoreR.good.nxt hb12 r_y0_11; have f_x0 := f_x0.below hb12; have f_x2 := f_x2.below hb12; have f_g := f_g.below hb12; have hw_w12 := nxt hw_w11 hb12))
    clear r_y0_11
    go_wp2_with fail
    go_region_held3 (fun w' => (w'.cell? ⟨W.heap.size + 1, 0, none⟩ = some (.int .i64 a2.id) ∧ w'.cell? ⟨W.heap.size + 1, 1, none⟩ = some (p2v1)) ∧ (w'.cell? ⟨w8.heap.size, 0, none⟩ = some (.int .i64 a2.id) ∧ w'.cell? ⟨w8.heap.size, 1, none⟩ = some (.slice x2A1 a2.cells.length x2c1))) (first | exact ⟨⟨q1 0, q1 1⟩, ⟨q4 0, q4 1⟩⟩ | exact ⟨⟨cell_al (box_cell q1 0 rfl) _, cell_al (box_cell q1 1 rfl) _⟩, ⟨cell_al (box_cell q4 0 rfl) _, cell_al (box_cell q4 1 rfl) _⟩⟩)
      (first | (go_at_call 8; (with_reducible refine (toRow hw_w12.drew H2 k2).mono ?_); rintro e w13 ⟨cs_y2, bs_y2, rfl, r_y2, f_y2, hb13⟩; have hd13 := nxt (Below.refl _ _).drew hb13; have q0 := box_on q0 rfl hd13; have q1 := box_on q1 rfl hd13; have q2 := box_on q2 rfl hd13; have q3 := box_on q3 rfl hd13; have q4 := box_on q4 rfl hd13; have q5 := box_on q5 rfl hd13; have r_w := StoreR.good.nxt hd13 r_w; have r_x0_7 := StoreR.good.nxt hd13 r_x0_7; have r_x2_8 := RowR.good.nxt hd13 r_x2_8; have r_g := StoreR.good.nxt hd13 r_g; have f_x0 := f_x0.below hd13; have f_x2 := f_x2.below hd13; have f_g := f_g.below hd13; have hw_w13 := nxt hw_w12 hd13; have r_y2_13 := r_y2; obtain ⟨y2v1, y2b1, rfl, rfl, _, y2r1⟩ := r_y2; obtain ⟨y2A1, y2c1, rfl, _, _, _⟩ := y2r1.use) | (go_at_call 11; (with_reducible refine (eqRow (Below.refl _ _) r_x2_8 r_y2_13).mono ?_); rintro e w14 ⟨rfl, hb14⟩; have q0 := box_on q0 rfl hb14; have q1 := box_on q1 rfl hb14; have q2 := box_on q2 rfl hb14; have q3 := box_on q3 rfl hb14; have q4 := box_on q4 rfl hb14; have q5 := box_on q5 rfl hb14; have r_w := StoreR.good.nxt hb14 r_w; have r_x0_7 := StoreR.good.nxt hb14 r_x0_7; have r_x2_8 := RowR.good.nxt hb14 r_x2_8; have r_g := StoreR.good.nxt hb14 r_g; have r_y2_13 := RowR.good.nxt hb14 r_y2_13; have f_x0 := f_x0.below hb14; have f_x2 := f_x2.below hb14; have f_g := f_g.below hb14; have hw_w14 := nxt hw_w13 hb14))
    clear r_y2_13
    have wx0 := Store.wtV_le a0
    go_wp2_with fail
    refine (markVStore r_x0_7 f_x0 (by omega) (by omega)).mono ?_; rintro e w15 ⟨rfl, rm15, fm15, u15⟩; have q0 := box_upd q0 rfl u15 (fun hm => by have := (f_x0.2 _ hm).1; have := ob_x0_0.out; omega); have q1 := box_upd q1 rfl u15 (fun hm => by have := (f_x0.2 _ hm).1; have := ob_x0_1.out; omega); have q2 := box_upd q2 rfl u15 (fun hm => by have := (f_x0.2 _ hm).1; have := ob_x0_2.out; omega); have q3 := box_upd q3 rfl u15 (fun hm => by have := ly_x0_3.out _ hm; omega); have q4 := box_upd q4 rfl u15 (fun hm => by have := ly_x0_4.out _ hm; omega); have q5 := box_upd q5 rfl u15 (fun hm => by have := ly_x0_5.out _ hm; omega); have r_w := StoreR.good.upd r_w u15 (fun b hb hm => by have := od_x0_r_w.out b hb; have := (f_x0.2 b hm).1; omega); have r_x2_8 := RowR.good.upd r_x2_8 u15 (fun b hb hm => by have := od_x2_r_x0.out b hm; have := (f_x2.2 b hb).1; omega); have r_g := StoreR.good.upd r_g u15 (fun b hb hm => by have := od_g_r_x0.out b hm; have := (f_g.2 b hb).1; omega); have hw_w15 := hw_w14.trans (u15.below W.heap.size hw_w14.size (fun b hb => by have := (f_x0.2 b hb).1; have := lo_x0.out; omega)); have f_x2 := f_x2.upd u15; have f_g := f_g.upd u15
    clear rm15 fm15
    have wx2 := Row.wtV_le a2
    go_wp2_with fail
    refine (markVRow r_x2_8 f_x2 (by omega) (by omega)).mono ?_; rintro e w16 ⟨rfl, rm16, fm16, u16⟩; have q0 := box_upd q0 rfl u16 (fun hm => by have := (f_x2.2 _ hm).1; have := ob_x2_0.out; omega); have q1 := box_upd q1 rfl u16 (fun hm => by have := (f_x2.2 _ hm).1; have := ob_x2_1.out; omega); have q2 := box_upd q2 rfl u16 (fun hm => by have := (f_x2.2 _ hm).1; have := ob_x2_2.out; omega); have q3 := box_upd q3 rfl u16 (fun hm => by have := (f_x2.2 _ hm).1; simp at this; omega); have q4 := box_upd q4 rfl u16 (fun hm => by have := ly_x2_4.out _ hm; omega); have q5 := box_upd q5 rfl u16 (fun hm => by have := ly_x2_5.out _ hm; omega); have r_w := StoreR.good.upd r_w u16 (fun b hb hm => by have := od_x2_r_w.out b hb; have := (f_x2.2 b hm).1; omega); have r_g := StoreR.good.upd r_g u16 (fun b hb hm => by have := od_g_r_x2.out b hm; have := (f_g.2 b hb).1; omega); have hw_w16 := hw_w15.trans (u16.below W.heap.size hw_w15.size (fun b hb => by have := (f_x2.2 b hb).1; have := lo_x2.out; omega)); have f_g := f_g.upd u16
    clear rm16 fm16
    go_wp2_with fail
    refine (eqStore (Below.refl _ _) r_g r_w).mono ?_; rintro e w17 ⟨rfl, hb17⟩; have q0 := box_on q0 rfl hb17; have q1 := box_on q1 rfl hb17; have q2 := box_on q2 rfl hb17; have q3 := box_on q3 rfl hb17; have q4 := box_on q4 rfl hb17; have q5 := box_on q5 rfl hb17; have r_w := StoreR.good.nxt hb17 r_w; have r_g := StoreR.good.nxt hb17 r_g; have f_g := f_g.below hb17; have hw_w17 := nxt hw_w16 hb17
    go_wp2_with fail
    refine (markVStore r_g f_g (by omega) (by omega)).mono ?_; rintro e w18 ⟨rfl, rm18, fm18, u18⟩; have q0 := box_upd q0 rfl u18 (fun hm => by have := (f_g.2 _ hm).1; have := ob_g_0.out; omega); have q1 := box_upd q1 rfl u18 (fun hm => by have := (f_g.2 _ hm).1; have := ob_g_1.out; omega); have q2 := box_upd q2 rfl u18 (fun hm => by have := (f_g.2 _ hm).1; have := ob_g_2.out; omega); have q3 := box_upd q3 rfl u18 (fun hm => by have := (f_g.2 _ hm).1; have := ob_g_3.out; omega); have q4 := box_upd q4 rfl u18 (fun hm => by have := (f_g.2 _ hm).1; simp at this; omega); have q5 := box_upd q5 rfl u18 (fun hm => by have := ly_g_5.out _ hm; omega); have r_w := StoreR.good.upd r_w u18 (fun b hb hm => by have := od_g_r_w.out b hb; have := (f_g.2 b hm).1; omega); have hw_w18 := hw_w17.trans (u18.below W.heap.size hw_w17.size (fun b hb => by have := (f_g.2 b hb).1; have := lo_g.out; omega)); have r_g := rm18; have f_g := fm18
    go_wp2_with fail
    refine (heldVStore (Below.refl _ _) r_g (by omega) (by omega)).mono ?_; rintro e w19 ⟨rfl, hb19⟩; have q0 := box_on q0 rfl hb19; have q1 := box_on q1 rfl hb19; have q2 := box_on q2 rfl hb19; have q3 := box_on q3 rfl hb19; have q4 := box_on q4 rfl hb19; have q5 := box_on q5 rfl hb19; have r_w := StoreR.good.nxt hb19 r_w; have r_g := StoreR.good.nxt hb19 r_g; have f_g := f_g.below hb19; have hw_w19 := nxt hw_w18 hb19
    go_wp2_with fail
    refine wp_region_tail (fun w' => w'.cell? ⟨W.heap.size, 0, none⟩ = some (p0v0) ∧ w'.cell? ⟨W.heap.size, 1, none⟩ = some (.int .i64 a0.next) ∧ w'.cell? ⟨W.heap.size + 1, 0, none⟩ = some (.int .i64 a2.id) ∧ w'.cell? ⟨W.heap.size + 1, 1, none⟩ = some (p2v1)) 11 (by kernel_rfl) (by decide) (show _ from ⟨box_cell q0 0 rfl, box_cell q0 1 rfl, box_cell q1 0 rfl, box_cell q1 1 rfl⟩) (fun hHeld => ?_)
    refine wpT_take (i := 0) rfl (by kernel_rfl) (fun _ _ _ h => h) (Or.inl ⟨by rfl, fun w hSw => by (try dsimp only at hSw); first | (go_simp; done) | (go_simp; with_reducible rfl)⟩) (by assumption) ?_
    (try simp only [Act.put, List.setIfInBounds_toArray, List.set_cons_zero, List.set_cons_succ])
    refine wpT_take (i := 2) rfl (by kernel_rfl) (fun _ _ _ h => h) (Or.inl ⟨by rfl, fun w hSw => by (try dsimp only at hSw); first | (go_simp; done) | (go_simp; with_reducible rfl)⟩) (by assumption) ?_
    (try simp only [Act.put, List.setIfInBounds_toArray, List.set_cons_zero, List.set_cons_succ])
    refine wpT_take (i := 3) rfl (by kernel_rfl) (fun _ _ _ h => h) (Or.inl ⟨by rfl, fun w hSw => by (try dsimp only at hSw); first | (go_simp; done) | (go_simp; with_reducible rfl)⟩) (by assumption) ?_
    (try simp only [Act.put, List.setIfInBounds_toArray, List.set_cons_zero, List.set_cons_succ])
    refine wpT_two (i := 1) (j := 9) rfl rfl (by kernel_rfl) (fun K hK => ?_) (fun K hK => ?_)
    go_simp; go_at_call 7; refine (toStore hw_w19.drew H0 k0).mono ?_; rintro e w20 ⟨cs_z0, bs_z0, rfl, r_z0, f_z0, hb20⟩; have hd20 := nxt (Below.refl _ _).drew hb20; have q0 := box_on q0 rfl hd20; have q1 := box_on q1 rfl hd20; have q2 := box_on q2 rfl hd20; have q3 := box_on q3 rfl hd20; have q4 := box_on q4 rfl hd20; have q5 := box_on q5 rfl hd20; have r_w := StoreR.good.nxt hd20 r_w; have r_g := StoreR.good.nxt hd20 r_g; have f_g := f_g.below hd20; have hw_w20 := nxt hw_w19 hd20; have r_z0_20 := r_z0; obtain ⟨z0v0, z0b0, rfl, rfl, _, z0r0⟩ := r_z0; obtain ⟨z0A0, z0c0, rfl, _, _, _⟩ := z0r0.use
    clear hHeld; refine hK.out _ _ (show _ from ⟨box_cell q0 0 rfl, box_cell q0 1 rfl, box_cell q1 0 rfl, box_cell q1 1 rfl⟩) (fun hHeld => ?_); clear hK K
    (try simp only [Act.put, List.setIfInBounds_toArray, List.set_cons_zero, List.set_cons_succ])
    refine wpT_two (i := 4) (j := 9) rfl rfl (by kernel_rfl) (fun K hK => ?_) (fun K hK => ?_)
    go_simp; go_at_call 8; refine (toRow hw_w20 H2 k2).mono ?_; rintro e w21 ⟨cs_z2, bs_z2, rfl, r_z2, f_z2, hb21⟩; have q0 := box_on q0 rfl hb21; have q1 := box_on q1 rfl hb21; have q2 := box_on q2 rfl hb21; have q3 := box_on q3 rfl hb21; have q4 := box_on q4 rfl hb21; have q5 := box_on q5 rfl hb21; have r_w := StoreR.good.nxt hb21 r_w; have r_g := StoreR.good.nxt hb21 r_g; have r_z0_20 := StoreR.good.nxt hb21 r_z0_20; have f_g := f_g.below hb21; have hw_w21 := nxt hw_w20 hb21; have r_z2_21 := r_z2; obtain ⟨z2v1, z2b1, rfl, rfl, _, z2r1⟩ := r_z2; obtain ⟨z2A1, z2c1, rfl, _, _, _⟩ := z2r1.use
    clear hHeld; refine hK.out _ _ (show _ from ⟨box_cell q0 0 rfl, box_cell q0 1 rfl, box_cell q1 0 rfl, box_cell q1 1 rfl⟩) (fun hHeld => ?_); clear hK K
    (try simp only [Act.put, List.setIfInBounds_toArray, List.set_cons_zero, List.set_cons_succ])
    refine wpT_two (i := 5) (j := 9) rfl rfl (by kernel_rfl) (fun K hK => ?_) (fun K hK => ?_)
    go_simp; go_at_call 9; refine (impl_PutRow r_z0_20 a1 r_z2_21 k0 k2).mono ?_; rw [HO.out]; rintro e w22 ⟨cs_h, bs_h, rfl, r_h, f_h, hb22⟩; have q0 := box_on q0 rfl hb22; have q1 := box_on q1 rfl hb22; have q2 := box_on q2 rfl hb22; have q3 := box_on q3 rfl hb22; have q4 := box_on q4 rfl hb22; have q5 := box_on q5 rfl hb22; have r_w := StoreR.good.nxt hb22 r_w; have r_g := StoreR.good.nxt hb22 r_g; have f_g := f_g.below hb22; have hw_w22 := nxt hw_w21 hb22; have r_h0 : StoreR w22 bs_h cs_h ok := r_h; clear r_h; have r_h := r_h0; obtain ⟨hv0, hb0, hbs, rfl, _, hr0⟩ := r_h0; subst hbs; obtain ⟨hA0, hc0, rfl, _, _, _⟩ := hr0.use
    clear hHeld; refine hK.out _ _ (show _ from ⟨box_cell q0 0 rfl, box_cell q0 1 rfl, box_cell q1 0 rfl, box_cell q1 1 rfl⟩) (fun hHeld => ?_); clear hK K
    (try simp only [Act.put, List.setIfInBounds_toArray, List.set_cons_zero, List.set_cons_succ])
    refine wpT_take (i := 6) rfl (by kernel_rfl) (fun _ _ _ h => h) (Or.inl ⟨by rfl, fun w hSw => by (try dsimp only at hSw); first | (go_simp; done) | (go_simp; with_reducible rfl)⟩) (by assumption) ?_
    (try simp only [Act.put, List.setIfInBounds_toArray, List.set_cons_zero, List.set_cons_succ])
    refine wpT_take (i := 7) rfl (by kernel_rfl) (fun _ _ _ h => h) (Or.inl ⟨by rfl, fun w hSw => by (try dsimp only at hSw); first | (go_simp; done) | (go_simp; with_reducible rfl)⟩) (by assumption) ?_
    (try simp only [Act.put, List.setIfInBounds_toArray, List.set_cons_zero, List.set_cons_succ])
    refine wpT_take (i := 8) rfl (by kernel_rfl) (fun _ _ _ h => h) (Or.inl ⟨by rfl, fun w hSw => by (try dsimp only at hSw); first | (go_simp; done) | (go_simp; with_reducible rfl)⟩) (by assumption) ?_
    (try simp only [Act.put, List.setIfInBounds_toArray, List.set_cons_zero, List.set_cons_succ])
    refine wpT_one (i := 9) rfl (by kernel_rfl) (fun K hK => ?_)
    have lb_q0 := hide (show W.heap.size < _ from World.block_lt_of_cell? _ ⟨W.heap.size, 0, none⟩ (box_cell q0 0 rfl))
    have lb_q1 := hide (show W.heap.size + 1 < _ from World.block_lt_of_cell? _ ⟨W.heap.size + 1, 0, none⟩ (box_cell q1 0 rfl))
    have lb_q2 := hide (show obw < _ from World.block_lt_of_cell? _ ⟨obw, 0, none⟩ (box_cell q2 0 rfl))
    have lb_q3 := hide (show w7.heap.size < _ from World.block_lt_of_cell? _ ⟨w7.heap.size, 0, none⟩ (box_cell q3 0 rfl))
    have lb_q4 := hide (show w8.heap.size < _ from World.block_lt_of_cell? _ ⟨w8.heap.size, 0, none⟩ (box_cell q4 0 rfl))
    have lb_q5 := hide (show w9.heap.size < _ from World.block_lt_of_cell? _ ⟨w9.heap.size, 0, none⟩ (box_cell q5 0 rfl))
    have lr_r_w := hide (StoreR.good.lt r_w)
    have lr_r_g := hide (StoreR.good.lt r_g)
    have lr_r_h := hide (StoreR.good.lt r_h)
    have lw := hide hw_w22.size
    go_simp
    have stz : Below (World.heap w22).size w22 (World.alloc w22 (.cells #[.slice none 0 0, .int .i64 0] 32)) := (Below.refl _ _).alloc (Nat.le_refl _) (.cells #[.slice none 0 0, .int .i64 0] 32)
    have zB : (World.heap (World.alloc w22 (.cells #[.slice none 0 0, .int .i64 0] 32)))[(World.heap w22).size]? = some (.cells #[.slice none 0 0, .int .i64 0] 32 (0, 0)) := blk_new w22 _ _
    clear hHeld; refine hK.out _ (World.alloc w22 (.cells #[.slice none 0 0, .int .i64 0] 32)) (show _ from ⟨cell_on (box_cell q0 0 rfl) stz, cell_on (box_cell q0 1 rfl) stz, cell_on (box_cell q1 0 rfl) stz, cell_on (box_cell q1 1 rfl) stz⟩) (fun hHeld => ?_); clear hK K
    (try simp only [Act.put, List.setIfInBounds_toArray, List.set_cons_zero, List.set_cons_succ])
    generalize World.alloc w22 (.cells #[.slice none 0 0, .int .i64 0] 32) = wz23 at stz zB hHeld ⊢
    replace q0 := box_on q0 rfl stz
    replace q1 := box_on q1 rfl stz
    replace q2 := box_on q2 rfl stz
    replace q3 := box_on q3 rfl stz
    replace q4 := box_on q4 rfl stz
    replace q5 := box_on q5 rfl stz
    replace r_w := StoreR.good.nxt stz r_w
    replace r_g := StoreR.good.nxt stz r_g
    replace r_h := StoreR.good.nxt stz r_h
    replace f_g := f_g.below stz
    replace f_h := f_h.below stz
    have hw_wz23 := nxt hw_w22 stz
    refine wpT_one (i := 10) rfl (by kernel_rfl) (fun K hK => ?_)
    have zf := blk_free zB; have zc0 := blk_cells zB 0; have zc1 := blk_cells zB 1
    have HUs := ((Upd.refl [(World.heap w22).size] wz23).set (p := ⟨(World.heap w22).size, 0, none⟩) (by simp) rfl (.slice hA0 ok.tables.length hc0)).set (p := ⟨(World.heap w22).size, 1, none⟩) (by simp) rfl (.int .i64 ok.next)
    have zF : (World.heap (World.setCell (World.setCell wz23 ⟨(World.heap w22).size, 0, none⟩ (.slice hA0 ok.tables.length hc0)) ⟨(World.heap w22).size, 1, none⟩ (.int .i64 ok.next)))[(World.heap w22).size]? = some (.cells #[.slice hA0 ok.tables.length hc0, .int .i64 ok.next] 32 (0, 0)) := blk_set (blk_set zB 0 (.slice hA0 ok.tables.length hc0)) 1 (.int .i64 ok.next)
    go_simp
    replace q0 := box_upd q0 rfl HUs (fun hm => by have := lb_q0.out; simp at hm; omega)
    replace q1 := box_upd q1 rfl HUs (fun hm => by have := lb_q1.out; simp at hm; omega)
    replace q2 := box_upd q2 rfl HUs (fun hm => by have := lb_q2.out; simp at hm; omega)
    replace q3 := box_upd q3 rfl HUs (fun hm => by have := lb_q3.out; simp at hm; omega)
    replace q4 := box_upd q4 rfl HUs (fun hm => by have := lb_q4.out; simp at hm; omega)
    replace q5 := box_upd q5 rfl HUs (fun hm => by have := lb_q5.out; simp at hm; omega)
    replace r_w := StoreR.good.upd r_w HUs (fun b hb hm => by have := lr_r_w.out b hb; simp at hm; omega)
    replace r_g := StoreR.good.upd r_g HUs (fun b hb hm => by have := lr_r_g.out b hb; simp at hm; omega)
    replace r_h := StoreR.good.upd r_h HUs (fun b hb hm => by have := lr_r_h.out b hb; simp at hm; omega)
    replace f_g := f_g.upd HUs
    replace f_h := f_h.upd HUs
    have hw_wH := (hw_wz23.setCell (p := ⟨(World.heap w22).size, 0, none⟩) lw.out (.slice hA0 ok.tables.length hc0)).setCell (p := ⟨(World.heap w22).size, 1, none⟩) lw.out (.int .i64 ok.next)
    clear hHeld; refine hK.out _ (World.setCell (World.setCell wz23 ⟨(World.heap w22).size, 0, none⟩ (.slice hA0 ok.tables.length hc0)) ⟨(World.heap w22).size, 1, none⟩ (.int .i64 ok.next)) (show _ from ⟨box_cell q0 0 rfl, box_cell q0 1 rfl, box_cell q1 0 rfl, box_cell q1 1 rfl⟩) (fun hHeld => ?_); clear hK K
    (try simp only [Act.put, List.setIfInBounds_toArray, List.set_cons_zero, List.set_cons_succ])
    refine wpT_done (by kernel_rfl) ?_
    simp only [List.drop_succ_cons, List.drop_zero]
    clear hHeld HUs zB zf zc0 zc1
    generalize (World.setCell (World.setCell wz23 ⟨(World.heap w22).size, 0, none⟩ (.slice hA0 ok.tables.length hc0)) ⟨(World.heap w22).size, 1, none⟩ (.int .i64 ok.next)) = wH at zF hw_wH q0 q1 q2 q3 q4 q5 r_w r_g r_h f_g f_h ⊢
    obtain ⟨obh, hobh⟩ : ∃ ob, (World.heap w22).size = ob := ⟨_, rfl⟩; rw [hobh] at zF ⊢; have HOBh := hide hobh; clear hobh
    have q6 := blk_cells zF; clear zF
    rotate_left 1
    have lb_q0 := hide (show W.heap.size < _ from World.block_lt_of_cell? _ ⟨W.heap.size, 0, none⟩ (box_cell q0 0 rfl))
    have lb_q1 := hide (show W.heap.size + 1 < _ from World.block_lt_of_cell? _ ⟨W.heap.size + 1, 0, none⟩ (box_cell q1 0 rfl))
    have lb_q2 := hide (show obw < _ from World.block_lt_of_cell? _ ⟨obw, 0, none⟩ (box_cell q2 0 rfl))
    have lb_q3 := hide (show w7.heap.size < _ from World.block_lt_of_cell? _ ⟨w7.heap.size, 0, none⟩ (box_cell q3 0 rfl))
    have lb_q4 := hide (show w8.heap.size < _ from World.block_lt_of_cell? _ ⟨w8.heap.size, 0, none⟩ (box_cell q4 0 rfl))
    have lb_q5 := hide (show w9.heap.size < _ from World.block_lt_of_cell? _ ⟨w9.heap.size, 0, none⟩ (box_cell q5 0 rfl))
    have lr_r_w := hide (StoreR.good.lt r_w)
    have lr_r_g := hide (StoreR.good.lt r_g)
    have lr_r_z0 := hide (StoreR.good.lt r_z0_20)
    have lr_r_z2 := hide (RowR.good.lt r_z2_21)
    have lw := hide hw_w21.size
    go_simp
    have stz : Below (World.heap w21).size w21 (World.alloc w21 (.cells #[.slice none 0 0, .int .i64 0] 32)) := (Below.refl _ _).alloc (Nat.le_refl _) (.cells #[.slice none 0 0, .int .i64 0] 32)
    have zB : (World.heap (World.alloc w21 (.cells #[.slice none 0 0, .int .i64 0] 32)))[(World.heap w21).size]? = some (.cells #[.slice none 0 0, .int .i64 0] 32 (0, 0)) := blk_new w21 _ _
    clear hHeld; refine hK.out _ (World.alloc w21 (.cells #[.slice none 0 0, .int .i64 0] 32)) (show _ from ⟨cell_on (box_cell q0 0 rfl) stz, cell_on (box_cell q0 1 rfl) stz, cell_on (box_cell q1 0 rfl) stz, cell_on (box_cell q1 1 rfl) stz⟩) (fun hHeld => ?_); clear hK K
    (try simp only [Act.put, List.setIfInBounds_toArray, List.set_cons_zero, List.set_cons_succ])
    generalize World.alloc w21 (.cells #[.slice none 0 0, .int .i64 0] 32) = wz22 at stz zB hHeld ⊢
    replace q0 := box_on q0 rfl stz
    replace q1 := box_on q1 rfl stz
    replace q2 := box_on q2 rfl stz
    replace q3 := box_on q3 rfl stz
    replace q4 := box_on q4 rfl stz
    replace q5 := box_on q5 rfl stz
    replace r_w := StoreR.good.nxt stz r_w
    replace r_g := StoreR.good.nxt stz r_g
    replace r_z0_20 := StoreR.good.nxt stz r_z0_20
    replace r_z2_21 := RowR.good.nxt stz r_z2_21
    replace f_g := f_g.below stz
    have hw_wz22 := nxt hw_w21 stz
    refine wpT_one (i := 5) rfl (by kernel_rfl) (fun K hK => ?_)
    have lz := hide (lt_of_cells zB)
    go_simp; go_at_call 9; refine (impl_PutRow r_z0_20 a1 r_z2_21 k0 k2).mono ?_; rw [HO.out]; rintro e w23 ⟨cs_h, bs_h, rfl, r_h, f_h, hb23⟩; have q0 := box_on q0 rfl hb23; have q1 := box_on q1 rfl hb23; have q2 := box_on q2 rfl hb23; have q3 := box_on q3 rfl hb23; have q4 := box_on q4 rfl hb23; have q5 := box_on q5 rfl hb23; have r_w := StoreR.good.nxt hb23 r_w; have r_g := StoreR.good.nxt hb23 r_g; have f_g := f_g.below hb23; have hw_w23 := nxt hw_wz22 hb23; have r_h0 : StoreR w23 bs_h cs_h ok := r_h; clear r_h; have r_h := r_h0; obtain ⟨hv0, hb0, hbs, rfl, _, hr0⟩ := r_h0; subst hbs; obtain ⟨hA0, hc0, rfl, _, _, _⟩ := hr0.use
    replace zB := blk_on zB hb23
    clear hHeld; refine hK.out _ _ (show _ from ⟨box_cell q0 0 rfl, box_cell q0 1 rfl, box_cell q1 0 rfl, box_cell q1 1 rfl⟩) (fun hHeld => ?_); clear hK K
    (try simp only [Act.put, List.setIfInBounds_toArray, List.set_cons_zero, List.set_cons_succ])
    refine wpT_take (i := 6) rfl (by kernel_rfl) (fun _ _ _ h => h) (Or.inl ⟨by rfl, fun w hSw => by (try dsimp only at hSw); first | (go_simp; done) | (go_simp; with_reducible rfl)⟩) (by assumption) ?_
    (try simp only [Act.put, List.setIfInBounds_toArray, List.set_cons_zero, List.set_cons_succ])
    refine wpT_take (i := 7) rfl (by kernel_rfl) (fun _ _ _ h => h) (Or.inl ⟨by rfl, fun w hSw => by (try dsimp only at hSw); first | (go_simp; done) | (go_simp; with_reducible rfl)⟩) (by assumption) ?_
    (try simp only [Act.put, List.setIfInBounds_toArray, List.set_cons_zero, List.set_cons_succ])
    refine wpT_take (i := 8) rfl (by kernel_rfl) (fun _ _ _ h => h) (Or.inl ⟨by rfl, fun w hSw => by (try dsimp only at hSw); first | (go_simp; done) | (go_simp; with_reducible rfl)⟩) (by assumption) ?_
    (try simp only [Act.put, List.setIfInBounds_toArray, List.set_cons_zero, List.set_cons_succ])
    refine wpT_one (i := 10) rfl (by kernel_rfl) (fun K hK => ?_)
    have zf := blk_free zB; have zc0 := blk_cells zB 0; have zc1 := blk_cells zB 1
    have HUs := ((Upd.refl [(World.heap w21).size] w23).set (p := ⟨(World.heap w21).size, 0, none⟩) (by simp) rfl (.slice hA0 ok.tables.length hc0)).set (p := ⟨(World.heap w21).size, 1, none⟩) (by simp) rfl (.int .i64 ok.next)
    have zF : (World.heap (World.setCell (World.setCell w23 ⟨(World.heap w21).size, 0, none⟩ (.slice hA0 ok.tables.length hc0)) ⟨(World.heap w21).size, 1, none⟩ (.int .i64 ok.next)))[(World.heap w21).size]? = some (.cells #[.slice hA0 ok.tables.length hc0, .int .i64 ok.next] 32 (0, 0)) := blk_set (blk_set zB 0 (.slice hA0 ok.tables.length hc0)) 1 (.int .i64 ok.next)
    go_simp
    replace q0 := box_upd q0 rfl HUs (fun hm => by have := lb_q0.out; simp at hm; omega)
    replace q1 := box_upd q1 rfl HUs (fun hm => by have := lb_q1.out; simp at hm; omega)
    replace q2 := box_upd q2 rfl HUs (fun hm => by have := lb_q2.out; simp at hm; omega)
    replace q3 := box_upd q3 rfl HUs (fun hm => by have := lb_q3.out; simp at hm; omega)
    replace q4 := box_upd q4 rfl HUs (fun hm => by have := lb_q4.out; simp at hm; omega)
    replace q5 := box_upd q5 rfl HUs (fun hm => by have := lb_q5.out; simp at hm; omega)
    replace r_w := StoreR.good.upd r_w HUs (fun b hb hm => by have := lr_r_w.out b hb; simp at hm; omega)
    replace r_g := StoreR.good.upd r_g HUs (fun b hb hm => by have := lr_r_g.out b hb; simp at hm; omega)
    replace r_h := StoreR.good.upd r_h HUs (fun b hb hm => by have := (f_h.2 b hb).1; have := lz.out; simp at hm; omega)
    replace f_g := f_g.upd HUs
    replace f_h := f_h.upd HUs
    have hw_wH := (hw_w23.setCell (p := ⟨(World.heap w21).size, 0, none⟩) lw.out (.slice hA0 ok.tables.length hc0)).setCell (p := ⟨(World.heap w21).size, 1, none⟩) lw.out (.int .i64 ok.next)
    clear hHeld; refine hK.out _ (World.setCell (World.setCell w23 ⟨(World.heap w21).size, 0, none⟩ (.slice hA0 ok.tables.length hc0)) ⟨(World.heap w21).size, 1, none⟩ (.int .i64 ok.next)) (show _ from ⟨box_cell q0 0 rfl, box_cell q0 1 rfl, box_cell q1 0 rfl, box_cell q1 1 rfl⟩) (fun hHeld => ?_); clear hK K
    (try simp only [Act.put, List.setIfInBounds_toArray, List.set_cons_zero, List.set_cons_succ])
    refine wpT_done (by kernel_rfl) ?_
    simp only [List.drop_succ_cons, List.drop_zero]
    clear hHeld HUs zB zf zc0 zc1
    generalize (World.setCell (World.setCell w23 ⟨(World.heap w21).size, 0, none⟩ (.slice hA0 ok.tables.length hc0)) ⟨(World.heap w21).size, 1, none⟩ (.int .i64 ok.next)) = wH at zF hw_wH q0 q1 q2 q3 q4 q5 r_w r_g r_h f_g f_h ⊢
    obtain ⟨obh, hobh⟩ : ∃ ob, (World.heap w21).size = ob := ⟨_, rfl⟩; rw [hobh] at zF ⊢; have HOBh := hide hobh; clear hobh
    have q6 := blk_cells zF; clear zF
    rotate_left 1
    have lb_q0 := hide (show W.heap.size < _ from World.block_lt_of_cell? _ ⟨W.heap.size, 0, none⟩ (box_cell q0 0 rfl))
    have lb_q1 := hide (show W.heap.size + 1 < _ from World.block_lt_of_cell? _ ⟨W.heap.size + 1, 0, none⟩ (box_cell q1 0 rfl))
    have lb_q2 := hide (show obw < _ from World.block_lt_of_cell? _ ⟨obw, 0, none⟩ (box_cell q2 0 rfl))
    have lb_q3 := hide (show w7.heap.size < _ from World.block_lt_of_cell? _ ⟨w7.heap.size, 0, none⟩ (box_cell q3 0 rfl))
    have lb_q4 := hide (show w8.heap.size < _ from World.block_lt_of_cell? _ ⟨w8.heap.size, 0, none⟩ (box_cell q4 0 rfl))
    have lb_q5 := hide (show w9.heap.size < _ from World.block_lt_of_cell? _ ⟨w9.heap.size, 0, none⟩ (box_cell q5 0 rfl))
    have lr_r_w := hide (StoreR.good.lt r_w)
    have lr_r_g := hide (StoreR.good.lt r_g)
    have lr_r_z0 := hide (StoreR.good.lt r_z0_20)
    have lw := hide hw_w20.size
    go_simp
    have stz : Below (World.heap w20).size w20 (World.alloc w20 (.cells #[.slice none 0 0, .int .i64 0] 32)) := (Below.refl _ _).alloc (Nat.le_refl _) (.cells #[.slice none 0 0, .int .i64 0] 32)
    have zB : (World.heap (World.alloc w20 (.cells #[.slice none 0 0, .int .i64 0] 32)))[(World.heap w20).size]? = some (.cells #[.slice none 0 0, .int .i64 0] 32 (0, 0)) := blk_new w20 _ _
    clear hHeld; refine hK.out _ (World.alloc w20 (.cells #[.slice none 0 0, .int .i64 0] 32)) (show _ from ⟨cell_on (box_cell q0 0 rfl) stz, cell_on (box_cell q0 1 rfl) stz, cell_on (box_cell q1 0 rfl) stz, cell_on (box_cell q1 1 rfl) stz⟩) (fun hHeld => ?_); clear hK K
    (try simp only [Act.put, List.setIfInBounds_toArray, List.set_cons_zero, List.set_cons_succ])
    generalize World.alloc w20 (.cells #[.slice none 0 0, .int .i64 0] 32) = wz21 at stz zB hHeld ⊢
    replace q0 := box_on q0 rfl stz
    replace q1 := box_on q1 rfl stz
    replace q2 := box_on q2 rfl stz
    replace q3 := box_on q3 rfl stz
    replace q4 := box_on q4 rfl stz
    replace q5 := box_on q5 rfl stz
    replace r_w := StoreR.good.nxt stz r_w
    replace r_g := StoreR.good.nxt stz r_g
    replace r_z0_20 := StoreR.good.nxt stz r_z0_20
    replace f_g := f_g.below stz
    have hw_wz21 := nxt hw_w20 stz
    refine wpT_one (i := 4) rfl (by kernel_rfl) (fun K hK => ?_)
    go_simp; go_at_call 8; refine (toRow hw_wz21 H2 k2).mono ?_; rintro e w22 ⟨cs_z2, bs_z2, rfl, r_z2, f_z2, hb22⟩; have q0 := box_on q0 rfl hb22; have q1 := box_on q1 rfl hb22; have q2 := box_on q2 rfl hb22; have q3 := box_on q3 rfl hb22; have q4 := box_on q4 rfl hb22; have q5 := box_on q5 rfl hb22; have r_w := StoreR.good.nxt hb22 r_w; have r_g := StoreR.good.nxt hb22 r_g; have r_z0_20 := StoreR.good.nxt hb22 r_z0_20; have f_g := f_g.below hb22; have hw_w22 := nxt hw_wz21 hb22; have r_z2_22 := r_z2; obtain ⟨z2v1, z2b1, rfl, rfl, _, z2r1⟩ := r_z2; obtain ⟨z2A1, z2c1, rfl, _, _, _⟩ := z2r1.use
    replace zB := blk_on zB hb22
    clear hHeld; refine hK.out _ _ (show _ from ⟨box_cell q0 0 rfl, box_cell q0 1 rfl, box_cell q1 0 rfl, box_cell q1 1 rfl⟩) (fun hHeld => ?_); clear hK K
    (try simp only [Act.put, List.setIfInBounds_toArray, List.set_cons_zero, List.set_cons_succ])
    refine wpT_one (i := 5) rfl (by kernel_rfl) (fun K hK => ?_)
    have lz := hide (lt_of_cells zB)
    go_simp; go_at_call 9; refine (impl_PutRow r_z0_20 a1 r_z2_22 k0 k2).mono ?_; rw [HO.out]; rintro e w23 ⟨cs_h, bs_h, rfl, r_h, f_h, hb23⟩; have q0 := box_on q0 rfl hb23; have q1 := box_on q1 rfl hb23; have q2 := box_on q2 rfl hb23; have q3 := box_on q3 rfl hb23; have q4 := box_on q4 rfl hb23; have q5 := box_on q5 rfl hb23; have r_w := StoreR.good.nxt hb23 r_w; have r_g := StoreR.good.nxt hb23 r_g; have f_g := f_g.below hb23; have hw_w23 := nxt hw_w22 hb23; have r_h0 : StoreR w23 bs_h cs_h ok := r_h; clear r_h; have r_h := r_h0; obtain ⟨hv0, hb0, hbs, rfl, _, hr0⟩ := r_h0; subst hbs; obtain ⟨hA0, hc0, rfl, _, _, _⟩ := hr0.use
    replace zB := blk_on zB hb23
    clear hHeld; refine hK.out _ _ (show _ from ⟨box_cell q0 0 rfl, box_cell q0 1 rfl, box_cell q1 0 rfl, box_cell q1 1 rfl⟩) (fun hHeld => ?_); clear hK K
    (try simp only [Act.put, List.setIfInBounds_toArray, List.set_cons_zero, List.set_cons_succ])
    refine wpT_take (i := 6) rfl (by kernel_rfl) (fun _ _ _ h => h) (Or.inl ⟨by rfl, fun w hSw => by (try dsimp only at hSw); first | (go_simp; done) | (go_simp; with_reducible rfl)⟩) (by assumption) ?_
    (try simp only [Act.put, List.setIfInBounds_toArray, List.set_cons_zero, List.set_cons_succ])
    refine wpT_take (i := 7) rfl (by kernel_rfl) (fun _ _ _ h => h) (Or.inl ⟨by rfl, fun w hSw => by (try dsimp only at hSw); first | (go_simp; done) | (go_simp; with_reducible rfl)⟩) (by assumption) ?_
    (try simp only [Act.put, List.setIfInBounds_toArray, List.set_cons_zero, List.set_cons_succ])
    refine wpT_take (i := 8) rfl (by kernel_rfl) (fun _ _ _ h => h) (Or.inl ⟨by rfl, fun w hSw => by (try dsimp only at hSw); first | (go_simp; done) | (go_simp; with_reducible rfl)⟩) (by assumption) ?_
    (try simp only [Act.put, List.setIfInBounds_toArray, List.set_cons_zero, List.set_cons_succ])
    refine wpT_one (i := 10) rfl (by kernel_rfl) (fun K hK => ?_)
    have zf := blk_free zB; have zc0 := blk_cells zB 0; have zc1 := blk_cells zB 1
    have HUs := ((Upd.refl [(World.heap w20).size] w23).set (p := ⟨(World.heap w20).size, 0, none⟩) (by simp) rfl (.slice hA0 ok.tables.length hc0)).set (p := ⟨(World.heap w20).size, 1, none⟩) (by simp) rfl (.int .i64 ok.next)
    have zF : (World.heap (World.setCell (World.setCell w23 ⟨(World.heap w20).size, 0, none⟩ (.slice hA0 ok.tables.length hc0)) ⟨(World.heap w20).size, 1, none⟩ (.int .i64 ok.next)))[(World.heap w20).size]? = some (.cells #[.slice hA0 ok.tables.length hc0, .int .i64 ok.next] 32 (0, 0)) := blk_set (blk_set zB 0 (.slice hA0 ok.tables.length hc0)) 1 (.int .i64 ok.next)
    go_simp
    replace q0 := box_upd q0 rfl HUs (fun hm => by have := lb_q0.out; simp at hm; omega)
    replace q1 := box_upd q1 rfl HUs (fun hm => by have := lb_q1.out; simp at hm; omega)
    replace q2 := box_upd q2 rfl HUs (fun hm => by have := lb_q2.out; simp at hm; omega)
    replace q3 := box_upd q3 rfl HUs (fun hm => by have := lb_q3.out; simp at hm; omega)
    replace q4 := box_upd q4 rfl HUs (fun hm => by have := lb_q4.out; simp at hm; omega)
    replace q5 := box_upd q5 rfl HUs (fun hm => by have := lb_q5.out; simp at hm; omega)
    replace r_w := StoreR.good.upd r_w HUs (fun b hb hm => by have := lr_r_w.out b hb; simp at hm; omega)
    replace r_g := StoreR.good.upd r_g HUs (fun b hb hm => by have := lr_r_g.out b hb; simp at hm; omega)
    replace r_h := StoreR.good.upd r_h HUs (fun b hb hm => by have := (f_h.2 b hb).1; have := lz.out; simp at hm; omega)
    replace f_g := f_g.upd HUs
    replace f_h := f_h.upd HUs
    have hw_wH := (hw_w23.setCell (p := ⟨(World.heap w20).size, 0, none⟩) lw.out (.slice hA0 ok.tables.length hc0)).setCell (p := ⟨(World.heap w20).size, 1, none⟩) lw.out (.int .i64 ok.next)
    clear hHeld; refine hK.out _ (World.setCell (World.setCell w23 ⟨(World.heap w20).size, 0, none⟩ (.slice hA0 ok.tables.length hc0)) ⟨(World.heap w20).size, 1, none⟩ (.int .i64 ok.next)) (show _ from ⟨box_cell q0 0 rfl, box_cell q0 1 rfl, box_cell q1 0 rfl, box_cell q1 1 rfl⟩) (fun hHeld => ?_); clear hK K
    (try simp only [Act.put, List.setIfInBounds_toArray, List.set_cons_zero, List.set_cons_succ])
    refine wpT_done (by kernel_rfl) ?_
    simp only [List.drop_succ_cons, List.drop_zero]
    clear hHeld HUs zB zf zc0 zc1
    generalize (World.setCell (World.setCell w23 ⟨(World.heap w20).size, 0, none⟩ (.slice hA0 ok.tables.length hc0)) ⟨(World.heap w20).size, 1, none⟩ (.int .i64 ok.next)) = wH at zF hw_wH q0 q1 q2 q3 q4 q5 r_w r_g r_h f_g f_h ⊢
    obtain ⟨obh, hobh⟩ : ∃ ob, (World.heap w20).size = ob := ⟨_, rfl⟩; rw [hobh] at zF ⊢; have HOBh := hide hobh; clear hobh
    have q6 := blk_cells zF; clear zF
    rotate_left 1
    have lb_q0 := hide (show W.heap.size < _ from World.block_lt_of_cell? _ ⟨W.heap.size, 0, none⟩ (box_cell q0 0 rfl))
    have lb_q1 := hide (show W.heap.size + 1 < _ from World.block_lt_of_cell? _ ⟨W.heap.size + 1, 0, none⟩ (box_cell q1 0 rfl))
    have lb_q2 := hide (show obw < _ from World.block_lt_of_cell? _ ⟨obw, 0, none⟩ (box_cell q2 0 rfl))
    have lb_q3 := hide (show w7.heap.size < _ from World.block_lt_of_cell? _ ⟨w7.heap.size, 0, none⟩ (box_cell q3 0 rfl))
    have lb_q4 := hide (show w8.heap.size < _ from World.block_lt_of_cell? _ ⟨w8.heap.size, 0, none⟩ (box_cell q4 0 rfl))
    have lb_q5 := hide (show w9.heap.size < _ from World.block_lt_of_cell? _ ⟨w9.heap.size, 0, none⟩ (box_cell q5 0 rfl))
    have lr_r_w := hide (StoreR.good.lt r_w)
    have lr_r_g := hide (StoreR.good.lt r_g)
    have lw := hide hw_w19.size
    go_simp
    have stz : Below (World.heap w19).size w19 (World.alloc (World.drew w19) (.cells #[.slice none 0 0, .int .i64 0] 32)) := (Below.refl _ _).drew.alloc (Nat.le_refl _) (.cells #[.slice none 0 0, .int .i64 0] 32)
    have zB : (World.heap (World.alloc (World.drew w19) (.cells #[.slice none 0 0, .int .i64 0] 32)))[(World.heap w19).size]? = some (.cells #[.slice none 0 0, .int .i64 0] 32 (0, 0)) := blk_new (World.drew w19) _ _
    clear hHeld; refine hK.out _ (World.alloc (World.drew w19) (.cells #[.slice none 0 0, .int .i64 0] 32)) (show _ from ⟨cell_on (box_cell q0 0 rfl) stz, cell_on (box_cell q0 1 rfl) stz, cell_on (box_cell q1 0 rfl) stz, cell_on (box_cell q1 1 rfl) stz⟩) (fun hHeld => ?_); clear hK K
    (try simp only [Act.put, List.setIfInBounds_toArray, List.set_cons_zero, List.set_cons_succ])
    generalize World.alloc (World.drew w19) (.cells #[.slice none 0 0, .int .i64 0] 32) = wz20 at stz zB hHeld ⊢
    replace q0 := box_on q0 rfl stz
    replace q1 := box_on q1 rfl stz
    replace q2 := box_on q2 rfl stz
    replace q3 := box_on q3 rfl stz
    replace q4 := box_on q4 rfl stz
    replace q5 := box_on q5 rfl stz
    replace r_w := StoreR.good.nxt stz r_w
    replace r_g := StoreR.good.nxt stz r_g
    replace f_g := f_g.below stz
    have hw_wz20 := nxt hw_w19 stz
    refine wpT_one (i := 1) rfl (by kernel_rfl) (fun K hK => ?_)
    go_simp; go_at_call 7; refine (toStore hw_wz20 H0 k0).mono ?_; rintro e w21 ⟨cs_z0, bs_z0, rfl, r_z0, f_z0, hb21⟩; have q0 := box_on q0 rfl hb21; have q1 := box_on q1 rfl hb21; have q2 := box_on q2 rfl hb21; have q3 := box_on q3 rfl hb21; have q4 := box_on q4 rfl hb21; have q5 := box_on q5 rfl hb21; have r_w := StoreR.good.nxt hb21 r_w; have r_g := StoreR.good.nxt hb21 r_g; have f_g := f_g.below hb21; have hw_w21 := nxt hw_wz20 hb21; have r_z0_21 := r_z0; obtain ⟨z0v0, z0b0, rfl, rfl, _, z0r0⟩ := r_z0; obtain ⟨z0A0, z0c0, rfl, _, _, _⟩ := z0r0.use
    replace zB := blk_on zB hb21
    clear hHeld; refine hK.out _ _ (show _ from ⟨box_cell q0 0 rfl, box_cell q0 1 rfl, box_cell q1 0 rfl, box_cell q1 1 rfl⟩) (fun hHeld => ?_); clear hK K
    (try simp only [Act.put, List.setIfInBounds_toArray, List.set_cons_zero, List.set_cons_succ])
    refine wpT_one (i := 4) rfl (by kernel_rfl) (fun K hK => ?_)
    go_simp; go_at_call 8; refine (toRow hw_w21 H2 k2).mono ?_; rintro e w22 ⟨cs_z2, bs_z2, rfl, r_z2, f_z2, hb22⟩; have q0 := box_on q0 rfl hb22; have q1 := box_on q1 rfl hb22; have q2 := box_on q2 rfl hb22; have q3 := box_on q3 rfl hb22; have q4 := box_on q4 rfl hb22; have q5 := box_on q5 rfl hb22; have r_w := StoreR.good.nxt hb22 r_w; have r_g := StoreR.good.nxt hb22 r_g; have r_z0_21 := StoreR.good.nxt hb22 r_z0_21; have f_g := f_g.below hb22; have hw_w22 := nxt hw_w21 hb22; have r_z2_22 := r_z2; obtain ⟨z2v1, z2b1, rfl, rfl, _, z2r1⟩ := r_z2; obtain ⟨z2A1, z2c1, rfl, _, _, _⟩ := z2r1.use
    replace zB := blk_on zB hb22
    clear hHeld; refine hK.out _ _ (show _ from ⟨box_cell q0 0 rfl, box_cell q0 1 rfl, box_cell q1 0 rfl, box_cell q1 1 rfl⟩) (fun hHeld => ?_); clear hK K
    (try simp only [Act.put, List.setIfInBounds_toArray, List.set_cons_zero, List.set_cons_succ])
    refine wpT_one (i := 5) rfl (by kernel_rfl) (fun K hK => ?_)
    have lz := hide (lt_of_cells zB)
    go_simp; go_at_call 9; refine (impl_PutRow r_z0_21 a1 r_z2_22 k0 k2).mono ?_; rw [HO.out]; rintro e w23 ⟨cs_h, bs_h, rfl, r_h, f_h, hb23⟩; have q0 := box_on q0 rfl hb23; have q1 := box_on q1 rfl hb23; have q2 := box_on q2 rfl hb23; have q3 := box_on q3 rfl hb23; have q4 := box_on q4 rfl hb23; have q5 := box_on q5 rfl hb23; have r_w := StoreR.good.nxt hb23 r_w; have r_g := StoreR.good.nxt hb23 r_g; have f_g := f_g.below hb23; have hw_w23 := nxt hw_w22 hb23; have r_h0 : StoreR w23 bs_h cs_h ok := r_h; clear r_h; have r_h := r_h0; obtain ⟨hv0, hb0, hbs, rfl, _, hr0⟩ := r_h0; subst hbs; obtain ⟨hA0, hc0, rfl, _, _, _⟩ := hr0.use
    replace zB := blk_on zB hb23
    clear hHeld; refine hK.out _ _ (show _ from ⟨box_cell q0 0 rfl, box_cell q0 1 rfl, box_cell q1 0 rfl, box_cell q1 1 rfl⟩) (fun hHeld => ?_); clear hK K
    (try simp only [Act.put, List.setIfInBounds_toArray, List.set_cons_zero, List.set_cons_succ])
    refine wpT_take (i := 6) rfl (by kernel_rfl) (fun _ _ _ h => h) (Or.inl ⟨by rfl, fun w hSw => by (try dsimp only at hSw); first | (go_simp; done) | (go_simp; with_reducible rfl)⟩) (by assumption) ?_
    (try simp only [Act.put, List.setIfInBounds_toArray, List.set_cons_zero, List.set_cons_succ])
    refine wpT_take (i := 7) rfl (by kernel_rfl) (fun _ _ _ h => h) (Or.inl ⟨by rfl, fun w hSw => by (try dsimp only at hSw); first | (go_simp; done) | (go_simp; with_reducible rfl)⟩) (by assumption) ?_
    (try simp only [Act.put, List.setIfInBounds_toArray, List.set_cons_zero, List.set_cons_succ])
    refine wpT_take (i := 8) rfl (by kernel_rfl) (fun _ _ _ h => h) (Or.inl ⟨by rfl, fun w hSw => by (try dsimp only at hSw); first | (go_simp; done) | (go_simp; with_reducible rfl)⟩) (by assumption) ?_
    (try simp only [Act.put, List.setIfInBounds_toArray, List.set_cons_zero, List.set_cons_succ])
    refine wpT_one (i := 10) rfl (by kernel_rfl) (fun K hK => ?_)
    have zf := blk_free zB; have zc0 := blk_cells zB 0; have zc1 := blk_cells zB 1
    have HUs := ((Upd.refl [(World.heap w19).size] w23).set (p := ⟨(World.heap w19).size, 0, none⟩) (by simp) rfl (.slice hA0 ok.tables.length hc0)).set (p := ⟨(World.heap w19).size, 1, none⟩) (by simp) rfl (.int .i64 ok.next)
    have zF : (World.heap (World.setCell (World.setCell w23 ⟨(World.heap w19).size, 0, none⟩ (.slice hA0 ok.tables.length hc0)) ⟨(World.heap w19).size, 1, none⟩ (.int .i64 ok.next)))[(World.heap w19).size]? = some (.cells #[.slice hA0 ok.tables.length hc0, .int .i64 ok.next] 32 (0, 0)) := blk_set (blk_set zB 0 (.slice hA0 ok.tables.length hc0)) 1 (.int .i64 ok.next)
    go_simp
    replace q0 := box_upd q0 rfl HUs (fun hm => by have := lb_q0.out; simp at hm; omega)
    replace q1 := box_upd q1 rfl HUs (fun hm => by have := lb_q1.out; simp at hm; omega)
    replace q2 := box_upd q2 rfl HUs (fun hm => by have := lb_q2.out; simp at hm; omega)
    replace q3 := box_upd q3 rfl HUs (fun hm => by have := lb_q3.out; simp at hm; omega)
    replace q4 := box_upd q4 rfl HUs (fun hm => by have := lb_q4.out; simp at hm; omega)
    replace q5 := box_upd q5 rfl HUs (fun hm => by have := lb_q5.out; simp at hm; omega)
    replace r_w := StoreR.good.upd r_w HUs (fun b hb hm => by have := lr_r_w.out b hb; simp at hm; omega)
    replace r_g := StoreR.good.upd r_g HUs (fun b hb hm => by have := lr_r_g.out b hb; simp at hm; omega)
    replace r_h := StoreR.good.upd r_h HUs (fun b hb hm => by have := (f_h.2 b hb).1; have := lz.out; simp at hm; omega)
    replace f_g := f_g.upd HUs
    replace f_h := f_h.upd HUs
    have hw_wH := (hw_w23.setCell (p := ⟨(World.heap w19).size, 0, none⟩) lw.out (.slice hA0 ok.tables.length hc0)).setCell (p := ⟨(World.heap w19).size, 1, none⟩) lw.out (.int .i64 ok.next)
    clear hHeld; refine hK.out _ (World.setCell (World.setCell w23 ⟨(World.heap w19).size, 0, none⟩ (.slice hA0 ok.tables.length hc0)) ⟨(World.heap w19).size, 1, none⟩ (.int .i64 ok.next)) (show _ from ⟨box_cell q0 0 rfl, box_cell q0 1 rfl, box_cell q1 0 rfl, box_cell q1 1 rfl⟩) (fun hHeld => ?_); clear hK K
    (try simp only [Act.put, List.setIfInBounds_toArray, List.set_cons_zero, List.set_cons_succ])
    refine wpT_done (by kernel_rfl) ?_
    simp only [List.drop_succ_cons, List.drop_zero]
    clear hHeld HUs zB zf zc0 zc1
    generalize (World.setCell (World.setCell w23 ⟨(World.heap w19).size, 0, none⟩ (.slice hA0 ok.tables.length hc0)) ⟨(World.heap w19).size, 1, none⟩ (.int .i64 ok.next)) = wH at zF hw_wH q0 q1 q2 q3 q4 q5 r_w r_g r_h f_g f_h ⊢
    obtain ⟨obh, hobh⟩ : ∃ ob, (World.heap w19).size = ob := ⟨_, rfl⟩; rw [hobh] at zF ⊢; have HOBh := hide hobh; clear hobh
    have q6 := blk_cells zF; clear zF
    all_goals
      go_wp2_with fail
      refine (eqStore (Below.refl _ _) r_h r_w).mono ?_; rintro e w24 ⟨rfl, hb24⟩; have q0 := box_on q0 rfl hb24; have q1 := box_on q1 rfl hb24; have q2 := box_on q2 rfl hb24; have q3 := box_on q3 rfl hb24; have q4 := box_on q4 rfl hb24; have q5 := box_on q5 rfl hb24; have q6 := box_on q6 rfl hb24; have r_w := StoreR.good.nxt hb24 r_w; have r_g := StoreR.good.nxt hb24 r_g; have r_h := StoreR.good.nxt hb24 r_h; have f_g := f_g.below hb24; have hw_w24 := nxt hw_wH hb24
      clear r_h
      go_wp2_with fail
      refine (heldVStore (Below.refl _ _) r_g (by omega) (by omega)).mono ?_; rintro e w25 ⟨rfl, hb25⟩; have q0 := box_on q0 rfl hb25; have q1 := box_on q1 rfl hb25; have q2 := box_on q2 rfl hb25; have q3 := box_on q3 rfl hb25; have q4 := box_on q4 rfl hb25; have q5 := box_on q5 rfl hb25; have q6 := box_on q6 rfl hb25; have r_w := StoreR.good.nxt hb25 r_w; have r_g := StoreR.good.nxt hb25 r_g; have f_g := f_g.below hb25; have hw_w25 := nxt hw_w24 hb25
      go_wp2_with fail
      go_ret
      exact ⟨rfl, hw_w25⟩
end Go.Proofs.Ytfkpllkgganejaa
