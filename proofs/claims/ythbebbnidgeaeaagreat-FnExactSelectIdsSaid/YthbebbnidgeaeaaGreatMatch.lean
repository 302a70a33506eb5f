/- A condition on a row. No statement is proved here; no conditions. Written by a program (gen19.py). -/
import Derived.Test.YthbebbnidgeaeaaGreatCell
import Derived.Deep.RegionHeld3
namespace Go.Proofs.YthbebbnidgeaeaaGreat
open Go.ChangeShapes Go.WideShapes Go.ChangeAt Go.RowKit Go.Deep
set_option maxRecDepth 100000
set_option linter.unusedVariables false
set_option linter.unusedSimpArgs false

set_option maxHeartbeats 8000000 in
theorem impl_matches {w : World}  {bs_t : List Nat} {cs_t : List Value} {t : Table} (H_t : TableR w bs_t cs_t t) {bs_r : List Nat} {cs_r : List Value} {r : Row} (H_r : RowR w bs_r cs_r r) {bs_c : List Nat} {cs_c : List Value} {c : Cond} (H_c : CondR w bs_c cs_c c) (hl : r.cells.length = t.columns.length) (hn : c.value.length ≤ 1048576) (hq : (c.func == 1) = false → (c.func == 2) = false → (c.func == 7) = false → (c.func == 8) = false → 0 < c.value.length ∧ compB c.func (cellOf t r c.column) c.value = compN c.func (cellOf t r c.column) c.value) :
    Calls Tryz.prog 102 #[.agg cs_t.toArray, .agg cs_r.toArray, .agg cs_c.toArray] w (fun e w' => e = .returned (.bool (matchesB t r c)) ∧ Below w.heap.size w w') := by
  have H0_t := H_t
  obtain ⟨t_v1, t_b1, t_v2, t_b2, rfl, rfl, hf_t, t_r1, t_r2⟩ := H_t
  obtain ⟨A_t1, c_t1, rfl, hlc_t1, hcm_t1, hel_t1⟩ := t_r1.use
  obtain ⟨A_t2, c_t2, rfl, hlc_t2, hcm_t2, hel_t2⟩ := t_r2.use
  have H0_r := H_r
  obtain ⟨r_v1, r_b1, rfl, rfl, hf_r, r_r1⟩ := H_r
  obtain ⟨A_r1, c_r1, rfl, hlc_r1, hcm_r1, hel_r1⟩ := r_r1.use
  have H0_c := H_c
  obtain ⟨c_v2, c_b2, rfl, rfl, hf_c, c_r2⟩ := H_c
  obtain ⟨A_c2, c_c2, rfl, hlc_c2, hcm_c2, hel_c2⟩ := c_r2.use
  have hbx := ((((Below.refl w.heap.size w).alloc (Nat.le_refl _) (.cells #[.string t.name, .slice A_t1 t.columns.length c_t1, .slice A_t2 t.unique.length c_t2, .bool t.root] 37)).alloc (by simp; try omega) (.cells #[.int .i64 r.id, .slice A_r1 r.cells.length c_r1] 41)).alloc (by simp; try omega) (.cells #[.string c.column, .int .i64 c.func, .slice A_c2 c.value.length c_c2] 95))
  obtain ⟨q_t, q_r, q_c⟩ := three_at (Below.refl (((w.alloc (.cells #[.string t.name, .slice A_t1 t.columns.length c_t1, .slice A_t2 t.unique.length c_t2, .bool t.root] 37)).alloc (.cells #[.int .i64 r.id, .slice A_r1 r.cells.length c_r1] 41)).alloc (.cells #[.string c.column, .int .i64 c.func, .slice A_c2 c.value.length c_c2] 95)).heap.size _)
  have HQ := hide hq; have HN := hide hn; have HL := hide hl; have hval := c_r2; clear hq hn hl hel_t1 hel_t2 hel_r1
  clear hel_c2
  go_enter Tryz.func102, Tryz.ntmps102
  go_wp2_with fail
  refine (impl_cell (TableR.good.nxt hbx H0_t) (RowR.good.nxt hbx H0_r) c.column HL.out).mono ?_; rintro e w1 ⟨v7, bs7, rfl, r7, hb1⟩; replace q_t := box_on q_t rfl hb1; replace q_r := box_on q_r rfl hb1; replace q_c := box_on q_c rfl hb1; have hw1 := nxt hbx hb1
  have hd : Hid (matchesB t r c = mat c.func (cellOf t r c.column) c.value) := rfl
  generalize cellOf t r c.column = D at r7 hd HQ
  have r70 := r7
  obtain ⟨A7, c7, rfl, _, _, hel7⟩ := r7.use
  rcases Bool.eq_false_or_eq_true (c.func == 1) with h1 | h1
  · clear hel7
    go_wp2_with fail
    refine (slices_EqualA r70 (AtomSR.good.nxt hw1 hval)).mono ?_; rintro e w2 ⟨rfl, hb2⟩; replace q_t := box_on q_t rfl hb2; replace q_r := box_on q_r rfl hb2; replace q_c := box_on q_c rfl hb2; have hw2 := nxt hw1 hb2
    go_wp2_with fail
    go_ret
    exact ⟨ret_bool (by rw [hd.out]; unfold mat; rw [h1]; rfl), hw2⟩
  rcases Bool.eq_false_or_eq_true (c.func == 2) with h2 | h2
  · clear hel7
    go_wp2_with fail
    refine (slices_EqualA r70 (AtomSR.good.nxt hw1 hval)).mono ?_; rintro e w3 ⟨rfl, hb3⟩; replace q_t := box_on q_t rfl hb3; replace q_r := box_on q_r rfl hb3; replace q_c := box_on q_c rfl hb3; have hw3 := nxt hw1 hb3
    go_wp2_with fail
    go_ret
    exact ⟨ret_bool (by rw [hd.out]; unfold mat; rw [h1, h2]; rfl), hw3⟩
  rcases Bool.eq_false_or_eq_true (c.func == 7) with h7 | h7
  · clear hel7
    go_wp2_with fail
    refine (impl_less (AtomSR.good.nxt hw1 hval) r70 HN.out).mono ?_; rintro e w4 ⟨v8, bs8, rfl, r8, f8, hb4⟩; replace q_t := box_on q_t rfl hb4; replace q_r := box_on q_r rfl hb4; replace q_c := box_on q_c rfl hb4; have hw4 := nxt hw1 hb4
    obtain ⟨A8, c8, rfl, _, _, _⟩ := r8.use
    go_wp2_with fail
    go_ret
    exact ⟨ret_bool (by rw [hd.out]; unfold mat; rw [h1, h2, h7]; rfl), hw4⟩
  rcases Bool.eq_false_or_eq_true (c.func == 8) with h8 | h8
  · clear hel7
    have e8 := box_cell q_c 2 rfl
    go_wp2_with fail
    go_region_held3 (fun w' => w'.cell? ⟨w.heap.size + 1 + 1, 2, none⟩ = some (.slice A_c2 c.value.length c_c2)) (exact e8)
      (first | (go_at_call 144; refine (impl_less (AtomSR.good.nxt hw1.drew hval) (AtomSR.good.nxt (Below.refl _ _).drew r70) HN.out).mono ?_; rintro e w8 ⟨v8, bs8, rfl, r8, f8, hb8⟩; obtain ⟨A8, c8, rfl, _, _, _⟩ := r8.use; have hw8 := nxt hw1.drew hb8; have e8 := (hb8.cell (p := ⟨w.heap.size + 1 + 1, 2, none⟩) (World.block_lt_of_cell? _ _ ((show World.cell? _ _ = _ from e8)))).trans e8))
    go_wp2_with fail
    go_ret
    exact ⟨ret_bool (by rw [hd.out]; unfold mat; rw [h1, h2, h7, h8]; rfl), hw8⟩
  obtain ⟨hv0, hce⟩ := HQ.out h1 h2 h7 h8
  clear hel7 hce
  refine ?_
  go_wp2_with fail
  refine (impl_compares r70 (CondR.good.nxt hw1 H0_c) hv0).mono ?_; rintro e w5 ⟨rfl, hb5⟩; replace q_t := box_on q_t rfl hb5; replace q_r := box_on q_r rfl hb5; replace q_c := box_on q_c rfl hb5; have hw5 := nxt hw1 hb5
  go_wp2_with fail
  go_ret
  exact ⟨ret_bool (by rw [hd.out]; unfold mat; rw [h1, h2, h7, h8]; rfl), hw5⟩
set_option maxHeartbeats 8000000 in
theorem spec_l06Matches {w : World}  {bs_t : List Nat} {cs_t : List Value} {t : Table} (H_t : TableR w bs_t cs_t t) {bs_r : List Nat} {cs_r : List Value} {r : Row} (H_r : RowR w bs_r cs_r r) {bs_c : List Nat} {cs_c : List Value} {c : Cond} (H_c : CondR w bs_c cs_c c) (hl : r.cells.length = t.columns.length) (hn : c.value.length ≤ 1048576) (hq : (c.func == 1) = false → (c.func == 2) = false → (c.func == 7) = false → (c.func == 8) = false → 0 < c.value.length ∧ compB c.func (cellOf t r c.column) c.value = compN c.func (cellOf t r c.column) c.value) :
    Calls Tryz.prog 91 #[.agg cs_t.toArray, .agg cs_r.toArray, .agg cs_c.toArray] w (fun e w' => e = .returned (.bool (matchesB t r c)) ∧ Below w.heap.size w w') := by
  have H0_t := H_t
  obtain ⟨t_v1, t_b1, t_v2, t_b2, rfl, rfl, hf_t, t_r1, t_r2⟩ := H_t
  obtain ⟨A_t1, c_t1, rfl, hlc_t1, hcm_t1, hel_t1⟩ := t_r1.use
  obtain ⟨A_t2, c_t2, rfl, hlc_t2, hcm_t2, hel_t2⟩ := t_r2.use
  have H0_r := H_r
  obtain ⟨r_v1, r_b1, rfl, rfl, hf_r, r_r1⟩ := H_r
  obtain ⟨A_r1, c_r1, rfl, hlc_r1, hcm_r1, hel_r1⟩ := r_r1.use
  have H0_c := H_c
  obtain ⟨c_v2, c_b2, rfl, rfl, hf_c, c_r2⟩ := H_c
  obtain ⟨A_c2, c_c2, rfl, hlc_c2, hcm_c2, hel_c2⟩ := c_r2.use
  have hbx := ((((Below.refl w.heap.size w).alloc (Nat.le_refl _) (.cells #[.string t.name, .slice A_t1 t.columns.length c_t1, .slice A_t2 t.unique.length c_t2, .bool t.root] 37)).alloc (by simp; try omega) (.cells #[.int .i64 r.id, .slice A_r1 r.cells.length c_r1] 41)).alloc (by simp; try omega) (.cells #[.string c.column, .int .i64 c.func, .slice A_c2 c.value.length c_c2] 95))
  obtain ⟨q_t, q_r, q_c⟩ := three_at (Below.refl (((w.alloc (.cells #[.string t.name, .slice A_t1 t.columns.length c_t1, .slice A_t2 t.unique.length c_t2, .bool t.root] 37)).alloc (.cells #[.int .i64 r.id, .slice A_r1 r.cells.length c_r1] 41)).alloc (.cells #[.string c.column, .int .i64 c.func, .slice A_c2 c.value.length c_c2] 95)).heap.size _)
  have HQ := hide hq; have HN := hide hn; have HL := hide hl; have hval := c_r2; clear hq hn hl hel_t1 hel_t2 hel_r1
  go_enter Tryz.func91, Tryz.ntmps91
  go_wp2_with fail
  refine (spec_l06Cell (TableR.good.nxt hbx H0_t) (RowR.good.nxt hbx H0_r) c.column HL.out).mono ?_; rintro e w1 ⟨v7, bs7, rfl, r7, hb1⟩; replace q_t := box_on q_t rfl hb1; replace q_r := box_on q_r rfl hb1; replace q_c := box_on q_c rfl hb1; have hw1 := nxt hbx hb1
  have hd : Hid (matchesB t r c = mat c.func (cellOf t r c.column) c.value) := rfl
  generalize cellOf t r c.column = D at r7 hd HQ
  have r70 := r7
  obtain ⟨A7, c7, rfl, _, _, hel7⟩ := r7.use
  rcases Bool.eq_false_or_eq_true (c.func == 1) with h1 | h1
  · clear hel7
    go_wp2_with fail
    refine (spec_l03Same r70 (AtomSR.good.nxt hw1 hval)).mono ?_; rintro e w2 ⟨rfl, hb2⟩; replace q_t := box_on q_t rfl hb2; replace q_r := box_on q_r rfl hb2; replace q_c := box_on q_c rfl hb2; have hw2 := nxt hw1 hb2
    go_wp2_with fail
    go_ret
    exact ⟨ret_bool (by rw [hd.out]; unfold mat; rw [h1]; rfl), hw2⟩
  rcases Bool.eq_false_or_eq_true (c.func == 2) with h2 | h2
  · clear hel7
    go_wp2_with fail
    refine (spec_l03Same r70 (AtomSR.good.nxt hw1 hval)).mono ?_; rintro e w3 ⟨rfl, hb3⟩; replace q_t := box_on q_t rfl hb3; replace q_r := box_on q_r rfl hb3; replace q_c := box_on q_c rfl hb3; have hw3 := nxt hw1 hb3
    go_wp2_with fail
    go_ret
    exact ⟨ret_bool (by rw [hd.out]; unfold mat; rw [h1, h2]; rfl), hw3⟩
  rcases Bool.eq_false_or_eq_true (c.func == 7) with h7 | h7
  · clear hel7
    go_wp2_with fail
    refine (spec_l03Minus (AtomSR.good.nxt hw1 hval) r70 HN.out).mono ?_; rintro e w4 ⟨v8, bs8, rfl, r8, f8, hb4⟩; replace q_t := box_on q_t rfl hb4; replace q_r := box_on q_r rfl hb4; replace q_c := box_on q_c rfl hb4; have hw4 := nxt hw1 hb4
    obtain ⟨A8, c8, rfl, _, _, _⟩ := r8.use
    go_wp2_with fail
    go_ret
    exact ⟨ret_bool (by rw [hd.out]; unfold mat; rw [h1, h2, h7]; rfl), hw4⟩
  rcases Bool.eq_false_or_eq_true (c.func == 8) with h8 | h8
  · clear hel7
    have e8 := box_cell q_c 2 rfl
    go_wp2_with fail
    go_region_held3 (fun w' => w'.cell? ⟨w.heap.size + 1 + 1, 2, none⟩ = some (.slice A_c2 c.value.length c_c2)) (exact e8)
      (first | (go_at_call 132; refine (spec_l03Minus (AtomSR.good.nxt hw1.drew hval) (AtomSR.good.nxt (Below.refl _ _).drew r70) HN.out).mono ?_; rintro e w8 ⟨v8, bs8, rfl, r8, f8, hb8⟩; obtain ⟨A8, c8, rfl, _, _, _⟩ := r8.use; have hw8 := nxt hw1.drew hb8; have e8 := (hb8.cell (p := ⟨w.heap.size + 1 + 1, 2, none⟩) (World.block_lt_of_cell? _ _ ((show World.cell? _ _ = _ from e8)))).trans e8))
    go_wp2_with fail
    go_ret
    exact ⟨ret_bool (by rw [hd.out]; unfold mat; rw [h1, h2, h7, h8]; rfl), hw8⟩
  obtain ⟨hv0, hce⟩ := HQ.out h1 h2 h7 h8
  have HC := hide hce; clear hce
  have hd2 : Hid (matchesB t r c = compN c.func D c.value) := by show _ = _; rw [hd.out]; unfold mat; rw [h1, h2, h7, h8]; exact HC.out
  rcases Bool.eq_false_or_eq_true ((D.length : Int) == 0) with h0 | h0
  · clear hel7 hel_c2
    go_wp2_with fail
    go_ret
    exact ⟨ret_bool (by rw [hd2.out]; unfold compN; rw [h0]; rfl), hw1⟩
  have hd0 : 0 < D.length := by rw [beq_eq_false_iff_ne] at h0; omega
  obtain ⟨ab, ao, abk, aes, rfl, ahbl, ahcl, dhcell, ⟨_, ahes, ahf⟩, _⟩ := hel7 0 hd0; subst ahes
  have d1 := dhcell 1 _ rfl
  obtain ⟨vb, vo, vbk, ves, rfl, vhbl, vhcl, vhcell, ⟨_, vhes, vhf⟩, _⟩ := hel_c2 0 hv0; subst vhes
  have v1 := (hw1.cell (p := ⟨vb, _, none⟩) vhbl).trans (vhcell 1 _ rfl)
  simp only [Nat.zero_mul, Nat.add_zero, Nat.zero_add] at d1 v1; clear dhcell ahcl vhcell vhcl hel7 hel_c2
  have hs : Hid (matchesB t r c = cmpN c.func D[0].n c.value[0].n) := by show _ = _; rw [hd2.out]; unfold compN; rw [h0, getD_at D 0 hd0, getD_at _ 0 hv0]; rfl
  rcases Bool.eq_false_or_eq_true (c.func == 3) with h3 | h3
  · go_wp2_with fail
    go_ret
    exact ⟨ret_bool (by rw [hs.out]; unfold cmpN; rw [h3]; rfl), hw1⟩
  rcases Bool.eq_false_or_eq_true (c.func == 4) with h4 | h4
  · go_wp2_with fail
    go_ret
    exact ⟨ret_bool (by rw [hs.out]; unfold cmpN; rw [h3, h4]; rfl), hw1⟩
  rcases Bool.eq_false_or_eq_true (c.func == 5) with h5 | h5
  · go_wp2_with fail
    go_ret
    exact ⟨ret_bool (by rw [hs.out]; unfold cmpN; rw [h3, h4, h5]; rfl), hw1⟩
  go_wp2_with fail
  go_ret
  exact ⟨ret_bool (by rw [hs.out]; unfold cmpN; rw [h3, h4, h5]; rfl), hw1⟩
end Go.Proofs.YthbebbnidgeaeaaGreat
