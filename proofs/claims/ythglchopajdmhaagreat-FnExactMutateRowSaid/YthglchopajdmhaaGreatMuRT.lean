/- MutateRow of both. No statement is proved here; no conditions. Written by a program (gen51.py). -/
import Derived.Test.YthglchopajdmhaaGreatMuR
namespace Go.Proofs.YthglchopajdmhaaGreat
open Go.ChangeShapes Go.WideShapes Go.ChangeAt Go.RowKit Go.Deep
set_option maxRecDepth 100000
set_option linter.unusedVariables false
set_option linter.unusedSimpArgs false

theorem impl_isListM {w : World} {bs : List Nat} {v : Value} {d : List Mut} (hd : MutSR w bs [v] d) :
    Calls Tryz.prog 31 #[v] w fun e w' => e = .returned (.bool (decide ((d.length : Int) ≤ 4096))) ∧ w = w' := by
  obtain ⟨A, c, rfl, _, _, _⟩ := hd.use
  go_enter Tryz.func31, Tryz.ntmps31
  go_wp2
  go_ret
  exact ⟨rfl, rfl⟩
set_option maxHeartbeats 8000000 in
theorem impl_MutateRow {w : World}  {bs_t : List Nat} {cs_t : List Value} {t : Table} (H_t : TableR w bs_t cs_t t) {bs_r : List Nat} {cs_r : List Value} {r : Row} (H_r : RowR w bs_r cs_r r) {bs_l : List Nat} {v_l : Value} {l : List Mut} (H_l : MutSR w bs_l [v_l] l) (hb : r.bulk ≤ 1048576) :
    Calls Tryz.prog 11 #[.agg cs_t.toArray, .agg cs_r.toArray, v_l] w (OutP RowR w (mrowAns t r l).1 (mrowAns t r l).2) := by
  have H0_l := H_l
  obtain ⟨A_l, c_l, rfl, hlc_l, hcm_l, hel_l⟩ := H_l.use
  have H0_t := H_t
  obtain ⟨t_v1, t_b1, t_v2, t_b2, rfl, rfl, hf_t, t_r1, t_r2⟩ := H_t
  obtain ⟨A_t1, c_t1, rfl, hlc_t1, hcm_t1, hel_t1⟩ := t_r1.use
  obtain ⟨A_t2, c_t2, rfl, hlc_t2, hcm_t2, hel_t2⟩ := t_r2.use
  have H0_r := H_r
  obtain ⟨r_v1, r_b1, rfl, rfl, hf_r, r_r1⟩ := H_r
  obtain ⟨A_r1, c_r1, rfl, hlc_r1, hcm_r1, hel_r1⟩ := r_r1.use
  have hbx := ((((Below.refl w.heap.size w).alloc (Nat.le_refl _) (.cells #[.string t.name, .slice A_t1 t.columns.length c_t1, .slice A_t2 t.unique.length c_t2, .bool t.root] 40)).alloc (by simp; try omega) (.cells #[.int .i64 r.id, .slice A_r1 r.cells.length c_r1] 35)).alloc (by simp; try omega) (.cells #[.int .i64 0, .slice none 0 0] 35))
  obtain ⟨q_t, q_r, q_res⟩ := three_at (Below.refl (((w.alloc (.cells #[.string t.name, .slice A_t1 t.columns.length c_t1, .slice A_t2 t.unique.length c_t2, .bool t.root] 40)).alloc (.cells #[.int .i64 r.id, .slice A_r1 r.cells.length c_r1] 35)).alloc (.cells #[.int .i64 0, .slice none 0 0] 35)).heap.size _)
  have R_res : World.heap (((w.alloc (.cells #[.string t.name, .slice A_t1 t.columns.length c_t1, .slice A_t2 t.unique.length c_t2, .bool t.root] 40)).alloc (.cells #[.int .i64 r.id, .slice A_r1 r.cells.length c_r1] 35)).alloc (.cells #[.int .i64 0, .slice none 0 0] 35)) = World.heap (((w.alloc (.cells #[.string t.name, .slice A_t1 t.columns.length c_t1, .slice A_t2 t.unique.length c_t2, .bool t.root] 40)).alloc (.cells #[.int .i64 r.id, .slice A_r1 r.cells.length c_r1] 35)).alloc (.cells #[.int .i64 0, .slice none 0 0] 35)) := rfl
  clear R_res
  have R_res : (World.heap (((w.alloc (.cells #[.string t.name, .slice A_t1 t.columns.length c_t1, .slice A_t2 t.unique.length c_t2, .bool t.root] 40)).alloc (.cells #[.int .i64 r.id, .slice A_r1 r.cells.length c_r1] 35)).alloc (.cells #[.int .i64 0, .slice none 0 0] 35)))[w.heap.size + 1 + 1]? = some (.cells #[.int .i64 0, .slice none 0 0] 35 (0, 0)) := by simpa using blk_new (((w.alloc (.cells #[.string t.name, .slice A_t1 t.columns.length c_t1, .slice A_t2 t.unique.length c_t2, .bool t.root] 40)).alloc (.cells #[.int .i64 r.id, .slice A_r1 r.cells.length c_r1] 35))) #[.int .i64 0, .slice none 0 0] 35
  have R_free := blk_free R_res
  have HB := hide hb; clear hb hel_t1 hel_t2 hel_r1 hel_l
  go_enter Tryz.func11, Tryz.ntmps11
  go_wp2_with fail
  refine (impl_isListM (MutSR.good.nxt hbx H0_l)).mono ?_; rintro e w0 ⟨rfl, rfl⟩
  by_cases hlong : 4096 < l.length
  · have hr := hide (mrow_long (t := t) (r := r) hlong); have hd0 : decide ((l.length : Int) ≤ 4096) = false := decide_eq_false (by omega)
    clear hlong
    have rc0 := blk_cells R_res 0; have rc1 := blk_cells R_res 1
    go_wp2_with fail
    have fin : _ = some (Obj.cells #[.int .i64 0, .slice none 0 0] 35 (0, 0)) := (blk_set (blk_set R_res 0 (.int .i64 0)) 1 (.slice none 0 0))
    have fc := blk_cells fin
    have HUr := (((Upd.refl [w.heap.size + 1 + 1] ((((w.alloc (.cells #[.string t.name, .slice A_t1 t.columns.length c_t1, .slice A_t2 t.unique.length c_t2, .bool t.root] 40)).alloc (.cells #[.int .i64 r.id, .slice A_r1 r.cells.length c_r1] 35)).alloc (.cells #[.int .i64 0, .slice none 0 0] 35)))).set (p := ⟨w.heap.size + 1 + 1, 0, none⟩) (by simp) rfl (.int .i64 0)).set (p := ⟨w.heap.size + 1 + 1, 1, none⟩) (by simp) rfl (.slice none 0 0))
    refine bodyPost_ret (v := .tuple #[.agg #[.int .i64 0, .slice none 0 0], .int .i64 2]) (by simp [results, Tryz.results11, go_sem, fc]) rfl ?_
    rw [hr.out]
    first | exact ⟨[.int .i64 0, .slice none 0 0], _, rfl, zeroRowR, Fr.nil _ _, ((hbx.setCell (p := ⟨w.heap.size + 1 + 1, 0, none⟩) (by simp; try omega) (.int .i64 0)).setCell (p := ⟨w.heap.size + 1 + 1, 1, none⟩) (by simp; try omega) (.slice none 0 0))⟩ | exact ⟨[.int .i64 0, .slice none 0 0], _, rfl, zeroRowR, Fr.nil _ _, hbx⟩
  have hd0 : decide ((l.length : Int) ≤ 4096) = true := decide_eq_true (by omega); have HLG := hide hlong; clear hlong
  go_wp2_with fail
  refine (impl_mutsOK (MutSR.good.nxt hbx H0_l)).mono ?_; rintro e w1 ⟨rfl, hb1⟩; replace q_t := box_on q_t rfl hb1; replace q_r := box_on q_r rfl hb1; replace q_res := box_on q_res rfl hb1; have hw1 := nxt hbx hb1; replace R_res := blk_on R_res hb1; replace R_free := blk_free R_res
  cases h1 : mutsOKB l
  · have hr : Hid (mrowAns t r l = (⟨0, []⟩, 1)) := by show _ = _; exact mrow_bad HLG.out (by rw [h1] <;> simp)
    clear h1
    have rc0 := blk_cells R_res 0; have rc1 := blk_cells R_res 1
    go_wp2_with fail
    have fin : _ = some (Obj.cells #[.int .i64 0, .slice none 0 0] 35 (0, 0)) := (blk_set (blk_set R_res 0 (.int .i64 0)) 1 (.slice none 0 0))
    have fc := blk_cells fin
    have HUr := (((Upd.refl [w.heap.size + 1 + 1] (w1)).set (p := ⟨w.heap.size + 1 + 1, 0, none⟩) (by simp) rfl (.int .i64 0)).set (p := ⟨w.heap.size + 1 + 1, 1, none⟩) (by simp) rfl (.slice none 0 0))
    refine bodyPost_ret (v := .tuple #[.agg #[.int .i64 0, .slice none 0 0], .int .i64 1]) (by simp [results, Tryz.results11, go_sem, fc]) rfl ?_
    rw [hr.out]
    first | exact ⟨[.int .i64 0, .slice none 0 0], _, rfl, zeroRowR, Fr.nil _ _, ((hw1.setCell (p := ⟨w.heap.size + 1 + 1, 0, none⟩) (by simp; try omega) (.int .i64 0)).setCell (p := ⟨w.heap.size + 1 + 1, 1, none⟩) (by simp; try omega) (.slice none 0 0))⟩ | exact ⟨[.int .i64 0, .slice none 0 0], _, rfl, zeroRowR, Fr.nil _ _, hw1⟩
  go_wp2_with fail
  refine (impl_RowOK (TableR.good.nxt hw1 H0_t) (RowR.good.nxt hw1 H0_r)).mono ?_; rintro e w2 ⟨rfl, hb2⟩; replace q_t := box_on q_t rfl hb2; replace q_r := box_on q_r rfl hb2; replace q_res := box_on q_res rfl hb2; have hw2 := nxt hw1 hb2; replace R_res := blk_on R_res hb2; replace R_free := blk_free R_res
  cases h2 : rowOK t r
  · have hr : Hid (mrowAns t r l = (⟨0, []⟩, 1)) := by show _ = _; exact mrow_bad HLG.out (by rw [h2] <;> simp)
    clear h2
    have rc0 := blk_cells R_res 0; have rc1 := blk_cells R_res 1
    go_wp2_with fail
    have fin : _ = some (Obj.cells #[.int .i64 0, .slice none 0 0] 35 (0, 0)) := (blk_set (blk_set R_res 0 (.int .i64 0)) 1 (.slice none 0 0))
    have fc := blk_cells fin
    have HUr := (((Upd.refl [w.heap.size + 1 + 1] (w2)).set (p := ⟨w.heap.size + 1 + 1, 0, none⟩) (by simp) rfl (.int .i64 0)).set (p := ⟨w.heap.size + 1 + 1, 1, none⟩) (by simp) rfl (.slice none 0 0))
    refine bodyPost_ret (v := .tuple #[.agg #[.int .i64 0, .slice none 0 0], .int .i64 1]) (by simp [results, Tryz.results11, go_sem, fc]) rfl ?_
    rw [hr.out]
    first | exact ⟨[.int .i64 0, .slice none 0 0], _, rfl, zeroRowR, Fr.nil _ _, ((hw2.setCell (p := ⟨w.heap.size + 1 + 1, 0, none⟩) (by simp; try omega) (.int .i64 0)).setCell (p := ⟨w.heap.size + 1 + 1, 1, none⟩) (by simp; try omega) (.slice none 0 0))⟩ | exact ⟨[.int .i64 0, .slice none 0 0], _, rfl, zeroRowR, Fr.nil _ _, hw2⟩
  have hgo := hide (mrow_go HLG.out h1 h2); have H1 := hide h1; have H2 := hide h2; clear h1 h2
  go_wp2_with fail
  refine (impl_mutsCode (TableR.good.nxt hw2 H0_t) (MutSR.good.nxt hw2 H0_l)).mono ?_; rintro e w3 ⟨rfl, hb3⟩; replace q_t := box_on q_t rfl hb3; replace q_r := box_on q_r rfl hb3; replace q_res := box_on q_res rfl hb3; have hw3 := nxt hw2 hb3; replace R_res := blk_on R_res hb3; replace R_free := blk_free R_res
  by_cases h5 : ¬ codesL t l l.length = 0
  · have hr := hide (hgo.out.trans (if_neg h5)); have h6 : (codesL t l l.length != 0) = true := by simp [h5]
    clear h5
    have rc0 := blk_cells R_res 0; have rc1 := blk_cells R_res 1
    go_wp2_with fail
    have fin : _ = some (Obj.cells #[.int .i64 0, .slice none 0 0] 35 (0, 0)) := (blk_set (blk_set R_res 0 (.int .i64 0)) 1 (.slice none 0 0))
    have fc := blk_cells fin
    have HUr := (((Upd.refl [w.heap.size + 1 + 1] (w3)).set (p := ⟨w.heap.size + 1 + 1, 0, none⟩) (by simp) rfl (.int .i64 0)).set (p := ⟨w.heap.size + 1 + 1, 1, none⟩) (by simp) rfl (.slice none 0 0))
    refine bodyPost_ret (v := .tuple #[.agg #[.int .i64 0, .slice none 0 0], .int .i64 (codesL t l l.length)]) (by simp [results, Tryz.results11, go_sem, fc]) rfl ?_
    rw [hr.out]
    first | exact ⟨[.int .i64 0, .slice none 0 0], _, rfl, zeroRowR, Fr.nil _ _, ((hw3.setCell (p := ⟨w.heap.size + 1 + 1, 0, none⟩) (by simp; try omega) (.int .i64 0)).setCell (p := ⟨w.heap.size + 1 + 1, 1, none⟩) (by simp; try omega) (.slice none 0 0))⟩ | exact ⟨[.int .i64 0, .slice none 0 0], _, rfl, zeroRowR, Fr.nil _ _, hw3⟩
  have h5 := Decidable.not_not.1 h5; have hr := hide (hgo.out.trans (if_pos h5)); have h6 : (codesL t l l.length != 0) = false := by simp [h5]
  have HGO := hide (mgo_of H1.out h5); have HP := hide (rowOK_parts H2.out); clear h5
  have hls := hide (show w.heap.size + 1 + 1 < (World.heap w3).size from lt_of_cells R_res)
  go_wp2_with fail
  refine (impl_mutateRow (TableR.good.nxt hw3 H0_t) (RowR.good.nxt hw3 H0_r) (MutSR.good.nxt hw3 H0_l) HB.out HP.out.1 HP.out.2 HGO.out).mono ?_; rintro e w4 ⟨cs9, bs9, rfl, r9, f9, hb4⟩; replace q_t := box_on q_t rfl hb4; replace q_r := box_on q_r rfl hb4; replace q_res := box_on q_res rfl hb4; have hw4 := nxt hw3 hb4; replace R_res := blk_on R_res hb4; replace R_free := blk_free R_res
  have r90 := hide r9; obtain ⟨v9, b9, _, rfl, hf9, s9⟩ := r9; obtain ⟨A9, c9, rfl, _, _, _⟩ := s9.use; clear s9
  have hn9 := hide (show ∀ b ∈ bs9, b ∉ [w.heap.size + 1 + 1] from fun b hb hm => by have := (f9.2 b hb).1; have := hls.out; simp at hm; omega)
  have hF9 := hide (f9.mono hw3.size)
  have rc0 := blk_cells R_res 0; have rc1 := blk_cells R_res 1
  go_wp2_with fail
  have fin : _ = some (Obj.cells #[.int .i64 (mutRowL t r l).1.id, .slice A9 (mutRowL t r l).1.cells.length c9] 35 (0, 0)) := (blk_set (blk_set R_res 0 (.int .i64 (mutRowL t r l).1.id)) 1 (.slice A9 (mutRowL t r l).1.cells.length c9))
  have fc := blk_cells fin
  have HUr := (((Upd.refl [w.heap.size + 1 + 1] (w4)).set (p := ⟨w.heap.size + 1 + 1, 0, none⟩) (by simp) rfl (.int .i64 (mutRowL t r l).1.id)).set (p := ⟨w.heap.size + 1 + 1, 1, none⟩) (by simp) rfl (.slice A9 (mutRowL t r l).1.cells.length c9))
  refine bodyPost_ret (v := .tuple #[.agg #[.int .i64 (mutRowL t r l).1.id, .slice A9 (mutRowL t r l).1.cells.length c9], .int .i64 (mutRowL t r l).2]) (by simp [results, Tryz.results11, go_sem, fc]) rfl ?_
  rw [hr.out]
  first | exact ⟨[.int .i64 (mutRowL t r l).1.id, .slice A9 (mutRowL t r l).1.cells.length c9], _, rfl, RowR.good.upd r90.out HUr hn9.out, hF9.out.upd HUr, ((hw4.setCell (p := ⟨w.heap.size + 1 + 1, 0, none⟩) (by simp; try omega) (.int .i64 (mutRowL t r l).1.id)).setCell (p := ⟨w.heap.size + 1 + 1, 1, none⟩) (by simp; try omega) (.slice A9 (mutRowL t r l).1.cells.length c9))⟩ | exact ⟨[.int .i64 (mutRowL t r l).1.id, .slice A9 (mutRowL t r l).1.cells.length c9], _, rfl, RowR.good.upd r90.out HUr hn9.out, hF9.out.upd HUr, hw4⟩
set_option maxHeartbeats 8000000 in
theorem spec_MutateRow {w : World}  {bs_t : List Nat} {cs_t : List Value} {t : Table} (H_t : TableR w bs_t cs_t t) {bs_r : List Nat} {cs_r : List Value} {r : Row} (H_r : RowR w bs_r cs_r r) {bs_l : List Nat} {v_l : Value} {l : List Mut} (H_l : MutSR w bs_l [v_l] l) (hb : r.bulk ≤ 1048576) :
    Calls Tryz.prog 7 #[.agg cs_t.toArray, .agg cs_r.toArray, v_l] w (OutP RowR w (mrowAns t r l).1 (mrowAns t r l).2) := by
  have H0_l := H_l
  obtain ⟨A_l, c_l, rfl, hlc_l, hcm_l, hel_l⟩ := H_l.use
  have H0_t := H_t
  obtain ⟨t_v1, t_b1, t_v2, t_b2, rfl, rfl, hf_t, t_r1, t_r2⟩ := H_t
  obtain ⟨A_t1, c_t1, rfl, hlc_t1, hcm_t1, hel_t1⟩ := t_r1.use
  obtain ⟨A_t2, c_t2, rfl, hlc_t2, hcm_t2, hel_t2⟩ := t_r2.use
  have H0_r := H_r
  obtain ⟨r_v1, r_b1, rfl, rfl, hf_r, r_r1⟩ := H_r
  obtain ⟨A_r1, c_r1, rfl, hlc_r1, hcm_r1, hel_r1⟩ := r_r1.use
  have hbx := ((((Below.refl w.heap.size w).alloc (Nat.le_refl _) (.cells #[.string t.name, .slice A_t1 t.columns.length c_t1, .slice A_t2 t.unique.length c_t2, .bool t.root] 40)).alloc (by simp; try omega) (.cells #[.int .i64 r.id, .slice A_r1 r.cells.length c_r1] 35)).alloc (by simp; try omega) (.cells #[.int .i64 0, .slice none 0 0] 35))
  obtain ⟨q_t, q_r, q_res⟩ := three_at (Below.refl (((w.alloc (.cells #[.string t.name, .slice A_t1 t.columns.length c_t1, .slice A_t2 t.unique.length c_t2, .bool t.root] 40)).alloc (.cells #[.int .i64 r.id, .slice A_r1 r.cells.length c_r1] 35)).alloc (.cells #[.int .i64 0, .slice none 0 0] 35)).heap.size _)
  have R_res : World.heap (((w.alloc (.cells #[.string t.name, .slice A_t1 t.columns.length c_t1, .slice A_t2 t.unique.length c_t2, .bool t.root] 40)).alloc (.cells #[.int .i64 r.id, .slice A_r1 r.cells.length c_r1] 35)).alloc (.cells #[.int .i64 0, .slice none 0 0] 35)) = World.heap (((w.alloc (.cells #[.string t.name, .slice A_t1 t.columns.length c_t1, .slice A_t2 t.unique.length c_t2, .bool t.root] 40)).alloc (.cells #[.int .i64 r.id, .slice A_r1 r.cells.length c_r1] 35)).alloc (.cells #[.int .i64 0, .slice none 0 0] 35)) := rfl
  clear R_res
  have R_res : (World.heap (((w.alloc (.cells #[.string t.name, .slice A_t1 t.columns.length c_t1, .slice A_t2 t.unique.length c_t2, .bool t.root] 40)).alloc (.cells #[.int .i64 r.id, .slice A_r1 r.cells.length c_r1] 35)).alloc (.cells #[.int .i64 0, .slice none 0 0] 35)))[w.heap.size + 1 + 1]? = some (.cells #[.int .i64 0, .slice none 0 0] 35 (0, 0)) := by simpa using blk_new (((w.alloc (.cells #[.string t.name, .slice A_t1 t.columns.length c_t1, .slice A_t2 t.unique.length c_t2, .bool t.root] 40)).alloc (.cells #[.int .i64 r.id, .slice A_r1 r.cells.length c_r1] 35))) #[.int .i64 0, .slice none 0 0] 35
  have R_free := blk_free R_res
  have HB := hide hb; clear hb hel_t1 hel_t2 hel_r1 hel_l
  by_cases hlong : 4096 < l.length
  · have hr := hide (mrow_long (t := t) (r := r) hlong); have hd0 : decide ((4096 : Int) < (l.length : Int)) = true := decide_eq_true (by omega)
    clear hlong
    go_enter Tryz.func7, Tryz.ntmps7
    have rc0 := blk_cells R_res 0; have rc1 := blk_cells R_res 1
    go_wp2_with fail
    have fin : _ = some (Obj.cells #[.int .i64 0, .slice none 0 0] 35 (0, 0)) := (blk_set (blk_set R_res 0 (.int .i64 0)) 1 (.slice none 0 0))
    have fc := blk_cells fin
    have HUr := (((Upd.refl [w.heap.size + 1 + 1] ((((w.alloc (.cells #[.string t.name, .slice A_t1 t.columns.length c_t1, .slice A_t2 t.unique.length c_t2, .bool t.root] 40)).alloc (.cells #[.int .i64 r.id, .slice A_r1 r.cells.length c_r1] 35)).alloc (.cells #[.int .i64 0, .slice none 0 0] 35)))).set (p := ⟨w.heap.size + 1 + 1, 0, none⟩) (by simp) rfl (.int .i64 0)).set (p := ⟨w.heap.size + 1 + 1, 1, none⟩) (by simp) rfl (.slice none 0 0))
    refine bodyPost_ret (v := .tuple #[.agg #[.int .i64 0, .slice none 0 0], .int .i64 2]) (by simp [results, Tryz.results7, go_sem, fc]) rfl ?_
    rw [hr.out]
    first | exact ⟨[.int .i64 0, .slice none 0 0], _, rfl, zeroRowR, Fr.nil _ _, ((hbx.setCell (p := ⟨w.heap.size + 1 + 1, 0, none⟩) (by simp; try omega) (.int .i64 0)).setCell (p := ⟨w.heap.size + 1 + 1, 1, none⟩) (by simp; try omega) (.slice none 0 0))⟩ | exact ⟨[.int .i64 0, .slice none 0 0], _, rfl, zeroRowR, Fr.nil _ _, hbx⟩
  have hd0 : decide ((4096 : Int) < (l.length : Int)) = false := decide_eq_false (by omega); have HLG := hide hlong; clear hlong
  go_enter Tryz.func7, Tryz.ntmps7
  go_wp2_with fail
  refine (spec_RowOK (TableR.good.nxt hbx H0_t) (RowR.good.nxt hbx H0_r)).mono ?_; rintro e w1 ⟨rfl, hb1⟩; replace q_t := box_on q_t rfl hb1; replace q_r := box_on q_r rfl hb1; replace q_res := box_on q_res rfl hb1; have hw1 := nxt hbx hb1; replace R_res := blk_on R_res hb1; replace R_free := blk_free R_res
  cases h2 : rowOK t r
  · have hr : Hid (mrowAns t r l = (⟨0, []⟩, 1)) := by show _ = _; exact mrow_bad HLG.out (by rw [h2] <;> simp)
    clear h2
    have rc0 := blk_cells R_res 0; have rc1 := blk_cells R_res 1
    go_wp2_with fail
    have fin : _ = some (Obj.cells #[.int .i64 0, .slice none 0 0] 35 (0, 0)) := (blk_set (blk_set R_res 0 (.int .i64 0)) 1 (.slice none 0 0))
    have fc := blk_cells fin
    have HUr := (((Upd.refl [w.heap.size + 1 + 1] (w1)).set (p := ⟨w.heap.size + 1 + 1, 0, none⟩) (by simp) rfl (.int .i64 0)).set (p := ⟨w.heap.size + 1 + 1, 1, none⟩) (by simp) rfl (.slice none 0 0))
    refine bodyPost_ret (v := .tuple #[.agg #[.int .i64 0, .slice none 0 0], .int .i64 1]) (by simp [results, Tryz.results7, go_sem, fc]) rfl ?_
    rw [hr.out]
    first | exact ⟨[.int .i64 0, .slice none 0 0], _, rfl, zeroRowR, Fr.nil _ _, ((hw1.setCell (p := ⟨w.heap.size + 1 + 1, 0, none⟩) (by simp; try omega) (.int .i64 0)).setCell (p := ⟨w.heap.size + 1 + 1, 1, none⟩) (by simp; try omega) (.slice none 0 0))⟩ | exact ⟨[.int .i64 0, .slice none 0 0], _, rfl, zeroRowR, Fr.nil _ _, hw1⟩
  go_wp2_with fail
  refine (spec_l07List (MutSR.good.nxt hw1 H0_l)).mono ?_; rintro e w2 ⟨rfl, hb2⟩; replace q_t := box_on q_t rfl hb2; replace q_r := box_on q_r rfl hb2; replace q_res := box_on q_res rfl hb2; have hw2 := nxt hw1 hb2; replace R_res := blk_on R_res hb2; replace R_free := blk_free R_res
  cases h1 : mutsOKB l
  · have hr : Hid (mrowAns t r l = (⟨0, []⟩, 1)) := by show _ = _; exact mrow_bad HLG.out (by rw [h1] <;> simp)
    clear h1
    have rc0 := blk_cells R_res 0; have rc1 := blk_cells R_res 1
    go_wp2_with fail
    have fin : _ = some (Obj.cells #[.int .i64 0, .slice none 0 0] 35 (0, 0)) := (blk_set (blk_set R_res 0 (.int .i64 0)) 1 (.slice none 0 0))
    have fc := blk_cells fin
    have HUr := (((Upd.refl [w.heap.size + 1 + 1] (w2)).set (p := ⟨w.heap.size + 1 + 1, 0, none⟩) (by simp) rfl (.int .i64 0)).set (p := ⟨w.heap.size + 1 + 1, 1, none⟩) (by simp) rfl (.slice none 0 0))
    refine bodyPost_ret (v := .tuple #[.agg #[.int .i64 0, .slice none 0 0], .int .i64 1]) (by simp [results, Tryz.results7, go_sem, fc]) rfl ?_
    rw [hr.out]
    first | exact ⟨[.int .i64 0, .slice none 0 0], _, rfl, zeroRowR, Fr.nil _ _, ((hw2.setCell (p := ⟨w.heap.size + 1 + 1, 0, none⟩) (by simp; try omega) (.int .i64 0)).setCell (p := ⟨w.heap.size + 1 + 1, 1, none⟩) (by simp; try omega) (.slice none 0 0))⟩ | exact ⟨[.int .i64 0, .slice none 0 0], _, rfl, zeroRowR, Fr.nil _ _, hw2⟩
  have hgo := hide (mrow_go HLG.out h1 h2); have H1 := hide h1; have H2 := hide h2; clear h1 h2
  go_wp2_with fail
  refine (spec_l07Codes (TableR.good.nxt hw2 H0_t) (MutSR.good.nxt hw2 H0_l)).mono ?_; rintro e w3 ⟨rfl, hb3⟩; replace q_t := box_on q_t rfl hb3; replace q_r := box_on q_r rfl hb3; replace q_res := box_on q_res rfl hb3; have hw3 := nxt hw2 hb3; replace R_res := blk_on R_res hb3; replace R_free := blk_free R_res
  by_cases h5 : ¬ codesL t l l.length = 0
  · have hr := hide (hgo.out.trans (if_neg h5)); have h6 : (codesL t l l.length != 0) = true := by simp [h5]
    clear h5
    have rc0 := blk_cells R_res 0; have rc1 := blk_cells R_res 1
    go_wp2_with fail
    have fin : _ = some (Obj.cells #[.int .i64 0, .slice none 0 0] 35 (0, 0)) := (blk_set (blk_set R_res 0 (.int .i64 0)) 1 (.slice none 0 0))
    have fc := blk_cells fin
    have HUr := (((Upd.refl [w.heap.size + 1 + 1] (w3)).set (p := ⟨w.heap.size + 1 + 1, 0, none⟩) (by simp) rfl (.int .i64 0)).set (p := ⟨w.heap.size + 1 + 1, 1, none⟩) (by simp) rfl (.slice none 0 0))
    refine bodyPost_ret (v := .tuple #[.agg #[.int .i64 0, .slice none 0 0], .int .i64 (codesL t l l.length)]) (by simp [results, Tryz.results7, go_sem, fc]) rfl ?_
    rw [hr.out]
    first | exact ⟨[.int .i64 0, .slice none 0 0], _, rfl, zeroRowR, Fr.nil _ _, ((hw3.setCell (p := ⟨w.heap.size + 1 + 1, 0, none⟩) (by simp; try omega) (.int .i64 0)).setCell (p := ⟨w.heap.size + 1 + 1, 1, none⟩) (by simp; try omega) (.slice none 0 0))⟩ | exact ⟨[.int .i64 0, .slice none 0 0], _, rfl, zeroRowR, Fr.nil _ _, hw3⟩
  have h5 := Decidable.not_not.1 h5; have hr := hide (hgo.out.trans (if_pos h5)); have h6 : (codesL t l l.length != 0) = false := by simp [h5]
  have HGO := hide (mgo_of H1.out h5); have HP := hide (rowOK_parts H2.out); clear h5
  have hls := hide (show w.heap.size + 1 + 1 < (World.heap w3).size from lt_of_cells R_res)
  go_wp2_with fail
  refine (spec_l07Row (TableR.good.nxt hw3 H0_t) (RowR.good.nxt hw3 H0_r) (MutSR.good.nxt hw3 H0_l) HB.out HP.out.1 HP.out.2 HGO.out).mono ?_; rintro e w4 ⟨cs9, bs9, rfl, r9, f9, hb4⟩; replace q_t := box_on q_t rfl hb4; replace q_r := box_on q_r rfl hb4; replace q_res := box_on q_res rfl hb4; have hw4 := nxt hw3 hb4; replace R_res := blk_on R_res hb4; replace R_free := blk_free R_res
  have r90 := hide r9; obtain ⟨v9, b9, _, rfl, hf9, s9⟩ := r9; obtain ⟨A9, c9, rfl, _, _, _⟩ := s9.use; clear s9
  have hn9 := hide (show ∀ b ∈ bs9, b ∉ [w.heap.size + 1 + 1] from fun b hb hm => by have := (f9.2 b hb).1; have := hls.out; simp at hm; omega)
  have hF9 := hide (f9.mono hw3.size)
  have rc0 := blk_cells R_res 0; have rc1 := blk_cells R_res 1
  go_wp2_with fail
  have fin : _ = some (Obj.cells #[.int .i64 (mutRowL t r l).1.id, .slice A9 (mutRowL t r l).1.cells.length c9] 35 (0, 0)) := (blk_set (blk_set R_res 0 (.int .i64 (mutRowL t r l).1.id)) 1 (.slice A9 (mutRowL t r l).1.cells.length c9))
  have fc := blk_cells fin
  have HUr := (((Upd.refl [w.heap.size + 1 + 1] (w4)).set (p := ⟨w.heap.size + 1 + 1, 0, none⟩) (by simp) rfl (.int .i64 (mutRowL t r l).1.id)).set (p := ⟨w.heap.size + 1 + 1, 1, none⟩) (by simp) rfl (.slice A9 (mutRowL t r l).1.cells.length c9))
  refine bodyPost_ret (v := .tuple #[.agg #[.int .i64 (mutRowL t r l).1.id, .slice A9 (mutRowL t r l).1.cells.length c9], .int .i64 (mutRowL t r l).2]) (by simp [results, Tryz.results7, go_sem, fc]) rfl ?_
  rw [hr.out]
  first | exact ⟨[.int .i64 (mutRowL t r l).1.id, .slice A9 (mutRowL t r l).1.cells.length c9], _, rfl, RowR.good.upd r90.out HUr hn9.out, hF9.out.upd HUr, ((hw4.setCell (p := ⟨w.heap.size + 1 + 1, 0, none⟩) (by simp; try omega) (.int .i64 (mutRowL t r l).1.id)).setCell (p := ⟨w.heap.size + 1 + 1, 1, none⟩) (by simp; try omega) (.slice A9 (mutRowL t r l).1.cells.length c9))⟩ | exact ⟨[.int .i64 (mutRowL t r l).1.id, .slice A9 (mutRowL t r l).1.cells.length c9], _, rfl, RowR.good.upd r90.out HUr hn9.out, hF9.out.upd HUr, hw4⟩
end Go.Proofs.YthglchopajdmhaaGreat
