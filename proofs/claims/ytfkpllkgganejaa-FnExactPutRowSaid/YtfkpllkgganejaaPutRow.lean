/- PutRow of the reference. No statement is proved here; no conditions. Written by a program (gen69.py). -/
import Derived.Test.YtfkpllkgganejaaPutS
import Derived.Test.YtfkpllkgganejaaMarkV
namespace Go.Proofs.Ytfkpllkgganejaa
open Go.ChangeShapes Go.WideShapes Go.ChangeAt Go.RowKit Go.Deep
set_option maxRecDepth 100000
set_option linter.unusedVariables false
set_option linter.unusedSimpArgs false

/-- As SeeP; the blocks are new. -/
def SeeQ {α : Type} (R : Rd α) (w : World) (a : α) (co : Int) (e : Ending) (w' : World) : Prop := ∃ cs bs, e = .returned (.tuple #[.agg cs.toArray, .int .i64 co]) ∧ R w' bs cs a ∧ (∀ b ∈ bs, w.heap.size ≤ b) ∧ Below w.heap.size w w'
theorem bulkL_set {α : Type} (f : α → Nat) : ∀ (ts : List α) (m : Nat) (hm : m < ts.length) (l : α), bulkL f (ts.set m l) + f ts[m] = bulkL f ts + f l
  | [], m, hm, l => by simp at hm
  | a :: ts, 0, hm, l => by simp [bulkL]; omega
  | a :: ts, m + 1, hm, l => by
    have := bulkL_set f ts m (by simpa using hm) l
    simp only [bulkL, List.set_cons_succ, List.length_cons, List.map_cons, List.sum_cons, List.getElem_cons_succ] at this ⊢
    omega
theorem bulkL_append {α : Type} (f : α → Nat) (a b : List α) : bulkL f (a ++ b) = bulkL f a + bulkL f b := by simp [bulkL]; omega
theorem bulkL_cons {α : Type} (f : α → Nat) (a : α) (b : List α) : bulkL f (a :: b) = bulkL f b + f a + 1 := by simp [bulkL]; omega
theorem bulkL_cut {α : Type} (f : α → Nat) (l : List α) (i : Nat) : bulkL f l = bulkL f (l.take i) + bulkL f (l.drop i) := by rw [← bulkL_append, List.take_append_drop]
theorem putL_bulk (l : List Row) (r : Row) : bulkL Row.bulk (putL l r) ≤ bulkL Row.bulk l + Row.bulk r + 1 := by
  unfold putL
  rw [bulkL_append, bulkL_cons]
  have h1 := bulkL_cut Row.bulk l (lbOf l r.id)
  have h2 : bulkL Row.bulk (l.drop (lbOf l r.id + 1)) ≤ bulkL Row.bulk (l.drop (lbOf l r.id)) := by
    rw [← List.drop_drop]
    have := bulkL_cut Row.bulk (l.drop (lbOf l r.id)) 1; omega
  cases hasId l r.id
  · show _ + (bulkL Row.bulk (l.drop (lbOf l r.id)) + _ + 1) ≤ _; omega
  · show _ + (bulkL Row.bulk (l.drop (lbOf l r.id + 1)) + _ + 1) ≤ _; omega
theorem putAns_wt {x : Store} {r : Row} (h : x.bulk ≤ 1048576) (h2 : r.bulk ≤ 1048576) (n : Int) : Store.wtV (putAns x n r).1 ≤ 67108864 := by
  refine Nat.le_trans (Store.wtV_le _) ?_
  unfold putAns
  split
  · rename_i h1
    obtain ⟨m, rfl, hm, ht, hr⟩ := tblCode_zero h1
    rw [ht, Int.toNat_natCast]
    cases (!hasId x.tables[m] r.id && decide ((12 : Int) ≤ x.tables[m].length))
    · have h3 := bulkL_set RowS.bulk x.tables m hm (putL x.tables[m] r)
      have h4 := putL_bulk x.tables[m] r
      have h5 : RowS.bulk (putL x.tables[m] r) ≤ RowS.bulk x.tables[m] + Row.bulk r + 1 := h4
      have h6 : Store.bulk ⟨x.tables.set m (putL x.tables[m] r), x.next⟩ ≤ 2097153 := by
        show bulkL RowS.bulk (x.tables.set m _) ≤ _
        have h7 : bulkL RowS.bulk x.tables ≤ 1048576 := h
        omega
      show _ ≤ _
      simp only [cond_false]
      omega
    · simp only [cond_true]; omega
  · have h6 : Store.bulk ⟨[], 0⟩ ≤ 0 := Nat.le_refl _
    simp only []
    omega
set_option maxHeartbeats 16000000 in
theorem spec_PutRow {w : World}  {bs_x : List Nat} {cs_x : List Value} {x : Store} (H_x : StoreR w bs_x cs_x x) (n : Int) {bs_r : List Nat} {cs_r : List Value} {r : Row} (H_r : RowR w bs_r cs_r r) (hk : x.bulk ≤ 1048576) (hk2 : r.bulk ≤ 1048576) :
    Calls Try.prog 6 #[.agg cs_x.toArray, .int .i64 n, .agg cs_r.toArray] w (SeeQ StoreR w (putAns x n r).1 (putAns x n r).2) := by
  have H0_x := H_x
  obtain ⟨x_v0, x_b0, rfl, rfl, hf_x, x_r0⟩ := H_x
  obtain ⟨A_x0, c_x0, rfl, hlc_x0, hcm_x0, hel_x0⟩ := x_r0.use
  have H0_r := H_r
  obtain ⟨r_v1, r_b1, rfl, rfl, hf_r, r_r1⟩ := H_r
  obtain ⟨A_r1, c_r1, rfl, hlc_r1, hcm_r1, hel_r1⟩ := r_r1.use
  have hbx := ((((Below.refl w.heap.size w).alloc (Nat.le_refl _) (.cells #[.slice A_x0 x.tables.length c_x0, .int .i64 x.next] 32)).alloc (by simp; try omega) (.cells #[.int .i64 r.id, .slice A_r1 r.cells.length c_r1] 38)).alloc (by simp; try omega) (.cells #[.slice none 0 0, .int .i64 0] 32))
  obtain ⟨q_x, q_r, q_res⟩ := three_at (Below.refl (((w.alloc (.cells #[.slice A_x0 x.tables.length c_x0, .int .i64 x.next] 32)).alloc (.cells #[.int .i64 r.id, .slice A_r1 r.cells.length c_r1] 38)).alloc (.cells #[.slice none 0 0, .int .i64 0] 32)).heap.size _)
  have R_res : World.heap (((w.alloc (.cells #[.slice A_x0 x.tables.length c_x0, .int .i64 x.next] 32)).alloc (.cells #[.int .i64 r.id, .slice A_r1 r.cells.length c_r1] 38)).alloc (.cells #[.slice none 0 0, .int .i64 0] 32)) = World.heap (((w.alloc (.cells #[.slice A_x0 x.tables.length c_x0, .int .i64 x.next] 32)).alloc (.cells #[.int .i64 r.id, .slice A_r1 r.cells.length c_r1] 38)).alloc (.cells #[.slice none 0 0, .int .i64 0] 32)) := rfl
  clear R_res
  have R_res : (World.heap (((w.alloc (.cells #[.slice A_x0 x.tables.length c_x0, .int .i64 x.next] 32)).alloc (.cells #[.int .i64 r.id, .slice A_r1 r.cells.length c_r1] 38)).alloc (.cells #[.slice none 0 0, .int .i64 0] 32)))[w.heap.size + 1 + 1]? = some (.cells #[.slice none 0 0, .int .i64 0] 32 (0, 0)) := by simpa using blk_new (((w.alloc (.cells #[.slice A_x0 x.tables.length c_x0, .int .i64 x.next] 32)).alloc (.cells #[.int .i64 r.id, .slice A_r1 r.cells.length c_r1] 38))) #[.slice none 0 0, .int .i64 0] 32
  have R_free := blk_free R_res
  have HK := hide hk; have HK2 := hide hk2; clear hk hk2
  have HX := hide hel_x0; clear hel_x0 hel_r1
  go_enter Try.func6, Try.ntmps6
  go_wp2_with fail
  refine (spec_l05Plain (StoreR.good.nxt hbx H0_x)).mono ?_; rintro e w1 ⟨rfl, hb1⟩; replace q_x := box_on q_x rfl hb1; replace q_r := box_on q_r rfl hb1; replace q_res := box_on q_res rfl hb1; have hw1 := nxt hbx hb1; replace R_res := blk_on R_res hb1; replace R_free := blk_free R_res
  cases h2 : x.tables.all rising
  · have hs : Hid (putAns x n r = (⟨[], 0⟩, 1)) := by show _ = _; unfold putAns tblCode; rw [h2]; rfl
    go_wp2_with fail
    have fin : _ = some (Obj.cells #[.slice none 0 0, .int .i64 0] 32 (0, 0)) := (blk_set (blk_set R_res 0 (.slice none 0 0)) 1 (.int .i64 0))
    have fc := blk_cells fin
    have HU := (((Upd.refl [w.heap.size + 1 + 1] w1).set (p := ⟨w.heap.size + 1 + 1, 0, none⟩) (by simp) rfl (.slice none 0 0)).set (p := ⟨w.heap.size + 1 + 1, 1, none⟩) (by simp) rfl (.int .i64 0))
    refine bodyPost_ret (v := .tuple #[.agg #[.slice none 0 0, .int .i64 0], .int .i64 (1)]) (by simp [results, Try.results6, go_sem, fc]) rfl ?_
    rw [hs.out]
    exact ⟨[.slice none 0 0, .int .i64 0], [], rfl, zeroStore, (fun b hb => by cases hb), ((hw1.setCell (p := ⟨w.heap.size + 1 + 1, 0, none⟩) (by simp; try omega) (.slice none 0 0)).setCell (p := ⟨w.heap.size + 1 + 1, 1, none⟩) (by simp; try omega) (.int .i64 0))⟩
  go_wp2_with fail
  refine (spec_l01In _ _ _ _).mono ?_; rintro e w2 ⟨rfl, rfl⟩
  cases h3 : inB n 0 ((x.tables.length : Int) - 1)
  · have hs : Hid (putAns x n r = (⟨[], 0⟩, 10)) := by show _ = _; unfold putAns tblCode; rw [h2, h3]; rfl
    go_wp2_with fail
    have fin : _ = some (Obj.cells #[.slice none 0 0, .int .i64 0] 32 (0, 0)) := (blk_set (blk_set R_res 0 (.slice none 0 0)) 1 (.int .i64 0))
    have fc := blk_cells fin
    have HU := (((Upd.refl [w.heap.size + 1 + 1] w1).set (p := ⟨w.heap.size + 1 + 1, 0, none⟩) (by simp) rfl (.slice none 0 0)).set (p := ⟨w.heap.size + 1 + 1, 1, none⟩) (by simp) rfl (.int .i64 0))
    refine bodyPost_ret (v := .tuple #[.agg #[.slice none 0 0, .int .i64 0], .int .i64 (10)]) (by simp [results, Try.results6, go_sem, fc]) rfl ?_
    rw [hs.out]
    exact ⟨[.slice none 0 0, .int .i64 0], [], rfl, zeroStore, (fun b hb => by cases hb), ((hw1.setCell (p := ⟨w.heap.size + 1 + 1, 0, none⟩) (by simp; try omega) (.slice none 0 0)).setCell (p := ⟨w.heap.size + 1 + 1, 1, none⟩) (by simp; try omega) (.int .i64 0))⟩
  have h1 : tblCode x n = 0 := by unfold tblCode; rw [h2, h3]; rfl
  clear h2 h3
  obtain ⟨m, rfl, hm, ht, hr⟩ := tblCode_zero h1
  have hrm := hide (hr _ (List.getElem_mem hm))
  have hs0 : Hid (putAns x m r = cond (!hasId x.tables[m] r.id && decide ((12 : Int) ≤ x.tables[m].length)) (x, 7) (⟨x.tables.set m (putL x.tables[m] r), x.next⟩, 0)) := by show _ = _; unfold putAns; rw [if_pos h1, ht, Int.toNat_natCast]
  clear h1 ht hr
  obtain ⟨gb, go, gbk, ges, rfl, ghbl, ghcl, ghcell, gR, ghbk⟩ := HX.out m hm
  obtain ⟨gA, gc, ghlc, rfl⟩ : ∃ A0 c0, x.tables[m].length ≤ c0 ∧ ges = [.slice A0 x.tables[m].length c0] := by obtain ⟨A0, c0, h, h2, _⟩ := gR; exact ⟨A0, c0, h2, h⟩
  have g_0 := Fw.cell ((hw1.cell (p := ⟨gb, _, none⟩) ghbl).trans (ghcell 0 _ rfl))
  simp only [Nat.add_zero, Nat.mul_one] at g_0
  clear HX ghcell
  have A1 := hide (fun (i : Fw w1) => spec_l05Place (RowSR.good.nxt (nxt hw1 i.h) gR) r.id)
  cases h5 : hasId x.tables[m] r.id
  · have hi := hide (rowIdx_none h5)
    have hd : decide (rowIdx x.tables[m] r.id < 0) = true := decide_eq_true (by rw [hi.out]; omega)
    clear hi
    cases h6 : decide ((12 : Int) ≤ x.tables[m].length)
    · have hs : Hid (putAns x m r = (⟨x.tables.set m (putL x.tables[m] r), x.next⟩, 0)) := by show _ = _; rw [hs0.out, h5, h6]; rfl
      clear h5 hs0
      go_wp2_with fail
      have q_xF0 := Fw.cell (box_cell q_x 0 rfl)
      have q_xF1 := Fw.cell (box_cell q_x 1 rfl)
      have q_rF0 := Fw.cell (box_cell q_r 0 rfl)
      have q_rF1 := Fw.cell (box_cell q_r 1 rfl)
      have q_resF0 := Fw.cell (box_cell q_res 0 rfl)
      have q_resF1 := Fw.cell (box_cell q_res 1 rfl)
      refine region_quiet (by kernel_rfl) (by kernel_rfl) ?_
      repeat (go_big_quiet_step ((first | (go_at_call 19; exact quiet_of (A1.out _)))))
      refine wpQuiet_nil ?_; intro w3 hb3; replace q_x := box_on q_x rfl hb3; replace q_r := box_on q_r rfl hb3; replace q_res := box_on q_res rfl hb3; have hw3 := nxt hw1 hb3; replace R_res := blk_on R_res hb3; replace R_free := blk_free R_res; clear q_xF0 q_xF1 q_rF0 q_rF1 q_resF0 q_resF1 g_0
      clear A1; have hres := hide (lt_of_cells R_res)
      go_wp2_with fail
      refine (spec_l05Put (StoreR.good.nxt hw3 H0_x) HK.out hm (RowR.good.nxt hw3 H0_r) HK2.out hrm.out).mono ?_; rintro e w4 ⟨cs2, bs2, rfl, r2, s2, hb4⟩; replace q_x := box_on q_x rfl hb4; replace q_r := box_on q_r rfl hb4; replace q_res := box_on q_res rfl hb4; have hw4 := nxt hw3 hb4; replace R_res := blk_on R_res hb4; replace R_free := blk_free R_res
      have r20 := r2; obtain ⟨w2v, w2b, hw2, rfl, _, w2r⟩ := r2; obtain ⟨A2, n2, c2, rfl⟩ : ∃ A n c, w2v = .slice A n c := by obtain ⟨A, c, h, _⟩ := w2r; exact ⟨A, _, c, by simpa using h⟩
      go_wp2_with fail
      have fin : _ = some (Obj.cells #[.slice A2 n2 c2, .int .i64 x.next] 32 (0, 0)) := (blk_set (blk_set R_res 0 (.slice A2 n2 c2)) 1 (.int .i64 x.next))
      have fc := blk_cells fin
      have HU := (((Upd.refl [w.heap.size + 1 + 1] w4).set (p := ⟨w.heap.size + 1 + 1, 0, none⟩) (by simp) rfl (.slice A2 n2 c2)).set (p := ⟨w.heap.size + 1 + 1, 1, none⟩) (by simp) rfl (.int .i64 x.next))
      refine bodyPost_ret (v := .tuple #[.agg #[.slice A2 n2 c2, .int .i64 x.next], .int .i64 0]) (by simp [results, Try.results6, go_sem, fc]) rfl ?_
      rw [hs.out]
      have hn : ∀ b ∈ bs2, b ∉ [w.heap.size + 1 + 1] := fun b hb hm => by have := s2 b hb; have := hres.out; simp at hm; omega
      exact ⟨[.slice A2 n2 c2, .int .i64 x.next], bs2, rfl, StoreR.good.upd r20 HU hn, (fun b hb => Nat.le_trans (hw3).size (s2 b hb)), ((hw4.setCell (p := ⟨w.heap.size + 1 + 1, 0, none⟩) (by simp; try omega) (.slice A2 n2 c2)).setCell (p := ⟨w.heap.size + 1 + 1, 1, none⟩) (by simp; try omega) (.int .i64 x.next))⟩
    · have hs : Hid (putAns x m r = (x, 7)) := by show _ = _; rw [hs0.out, h5, h6]; rfl
      clear h5 hs0
      have h7 : decide ((12 : Int) ≤ x.tables[m].length) = true := h6
      clear h6
      go_wp2_with fail
      have q_xF0 := Fw.cell (box_cell q_x 0 rfl)
      have q_xF1 := Fw.cell (box_cell q_x 1 rfl)
      have q_rF0 := Fw.cell (box_cell q_r 0 rfl)
      have q_rF1 := Fw.cell (box_cell q_r 1 rfl)
      have q_resF0 := Fw.cell (box_cell q_res 0 rfl)
      have q_resF1 := Fw.cell (box_cell q_res 1 rfl)
      refine region_quiet (by kernel_rfl) (by kernel_rfl) ?_
      repeat (go_big_quiet_step ((first | (go_at_call 19; exact quiet_of (A1.out _)))))
      refine wpQuiet_nil ?_; intro w5 hb5; replace q_x := box_on q_x rfl hb5; replace q_r := box_on q_r rfl hb5; replace q_res := box_on q_res rfl hb5; have hw5 := nxt hw1 hb5; replace R_res := blk_on R_res hb5; replace R_free := blk_free R_res; clear q_xF0 q_xF1 q_rF0 q_rF1 q_resF0 q_resF1 g_0
      clear h7 A1; have hres := hide (lt_of_cells R_res)
      go_wp2_with fail
      refine (spec_l05Own (StoreR.good.nxt hw5 H0_x) HK.out).mono ?_; rintro e w6 ⟨cs2, bs2, rfl, r2, f2, hb6⟩; replace q_x := box_on q_x rfl hb6; replace q_r := box_on q_r rfl hb6; replace q_res := box_on q_res rfl hb6; have hw6 := nxt hw5 hb6; replace R_res := blk_on R_res hb6; replace R_free := blk_free R_res
      have r20 := r2; obtain ⟨w2v, w2b, _, rfl, _, w2r⟩ := r2; obtain ⟨A2, c2, rfl, _, _, _⟩ := w2r.use
      go_wp2_with fail
      have fin : _ = some (Obj.cells #[.slice A2 x.tables.length c2, .int .i64 x.next] 32 (0, 0)) := (blk_set (blk_set R_res 0 (.slice A2 x.tables.length c2)) 1 (.int .i64 x.next))
      have fc := blk_cells fin
      have HU := (((Upd.refl [w.heap.size + 1 + 1] w6).set (p := ⟨w.heap.size + 1 + 1, 0, none⟩) (by simp) rfl (.slice A2 x.tables.length c2)).set (p := ⟨w.heap.size + 1 + 1, 1, none⟩) (by simp) rfl (.int .i64 x.next))
      refine bodyPost_ret (v := .tuple #[.agg #[.slice A2 x.tables.length c2, .int .i64 x.next], .int .i64 7]) (by simp [results, Try.results6, go_sem, fc]) rfl ?_
      rw [hs.out]
      have hn : ∀ b ∈ bs2, b ∉ [w.heap.size + 1 + 1] := fun b hb hm => by have := (f2.2 b hb).1; have := hres.out; simp at hm; omega
      exact ⟨[.slice A2 x.tables.length c2, .int .i64 x.next], bs2, rfl, StoreR.good.upd r20 HU hn, (fun b hb => Nat.le_trans (hw5).size (f2.2 b hb).1), ((hw6.setCell (p := ⟨w.heap.size + 1 + 1, 0, none⟩) (by simp; try omega) (.slice A2 x.tables.length c2)).setCell (p := ⟨w.heap.size + 1 + 1, 1, none⟩) (by simp; try omega) (.int .i64 x.next))⟩
  · have hs : Hid (putAns x m r = (⟨x.tables.set m (putL x.tables[m] r), x.next⟩, 0)) := by show _ = _; rw [hs0.out, h5]; rfl
    have hi := hide (rowIdx_lb hrm.out h5).1
    have hd : decide (rowIdx x.tables[m] r.id < 0) = false := decide_eq_false (by rw [hi.out]; omega)
    clear hi h5 hs0
    go_wp2_with fail
    have q_xF0 := Fw.cell (box_cell q_x 0 rfl)
    have q_xF1 := Fw.cell (box_cell q_x 1 rfl)
    have q_rF0 := Fw.cell (box_cell q_r 0 rfl)
    have q_rF1 := Fw.cell (box_cell q_r 1 rfl)
    have q_resF0 := Fw.cell (box_cell q_res 0 rfl)
    have q_resF1 := Fw.cell (box_cell q_res 1 rfl)
    refine region_quiet (by kernel_rfl) (by kernel_rfl) ?_
    repeat (go_big_quiet_step ((first | (go_at_call 19; exact quiet_of (A1.out _)))))
    refine wpQuiet_nil ?_; intro w7 hb7; replace q_x := box_on q_x rfl hb7; replace q_r := box_on q_r rfl hb7; replace q_res := box_on q_res rfl hb7; have hw7 := nxt hw1 hb7; replace R_res := blk_on R_res hb7; replace R_free := blk_free R_res; clear q_xF0 q_xF1 q_rF0 q_rF1 q_resF0 q_resF1 g_0
    clear A1; have hres := hide (lt_of_cells R_res)
    go_wp2_with fail
    refine (spec_l05Put (StoreR.good.nxt hw7 H0_x) HK.out hm (RowR.good.nxt hw7 H0_r) HK2.out hrm.out).mono ?_; rintro e w8 ⟨cs2, bs2, rfl, r2, s2, hb8⟩; replace q_x := box_on q_x rfl hb8; replace q_r := box_on q_r rfl hb8; replace q_res := box_on q_res rfl hb8; have hw8 := nxt hw7 hb8; replace R_res := blk_on R_res hb8; replace R_free := blk_free R_res
    have r20 := r2; obtain ⟨w2v, w2b, hw2, rfl, _, w2r⟩ := r2; obtain ⟨A2, n2, c2, rfl⟩ : ∃ A n c, w2v = .slice A n c := by obtain ⟨A, c, h, _⟩ := w2r; exact ⟨A, _, c, by simpa using h⟩
    go_wp2_with fail
    have fin : _ = some (Obj.cells #[.slice A2 n2 c2, .int .i64 x.next] 32 (0, 0)) := (blk_set (blk_set R_res 0 (.slice A2 n2 c2)) 1 (.int .i64 x.next))
    have fc := blk_cells fin
    have HU := (((Upd.refl [w.heap.size + 1 + 1] w8).set (p := ⟨w.heap.size + 1 + 1, 0, none⟩) (by simp) rfl (.slice A2 n2 c2)).set (p := ⟨w.heap.size + 1 + 1, 1, none⟩) (by simp) rfl (.int .i64 x.next))
    refine bodyPost_ret (v := .tuple #[.agg #[.slice A2 n2 c2, .int .i64 x.next], .int .i64 0]) (by simp [results, Try.results6, go_sem, fc]) rfl ?_
    rw [hs.out]
    have hn : ∀ b ∈ bs2, b ∉ [w.heap.size + 1 + 1] := fun b hb hm => by have := s2 b hb; have := hres.out; simp at hm; omega
    exact ⟨[.slice A2 n2 c2, .int .i64 x.next], bs2, rfl, StoreR.good.upd r20 HU hn, (fun b hb => Nat.le_trans (hw7).size (s2 b hb)), ((hw8.setCell (p := ⟨w.heap.size + 1 + 1, 0, none⟩) (by simp; try omega) (.slice A2 n2 c2)).setCell (p := ⟨w.heap.size + 1 + 1, 1, none⟩) (by simp; try omega) (.int .i64 x.next))⟩
end Go.Proofs.Ytfkpllkgganejaa
