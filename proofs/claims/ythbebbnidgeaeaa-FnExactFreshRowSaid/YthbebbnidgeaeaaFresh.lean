/- FreshRow, in the program and in the reference. No statement is proved here; no conditions. Written by a program (gen25.py). -/
import Derived.Test.YthbebbnidgeaeaaRowAt
import Derived.Test.YthbebbnidgeaeaaStart
import Derived.Test.YthbebbnidgeaeaaMarkT
import Derived.Test.YthbebbnidgeaeaaMark
import Derived.Test.YthbebbnidgeaeaaFitRow
namespace Go.Proofs.Ythbebbnidgeaeaa
open Go.ChangeShapes Go.WideShapes Go.ChangeAt Go.RowKit Go.Deep
set_option maxRecDepth 100000
set_option linter.unusedVariables false
set_option linter.unusedSimpArgs false

theorem OwnA.nil {α : Type} {R : Rd α} {size : Nat} {e : TypeId} {lo out : Nat} {w : World} : OwnA size R e lo out w (.slice none 0 0) [] := ⟨[], Gr.nil e lo w, Fr.nil _ _, by simp [Value.ownBlock], by simp⟩
def freshOf (t : Table) (id : Int) : Row := ⟨id, t.columns.map startOf⟩
def freshAns (t : Table) (id : Int) : Row × Int := cond (tblOK t) (cond (inB id 1 1000000) (freshOf t id, 0) (⟨0, []⟩, 4)) (⟨0, []⟩, 1)
theorem map_step {α β : Type} (f : α → β) {xs : List α} {k : Nat} (h : k < xs.length) : (xs.take (k + 1)).map f = (xs.take k).map f ++ [f xs[k]] := by rw [take_step h, List.map_append]; rfl
theorem freshAns_wt {t : Table} (h : t.bulk ≤ 1048576) (id : Int) : Row.wtV (freshAns t id).1 ≤ 3145728 := by
  have h1 : t.columns.length ≤ 1048576 := Nat.le_trans (bulkL_len Column.bulk _) (by unfold Table.bulk ColumnS.bulk at h; omega)
  have h2 : ∀ cs : List Column, AtomSS.wt (cs.map startOf) ≤ 3 * cs.length := by
    intro cs
    unfold AtomSS.wt
    induction cs with
    | nil => simp
    | cons c cs ih =>
      have : AtomS.wt (startOf c) ≤ 3 := by unfold startOf; split <;> simp [AtomS.wt, Atom.wt]
      simp only [List.map_cons, List.sum_cons, List.length_cons]; omega
  have h3 := h2 t.columns
  unfold freshAns
  cases tblOK t
  · simp [Row.wtV, AtomSS.wt]
  · cases inB id 1 1000000
    · simp [Row.wtV, AtomSS.wt]
    · show AtomSS.wt (t.columns.map startOf) ≤ _; omega
theorem tbl_cols {t : Table} (h : tblOK t = true) : t.columns.length ≤ 1048576 := by
  unfold tblOK at h; simp only [Bool.and_eq_true] at h; have := inB_iff.1 h.2.1; omega
theorem id_wf {n : Int} (h : inB n 1 1000000 = true) : (Lit.int .i64 n).wf = true := by have := inB_iff.1 h; exact wf_mk (by omega) (by omega)
set_option maxHeartbeats 8000000 in
theorem impl_freshRow {w : World}  {bs_t : List Nat} {cs_t : List Value} {t : Table} (H_t : TableR w bs_t cs_t t) (id : Int) (hn : t.columns.length ≤ 1048576) (hid : (Lit.int .i64 id).wf = true) :
    Calls Try.prog 79 #[.agg cs_t.toArray, .int .i64 id] w (ToP RowR w (freshOf t id)) := by
  have H0_t := H_t
  obtain ⟨t_v1, t_b1, t_v2, t_b2, rfl, rfl, hf_t, t_r1, t_r2⟩ := H_t
  obtain ⟨A_t1, c_t1, rfl, hlc_t1, hcm_t1, hel_t1⟩ := t_r1.use
  obtain ⟨A_t2, c_t2, rfl, hlc_t2, hcm_t2, hel_t2⟩ := t_r2.use
  have hbx := (((Below.refl w.heap.size w).alloc (Nat.le_refl _) (.cells #[.string t.name, .slice A_t1 t.columns.length c_t1, .slice A_t2 t.unique.length c_t2, .bool t.root] 34)).alloc (by simp; try omega) (.cells #[.int .i64 0, .slice none 0 0] 62))
  obtain ⟨q_t, q_res⟩ := two_at (Below.refl ((w.alloc (.cells #[.string t.name, .slice A_t1 t.columns.length c_t1, .slice A_t2 t.unique.length c_t2, .bool t.root] 34)).alloc (.cells #[.int .i64 0, .slice none 0 0] 62)).heap.size _)
  have R_res : World.heap ((w.alloc (.cells #[.string t.name, .slice A_t1 t.columns.length c_t1, .slice A_t2 t.unique.length c_t2, .bool t.root] 34)).alloc (.cells #[.int .i64 0, .slice none 0 0] 62)) = World.heap ((w.alloc (.cells #[.string t.name, .slice A_t1 t.columns.length c_t1, .slice A_t2 t.unique.length c_t2, .bool t.root] 34)).alloc (.cells #[.int .i64 0, .slice none 0 0] 62)) := rfl
  clear R_res
  have R_res : (World.heap ((w.alloc (.cells #[.string t.name, .slice A_t1 t.columns.length c_t1, .slice A_t2 t.unique.length c_t2, .bool t.root] 34)).alloc (.cells #[.int .i64 0, .slice none 0 0] 62)))[w.heap.size + 1]? = some (.cells #[.int .i64 0, .slice none 0 0] 62 (0, 0)) := by simpa using blk_new ((w.alloc (.cells #[.string t.name, .slice A_t1 t.columns.length c_t1, .slice A_t2 t.unique.length c_t2, .bool t.root] 34))) #[.int .i64 0, .slice none 0 0] 62
  have R_free := blk_free R_res
  have HN := hide hn; clear hn hel_t2
  have HL : Hid ((World.heap (((w.alloc (.cells #[.string t.name, .slice A_t1 t.columns.length c_t1, .slice A_t2 t.unique.length c_t2, .bool t.root] 34)).alloc (.cells #[.int .i64 0, .slice none 0 0] 62)))).size = w.heap.size + 1 + 1) := by show _ = _; simp
  obtain ⟨ii, hi, hz, hs, hby⟩ := info_parts AtomSS.info
  have B1 : (World.heap (((w.alloc (.cells #[.string t.name, .slice A_t1 t.columns.length c_t1, .slice A_t2 t.unique.length c_t2, .bool t.root] 34)).alloc (.cells #[.int .i64 0, .slice none 0 0] 62)).alloc (.cells #[.int .i64 id, .slice none 0 0] 62)))[w.heap.size + 1 + 1]? = some (.cells #[.int .i64 id, .slice none 0 0] 62 (0, 0)) := by simpa using blk_new ((w.alloc (.cells #[.string t.name, .slice A_t1 t.columns.length c_t1, .slice A_t2 t.unique.length c_t2, .bool t.root] 34)).alloc (.cells #[.int .i64 0, .slice none 0 0] 62)) #[.int .i64 id, .slice none 0 0] 62
  go_enter Try.func79, Try.ntmps79
  go_wp2_with fail
  go_loopw [13] (fun i wr => ∃ (k : Nat) (v : Value), k ≤ t.columns.length ∧ i = .int .i64 k ∧ Hid (OwnA 1 AtomSR 92 (World.heap (((w.alloc (.cells #[.string t.name, .slice A_t1 t.columns.length c_t1, .slice A_t2 t.unique.length c_t2, .bool t.root] 34)).alloc (.cells #[.int .i64 0, .slice none 0 0] 62)))).size (w.heap.size + 1 + 1) wr v ((t.columns.take k).map startOf)) ∧ Hid (wr.heap[w.heap.size + 1 + 1]? = some (.cells #[.int .i64 id, v] 62 (0, 0))) ∧ Below (World.heap (((w.alloc (.cells #[.string t.name, .slice A_t1 t.columns.length c_t1, .slice A_t2 t.unique.length c_t2, .bool t.root] 34)).alloc (.cells #[.int .i64 0, .slice none 0 0] 62)))).size (((w.alloc (.cells #[.string t.name, .slice A_t1 t.columns.length c_t1, .slice A_t2 t.unique.length c_t2, .bool t.root] 34)).alloc (.cells #[.int .i64 0, .slice none 0 0] 62))) wr) (fun i _ => t.columns.length - (intOf i).toNat)
  case atStart => exact ⟨0, _, Nat.zero_le _, rfl, OwnA.nil, B1, (Below.refl _ _).alloc (Nat.le_refl _) _⟩
  case round =>
    clear  B1; have q_t0 := q_t; obtain ⟨k, v, hk, rfl, hG, hB, hbr⟩ := hrel
    have hwr := nxt hbx hbr
    replace q_t := box_on q_t rfl hbr; replace q_res := box_on q_res rfl hbr; replace R_res := blk_on R_res hbr; replace R_free := blk_free R_res
    have hsz := hbr.size; rw [HL.out] at hsz
    have BF := blk_free hB.out; have hBl := lt_of_cells hB.out
    have c0 : wr.cell? ⟨w.heap.size + 1 + 1, 0, none⟩ = some (.int .i64 id) := blk_cells hB.out 0; have c1 : wr.cell? ⟨w.heap.size + 1 + 1, 1, none⟩ = some v := blk_cells hB.out 1
    by_cases hlt : k < t.columns.length
    · obtain ⟨gb, go, gbk, ges, rfl, ghbl, ghcl, ghcell, gR, ghbk⟩ := hel_t1 k hlt
      obtain ⟨_, ghes, ghf⟩ := gR
      subst ghes
      have g_0 := (hwr.cell (p := ⟨gb, _, none⟩) ghbl).trans (ghcell 0 _ rfl)
      have g_1 := (hwr.cell (p := ⟨gb, _, none⟩) ghbl).trans (ghcell 1 _ rfl)
      have g_2 := (hwr.cell (p := ⟨gb, _, none⟩) ghbl).trans (ghcell 2 _ rfl)
      have g_3 := (hwr.cell (p := ⟨gb, _, none⟩) ghbl).trans (ghcell 3 _ rfl)
      have g_4 := (hwr.cell (p := ⟨gb, _, none⟩) ghbl).trans (ghcell 4 _ rfl)
      have g_5 := (hwr.cell (p := ⟨gb, _, none⟩) ghbl).trans (ghcell 5 _ rfl)
      have g_6 := (hwr.cell (p := ⟨gb, _, none⟩) ghbl).trans (ghcell 6 _ rfl)
      have g_7 := (hwr.cell (p := ⟨gb, _, none⟩) ghbl).trans (ghcell 7 _ rfl)
      simp only [Nat.add_zero] at g_0 g_1 g_2 g_3 g_4 g_5 g_6 g_7
      clear hel_t1
      have hbdt : Hid (((t.columns.take k).map startOf).length ≤ 1048576) := by show _ ≤ _; rw [List.length_map, List.length_take]; have := HN.out; omega
      have HF := hide ghf
      have hal := (Below.refl wr.heap.size wr).alloc (Nat.le_refl _) (.cells #[.string t.columns[k].name, .int .i64 t.columns[k].kind, .int .i64 t.columns[k].min, .int .i64 t.columns[k].max, .int .i64 t.columns[k].low, .int .i64 t.columns[k].high, .string t.columns[k].ref, .bool t.columns[k].strong] 38)
      have qc := blk_cells (blk_new wr #[.string t.columns[k].name, .int .i64 t.columns[k].kind, .int .i64 t.columns[k].min, .int .i64 t.columns[k].max, .int .i64 t.columns[k].low, .int .i64 t.columns[k].high, .string t.columns[k].ref, .bool t.columns[k].strong] 38)
      have e_0 := box_cell qc 0 rfl
      have e_1 := box_cell qc 1 rfl
      have e_2 := box_cell qc 2 rfl
      have e_3 := box_cell qc 3 rfl
      have e_4 := box_cell qc 4 rfl
      have e_5 := box_cell qc 5 rfl
      have e_6 := box_cell qc 6 rfl
      have e_7 := box_cell qc 7 rfl
      have c1a := cell_al c1 (.cells #[.string t.columns[k].name, .int .i64 t.columns[k].kind, .int .i64 t.columns[k].min, .int .i64 t.columns[k].max, .int .i64 t.columns[k].low, .int .i64 t.columns[k].high, .string t.columns[k].ref, .bool t.columns[k].strong] 38)
      go_wp2_with fail
      refine wp_region_tail (fun w' => w'.cell? ⟨w.heap.size + 1 + 1, 1, none⟩ = some v ∧ w'.cell? ⟨wr.heap.size, 0, none⟩ = some (.string t.columns[k].name) ∧ w'.cell? ⟨wr.heap.size, 1, none⟩ = some (.int .i64 t.columns[k].kind) ∧ w'.cell? ⟨wr.heap.size, 2, none⟩ = some (.int .i64 t.columns[k].min) ∧ w'.cell? ⟨wr.heap.size, 3, none⟩ = some (.int .i64 t.columns[k].max) ∧ w'.cell? ⟨wr.heap.size, 4, none⟩ = some (.int .i64 t.columns[k].low) ∧ w'.cell? ⟨wr.heap.size, 5, none⟩ = some (.int .i64 t.columns[k].high) ∧ w'.cell? ⟨wr.heap.size, 6, none⟩ = some (.string t.columns[k].ref) ∧ w'.cell? ⟨wr.heap.size, 7, none⟩ = some (.bool t.columns[k].strong)) 7 (by kernel_rfl) (by decide) (show _ from ⟨c1a, e_0, e_1, e_2, e_3, e_4, e_5, e_6, e_7⟩) (fun hHeld => ?_)
      refine wpT_take (i := 0) rfl (by kernel_rfl) (fun _ _ _ h => h) (Or.inl ⟨by rfl, fun w hSw => by (try dsimp only at hSw); first | (go_simp; done) | (go_simp; with_reducible rfl)⟩) (by assumption) ?_
      (try simp only [Act.put, List.setIfInBounds_toArray, List.set_cons_zero, List.set_cons_succ])
      refine wpT_take (i := 1) rfl (by kernel_rfl) (fun _ _ _ h => h) (Or.inl ⟨by rfl, fun w hSw => by (try dsimp only at hSw); first | (go_simp; done) | (go_simp; with_reducible rfl)⟩) (by assumption) ?_
      (try simp only [Act.put, List.setIfInBounds_toArray, List.set_cons_zero, List.set_cons_succ])
      refine wpT_take (i := 2) rfl (by kernel_rfl) (fun _ _ _ h => h) (Or.inl ⟨by rfl, fun w hSw => by (try dsimp only at hSw); first | (go_simp; done) | (go_simp; with_reducible rfl)⟩) (by assumption) ?_
      (try simp only [Act.put, List.setIfInBounds_toArray, List.set_cons_zero, List.set_cons_succ])
      refine wpT_one (i := 3) rfl (by kernel_rfl) (fun K hK => ?_)
      go_simp; go_at_call 133; refine (impl_start _ HF.out).mono ?_; rintro e wd ⟨v', bs', rfl, r', f', hb'⟩; obtain ⟨A', c', rfl, _, _, _⟩ := r'.use; have hbd := nxt' hal.drew hb'; have c2 := cell_on c1 hbd; have hbe := nxt' ((Below.refl (wr.alloc (.cells #[.string t.columns[k].name, .int .i64 t.columns[k].kind, .int .i64 t.columns[k].min, .int .i64 t.columns[k].max, .int .i64 t.columns[k].low, .int .i64 t.columns[k].high, .string t.columns[k].ref, .bool t.columns[k].strong] 38)).heap.size (wr.alloc (.cells #[.string t.columns[k].name, .int .i64 t.columns[k].kind, .int .i64 t.columns[k].min, .int .i64 t.columns[k].max, .int .i64 t.columns[k].low, .int .i64 t.columns[k].high, .string t.columns[k].ref, .bool t.columns[k].strong] 38))).drew) hb'; have e_0_2 := cell_on e_0 (hbe); have e_1_2 := cell_on e_1 (hbe); have e_2_2 := cell_on e_2 (hbe); have e_3_2 := cell_on e_3 (hbe); have e_4_2 := cell_on e_4 (hbe); have e_5_2 := cell_on e_5 (hbe); have e_6_2 := cell_on e_6 (hbe); have e_7_2 := cell_on e_7 (hbe); have hz2 := hbd.size
      clear hHeld; refine hK.out _ _ (show _ from ⟨c2, e_0_2, e_1_2, e_2_2, e_3_2, e_4_2, e_5_2, e_6_2, e_7_2⟩) (fun hHeld => ?_)
      clear hK K
      (try simp only [Act.put, List.setIfInBounds_toArray, List.set_cons_zero, List.set_cons_succ])
      refine wpT_one (i := 4) rfl (by kernel_rfl) (fun K hK => ?_)
      go_simp
      clear hHeld; refine hK.out _ _ (show _ from ⟨cell_al c2 _, cell_al e_0_2 _, cell_al e_1_2 _, cell_al e_2_2 _, cell_al e_3_2 _, cell_al e_4_2 _, cell_al e_5_2 _, cell_al e_6_2 _, cell_al e_7_2 _⟩) (fun hHeld => ?_)
      clear hK K
      (try simp only [Act.put, List.setIfInBounds_toArray, List.set_cons_zero, List.set_cons_succ])
      refine wpT_one (i := 5) rfl (by kernel_rfl) (fun K hK => ?_)
      refine step_append_ownA AtomSR.good rfl _ _ 60 rfl Try.underlying60 hi hz hs hby rfl (by decide) (fun _ _ _ _ h => h.oneCell) (v := v) (by rfl) hG.out hbd hBl (y := startOf t.columns[k]) (cy := [.slice A' (startOf t.columns[k]).length c']) r' (f'.mono (by first | exact Nat.le_refl _ | (simp [World.drew]; done) | (simp [World.drew]; omega))) (by rfl) rfl (by have := hbdt.out; omega) (by have := hbdt.out; omega) hbr.size ?_; intro v3 w3 hO hB3 hz3 hold holdW; obtain ⟨O3, n3, cO3, hv3⟩ : ∃ A n c, v3 = .slice A n c := (by obtain ⟨A, c, h, _⟩ := hO.own.form; exact ⟨A, _, c, h⟩); subst hv3; have hb3 := hB3 _ _ (nxt hbr hbd) (Nat.le_refl _); have BB := hold.trans (blk_on hB.out hbd); have BF := blk_free BB; have c3 : w3.cell? ⟨w.heap.size + 1 + 1, 1, none⟩ = some v := blk_cells BB 1; have hw3x := hB3 _ _ hbd; have e_0_3 : w3.cell? ⟨wr.heap.size, 0, none⟩ = some (.string t.columns[k].name) := (World.cell?_of_block (w := wd) (holdW wr.heap.size (Nat.le_refl _) (World.block_lt_of_cell? wd ⟨wr.heap.size, 0, none⟩ e_0_2))).trans e_0_2; have e_1_3 : w3.cell? ⟨wr.heap.size, 1, none⟩ = some (.int .i64 t.columns[k].kind) := (World.cell?_of_block (w := wd) (holdW wr.heap.size (Nat.le_refl _) (World.block_lt_of_cell? wd ⟨wr.heap.size, 0, none⟩ e_0_2))).trans e_1_2; have e_2_3 : w3.cell? ⟨wr.heap.size, 2, none⟩ = some (.int .i64 t.columns[k].min) := (World.cell?_of_block (w := wd) (holdW wr.heap.size (Nat.le_refl _) (World.block_lt_of_cell? wd ⟨wr.heap.size, 0, none⟩ e_0_2))).trans e_2_2; have e_3_3 : w3.cell? ⟨wr.heap.size, 3, none⟩ = some (.int .i64 t.columns[k].max) := (World.cell?_of_block (w := wd) (holdW wr.heap.size (Nat.le_refl _) (World.block_lt_of_cell? wd ⟨wr.heap.size, 0, none⟩ e_0_2))).trans e_3_2; have e_4_3 : w3.cell? ⟨wr.heap.size, 4, none⟩ = some (.int .i64 t.columns[k].low) := (World.cell?_of_block (w := wd) (holdW wr.heap.size (Nat.le_refl _) (World.block_lt_of_cell? wd ⟨wr.heap.size, 0, none⟩ e_0_2))).trans e_4_2; have e_5_3 : w3.cell? ⟨wr.heap.size, 5, none⟩ = some (.int .i64 t.columns[k].high) := (World.cell?_of_block (w := wd) (holdW wr.heap.size (Nat.le_refl _) (World.block_lt_of_cell? wd ⟨wr.heap.size, 0, none⟩ e_0_2))).trans e_5_2; have e_6_3 : w3.cell? ⟨wr.heap.size, 6, none⟩ = some (.string t.columns[k].ref) := (World.cell?_of_block (w := wd) (holdW wr.heap.size (Nat.le_refl _) (World.block_lt_of_cell? wd ⟨wr.heap.size, 0, none⟩ e_0_2))).trans e_6_2; have e_7_3 : w3.cell? ⟨wr.heap.size, 7, none⟩ = some (.bool t.columns[k].strong) := (World.cell?_of_block (w := wd) (holdW wr.heap.size (Nat.le_refl _) (World.block_lt_of_cell? wd ⟨wr.heap.size, 0, none⟩ e_0_2))).trans e_7_2
      clear hHeld; refine hK.out _ _ (show _ from ⟨c3, e_0_3, e_1_3, e_2_3, e_3_3, e_4_3, e_5_3, e_6_3, e_7_3⟩) (fun hHeld => ?_)
      clear hK K
      (try simp only [Act.put, List.setIfInBounds_toArray, List.set_cons_zero, List.set_cons_succ])
      refine wpT_take (i := 6) rfl (by kernel_rfl) (fun _ _ _ h => h) (Or.inl ⟨by rfl, fun w hSw => by (try dsimp only at hSw); first | (go_simp; done) | (go_simp; with_reducible rfl)⟩) (by assumption) ?_
      (try simp only [Act.put, List.setIfInBounds_toArray, List.set_cons_zero, List.set_cons_succ])
      refine wpT_done (by kernel_rfl) ?_
      simp only [List.drop_succ_cons, List.drop_zero]
      clear hHeld
      go_wp2_with fail
      go_roundw
      case rel => exact ⟨k + 1, _, hlt, by go_num, by rw [map_step startOf hlt]; exact hO.set AtomSR.good 1 (.slice O3 n3 cO3), blk_set BB 1 (.slice O3 n3 cO3), hb3.setCell (p := ⟨w.heap.size + 1 + 1, 1, none⟩) (by simp) _⟩
      case measure => simp [intOf]; omega
    · obtain rfl : k = t.columns.length := by omega
      have hG2 := hG.out; rw [List.take_length] at hG2; have HG := hide hG2; obtain ⟨O, n, cO, hv⟩ : ∃ A n c, v = .slice A n c := (by obtain ⟨A, c, h, _⟩ := hG2.own.form; exact ⟨A, _, c, h⟩); subst hv; clear hel_t1 hG hG2
      go_wp2_with fail
      have fin : _ = some (Obj.cells #[.int .i64 id, .slice O n cO] 62 (0, 0)) := (blk_set (blk_set R_res 0 (.int .i64 id)) 1 (.slice O n cO))
      have fc := blk_cells fin
      have HU := (((Upd.refl [w.heap.size + 1] wr).set (p := ⟨w.heap.size + 1, 0, none⟩) (by simp) rfl (.int .i64 id)).set (p := ⟨w.heap.size + 1, 1, none⟩) (by simp) rfl (.slice O n cO))
      refine bodyPost_ret (v := .agg #[.int .i64 id, .slice O n cO]) (by simp [results, Try.results79, go_sem, fc]) rfl ?_
      obtain ⟨bs', q1, q2⟩ := HG.out.own.done
      have hn : ∀ b ∈ bs', b ∉ [w.heap.size + 1] := fun b hb hm => by have := (q2.2 b hb).1; simp at this hm; omega
      exact ⟨[.int .i64 id, .slice O n cO], bs', rfl, ⟨_, bs', rfl, rfl, hid, AtomSSR.good.upd q1 HU hn⟩, (q2.upd HU).mono (by simp; omega), ((hwr.setCell (p := ⟨w.heap.size + 1, 0, none⟩) (by simp) (.int .i64 id)).setCell (p := ⟨w.heap.size + 1, 1, none⟩) (by simp) (.slice O n cO))⟩
set_option maxHeartbeats 8000000 in
theorem spec_l08Fresh {w : World}  {bs_t : List Nat} {cs_t : List Value} {t : Table} (H_t : TableR w bs_t cs_t t) (id : Int) (hn : t.columns.length ≤ 1048576) (hid : (Lit.int .i64 id).wf = true) :
    Calls Try.prog 75 #[.agg cs_t.toArray, .int .i64 id] w (ToP RowR w (freshOf t id)) := by
  have H0_t := H_t
  obtain ⟨t_v1, t_b1, t_v2, t_b2, rfl, rfl, hf_t, t_r1, t_r2⟩ := H_t
  obtain ⟨A_t1, c_t1, rfl, hlc_t1, hcm_t1, hel_t1⟩ := t_r1.use
  obtain ⟨A_t2, c_t2, rfl, hlc_t2, hcm_t2, hel_t2⟩ := t_r2.use
  have hbx := (((Below.refl w.heap.size w).alloc (Nat.le_refl _) (.cells #[.string t.name, .slice A_t1 t.columns.length c_t1, .slice A_t2 t.unique.length c_t2, .bool t.root] 34)).alloc (by simp; try omega) (.cells #[.int .i64 0, .slice none 0 0] 62))
  obtain ⟨q_t, q_res⟩ := two_at (Below.refl ((w.alloc (.cells #[.string t.name, .slice A_t1 t.columns.length c_t1, .slice A_t2 t.unique.length c_t2, .bool t.root] 34)).alloc (.cells #[.int .i64 0, .slice none 0 0] 62)).heap.size _)
  have R_res : World.heap ((w.alloc (.cells #[.string t.name, .slice A_t1 t.columns.length c_t1, .slice A_t2 t.unique.length c_t2, .bool t.root] 34)).alloc (.cells #[.int .i64 0, .slice none 0 0] 62)) = World.heap ((w.alloc (.cells #[.string t.name, .slice A_t1 t.columns.length c_t1, .slice A_t2 t.unique.length c_t2, .bool t.root] 34)).alloc (.cells #[.int .i64 0, .slice none 0 0] 62)) := rfl
  clear R_res
  have R_res : (World.heap ((w.alloc (.cells #[.string t.name, .slice A_t1 t.columns.length c_t1, .slice A_t2 t.unique.length c_t2, .bool t.root] 34)).alloc (.cells #[.int .i64 0, .slice none 0 0] 62)))[w.heap.size + 1]? = some (.cells #[.int .i64 0, .slice none 0 0] 62 (0, 0)) := by simpa using blk_new ((w.alloc (.cells #[.string t.name, .slice A_t1 t.columns.length c_t1, .slice A_t2 t.unique.length c_t2, .bool t.root] 34))) #[.int .i64 0, .slice none 0 0] 62
  have R_free := blk_free R_res
  have HN := hide hn; clear hn hel_t2
  have HL : Hid ((World.heap (((w.alloc (.cells #[.string t.name, .slice A_t1 t.columns.length c_t1, .slice A_t2 t.unique.length c_t2, .bool t.root] 34)).alloc (.cells #[.int .i64 0, .slice none 0 0] 62)))).size = w.heap.size + 1 + 1) := by show _ = _; simp
  obtain ⟨ii, hi, hz, hs, hby⟩ := info_parts AtomSS.info
  have hG1 := hide (OwnA.made (size := 1) (R := AtomSR) (e := 92) (w := ((w.alloc (.cells #[.string t.name, .slice A_t1 t.columns.length c_t1, .slice A_t2 t.unique.length c_t2, .bool t.root] 34)).alloc (.cells #[.int .i64 0, .slice none 0 0] 62))) (n := w.heap.size + 1 + 1) (out := w.heap.size + 1 + 1 + 1) (by simp) (by omega))
  have B1 : (World.heap ((((w.alloc (.cells #[.string t.name, .slice A_t1 t.columns.length c_t1, .slice A_t2 t.unique.length c_t2, .bool t.root] 34)).alloc (.cells #[.int .i64 0, .slice none 0 0] 62)).alloc (.cells #[] 92)).alloc (.cells #[.int .i64 id, .slice (some ⟨w.heap.size + 1 + 1, 0, none⟩) 0 0] 62)))[w.heap.size + 1 + 1 + 1]? = some (.cells #[.int .i64 id, .slice (some ⟨w.heap.size + 1 + 1, 0, none⟩) 0 0] 62 (0, 0)) := by simpa using blk_new (((w.alloc (.cells #[.string t.name, .slice A_t1 t.columns.length c_t1, .slice A_t2 t.unique.length c_t2, .bool t.root] 34)).alloc (.cells #[.int .i64 0, .slice none 0 0] 62)).alloc (.cells #[] 92)) #[.int .i64 id, .slice (some ⟨w.heap.size + 1 + 1, 0, none⟩) 0 0] 62
  go_enter Try.func75, Try.ntmps75
  go_wp2_with fail
  go_loopw [6] (fun i wr => ∃ (k : Nat) (v : Value), k ≤ t.columns.length ∧ i = .int .i64 k ∧ Hid (OwnA 1 AtomSR 92 (World.heap (((w.alloc (.cells #[.string t.name, .slice A_t1 t.columns.length c_t1, .slice A_t2 t.unique.length c_t2, .bool t.root] 34)).alloc (.cells #[.int .i64 0, .slice none 0 0] 62)))).size (w.heap.size + 1 + 1 + 1) wr v ((t.columns.take k).map startOf)) ∧ Hid (wr.heap[w.heap.size + 1 + 1 + 1]? = some (.cells #[.int .i64 id, v] 62 (0, 0))) ∧ Below (World.heap (((w.alloc (.cells #[.string t.name, .slice A_t1 t.columns.length c_t1, .slice A_t2 t.unique.length c_t2, .bool t.root] 34)).alloc (.cells #[.int .i64 0, .slice none 0 0] 62)))).size (((w.alloc (.cells #[.string t.name, .slice A_t1 t.columns.length c_t1, .slice A_t2 t.unique.length c_t2, .bool t.root] 34)).alloc (.cells #[.int .i64 0, .slice none 0 0] 62))) wr) (fun i _ => t.columns.length - (intOf i).toNat)
  case atStart => exact ⟨0, _, Nat.zero_le _, rfl, OwnA.below AtomSR.good hG1 ((Below.refl _ _).alloc (Nat.le_refl _) _), B1, ((Below.refl _ _).alloc (Nat.le_refl _) _).alloc (by simp) _⟩
  case round =>
    clear hG1 B1; have q_t0 := q_t; obtain ⟨k, v, hk, rfl, hG, hB, hbr⟩ := hrel
    have hwr := nxt hbx hbr
    replace q_t := box_on q_t rfl hbr; replace q_res := box_on q_res rfl hbr; replace R_res := blk_on R_res hbr; replace R_free := blk_free R_res
    have hsz := hbr.size; rw [HL.out] at hsz
    have BF := blk_free hB.out; have hBl := lt_of_cells hB.out
    have c0 : wr.cell? ⟨w.heap.size + 1 + 1 + 1, 0, none⟩ = some (.int .i64 id) := blk_cells hB.out 0; have c1 : wr.cell? ⟨w.heap.size + 1 + 1 + 1, 1, none⟩ = some v := blk_cells hB.out 1
    by_cases hlt : k < t.columns.length
    · obtain ⟨gb, go, gbk, ges, rfl, ghbl, ghcl, ghcell, gR, ghbk⟩ := hel_t1 k hlt
      obtain ⟨_, ghes, ghf⟩ := gR
      subst ghes
      have g_0 := (hwr.cell (p := ⟨gb, _, none⟩) ghbl).trans (ghcell 0 _ rfl)
      have g_1 := (hwr.cell (p := ⟨gb, _, none⟩) ghbl).trans (ghcell 1 _ rfl)
      have g_2 := (hwr.cell (p := ⟨gb, _, none⟩) ghbl).trans (ghcell 2 _ rfl)
      have g_3 := (hwr.cell (p := ⟨gb, _, none⟩) ghbl).trans (ghcell 3 _ rfl)
      have g_4 := (hwr.cell (p := ⟨gb, _, none⟩) ghbl).trans (ghcell 4 _ rfl)
      have g_5 := (hwr.cell (p := ⟨gb, _, none⟩) ghbl).trans (ghcell 5 _ rfl)
      have g_6 := (hwr.cell (p := ⟨gb, _, none⟩) ghbl).trans (ghcell 6 _ rfl)
      have g_7 := (hwr.cell (p := ⟨gb, _, none⟩) ghbl).trans (ghcell 7 _ rfl)
      simp only [Nat.add_zero] at g_0 g_1 g_2 g_3 g_4 g_5 g_6 g_7
      clear hel_t1
      have hbdt : Hid (((t.columns.take k).map startOf).length ≤ 1048576) := by show _ ≤ _; rw [List.length_map, List.length_take]; have := HN.out; omega
      have HF := hide ghf
      go_wp2_with fail
      have d1 := box_cell q_t 1 rfl
      refine wp_region_tail (fun w' => w'.cell? ⟨w.heap.size + 1 + 1 + 1, 1, none⟩ = some v ∧ w'.cell? ⟨w.heap.size, 1, none⟩ = some (.slice (some ⟨gb, go, none⟩) t.columns.length c_t1) ∧ w'.cell? ⟨gb, go + k * 8, none⟩ = some (.string t.columns[k].name) ∧ w'.cell? ⟨gb, go + k * 8 + 1, none⟩ = some (.int .i64 t.columns[k].kind) ∧ w'.cell? ⟨gb, go + k * 8 + 2, none⟩ = some (.int .i64 t.columns[k].min) ∧ w'.cell? ⟨gb, go + k * 8 + 3, none⟩ = some (.int .i64 t.columns[k].max) ∧ w'.cell? ⟨gb, go + k * 8 + 4, none⟩ = some (.int .i64 t.columns[k].low) ∧ w'.cell? ⟨gb, go + k * 8 + 5, none⟩ = some (.int .i64 t.columns[k].high) ∧ w'.cell? ⟨gb, go + k * 8 + 6, none⟩ = some (.string t.columns[k].ref) ∧ w'.cell? ⟨gb, go + k * 8 + 7, none⟩ = some (.bool t.columns[k].strong)) 11 (by kernel_rfl) (by decide) (show _ from ⟨c1, d1, g_0, g_1, g_2, g_3, g_4, g_5, g_6, g_7⟩) (fun hHeld => ?_)
      refine wpT_take (i := 0) rfl (by kernel_rfl) (fun _ _ _ h => h) (Or.inl ⟨by rfl, fun w hSw => by (try dsimp only at hSw); first | (go_simp; done) | (go_simp; with_reducible rfl)⟩) (by assumption) ?_
      (try simp only [Act.put, List.setIfInBounds_toArray, List.set_cons_zero, List.set_cons_succ])
      refine wpT_take (i := 1) rfl (by kernel_rfl) (fun _ _ _ h => h) (Or.inl ⟨by rfl, fun w hSw => by (try dsimp only at hSw); first | (go_simp; done) | (go_simp; with_reducible rfl)⟩) (by assumption) ?_
      (try simp only [Act.put, List.setIfInBounds_toArray, List.set_cons_zero, List.set_cons_succ])
      refine wpT_take (i := 2) rfl (by kernel_rfl) (fun _ _ _ h => h) (Or.inl ⟨by rfl, fun w hSw => by (try dsimp only at hSw); first | (go_simp; done) | (go_simp; with_reducible rfl)⟩) (by assumption) ?_
      (try simp only [Act.put, List.setIfInBounds_toArray, List.set_cons_zero, List.set_cons_succ])
      refine wpT_take (i := 3) rfl (by kernel_rfl) (fun _ _ _ h => h) (Or.inl ⟨by rfl, fun w hSw => by (try dsimp only at hSw); first | (go_simp; done) | (go_simp; with_reducible rfl)⟩) (by assumption) ?_
      (try simp only [Act.put, List.setIfInBounds_toArray, List.set_cons_zero, List.set_cons_succ])
      refine wpT_take (i := 4) rfl (by kernel_rfl) (fun _ _ _ h => h) (Or.inl ⟨by rfl, fun w hSw => by (try dsimp only at hSw); first | (go_simp; done) | (go_simp; with_reducible rfl)⟩) (by assumption) ?_
      (try simp only [Act.put, List.setIfInBounds_toArray, List.set_cons_zero, List.set_cons_succ])
      refine wpT_take (i := 5) rfl (by kernel_rfl) (fun _ _ _ h => h) (Or.inl ⟨by rfl, fun w hSw => by (try dsimp only at hSw); first | (go_simp; done) | (go_simp; with_reducible rfl)⟩) (by assumption) ?_
      (try simp only [Act.put, List.setIfInBounds_toArray, List.set_cons_zero, List.set_cons_succ])
      refine wpT_take (i := 6) rfl (by kernel_rfl) (fun _ _ _ h => h) (Or.inl ⟨by rfl, fun w hSw => by (try dsimp only at hSw); first | (go_simp; done) | (go_simp; with_reducible rfl)⟩) (by assumption) ?_
      (try simp only [Act.put, List.setIfInBounds_toArray, List.set_cons_zero, List.set_cons_succ])
      refine wpT_one (i := 7) rfl (by kernel_rfl) (fun K hK => ?_)
      go_simp; go_at_call 131; refine (spec_l04Default _ HF.out).mono ?_; rintro e wd ⟨v', bs', rfl, r', f', hb'⟩; obtain ⟨A', c', rfl, _, _, _⟩ := r'.use; have hbd := nxt' (Below.refl wr.heap.size wr).drew hb'; have c2 := cell_on c1 hbd; have d1_2 := cell_on d1 (hbd); have g_0_2 := cell_on g_0 (hbd); have g_1_2 := cell_on g_1 (hbd); have g_2_2 := cell_on g_2 (hbd); have g_3_2 := cell_on g_3 (hbd); have g_4_2 := cell_on g_4 (hbd); have g_5_2 := cell_on g_5 (hbd); have g_6_2 := cell_on g_6 (hbd); have g_7_2 := cell_on g_7 (hbd); have hz2 := hbd.size
      clear hHeld; refine hK.out _ _ (show _ from ⟨c2, d1_2, g_0_2, g_1_2, g_2_2, g_3_2, g_4_2, g_5_2, g_6_2, g_7_2⟩) (fun hHeld => ?_)
      clear hK K
      (try simp only [Act.put, List.setIfInBounds_toArray, List.set_cons_zero, List.set_cons_succ])
      refine wpT_one (i := 8) rfl (by kernel_rfl) (fun K hK => ?_)
      go_simp
      clear hHeld; refine hK.out _ _ (show _ from ⟨cell_al c2 _, cell_al d1_2 _, cell_al g_0_2 _, cell_al g_1_2 _, cell_al g_2_2 _, cell_al g_3_2 _, cell_al g_4_2 _, cell_al g_5_2 _, cell_al g_6_2 _, cell_al g_7_2 _⟩) (fun hHeld => ?_)
      clear hK K
      (try simp only [Act.put, List.setIfInBounds_toArray, List.set_cons_zero, List.set_cons_succ])
      refine wpT_one (i := 9) rfl (by kernel_rfl) (fun K hK => ?_)
      refine step_append_ownA AtomSR.good rfl _ _ 60 rfl Try.underlying60 hi hz hs hby rfl (by decide) (fun _ _ _ _ h => h.oneCell) (v := v) (by rfl) hG.out hbd hBl (y := startOf t.columns[k]) (cy := [.slice A' (startOf t.columns[k]).length c']) r' (f'.mono (by first | exact Nat.le_refl _ | (simp [World.drew]; done) | (simp [World.drew]; omega))) (by rfl) rfl (by have := hbdt.out; omega) (by have := hbdt.out; omega) hbr.size ?_; intro v3 w3 hO hB3 hz3 hold holdW; obtain ⟨O3, n3, cO3, hv3⟩ : ∃ A n c, v3 = .slice A n c := (by obtain ⟨A, c, h, _⟩ := hO.own.form; exact ⟨A, _, c, h⟩); subst hv3; have hb3 := hB3 _ _ (nxt hbr hbd) (Nat.le_refl _); have BB := hold.trans (blk_on hB.out hbd); have BF := blk_free BB; have c3 : w3.cell? ⟨w.heap.size + 1 + 1 + 1, 1, none⟩ = some v := blk_cells BB 1; have hw3x := hB3 _ _ hbd; have d1_3 : w3.cell? ⟨w.heap.size, 1, none⟩ = some (.slice (some ⟨gb, go, none⟩) t.columns.length c_t1) := box_cell (box_on q_t0 rfl hb3) 1 rfl; have g_0_3 : w3.cell? ⟨gb, go + k * 8, none⟩ = some (.string t.columns[k].name) := (by have := ((nxt hbx hb3).cell (p := ⟨gb, _, none⟩) ghbl).trans (ghcell 0 _ rfl); simpa using this); have g_1_3 : w3.cell? ⟨gb, go + k * 8 + 1, none⟩ = some (.int .i64 t.columns[k].kind) := (by have := ((nxt hbx hb3).cell (p := ⟨gb, _, none⟩) ghbl).trans (ghcell 1 _ rfl); simpa using this); have g_2_3 : w3.cell? ⟨gb, go + k * 8 + 2, none⟩ = some (.int .i64 t.columns[k].min) := (by have := ((nxt hbx hb3).cell (p := ⟨gb, _, none⟩) ghbl).trans (ghcell 2 _ rfl); simpa using this); have g_3_3 : w3.cell? ⟨gb, go + k * 8 + 3, none⟩ = some (.int .i64 t.columns[k].max) := (by have := ((nxt hbx hb3).cell (p := ⟨gb, _, none⟩) ghbl).trans (ghcell 3 _ rfl); simpa using this); have g_4_3 : w3.cell? ⟨gb, go + k * 8 + 4, none⟩ = some (.int .i64 t.columns[k].low) := (by have := ((nxt hbx hb3).cell (p := ⟨gb, _, none⟩) ghbl).trans (ghcell 4 _ rfl); simpa using this); have g_5_3 : w3.cell? ⟨gb, go + k * 8 + 5, none⟩ = some (.int .i64 t.columns[k].high) := (by have := ((nxt hbx hb3).cell (p := ⟨gb, _, none⟩) ghbl).trans (ghcell 5 _ rfl); simpa using this); have g_6_3 : w3.cell? ⟨gb, go + k * 8 + 6, none⟩ = some (.string t.columns[k].ref) := (by have := ((nxt hbx hb3).cell (p := ⟨gb, _, none⟩) ghbl).trans (ghcell 6 _ rfl); simpa using this); have g_7_3 : w3.cell? ⟨gb, go + k * 8 + 7, none⟩ = some (.bool t.columns[k].strong) := (by have := ((nxt hbx hb3).cell (p := ⟨gb, _, none⟩) ghbl).trans (ghcell 7 _ rfl); simpa using this)
      clear hHeld; refine hK.out _ _ (show _ from ⟨c3, d1_3, g_0_3, g_1_3, g_2_3, g_3_3, g_4_3, g_5_3, g_6_3, g_7_3⟩) (fun hHeld => ?_)
      clear hK K
      (try simp only [Act.put, List.setIfInBounds_toArray, List.set_cons_zero, List.set_cons_succ])
      refine wpT_take (i := 10) rfl (by kernel_rfl) (fun _ _ _ h => h) (Or.inl ⟨by rfl, fun w hSw => by (try dsimp only at hSw); first | (go_simp; done) | (go_simp; with_reducible rfl)⟩) (by assumption) ?_
      (try simp only [Act.put, List.setIfInBounds_toArray, List.set_cons_zero, List.set_cons_succ])
      refine wpT_done (by kernel_rfl) ?_
      simp only [List.drop_succ_cons, List.drop_zero]
      clear hHeld
      go_wp2_with fail
      go_roundw
      case rel => exact ⟨k + 1, _, hlt, by go_num, by rw [map_step startOf hlt]; exact hO.set AtomSR.good 1 (.slice O3 n3 cO3), blk_set BB 1 (.slice O3 n3 cO3), hb3.setCell (p := ⟨w.heap.size + 1 + 1 + 1, 1, none⟩) (by simp) _⟩
      case measure => simp [intOf]; omega
    · obtain rfl : k = t.columns.length := by omega
      have hG2 := hG.out; rw [List.take_length] at hG2; have HG := hide hG2; obtain ⟨O, n, cO, hv⟩ : ∃ A n c, v = .slice A n c := (by obtain ⟨A, c, h, _⟩ := hG2.own.form; exact ⟨A, _, c, h⟩); subst hv; clear hel_t1 hG hG2
      go_wp2_with fail
      have fin : _ = some (Obj.cells #[.int .i64 id, .slice O n cO] 62 (0, 0)) := (blk_set (blk_set R_res 0 (.int .i64 id)) 1 (.slice O n cO))
      have fc := blk_cells fin
      have HU := (((Upd.refl [w.heap.size + 1] wr).set (p := ⟨w.heap.size + 1, 0, none⟩) (by simp) rfl (.int .i64 id)).set (p := ⟨w.heap.size + 1, 1, none⟩) (by simp) rfl (.slice O n cO))
      refine bodyPost_ret (v := .agg #[.int .i64 id, .slice O n cO]) (by simp [results, Try.results75, go_sem, fc]) rfl ?_
      obtain ⟨bs', q1, q2⟩ := HG.out.own.done
      have hn : ∀ b ∈ bs', b ∉ [w.heap.size + 1] := fun b hb hm => by have := (q2.2 b hb).1; simp at this hm; omega
      exact ⟨[.int .i64 id, .slice O n cO], bs', rfl, ⟨_, bs', rfl, rfl, hid, AtomSSR.good.upd q1 HU hn⟩, (q2.upd HU).mono (by simp; omega), ((hwr.setCell (p := ⟨w.heap.size + 1, 0, none⟩) (by simp) (.int .i64 id)).setCell (p := ⟨w.heap.size + 1, 1, none⟩) (by simp) (.slice O n cO))⟩
set_option maxHeartbeats 4000000 in
theorem impl_FreshRow {w : World}  {bs_t : List Nat} {cs_t : List Value} {t : Table} (H_t : TableR w bs_t cs_t t) (id : Int)  :
    Calls Try.prog 31 #[.agg cs_t.toArray, .int .i64 id] w (OutP RowR w (freshAns t id).1 (freshAns t id).2) := by
  have H0_t := H_t
  obtain ⟨t_v1, t_b1, t_v2, t_b2, rfl, rfl, hf_t, t_r1, t_r2⟩ := H_t
  obtain ⟨A_t1, c_t1, rfl, hlc_t1, hcm_t1, hel_t1⟩ := t_r1.use
  obtain ⟨A_t2, c_t2, rfl, hlc_t2, hcm_t2, hel_t2⟩ := t_r2.use
  have hbx := (((Below.refl w.heap.size w).alloc (Nat.le_refl _) (.cells #[.string t.name, .slice A_t1 t.columns.length c_t1, .slice A_t2 t.unique.length c_t2, .bool t.root] 34)).alloc (by simp; try omega) (.cells #[.int .i64 0, .slice none 0 0] 62))
  obtain ⟨q_t, q_res⟩ := two_at (Below.refl ((w.alloc (.cells #[.string t.name, .slice A_t1 t.columns.length c_t1, .slice A_t2 t.unique.length c_t2, .bool t.root] 34)).alloc (.cells #[.int .i64 0, .slice none 0 0] 62)).heap.size _)
  have R_res : World.heap ((w.alloc (.cells #[.string t.name, .slice A_t1 t.columns.length c_t1, .slice A_t2 t.unique.length c_t2, .bool t.root] 34)).alloc (.cells #[.int .i64 0, .slice none 0 0] 62)) = World.heap ((w.alloc (.cells #[.string t.name, .slice A_t1 t.columns.length c_t1, .slice A_t2 t.unique.length c_t2, .bool t.root] 34)).alloc (.cells #[.int .i64 0, .slice none 0 0] 62)) := rfl
  clear R_res
  have R_res : (World.heap ((w.alloc (.cells #[.string t.name, .slice A_t1 t.columns.length c_t1, .slice A_t2 t.unique.length c_t2, .bool t.root] 34)).alloc (.cells #[.int .i64 0, .slice none 0 0] 62)))[w.heap.size + 1]? = some (.cells #[.int .i64 0, .slice none 0 0] 62 (0, 0)) := by simpa using blk_new ((w.alloc (.cells #[.string t.name, .slice A_t1 t.columns.length c_t1, .slice A_t2 t.unique.length c_t2, .bool t.root] 34))) #[.int .i64 0, .slice none 0 0] 62
  have R_free := blk_free R_res
  clear hel_t1 hel_t2
  go_enter Try.func31, Try.ntmps31
  go_wp2_with fail
  refine (impl_isTable (TableR.good.nxt hbx H0_t)).mono ?_; rintro e w1 ⟨rfl, hb1⟩; replace q_t := box_on q_t rfl hb1; replace q_res := box_on q_res rfl hb1; have hw1 := nxt hbx hb1; replace R_res := blk_on R_res hb1; replace R_free := blk_free R_res
  cases h1 : tblOK t
  · have hs : Hid (freshAns t id = (⟨0, []⟩, 1)) := by show _ = _; unfold freshAns; rw [h1]; rfl
    go_wp2_with fail
    have fin : _ = some (Obj.cells #[.int .i64 0, .slice none 0 0] 62 (0, 0)) := (blk_set (blk_set R_res 0 (.int .i64 0)) 1 (.slice none 0 0))
    have fc := blk_cells fin
    have HU := (((Upd.refl [w.heap.size + 1] w1).set (p := ⟨w.heap.size + 1, 0, none⟩) (by simp) rfl (.int .i64 0)).set (p := ⟨w.heap.size + 1, 1, none⟩) (by simp) rfl (.slice none 0 0))
    refine bodyPost_ret (v := .tuple #[.agg #[.int .i64 0, .slice none 0 0], .int .i64 1]) (by simp [results, Try.results31, go_sem, fc]) rfl ?_
    rw [hs.out]
    exact ⟨[.int .i64 0, .slice none 0 0], [], rfl, zeroRow, Fr.nil _ _, ((hw1.setCell (p := ⟨w.heap.size + 1, 0, none⟩) (by simp) (.int .i64 0)).setCell (p := ⟨w.heap.size + 1, 1, none⟩) (by simp) (.slice none 0 0))⟩
  go_wp2_with fail
  refine (impl_isId _ _).mono ?_; rintro e w2 ⟨rfl, rfl⟩
  cases h2 : inB id 1 1000000
  · have hs : Hid (freshAns t id = (⟨0, []⟩, 4)) := by show _ = _; unfold freshAns; rw [h1, h2]; rfl
    go_wp2_with fail
    have fin : _ = some (Obj.cells #[.int .i64 0, .slice none 0 0] 62 (0, 0)) := (blk_set (blk_set R_res 0 (.int .i64 0)) 1 (.slice none 0 0))
    have fc := blk_cells fin
    have HU := (((Upd.refl [w.heap.size + 1] w1).set (p := ⟨w.heap.size + 1, 0, none⟩) (by simp) rfl (.int .i64 0)).set (p := ⟨w.heap.size + 1, 1, none⟩) (by simp) rfl (.slice none 0 0))
    refine bodyPost_ret (v := .tuple #[.agg #[.int .i64 0, .slice none 0 0], .int .i64 4]) (by simp [results, Try.results31, go_sem, fc]) rfl ?_
    rw [hs.out]
    exact ⟨[.int .i64 0, .slice none 0 0], [], rfl, zeroRow, Fr.nil _ _, ((hw1.setCell (p := ⟨w.heap.size + 1, 0, none⟩) (by simp) (.int .i64 0)).setCell (p := ⟨w.heap.size + 1, 1, none⟩) (by simp) (.slice none 0 0))⟩
  have hs : Hid (freshAns t id = (freshOf t id, 0)) := by show _ = _; unfold freshAns; rw [h1, h2]; rfl
  have HN := hide (tbl_cols h1); have HI := hide (id_wf h2); have hres := hide (lt_of_cells R_res)
  go_wp2_with fail
  refine (impl_freshRow (TableR.good.nxt hw1 H0_t) id HN.out HI.out).mono ?_; rintro e w3 ⟨cs2, bs2, rfl, r2, f2, hb3⟩; replace q_t := box_on q_t rfl hb3; replace q_res := box_on q_res rfl hb3; have hw3 := nxt hw1 hb3; replace R_res := blk_on R_res hb3; replace R_free := blk_free R_res
  have r20 := r2; obtain ⟨w2v, w2b, _, rfl, _, w2r⟩ := r2; obtain ⟨A2, n2, c2, rfl⟩ : ∃ A n c, w2v = .slice A n c := by obtain ⟨A, c, h, _⟩ := w2r; exact ⟨A, _, c, by simpa using h⟩
  go_wp2_with fail
  have fin : _ = some (Obj.cells #[.int .i64 (freshOf t id).id, .slice A2 n2 c2] 62 (0, 0)) := (blk_set (blk_set R_res 0 (.int .i64 (freshOf t id).id)) 1 (.slice A2 n2 c2))
  have fc := blk_cells fin
  have HU := (((Upd.refl [w.heap.size + 1] w3).set (p := ⟨w.heap.size + 1, 0, none⟩) (by simp) rfl (.int .i64 (freshOf t id).id)).set (p := ⟨w.heap.size + 1, 1, none⟩) (by simp) rfl (.slice A2 n2 c2))
  refine bodyPost_ret (v := .tuple #[.agg #[.int .i64 (freshOf t id).id, .slice A2 n2 c2], .int .i64 0]) (by simp [results, Try.results31, go_sem, fc]) rfl ?_
  rw [hs.out]
  have hn : ∀ b ∈ bs2, b ∉ [w.heap.size + 1] := fun b hb hm => by have := (f2.2 b hb).1; have := hres.out; simp at hm; omega
  exact ⟨[.int .i64 (freshOf t id).id, .slice A2 n2 c2], bs2, rfl, RowR.good.upd r20 HU hn, (f2.upd HU).mono (by have := hres.out; omega), ((hw3.setCell (p := ⟨w.heap.size + 1, 0, none⟩) (by simp) (.int .i64 (freshOf t id).id)).setCell (p := ⟨w.heap.size + 1, 1, none⟩) (by simp) (.slice A2 n2 c2))⟩
set_option maxHeartbeats 4000000 in
theorem spec_FreshRow {w : World}  {bs_t : List Nat} {cs_t : List Value} {t : Table} (H_t : TableR w bs_t cs_t t) (id : Int)  :
    Calls Try.prog 29 #[.agg cs_t.toArray, .int .i64 id] w (SeeP RowR w (freshAns t id).1 (freshAns t id).2) := by
  have H0_t := H_t
  obtain ⟨t_v1, t_b1, t_v2, t_b2, rfl, rfl, hf_t, t_r1, t_r2⟩ := H_t
  obtain ⟨A_t1, c_t1, rfl, hlc_t1, hcm_t1, hel_t1⟩ := t_r1.use
  obtain ⟨A_t2, c_t2, rfl, hlc_t2, hcm_t2, hel_t2⟩ := t_r2.use
  have hbx := (((Below.refl w.heap.size w).alloc (Nat.le_refl _) (.cells #[.string t.name, .slice A_t1 t.columns.length c_t1, .slice A_t2 t.unique.length c_t2, .bool t.root] 34)).alloc (by simp; try omega) (.cells #[.int .i64 0, .slice none 0 0] 62))
  obtain ⟨q_t, q_res⟩ := two_at (Below.refl ((w.alloc (.cells #[.string t.name, .slice A_t1 t.columns.length c_t1, .slice A_t2 t.unique.length c_t2, .bool t.root] 34)).alloc (.cells #[.int .i64 0, .slice none 0 0] 62)).heap.size _)
  have R_res : World.heap ((w.alloc (.cells #[.string t.name, .slice A_t1 t.columns.length c_t1, .slice A_t2 t.unique.length c_t2, .bool t.root] 34)).alloc (.cells #[.int .i64 0, .slice none 0 0] 62)) = World.heap ((w.alloc (.cells #[.string t.name, .slice A_t1 t.columns.length c_t1, .slice A_t2 t.unique.length c_t2, .bool t.root] 34)).alloc (.cells #[.int .i64 0, .slice none 0 0] 62)) := rfl
  clear R_res
  have R_res : (World.heap ((w.alloc (.cells #[.string t.name, .slice A_t1 t.columns.length c_t1, .slice A_t2 t.unique.length c_t2, .bool t.root] 34)).alloc (.cells #[.int .i64 0, .slice none 0 0] 62)))[w.heap.size + 1]? = some (.cells #[.int .i64 0, .slice none 0 0] 62 (0, 0)) := by simpa using blk_new ((w.alloc (.cells #[.string t.name, .slice A_t1 t.columns.length c_t1, .slice A_t2 t.unique.length c_t2, .bool t.root] 34))) #[.int .i64 0, .slice none 0 0] 62
  have R_free := blk_free R_res
  clear hel_t1 hel_t2
  go_enter Try.func29, Try.ntmps29
  go_wp2_with fail
  refine (spec_l04Table (TableR.good.nxt hbx H0_t)).mono ?_; rintro e w1 ⟨rfl, hb1⟩; replace q_t := box_on q_t rfl hb1; replace q_res := box_on q_res rfl hb1; have hw1 := nxt hbx hb1; replace R_res := blk_on R_res hb1; replace R_free := blk_free R_res
  cases h1 : tblOK t
  · have hs : Hid (freshAns t id = (⟨0, []⟩, 1)) := by show _ = _; unfold freshAns; rw [h1]; rfl
    go_wp2_with fail
    have fin : _ = some (Obj.cells #[.int .i64 0, .slice none 0 0] 62 (0, 0)) := (blk_set (blk_set R_res 0 (.int .i64 0)) 1 (.slice none 0 0))
    have fc := blk_cells fin
    have HU := (((Upd.refl [w.heap.size + 1] w1).set (p := ⟨w.heap.size + 1, 0, none⟩) (by simp) rfl (.int .i64 0)).set (p := ⟨w.heap.size + 1, 1, none⟩) (by simp) rfl (.slice none 0 0))
    refine bodyPost_ret (v := .tuple #[.agg #[.int .i64 0, .slice none 0 0], .int .i64 1]) (by simp [results, Try.results29, go_sem, fc]) rfl ?_
    rw [hs.out]
    exact ⟨[.int .i64 0, .slice none 0 0], [], rfl, zeroRow, ((hw1.setCell (p := ⟨w.heap.size + 1, 0, none⟩) (by simp) (.int .i64 0)).setCell (p := ⟨w.heap.size + 1, 1, none⟩) (by simp) (.slice none 0 0))⟩
  go_wp2_with fail
  refine (spec_l01In _ _ _ _).mono ?_; rintro e w2 ⟨rfl, rfl⟩
  cases h2 : inB id 1 1000000
  · have hs : Hid (freshAns t id = (⟨0, []⟩, 4)) := by show _ = _; unfold freshAns; rw [h1, h2]; rfl
    go_wp2_with fail
    have fin : _ = some (Obj.cells #[.int .i64 0, .slice none 0 0] 62 (0, 0)) := (blk_set (blk_set R_res 0 (.int .i64 0)) 1 (.slice none 0 0))
    have fc := blk_cells fin
    have HU := (((Upd.refl [w.heap.size + 1] w1).set (p := ⟨w.heap.size + 1, 0, none⟩) (by simp) rfl (.int .i64 0)).set (p := ⟨w.heap.size + 1, 1, none⟩) (by simp) rfl (.slice none 0 0))
    refine bodyPost_ret (v := .tuple #[.agg #[.int .i64 0, .slice none 0 0], .int .i64 4]) (by simp [results, Try.results29, go_sem, fc]) rfl ?_
    rw [hs.out]
    exact ⟨[.int .i64 0, .slice none 0 0], [], rfl, zeroRow, ((hw1.setCell (p := ⟨w.heap.size + 1, 0, none⟩) (by simp) (.int .i64 0)).setCell (p := ⟨w.heap.size + 1, 1, none⟩) (by simp) (.slice none 0 0))⟩
  have hs : Hid (freshAns t id = (freshOf t id, 0)) := by show _ = _; unfold freshAns; rw [h1, h2]; rfl
  have HN := hide (tbl_cols h1); have HI := hide (id_wf h2); have hres := hide (lt_of_cells R_res)
  go_wp2_with fail
  refine (spec_l08Fresh (TableR.good.nxt hw1 H0_t) id HN.out HI.out).mono ?_; rintro e w3 ⟨cs2, bs2, rfl, r2, f2, hb3⟩; replace q_t := box_on q_t rfl hb3; replace q_res := box_on q_res rfl hb3; have hw3 := nxt hw1 hb3; replace R_res := blk_on R_res hb3; replace R_free := blk_free R_res
  have r20 := r2; obtain ⟨w2v, w2b, _, rfl, _, w2r⟩ := r2; obtain ⟨A2, n2, c2, rfl⟩ : ∃ A n c, w2v = .slice A n c := by obtain ⟨A, c, h, _⟩ := w2r; exact ⟨A, _, c, by simpa using h⟩
  go_wp2_with fail
  have fin : _ = some (Obj.cells #[.int .i64 (freshOf t id).id, .slice A2 n2 c2] 62 (0, 0)) := (blk_set (blk_set R_res 0 (.int .i64 (freshOf t id).id)) 1 (.slice A2 n2 c2))
  have fc := blk_cells fin
  have HU := (((Upd.refl [w.heap.size + 1] w3).set (p := ⟨w.heap.size + 1, 0, none⟩) (by simp) rfl (.int .i64 (freshOf t id).id)).set (p := ⟨w.heap.size + 1, 1, none⟩) (by simp) rfl (.slice A2 n2 c2))
  refine bodyPost_ret (v := .tuple #[.agg #[.int .i64 (freshOf t id).id, .slice A2 n2 c2], .int .i64 0]) (by simp [results, Try.results29, go_sem, fc]) rfl ?_
  rw [hs.out]
  have hn : ∀ b ∈ bs2, b ∉ [w.heap.size + 1] := fun b hb hm => by have := (f2.2 b hb).1; have := hres.out; simp at hm; omega
  exact ⟨[.int .i64 (freshOf t id).id, .slice A2 n2 c2], bs2, rfl, RowR.good.upd r20 HU hn, ((hw3.setCell (p := ⟨w.heap.size + 1, 0, none⟩) (by simp) (.int .i64 (freshOf t id).id)).setCell (p := ⟨w.heap.size + 1, 1, none⟩) (by simp) (.slice A2 n2 c2))⟩
end Go.Proofs.Ythbebbnidgeaeaa
