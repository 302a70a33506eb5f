/- The Ids of the rows on which conditions hold. No statement is proved here; no conditions. Written by a program (gen32.py). -/
import Derived.Test.YthbebbnidgeaeaaGreatAll
import Derived.Test.YthbebbnidgeaeaaGreatEach
import Derived.Test.YthbebbnidgeaeaaGreatDrop
import Derived.Test.YthbebbnidgeaeaaGreatMarkT
import Derived.StillTail
namespace Go.Proofs.YthbebbnidgeaeaaGreat
open Go.ChangeShapes Go.WideShapes Go.ChangeAt Go.RowKit Go.Deep
set_option maxRecDepth 100000
set_option linter.unusedVariables false
set_option linter.unusedSimpArgs false

def selIds (t : Table) (rows : List Row) (l : List Cond) : List Int := (rows.filter fun r => l.all (matchesB t r)).map (·.id)
theorem selIds_len (t : Table) (rows : List Row) (l : List Cond) : (selIds t rows l).length ≤ rows.length := by unfold selIds; rw [List.length_map]; exact List.length_filter_le _ _
theorem selIds_yes {t : Table} {rows : List Row} {l : List Cond} {k : Nat} (hk : k < rows.length) (h : l.all (matchesB t rows[k]) = true) : selIds t (rows.take (k + 1)) l = selIds t (rows.take k) l ++ [rows[k].id] := by
  unfold selIds; rw [take_step hk, List.filter_append, List.map_append, List.filter_cons, if_pos h]; rfl
theorem selIds_no {t : Table} {rows : List Row} {l : List Cond} {k : Nat} (hk : k < rows.length) (h : l.all (matchesB t rows[k]) = false) : selIds t (rows.take (k + 1)) l = selIds t (rows.take k) l := by
  unfold selIds; rw [take_step hk, List.filter_append, List.map_append, List.filter_cons, if_neg (by rw [h]; decide)]; simp
def selAns (s : Schema) (x : Store) (n : Int) (l : List Cond) : List Int × Int :=
  if 4096 < l.length then ([], 2) else cond (condsOK l && storeFit s x) (cond (inB n 0 ((x.tables.length : Int) - 1)) (if firstC (condCode (s.tables.getD n.toNat default)) l = 0 then (selIds (s.tables.getD n.toNat default) (tabOf x n) l, 0) else ([], firstC (condCode (s.tables.getD n.toNat default)) l)) ([], 10)) ([], 1)
theorem selAns_at {s : Schema} {x : Store} {m : Nat} {l : List Cond} (h4 : ¬ 4096 < l.length) (h1 : condsOK l = true) (h2 : storeFit s x = true) (h3 : inB (m : Int) 0 ((x.tables.length : Int) - 1) = true) (hs : m < s.tables.length) (hx : m < x.tables.length) :
    selAns s x m l = if firstC (condCode s.tables[m]) l = 0 then (selIds s.tables[m] x.tables[m] l, 0) else ([], firstC (condCode s.tables[m]) l) := by
  unfold selAns tabOf; rw [if_neg h4, h1, h2, h3, Int.toNat_natCast, get_at _ m hs]; simp [List.getD, hx]
theorem rowOK_fit {n : Int} (hn : n ≤ 1000000) {t : Table} (ht : tblOK t = true) {r : Row} (h : fitRow n t r = true) : rowOK t r = true := by
  unfold fitRow at h; rw [Bool.and_eq_true] at h
  have := inB_iff.1 h.1
  unfold rowOK; rw [ht, h.2, inB_t (by omega) (by omega)]; rfl
theorem storeIn_next {s : Schema} {x : Store} (h : storeIn s x = true) : 1 ≤ x.next ∧ x.next ≤ 1000000 := by unfold storeIn at h; rw [Bool.and_eq_true, Bool.and_eq_true] at h; exact inB_iff.1 h.2.1
theorem fit_ask {s : Schema} {x : Store} (h : storeFit s x = true) {m : Nat} (hs : m < s.tables.length) (hx : m < x.tables.length) {l : List Cond} (h2 : condsOK l = true) (h3 : firstC (condCode s.tables[m]) l = 0) :
    x.tables[m].length ≤ 12 ∧ ∀ j (hj : j < x.tables[m].length), x.tables[m][j].cells.length = s.tables[m].columns.length ∧ ∀ c ∈ l, Ask s.tables[m] x.tables[m][j] c := by
  have hin := storeFit_in h
  have hf := storeIn_at hin hs hx
  refine ⟨fitRows_len hf, fun j hj => ?_⟩
  have hr := rowOK_fit (storeIn_next hin).2 (sch_tbl (storeFit_sch h) hs) (fitRows_row hf hj)
  exact ⟨row_len hr, ask_all hr h2 h3⟩
set_option maxHeartbeats 8000000 in
theorem impl_selectIds {w : World}  {bs_t : List Nat} {cs_t : List Value} {t : Table} (H_t : TableR w bs_t cs_t t) {bs_rows : List Nat} {v_rows : Value} {rows : List Row} (H_rows : RowSR w bs_rows [v_rows] rows) {bs_l : List Nat} {v_l : Value} {l : List Cond} (H_l : CondSR w bs_l [v_l] l) (hn : rows.length ≤ 12) (ha : ∀ j (hj : j < rows.length), rows[j].cells.length = t.columns.length ∧ ∀ c ∈ l, Ask t rows[j] c) :
    Calls Tryz.prog 80 #[.agg cs_t.toArray, v_rows, v_l] w (ToS IntSR w (selIds t rows l)) := by
  have H0_rows := H_rows
  obtain ⟨A_rows, c_rows, rfl, hlc_rows, hcm_rows, hel_rows⟩ := H_rows.use
  have H0_l := H_l
  obtain ⟨A_l, c_l, rfl, hlc_l, hcm_l, hel_l⟩ := H_l.use
  have H0_t := H_t
  obtain ⟨t_v1, t_b1, t_v2, t_b2, rfl, rfl, hf_t, t_r1, t_r2⟩ := H_t
  obtain ⟨A_t1, c_t1, rfl, hlc_t1, hcm_t1, hel_t1⟩ := t_r1.use
  obtain ⟨A_t2, c_t2, rfl, hlc_t2, hcm_t2, hel_t2⟩ := t_r2.use
  have hbx := ((Below.refl w.heap.size w).alloc (Nat.le_refl _) (.cells #[.string t.name, .slice A_t1 t.columns.length c_t1, .slice A_t2 t.unique.length c_t2, .bool t.root] 37))
  have q_t := blk_cells (blk_new w #[.string t.name, .slice A_t1 t.columns.length c_t1, .slice A_t2 t.unique.length c_t2, .bool t.root] 37)
  have HN := hide hn; have HA := hide ha; clear hn ha hel_t1 hel_t2 hel_l
  go_enter Tryz.func80, Tryz.ntmps80
  go_wp2_with fail
  have hG1 := hide (Own.made' (size := 1) (R := IntR) (e := 3) (w := (w.alloc (.cells #[.string t.name, .slice A_t1 t.columns.length c_t1, .slice A_t2 t.unique.length c_t2, .bool t.root] 37))) (n := w.heap.size + 1) (by simp))
  obtain ⟨ii1, hi1, hz1, hs1, hby1⟩ := info_parts IntS.info
  go_loopw [7, 13] (fun o i wr => ∃ (k : Nat) (v : Value), k ≤ rows.length ∧ i = .int .i64 k ∧ o = v ∧ Hid (Own 1 IntR 3 (World.heap ((w.alloc (.cells #[.string t.name, .slice A_t1 t.columns.length c_t1, .slice A_t2 t.unique.length c_t2, .bool t.root] 37)))).size wr v (selIds t (rows.take k) l)) ∧ Below (World.heap ((w.alloc (.cells #[.string t.name, .slice A_t1 t.columns.length c_t1, .slice A_t2 t.unique.length c_t2, .bool t.root] 37)))).size ((w.alloc (.cells #[.string t.name, .slice A_t1 t.columns.length c_t1, .slice A_t2 t.unique.length c_t2, .bool t.root] 37))) wr) (fun _ i _ => rows.length - (intOf i).toNat)
  case atStart => exact ⟨0, _, Nat.zero_le _, rfl, rfl, hG1, (Below.refl _ _).alloc (Nat.le_refl _) _⟩
  case round =>
    clear hG1
    obtain ⟨k1, v1_, hk1, rfl, hov1, hG1, hb1001⟩ := hrel; replace hov1 := hov1.symm; subst hov1
    obtain ⟨wl1, rfl⟩ : ∃ w' : World, w' = wr := ⟨_, rfl⟩
    obtain ⟨O1, cO1, hv1, hlO1, hcO1⟩ := hG1.out.form
    replace q_t := box_on q_t rfl hb1001
    have hwl1 := nxt hbx hb1001
    have hz0_1 := Below.refl (World.heap wl1).size wl1
    by_cases hlt1 : k1 < rows.length
    · obtain ⟨gb, go, gbk, ges, rfl, ghbl, ghcl, ghcell, gR, ghbk⟩ := hel_rows k1 hlt1
      have gR0 := gR
      obtain ⟨gv1, gb1, _, ghes, ghf, gr1⟩ := gR
      subst ghes
      obtain ⟨gA1, gc1, rfl, ghlc1, ghcm1, ghel1⟩ := gr1.use
      have g_0 := (hwl1.cell (p := ⟨gb, _, none⟩) ghbl).trans (ghcell 0 _ rfl)
      have g_1 := (hwl1.cell (p := ⟨gb, _, none⟩) ghbl).trans (ghcell 1 _ rfl)
      simp only [Nat.add_zero] at g_0 g_1
      clear hel_rows
      have hal := hide (HA.out k1 hlt1)
      replace q_t := box_on q_t rfl ((Below.refl (World.heap (wl1)).size (wl1)).alloc (Nat.le_refl _) (.cells #[.int .i64 rows[k1].id, .slice gA1 rows[k1].cells.length gc1] 41))
      have q_v1 := blk_cells (blk_new (wl1) #[.int .i64 rows[k1].id, .slice gA1 rows[k1].cells.length gc1] 41)
      have hn1 := (hwl1).alloc (hwl1).size (.cells #[.int .i64 rows[k1].id, .slice gA1 rows[k1].cells.length gc1] 41)
      have hc1_0 := (hb1001).alloc (hb1001).size (.cells #[.int .i64 rows[k1].id, .slice gA1 rows[k1].cells.length gc1] 41)
      have hc1_1 := (hz0_1).alloc (hz0_1).size (.cells #[.int .i64 rows[k1].id, .slice gA1 rows[k1].cells.length gc1] 41)
      go_wp2_with fail
      refine (impl_matchesAll (TableR.good.nxt hn1 H0_t) (RowR.good.nxt hn1 gR0) (CondSR.good.nxt hn1 H0_l) hal.out.1 hal.out.2).mono ?_; rintro e w1 ⟨rfl, hb1⟩; replace q_t := box_on q_t rfl hb1; replace q_v1 := box_on q_v1 rfl hb1; have hw1 := nxt hn1 hb1; have hl0_1 := nxt hc1_0 hb1; have hl1_1 := nxt hc1_1 hb1
      clear hal
      cases h5 : l.all (matchesB t rows[k1])
      · have hst1 : Hid (selIds t (rows.take (k1 + 1)) l = selIds t (rows.take k1) l) := by show _ = _; exact selIds_no hlt1 h5
        clear h5; have hvv1 := hide hv1; have hll1 := hide hlO1; clear hv1 hlO1 hcO1
        go_wp2_with fail
        go_roundw
        case rel => exact ⟨k1 + 1, v1_, hlt1, by go_num, rfl, by rw [hst1.out]; exact hide (hG1.out.below IntR.good hl1_1), hl0_1⟩
        case measure => simp [intOf]; omega
      have hyes := hide (selIds_yes hlt1 h5); clear h5
      have g_0 := (hw1.cell (p := ⟨gb, _, none⟩) ghbl).trans (ghcell 0 _ rfl)
      have g_1 := (hw1.cell (p := ⟨gb, _, none⟩) ghbl).trans (ghcell 1 _ rfl)
      simp only [Nat.add_zero] at g_0 g_1
      have hst1 : Hid (selIds t (rows.take (k1 + 1)) l = selIds t (rows.take k1) l ++ [rows[k1].id]) := by show _ = _; exact hyes.out
      have hsz1 := (hl0_1).size; have hlo1 := (hl0_1).size
      have hbd1 : Hid ((selIds t (rows.take k1) l).length ≤ 1048576) := by show _ ≤ _; (try rw [List.length_take]); have := (Nat.le_trans (selIds_len t (rows.take k1) l) (by rw [List.length_take]; exact Nat.le_trans (Nat.min_le_right _ _) HN.out) : (selIds t (rows.take k1) l).length ≤ 12); omega
      have hvv1 := hide hv1; have hll1 := hide hlO1; clear hv1 hlO1 hcO1
      go_wp2_with (at_builtin; refine wpList_append_own IntR.good rfl _ _ 23 rfl Tryz.underlying23 hi1 hz1 hs1 hby1 rfl (by decide) (v := v1_) rfl hG1.out hl1_1 (cy := [.int .i64 rows[k1].id]) (y := rows[k1].id) (show IntR _ [] _ _ from ⟨rfl, rfl, ghf⟩) (Fr.nil _ _) rfl rfl (fun u hu => by simp at hu; (try rcases hu with rfl | rfl) <;> first | rfl | (subst hu; rfl)) (by have := hbd1.out; omega) (by have := hbd1.out; omega) hb1001.size ?_; intro v' w' hO hB hsw hold hown)
      go_roundw
      case rel => exact ⟨k1 + 1, v', hlt1, by go_num, rfl, by rw [hst1.out]; exact hO, hB _ _ hl0_1 (Nat.le_refl _)⟩
      case measure => simp [intOf]; omega
    · obtain rfl : k1 = rows.length := by omega
      have hG2 := hG1.out; rw [List.take_length] at hG2; have HG := hide hG2; clear hG2 hG1 hel_rows
      go_wp2
      go_ret
      obtain ⟨bs', q1, q2⟩ := HG.out.done
      exact ⟨_, bs', rfl, q1, q2.mono (by simp), hwl1⟩
set_option maxHeartbeats 8000000 in
theorem spec_l06Select {w : World}  {bs_t : List Nat} {cs_t : List Value} {t : Table} (H_t : TableR w bs_t cs_t t) {bs_rows : List Nat} {v_rows : Value} {rows : List Row} (H_rows : RowSR w bs_rows [v_rows] rows) {bs_l : List Nat} {v_l : Value} {l : List Cond} (H_l : CondSR w bs_l [v_l] l) (hn : rows.length ≤ 12) (ha : ∀ j (hj : j < rows.length), rows[j].cells.length = t.columns.length ∧ ∀ c ∈ l, Ask t rows[j] c) :
    Calls Tryz.prog 79 #[.agg cs_t.toArray, v_rows, v_l] w (ToS IntSR w (selIds t rows l)) := by
  have H0_rows := H_rows
  obtain ⟨A_rows, c_rows, rfl, hlc_rows, hcm_rows, hel_rows⟩ := H_rows.use
  have H0_l := H_l
  obtain ⟨A_l, c_l, rfl, hlc_l, hcm_l, hel_l⟩ := H_l.use
  have H0_t := H_t
  obtain ⟨t_v1, t_b1, t_v2, t_b2, rfl, rfl, hf_t, t_r1, t_r2⟩ := H_t
  obtain ⟨A_t1, c_t1, rfl, hlc_t1, hcm_t1, hel_t1⟩ := t_r1.use
  obtain ⟨A_t2, c_t2, rfl, hlc_t2, hcm_t2, hel_t2⟩ := t_r2.use
  have hbx := ((Below.refl w.heap.size w).alloc (Nat.le_refl _) (.cells #[.string t.name, .slice A_t1 t.columns.length c_t1, .slice A_t2 t.unique.length c_t2, .bool t.root] 37))
  have q_t := blk_cells (blk_new w #[.string t.name, .slice A_t1 t.columns.length c_t1, .slice A_t2 t.unique.length c_t2, .bool t.root] 37)
  have HN := hide hn; have HA := hide ha; clear hn ha hel_t1 hel_t2 hel_l
  go_enter Tryz.func79, Tryz.ntmps79
  go_wp2_with fail
  have hG1 := hide (Own.made' (size := 1) (R := IntR) (e := 3) (w := (w.alloc (.cells #[.string t.name, .slice A_t1 t.columns.length c_t1, .slice A_t2 t.unique.length c_t2, .bool t.root] 37))) (n := w.heap.size + 1) (by simp))
  obtain ⟨ii1, hi1, hz1, hs1, hby1⟩ := info_parts IntS.info
  go_loopw [7, 8] (fun o i wr => ∃ (k : Nat) (v : Value), k ≤ rows.length ∧ i = .int .i64 k ∧ o = v ∧ Hid (Own 1 IntR 3 (World.heap ((w.alloc (.cells #[.string t.name, .slice A_t1 t.columns.length c_t1, .slice A_t2 t.unique.length c_t2, .bool t.root] 37)))).size wr v (selIds t (rows.take k) l)) ∧ Below (World.heap ((w.alloc (.cells #[.string t.name, .slice A_t1 t.columns.length c_t1, .slice A_t2 t.unique.length c_t2, .bool t.root] 37)))).size ((w.alloc (.cells #[.string t.name, .slice A_t1 t.columns.length c_t1, .slice A_t2 t.unique.length c_t2, .bool t.root] 37))) wr) (fun _ i _ => rows.length - (intOf i).toNat)
  case atStart => exact ⟨0, _, Nat.zero_le _, rfl, rfl, hG1, (Below.refl _ _).alloc (Nat.le_refl _) _⟩
  case round =>
    clear hG1
    obtain ⟨k1, v1_, hk1, rfl, hov1, hG1, hb1001⟩ := hrel; replace hov1 := hov1.symm; subst hov1
    obtain ⟨wl1, rfl⟩ : ∃ w' : World, w' = wr := ⟨_, rfl⟩
    obtain ⟨O1, cO1, hv1, hlO1, hcO1⟩ := hG1.out.form
    replace q_t := box_on q_t rfl hb1001
    have hwl1 := nxt hbx hb1001
    have hz0_1 := Below.refl (World.heap wl1).size wl1
    by_cases hlt1 : k1 < rows.length
    · obtain ⟨gb, go, gbk, ges, rfl, ghbl, ghcl, ghcell, gR, ghbk⟩ := hel_rows k1 hlt1
      have gR0 := gR
      obtain ⟨gv1, gb1, _, ghes, ghf, gr1⟩ := gR
      subst ghes
      obtain ⟨gA1, gc1, rfl, ghlc1, ghcm1, ghel1⟩ := gr1.use
      have g_0 := Fw.cell ((hwl1.cell (p := ⟨gb, _, none⟩) ghbl).trans (ghcell 0 _ rfl))
      have g_1 := Fw.cell ((hwl1.cell (p := ⟨gb, _, none⟩) ghbl).trans (ghcell 1 _ rfl))
      simp only [Nat.add_zero] at g_0 g_1
      clear hel_rows
      have hal := hide (HA.out k1 hlt1)
      have A1 := hide (fun (i : Fw wl1) => spec_l06All (TableR.good.nxt (nxt hwl1 i.h) H0_t) (RowR.good.nxt (nxt hwl1 i.h) gR0) (CondSR.good.nxt (nxt hwl1 i.h) H0_l) hal.out.1 hal.out.2); clear hal
      go_wp2_with fail
      have q_tF0 := Fw.cell (box_cell q_t 0 rfl)
      have q_tF1 := Fw.cell (box_cell q_t 1 rfl)
      have q_tF2 := Fw.cell (box_cell q_t 2 rfl)
      have q_tF3 := Fw.cell (box_cell q_t 3 rfl)
      refine region_quiet (by kernel_rfl) (by kernel_rfl) ?_
      repeat (go_big_quiet_step ((first | (go_at_call 43; exact quiet_of (A1.out _)))))
      refine wpQuiet_nil ?_; intro w1 hb1; replace q_t := box_on q_t rfl hb1; have hw1 := nxt hwl1 hb1; have hl0_1 := nxt hb1001 hb1; have hl1_1 := nxt hz0_1 hb1; clear q_tF0 q_tF1 q_tF2 q_tF3 g_0 g_1
      cases h5 : l.all (matchesB t rows[k1])
      · have hst1 : Hid (selIds t (rows.take (k1 + 1)) l = selIds t (rows.take k1) l) := by show _ = _; exact selIds_no hlt1 h5
        clear h5; have hvv1 := hide hv1; have hll1 := hide hlO1; clear hv1 hlO1 hcO1
        go_wp2_with fail
        go_roundw
        case rel => exact ⟨k1 + 1, v1_, hlt1, by go_num, rfl, by rw [hst1.out]; exact hide (hG1.out.below IntR.good hl1_1), hl0_1⟩
        case measure => simp [intOf]; omega
      have hyes := hide (selIds_yes hlt1 h5); clear h5
      have g_0 := (hw1.cell (p := ⟨gb, _, none⟩) ghbl).trans (ghcell 0 _ rfl)
      have g_1 := (hw1.cell (p := ⟨gb, _, none⟩) ghbl).trans (ghcell 1 _ rfl)
      simp only [Nat.add_zero] at g_0 g_1
      have hst1 : Hid (selIds t (rows.take (k1 + 1)) l = selIds t (rows.take k1) l ++ [rows[k1].id]) := by show _ = _; exact hyes.out
      have hsz1 := (hl0_1).size; have hlo1 := (hl0_1).size
      have hbd1 : Hid ((selIds t (rows.take k1) l).length ≤ 1048576) := by show _ ≤ _; (try rw [List.length_take]); have := (Nat.le_trans (selIds_len t (rows.take k1) l) (by rw [List.length_take]; exact Nat.le_trans (Nat.min_le_right _ _) HN.out) : (selIds t (rows.take k1) l).length ≤ 12); omega
      have hvv1 := hide hv1; have hll1 := hide hlO1; clear hv1 hlO1 hcO1
      go_wp2_with (at_builtin; refine wpList_append_own IntR.good rfl _ _ 23 rfl Tryz.underlying23 hi1 hz1 hs1 hby1 rfl (by decide) (v := v1_) rfl hG1.out hl1_1 (cy := [.int .i64 rows[k1].id]) (y := rows[k1].id) (show IntR _ [] _ _ from ⟨rfl, rfl, ghf⟩) (Fr.nil _ _) rfl rfl (fun u hu => by simp at hu; (try rcases hu with rfl | rfl) <;> first | rfl | (subst hu; rfl)) (by have := hbd1.out; omega) (by have := hbd1.out; omega) hb1001.size ?_; intro v' w' hO hB hsw hold hown)
      go_roundw
      case rel => exact ⟨k1 + 1, v', hlt1, by go_num, rfl, by rw [hst1.out]; exact hO, hB _ _ hl0_1 (Nat.le_refl _)⟩
      case measure => simp [intOf]; omega
    · obtain rfl : k1 = rows.length := by omega
      have hG2 := hG1.out; rw [List.take_length] at hG2; have HG := hide hG2; clear hG2 hG1 hel_rows
      go_wp2
      go_ret
      obtain ⟨bs', q1, q2⟩ := HG.out.done
      exact ⟨_, bs', rfl, q1, q2.mono (by simp), hwl1⟩
set_option maxHeartbeats 8000000 in
theorem impl_SelectIds {w : World}  {bs_s : List Nat} {cs_s : List Value} {s : Schema} (H_s : SchemaR w bs_s cs_s s) {bs_x : List Nat} {cs_x : List Value} {x : Store} (H_x : StoreR w bs_x cs_x x) (n : Int) {bs_l : List Nat} {v_l : Value} {l : List Cond} (H_l : CondSR w bs_l [v_l] l)  :
    Calls Tryz.prog 29 #[.agg cs_s.toArray, .agg cs_x.toArray, .int .i64 n, v_l] w (OutS IntSR w (selAns s x n l).1 (selAns s x n l).2) := by
  have H0_l := H_l
  obtain ⟨A_l, c_l, rfl, hlc_l, hcm_l, hel_l⟩ := H_l.use
  have H0_s := H_s
  obtain ⟨s_v0, s_b0, rfl, rfl, hf_s, s_r0⟩ := H_s
  obtain ⟨A_s0, c_s0, rfl, hlc_s0, hcm_s0, hel_s0⟩ := s_r0.use
  have H0_x := H_x
  obtain ⟨x_v0, x_b0, rfl, rfl, hf_x, x_r0⟩ := H_x
  obtain ⟨A_x0, c_x0, rfl, hlc_x0, hcm_x0, hel_x0⟩ := x_r0.use
  have hbx := (((Below.refl w.heap.size w).alloc (Nat.le_refl _) (.cells #[.slice A_s0 s.tables.length c_s0] 61)).alloc (by simp; try omega) (.cells #[.slice A_x0 x.tables.length c_x0, .int .i64 x.next] 65))
  obtain ⟨q_s, q_x⟩ := two_at (Below.refl ((w.alloc (.cells #[.slice A_s0 s.tables.length c_s0] 61)).alloc (.cells #[.slice A_x0 x.tables.length c_x0, .int .i64 x.next] 65)).heap.size _)
  clear hel_l
  by_cases h4 : 4096 < l.length
  · have h9 : decide ((l.length : Int) ≤ 4096) = false := decide_eq_false (by omega)
    go_enter Tryz.func29, Tryz.ntmps29
    go_wp2_with fail
    refine (impl_isListC (CondSR.good.nxt hbx H0_l)).mono ?_; rintro e w1 ⟨rfl, rfl⟩
    have hs : Hid (selAns s x n l = ([], 2)) := by show _ = _; unfold selAns; rw [if_pos h4]
    go_wp2_with fail
    go_ret2
    rw [hs.out]
    exact ⟨_, [], rfl, nil_row (by omega), Fr.nil _ _, hbx⟩
  have H4 := hide h4
  have h9 : decide ((l.length : Int) ≤ 4096) = true := decide_eq_true (by omega)
  clear h4
  go_enter Tryz.func29, Tryz.ntmps29
  go_wp2_with fail
  refine (impl_isListC (CondSR.good.nxt hbx H0_l)).mono ?_; rintro e w2 ⟨rfl, rfl⟩
  go_wp2_with fail
  refine (impl_condsOK (CondSR.good.nxt hbx H0_l)).mono ?_; rintro e w3 ⟨rfl, hb3⟩; replace q_s := box_on q_s rfl hb3; replace q_x := box_on q_x rfl hb3; have hw3 := nxt hbx hb3
  cases h3 : condsOK l
  · clear hel_x0 hel_s0
    have hs : Hid (selAns s x n l = ([], 1)) := by show _ = _; unfold selAns storeFit; rw [if_neg H4.out, h3]; simp
    go_wp2_with fail
    go_ret2
    rw [hs.out]
    exact ⟨_, [], rfl, nil_row (by omega), Fr.nil _ _, hw3⟩
  have HC := hide h3; clear h3
  go_wp2_with fail
  refine (impl_storeFits (SchemaR.good.nxt hw3 H0_s) (StoreR.good.nxt hw3 H0_x)).mono ?_; rintro e w4 ⟨rfl, hb4⟩; replace q_s := box_on q_s rfl hb4; replace q_x := box_on q_x rfl hb4; have hw4 := nxt hw3 hb4
  cases h1 : storeFit s x
  · clear hel_x0 hel_s0
    have hs : Hid (selAns s x n l = ([], 1)) := by show _ = _; unfold selAns; rw [if_neg H4.out, HC.out, h1]; rfl
    go_wp2_with fail
    go_ret2
    rw [hs.out]
    exact ⟨_, [], rfl, nil_row (by omega), Fr.nil _ _, hw4⟩
  have HO := hide h1; clear h1
  go_wp2_with fail
  refine (impl_within _ _ _ _).mono ?_; rintro e w5 ⟨rfl, rfl⟩
  cases h5 : inB n 0 ((x.tables.length : Int) - 1)
  · clear hel_x0 hel_s0
    have hs : Hid (selAns s x n l = ([], 10)) := by show _ = _; unfold selAns; rw [if_neg H4.out, HC.out, HO.out, h5]; rfl
    go_wp2_with fail
    go_ret2
    rw [hs.out]
    exact ⟨_, [], rfl, nil_row (by omega), Fr.nil _ _, hw4⟩
  have H5 := hide h5
  clear h5
  obtain ⟨m, hn, hm⟩ : ∃ m : Nat, n = m ∧ m < x.tables.length := by have h3 := inB_iff.1 H5.out; exact ⟨n.toNat, by omega, by omega⟩
  subst hn; have hms : m < s.tables.length := by have := storeIn_len (storeFit_in HO.out); omega
  have hs0 := hide (selAns_at H4.out HC.out HO.out H5.out hms hm)
  obtain ⟨tb, to, tbk, tes, rfl, thbl, thcl, thcell, tR, thbk⟩ := hel_s0 m hms
  have tR0 := tR
  obtain ⟨tv1, tb1, tv2, tb2, _, thes, thf, tr1, tr2⟩ := tR
  subst thes
  obtain ⟨tA1, tc1, rfl, thlc1, thcm1, thel1⟩ := tr1.use
  obtain ⟨tA2, tc2, rfl, thlc2, thcm2, thel2⟩ := tr2.use
  have t_0 := (hw4.cell (p := ⟨tb, _, none⟩) thbl).trans (thcell 0 _ rfl)
  have t_1 := (hw4.cell (p := ⟨tb, _, none⟩) thbl).trans (thcell 1 _ rfl)
  have t_2 := (hw4.cell (p := ⟨tb, _, none⟩) thbl).trans (thcell 2 _ rfl)
  have t_3 := (hw4.cell (p := ⟨tb, _, none⟩) thbl).trans (thcell 3 _ rfl)
  simp only [Nat.add_zero] at t_0 t_1 t_2 t_3
  clear hel_s0 thel1 thel2
  go_wp2_with fail
  refine (impl_condsCode (TableR.good.nxt hw4 tR0) (CondSR.good.nxt hw4 H0_l)).mono ?_; rintro e w6 ⟨rfl, hb6⟩; replace q_s := box_on q_s rfl hb6; replace q_x := box_on q_x rfl hb6; have hw6 := nxt hw4 hb6
  clear t_0 t_1 t_2 t_3
  by_cases hc : ¬ firstC (condCode s.tables[m]) l = 0
  · have hc2 : (firstC (condCode s.tables[m]) l != 0) = true := by simp [hc]
    have hs : Hid (selAns s x m l = ([], firstC (condCode s.tables[m]) l)) := by show _ = _; rw [hs0.out, if_neg hc]
    clear hc hel_x0
    go_wp2_with fail
    go_ret2
    rw [hs.out]
    exact ⟨_, [], rfl, nil_row (by omega), Fr.nil _ _, hw6⟩
  have hc := Decidable.not_not.1 hc; have hc2 : (firstC (condCode s.tables[m]) l != 0) = false := by simp [hc]
  have hs : Hid (selAns s x m l = (selIds s.tables[m] x.tables[m] l, 0)) := by show _ = _; rw [hs0.out, if_pos hc]
  have HA := hide (fit_ask HO.out hms hm HC.out hc); clear hc
  have t_0 := (hw6.cell (p := ⟨tb, _, none⟩) thbl).trans (thcell 0 _ rfl)
  have t_1 := (hw6.cell (p := ⟨tb, _, none⟩) thbl).trans (thcell 1 _ rfl)
  have t_2 := (hw6.cell (p := ⟨tb, _, none⟩) thbl).trans (thcell 2 _ rfl)
  have t_3 := (hw6.cell (p := ⟨tb, _, none⟩) thbl).trans (thcell 3 _ rfl)
  simp only [Nat.add_zero] at t_0 t_1 t_2 t_3
  obtain ⟨pb, po, pbk, pes, rfl, phbl, phcl, phcell, pR, phbk⟩ := hel_x0 m hm
  obtain ⟨pA, pc, phlc, rfl⟩ : ∃ A0 c0, x.tables[m].length ≤ c0 ∧ pes = [.slice A0 x.tables[m].length c0] := by obtain ⟨A0, c0, h, h2, _⟩ := pR; exact ⟨A0, c0, h2, h⟩
  have p_0 := (hw6.cell (p := ⟨pb, _, none⟩) phbl).trans (phcell 0 _ rfl)
  simp only [Nat.add_zero, Nat.mul_one] at p_0
  clear hel_x0
  go_wp2_with fail
  have es := box_cell q_s 0 rfl
  have ex := box_cell q_x 0 rfl
  have ep := p_0
  have et0 := t_0
  have et1 := t_1
  have et2 := t_2
  have et3 := t_3
  refine wp_region_tail (fun w' => w'.cell? ⟨w.heap.size, 0, none⟩ = some (.slice (some ⟨tb, to, none⟩) s.tables.length c_s0) ∧ w'.cell? ⟨w.heap.size + 1, 0, none⟩ = some (.slice (some ⟨pb, po, none⟩) x.tables.length c_x0) ∧ w'.cell? ⟨pb, po + m, none⟩ = some (.slice pA x.tables[m].length pc) ∧ w'.cell? ⟨tb, to + m * 4, none⟩ = some (.string s.tables[m].name) ∧ w'.cell? ⟨tb, to + m * 4 + 1, none⟩ = some (.slice tA1 s.tables[m].columns.length tc1) ∧ w'.cell? ⟨tb, to + m * 4 + 2, none⟩ = some (.slice tA2 s.tables[m].unique.length tc2) ∧ w'.cell? ⟨tb, to + m * 4 + 3, none⟩ = some (.bool s.tables[m].root)) 11 (by kernel_rfl) (by decide) (show _ from ⟨es, ex, ep, et0, et1, et2, et3⟩) (fun hHeld => ?_)
  refine wpT_take (i := 0) rfl (by kernel_rfl) (fun _ _ _ h => h) (Or.inl ⟨by rfl, fun w hSw => by (try dsimp only at hSw); first | (go_simp; done) | (go_simp; with_reducible rfl)⟩) (by assumption) ?_
  (try simp only [Act.put, List.setIfInBounds_toArray, List.set_cons_zero, List.set_cons_succ])
  refine wpT_take (i := 1) rfl (by kernel_rfl) (fun _ _ _ h => h) (Or.inl ⟨by rfl, fun w hSw => by (try dsimp only at hSw); first | (go_simp; done) | (go_simp; with_reducible rfl)⟩) (by assumption) ?_
  (try simp only [Act.put, List.setIfInBounds_toArray, List.set_cons_zero, List.set_cons_succ])
  refine wpT_take (i := 2) rfl (by kernel_rfl) (fun _ _ _ h => h) (Or.inl ⟨by rfl, fun w hSw => by (try dsimp only at hSw); first | (go_simp; done) | (go_simp; with_reducible rfl)⟩) (by assumption) ?_
  (try simp only [Act.put, List.setIfInBounds_toArray, List.set_cons_zero, List.set_cons_succ])
  refine wpT_take (i := 3) rfl (by kernel_rfl) (fun _ _ _ h => h) (Or.inl ⟨by rfl, fun w hSw => by (try dsimp only at hSw); first | (go_simp; done) | (go_simp; with_reducible rfl)⟩) (by assumption) ?_
  (try simp only [Act.put, List.setIfInBounds_toArray, List.set_cons_zero, List.set_cons_succ])
  refine wpT_take (i := 4) rfl (by kernel_rfl) (fun _ _ _ h => h) (Or.inl ⟨by rfl, fun w hSw => by (try dsimp only at hSw); first | (go_simp; done) | (go_simp; with_reducible rfl)⟩) (by assumption) ?_
  (try simp only [Act.put, List.setIfInBounds_toArray, List.set_cons_zero, List.set_cons_succ])
  refine wpT_take (i := 5) rfl (by kernel_rfl) (fun _ _ _ h => h) (Or.inl ⟨by rfl, fun w hSw => by (try dsimp only at hSw); first | (go_simp; done) | (go_simp; with_reducible rfl)⟩) (by assumption) ?_
  (try simp only [Act.put, List.setIfInBounds_toArray, List.set_cons_zero, List.set_cons_succ])
  refine wpT_take (i := 6) rfl (by kernel_rfl) (fun _ _ _ h => h) (Or.inl ⟨by rfl, fun w hSw => by (try dsimp only at hSw); first | (go_simp; done) | (go_simp; with_reducible rfl)⟩) (by assumption) ?_
  (try simp only [Act.put, List.setIfInBounds_toArray, List.set_cons_zero, List.set_cons_succ])
  refine wpT_take (i := 7) rfl (by kernel_rfl) (fun _ _ _ h => h) (Or.inl ⟨by rfl, fun w hSw => by (try dsimp only at hSw); first | (go_simp; done) | (go_simp; with_reducible rfl)⟩) (by assumption) ?_
  (try simp only [Act.put, List.setIfInBounds_toArray, List.set_cons_zero, List.set_cons_succ])
  refine wpT_take (i := 8) rfl (by kernel_rfl) (fun _ _ _ h => h) (Or.inl ⟨by rfl, fun w hSw => by (try dsimp only at hSw); first | (go_simp; done) | (go_simp; with_reducible rfl)⟩) (by assumption) ?_
  (try simp only [Act.put, List.setIfInBounds_toArray, List.set_cons_zero, List.set_cons_succ])
  refine wpT_take (i := 9) rfl (by kernel_rfl) (fun _ _ _ h => h) (Or.inl ⟨by rfl, fun w hSw => by (try dsimp only at hSw); first | (go_simp; done) | (go_simp; with_reducible rfl)⟩) (by assumption) ?_
  (try simp only [Act.put, List.setIfInBounds_toArray, List.set_cons_zero, List.set_cons_succ])
  refine wpT_take (i := 10) rfl (by kernel_rfl) (fun _ _ _ h => h) (Or.inl ⟨by rfl, fun w hSw => by (try dsimp only at hSw); first | (go_simp; done) | (go_simp; with_reducible rfl)⟩) (by assumption) ?_
  (try simp only [Act.put, List.setIfInBounds_toArray, List.set_cons_zero, List.set_cons_succ])
  refine wpT_done (by kernel_rfl) ?_
  simp only [List.drop_succ_cons, List.drop_zero]
  clear hHeld
  clear es ex ep et0 et1 et2 et3
  have hwd := hw6.drew
  have hcall := hide (impl_selectIds (TableR.good.nxt hwd tR0) (RowSR.good.nxt hwd pR) (CondSR.good.nxt hwd H0_l) HA.out.1 HA.out.2)
  go_wp2_with fail
  refine hcall.out.mono ?_; rintro e w9 ⟨v9, bs9, rfl, r9, f9, hb9⟩; obtain ⟨A9, c9, rfl, _, _, _⟩ := r9.use
  go_wp2_with fail
  go_ret2
  rw [hs.out]
  exact ⟨_, bs9, rfl, r9, f9.mono hwd.size, nxt hwd hb9⟩
set_option maxHeartbeats 8000000 in
theorem spec_SelectIds {w : World}  {bs_s : List Nat} {cs_s : List Value} {s : Schema} (H_s : SchemaR w bs_s cs_s s) {bs_x : List Nat} {cs_x : List Value} {x : Store} (H_x : StoreR w bs_x cs_x x) (n : Int) {bs_l : List Nat} {v_l : Value} {l : List Cond} (H_l : CondSR w bs_l [v_l] l)  :
    Calls Tryz.prog 28 #[.agg cs_s.toArray, .agg cs_x.toArray, .int .i64 n, v_l] w (SeeS IntSR w (selAns s x n l).1 (selAns s x n l).2) := by
  have H0_l := H_l
  obtain ⟨A_l, c_l, rfl, hlc_l, hcm_l, hel_l⟩ := H_l.use
  have H0_s := H_s
  obtain ⟨s_v0, s_b0, rfl, rfl, hf_s, s_r0⟩ := H_s
  obtain ⟨A_s0, c_s0, rfl, hlc_s0, hcm_s0, hel_s0⟩ := s_r0.use
  have H0_x := H_x
  obtain ⟨x_v0, x_b0, rfl, rfl, hf_x, x_r0⟩ := H_x
  obtain ⟨A_x0, c_x0, rfl, hlc_x0, hcm_x0, hel_x0⟩ := x_r0.use
  have hbx := (((Below.refl w.heap.size w).alloc (Nat.le_refl _) (.cells #[.slice A_s0 s.tables.length c_s0] 61)).alloc (by simp; try omega) (.cells #[.slice A_x0 x.tables.length c_x0, .int .i64 x.next] 65))
  obtain ⟨q_s, q_x⟩ := two_at (Below.refl ((w.alloc (.cells #[.slice A_s0 s.tables.length c_s0] 61)).alloc (.cells #[.slice A_x0 x.tables.length c_x0, .int .i64 x.next] 65)).heap.size _)
  clear hel_l
  by_cases h4 : 4096 < l.length
  · have h9 : decide ((4096 : Int) < l.length) = true := decide_eq_true (by omega)
    go_enter Tryz.func28, Tryz.ntmps28
    have hs : Hid (selAns s x n l = ([], 2)) := by show _ = _; unfold selAns; rw [if_pos h4]
    go_wp2_with fail
    go_ret2
    rw [hs.out]
    exact ⟨_, [], rfl, nil_row (by omega), hbx.alloc hbx.size _⟩
  have H4 := hide h4
  have h9 : decide ((4096 : Int) < l.length) = false := decide_eq_false (by omega)
  clear h4
  go_enter Tryz.func28, Tryz.ntmps28
  go_wp2_with fail
  refine (spec_SchemaOK (SchemaR.good.nxt hbx H0_s)).mono ?_; rw [schOKs_eq]; rintro e w1 ⟨rfl, hb1⟩; replace q_s := box_on q_s rfl hb1; replace q_x := box_on q_x rfl hb1; have hw1 := nxt hbx hb1
  cases h1 : schOK s
  · clear hel_x0 hel_s0
    have hs : Hid (selAns s x n l = ([], 1)) := by show _ = _; unfold selAns storeFit; rw [if_neg H4.out, h1]; simp
    go_wp2_with fail
    go_ret2
    rw [hs.out]
    exact ⟨_, [], rfl, nil_row (by omega), hw1.alloc hw1.size _⟩
  go_wp2_with fail
  refine (spec_l05Form (SchemaR.good.nxt hw1 H0_s) (StoreR.good.nxt hw1 H0_x)).mono ?_; rw [formIn_eq]; rintro e w2 ⟨rfl, hb2⟩; replace q_s := box_on q_s rfl hb2; replace q_x := box_on q_x rfl hb2; have hw2 := nxt hw1 hb2
  cases h2 : storeIn s x
  · clear hel_x0 hel_s0
    have hs : Hid (selAns s x n l = ([], 1)) := by show _ = _; unfold selAns storeFit; rw [if_neg H4.out, h1, h2]; simp
    go_wp2_with fail
    go_ret2
    rw [hs.out]
    exact ⟨_, [], rfl, nil_row (by omega), hw2.alloc hw2.size _⟩
  have HO : Hid (storeFit s x = true) := by show _ = _; unfold storeFit; rw [h1, h2]; rfl
  have H1 := hide h1; have H2 := hide h2; clear h1 h2
  go_wp2_with fail
  refine (spec_l06List (CondSR.good.nxt hw2 H0_l)).mono ?_; rintro e w3 ⟨rfl, hb3⟩; replace q_s := box_on q_s rfl hb3; replace q_x := box_on q_x rfl hb3; have hw3 := nxt hw2 hb3
  cases h3 : condsOK l
  · clear hel_x0 hel_s0
    have hs : Hid (selAns s x n l = ([], 1)) := by show _ = _; unfold selAns storeFit; rw [if_neg H4.out, h3]; simp
    go_wp2_with fail
    go_ret2
    rw [hs.out]
    exact ⟨_, [], rfl, nil_row (by omega), hw3.alloc hw3.size _⟩
  have HC := hide h3; clear h3; have HL := hide (storeIn_len H2.out)
  go_wp2_with fail
  refine (spec_l01In _ _ _ _).mono ?_; rintro e w4 ⟨rfl, rfl⟩
  cases h5 : inB n 0 ((s.tables.length : Int) - 1)
  · clear hel_x0 hel_s0
    have hs : Hid (selAns s x n l = ([], 10)) := by show _ = _; unfold selAns; rw [if_neg H4.out, HC.out, HO.out, HL.out, h5]; rfl
    go_wp2_with fail
    go_ret2
    rw [hs.out]
    exact ⟨_, [], rfl, nil_row (by omega), hw3.alloc hw3.size _⟩
  have H5 : Hid (inB n 0 ((x.tables.length : Int) - 1) = true) := by show _ = _; rw [HL.out]; exact h5
  clear h5
  obtain ⟨m, hn, hm⟩ : ∃ m : Nat, n = m ∧ m < x.tables.length := by have h3 := inB_iff.1 H5.out; exact ⟨n.toNat, by omega, by omega⟩
  subst hn; have hms : m < s.tables.length := by have := storeIn_len (storeFit_in HO.out); omega
  have hs0 := hide (selAns_at H4.out HC.out HO.out H5.out hms hm)
  obtain ⟨tb, to, tbk, tes, rfl, thbl, thcl, thcell, tR, thbk⟩ := hel_s0 m hms
  have tR0 := tR
  obtain ⟨tv1, tb1, tv2, tb2, _, thes, thf, tr1, tr2⟩ := tR
  subst thes
  obtain ⟨tA1, tc1, rfl, thlc1, thcm1, thel1⟩ := tr1.use
  obtain ⟨tA2, tc2, rfl, thlc2, thcm2, thel2⟩ := tr2.use
  have t_0 := (hw3.cell (p := ⟨tb, _, none⟩) thbl).trans (thcell 0 _ rfl)
  have t_1 := (hw3.cell (p := ⟨tb, _, none⟩) thbl).trans (thcell 1 _ rfl)
  have t_2 := (hw3.cell (p := ⟨tb, _, none⟩) thbl).trans (thcell 2 _ rfl)
  have t_3 := (hw3.cell (p := ⟨tb, _, none⟩) thbl).trans (thcell 3 _ rfl)
  simp only [Nat.add_zero] at t_0 t_1 t_2 t_3
  clear hel_s0 thel1 thel2
  go_wp2_with fail
  refine (spec_l06Conds (TableR.good.nxt hw3 tR0) (CondSR.good.nxt hw3 H0_l)).mono ?_; rintro e w5 ⟨rfl, hb5⟩; replace q_s := box_on q_s rfl hb5; replace q_x := box_on q_x rfl hb5; have hw5 := nxt hw3 hb5
  clear t_0 t_1 t_2 t_3
  by_cases hc : ¬ firstC (condCode s.tables[m]) l = 0
  · have hc2 : (firstC (condCode s.tables[m]) l != 0) = true := by simp [hc]
    have hs : Hid (selAns s x m l = ([], firstC (condCode s.tables[m]) l)) := by show _ = _; rw [hs0.out, if_neg hc]
    clear hc hel_x0
    go_wp2_with fail
    go_ret2
    rw [hs.out]
    exact ⟨_, [], rfl, nil_row (by omega), hw5.alloc hw5.size _⟩
  have hc := Decidable.not_not.1 hc; have hc2 : (firstC (condCode s.tables[m]) l != 0) = false := by simp [hc]
  have hs : Hid (selAns s x m l = (selIds s.tables[m] x.tables[m] l, 0)) := by show _ = _; rw [hs0.out, if_pos hc]
  have HA := hide (fit_ask HO.out hms hm HC.out hc); clear hc
  have t_0 := (hw5.cell (p := ⟨tb, _, none⟩) thbl).trans (thcell 0 _ rfl)
  have t_1 := (hw5.cell (p := ⟨tb, _, none⟩) thbl).trans (thcell 1 _ rfl)
  have t_2 := (hw5.cell (p := ⟨tb, _, none⟩) thbl).trans (thcell 2 _ rfl)
  have t_3 := (hw5.cell (p := ⟨tb, _, none⟩) thbl).trans (thcell 3 _ rfl)
  simp only [Nat.add_zero] at t_0 t_1 t_2 t_3
  obtain ⟨pb, po, pbk, pes, rfl, phbl, phcl, phcell, pR, phbk⟩ := hel_x0 m hm
  obtain ⟨pA, pc, phlc, rfl⟩ : ∃ A0 c0, x.tables[m].length ≤ c0 ∧ pes = [.slice A0 x.tables[m].length c0] := by obtain ⟨A0, c0, h, h2, _⟩ := pR; exact ⟨A0, c0, h2, h⟩
  have p_0 := (hw5.cell (p := ⟨pb, _, none⟩) phbl).trans (phcell 0 _ rfl)
  simp only [Nat.add_zero, Nat.mul_one] at p_0
  clear hel_x0
  go_wp2_with fail
  have es := box_cell q_s 0 rfl
  have ex := box_cell q_x 0 rfl
  have ep := p_0
  have et0 := t_0
  have et1 := t_1
  have et2 := t_2
  have et3 := t_3
  refine wp_region_tail (fun w' => w'.cell? ⟨w.heap.size, 0, none⟩ = some (.slice (some ⟨tb, to, none⟩) s.tables.length c_s0) ∧ w'.cell? ⟨w.heap.size + 1, 0, none⟩ = some (.slice (some ⟨pb, po, none⟩) x.tables.length c_x0) ∧ w'.cell? ⟨pb, po + m, none⟩ = some (.slice pA x.tables[m].length pc) ∧ w'.cell? ⟨tb, to + m * 4, none⟩ = some (.string s.tables[m].name) ∧ w'.cell? ⟨tb, to + m * 4 + 1, none⟩ = some (.slice tA1 s.tables[m].columns.length tc1) ∧ w'.cell? ⟨tb, to + m * 4 + 2, none⟩ = some (.slice tA2 s.tables[m].unique.length tc2) ∧ w'.cell? ⟨tb, to + m * 4 + 3, none⟩ = some (.bool s.tables[m].root)) 11 (by kernel_rfl) (by decide) (show _ from ⟨es, ex, ep, et0, et1, et2, et3⟩) (fun hHeld => ?_)
  refine wpT_take (i := 0) rfl (by kernel_rfl) (fun _ _ _ h => h) (Or.inl ⟨by rfl, fun w hSw => by (try dsimp only at hSw); first | (go_simp; done) | (go_simp; with_reducible rfl)⟩) (by assumption) ?_
  (try simp only [Act.put, List.setIfInBounds_toArray, List.set_cons_zero, List.set_cons_succ])
  refine wpT_take (i := 1) rfl (by kernel_rfl) (fun _ _ _ h => h) (Or.inl ⟨by rfl, fun w hSw => by (try dsimp only at hSw); first | (go_simp; done) | (go_simp; with_reducible rfl)⟩) (by assumption) ?_
  (try simp only [Act.put, List.setIfInBounds_toArray, List.set_cons_zero, List.set_cons_succ])
  refine wpT_take (i := 2) rfl (by kernel_rfl) (fun _ _ _ h => h) (Or.inl ⟨by rfl, fun w hSw => by (try dsimp only at hSw); first | (go_simp; done) | (go_simp; with_reducible rfl)⟩) (by assumption) ?_
  (try simp only [Act.put, List.setIfInBounds_toArray, List.set_cons_zero, List.set_cons_succ])
  refine wpT_take (i := 3) rfl (by kernel_rfl) (fun _ _ _ h => h) (Or.inl ⟨by rfl, fun w hSw => by (try dsimp only at hSw); first | (go_simp; done) | (go_simp; with_reducible rfl)⟩) (by assumption) ?_
  (try simp only [Act.put, List.setIfInBounds_toArray, List.set_cons_zero, List.set_cons_succ])
  refine wpT_take (i := 4) rfl (by kernel_rfl) (fun _ _ _ h => h) (Or.inl ⟨by rfl, fun w hSw => by (try dsimp only at hSw); first | (go_simp; done) | (go_simp; with_reducible rfl)⟩) (by assumption) ?_
  (try simp only [Act.put, List.setIfInBounds_toArray, List.set_cons_zero, List.set_cons_succ])
  refine wpT_take (i := 5) rfl (by kernel_rfl) (fun _ _ _ h => h) (Or.inl ⟨by rfl, fun w hSw => by (try dsimp only at hSw); first | (go_simp; done) | (go_simp; with_reducible rfl)⟩) (by assumption) ?_
  (try simp only [Act.put, List.setIfInBounds_toArray, List.set_cons_zero, List.set_cons_succ])
  refine wpT_take (i := 6) rfl (by kernel_rfl) (fun _ _ _ h => h) (Or.inl ⟨by rfl, fun w hSw => by (try dsimp only at hSw); first | (go_simp; done) | (go_simp; with_reducible rfl)⟩) (by assumption) ?_
  (try simp only [Act.put, List.setIfInBounds_toArray, List.set_cons_zero, List.set_cons_succ])
  refine wpT_take (i := 7) rfl (by kernel_rfl) (fun _ _ _ h => h) (Or.inl ⟨by rfl, fun w hSw => by (try dsimp only at hSw); first | (go_simp; done) | (go_simp; with_reducible rfl)⟩) (by assumption) ?_
  (try simp only [Act.put, List.setIfInBounds_toArray, List.set_cons_zero, List.set_cons_succ])
  refine wpT_take (i := 8) rfl (by kernel_rfl) (fun _ _ _ h => h) (Or.inl ⟨by rfl, fun w hSw => by (try dsimp only at hSw); first | (go_simp; done) | (go_simp; with_reducible rfl)⟩) (by assumption) ?_
  (try simp only [Act.put, List.setIfInBounds_toArray, List.set_cons_zero, List.set_cons_succ])
  refine wpT_take (i := 9) rfl (by kernel_rfl) (fun _ _ _ h => h) (Or.inl ⟨by rfl, fun w hSw => by (try dsimp only at hSw); first | (go_simp; done) | (go_simp; with_reducible rfl)⟩) (by assumption) ?_
  (try simp only [Act.put, List.setIfInBounds_toArray, List.set_cons_zero, List.set_cons_succ])
  refine wpT_take (i := 10) rfl (by kernel_rfl) (fun _ _ _ h => h) (Or.inl ⟨by rfl, fun w hSw => by (try dsimp only at hSw); first | (go_simp; done) | (go_simp; with_reducible rfl)⟩) (by assumption) ?_
  (try simp only [Act.put, List.setIfInBounds_toArray, List.set_cons_zero, List.set_cons_succ])
  refine wpT_done (by kernel_rfl) ?_
  simp only [List.drop_succ_cons, List.drop_zero]
  clear hHeld
  clear es ex ep et0 et1 et2 et3
  have hwd := hw5.drew
  have hcall := hide (spec_l06Select (TableR.good.nxt hwd tR0) (RowSR.good.nxt hwd pR) (CondSR.good.nxt hwd H0_l) HA.out.1 HA.out.2)
  go_wp2_with fail
  refine hcall.out.mono ?_; rintro e w9 ⟨v9, bs9, rfl, r9, f9, hb9⟩; obtain ⟨A9, c9, rfl, _, _, _⟩ := r9.use
  go_wp2_with fail
  go_ret2
  rw [hs.out]
  exact ⟨_, bs9, rfl, r9, nxt hwd hb9⟩
theorem selAns_wt (s : Schema) (x : Store) (n : Int) (l : List Cond) : IntS.wt (selAns s x n l).1 ≤ 12 := by
  have h0 : IntS.wt [] ≤ 12 := by decide
  have hw : ∀ xs : List Int, IntS.wt xs = xs.length := fun xs => by unfold IntS.wt; rw [List.map_const', List.sum_replicate_nat]; omega
  unfold selAns
  split
  · exact h0
  · cases h1 : (condsOK l && storeFit s x)
    · exact h0
    · cases h2 : inB n 0 ((x.tables.length : Int) - 1)
      · exact h0
      · show IntS.wt (if _ then _ else _ : List Int × Int).1 ≤ 12
        split
        · show IntS.wt (selIds _ _ _) ≤ 12
          rw [hw]
          refine Nat.le_trans (selIds_len _ _ _) ?_
          rw [Bool.and_eq_true] at h1
          have h3 := inB_iff.1 h2
          have hx : n.toNat < x.tables.length := by omega
          have hs : n.toNat < s.tables.length := by have := storeIn_len (storeFit_in h1.2); omega
          have := fitRows_len (storeIn_at (storeFit_in h1.2) hs hx)
          unfold tabOf; simpa [List.getD, hx] using this
        · exact h0
end Go.Proofs.YthbebbnidgeaeaaGreat
