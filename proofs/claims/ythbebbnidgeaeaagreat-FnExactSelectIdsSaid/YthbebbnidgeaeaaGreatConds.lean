/- Conditions and their codes, in the program and in the reference. No statement is proved here; no conditions. Written by a program (gen11.py). -/
import Derived.Test.YthbebbnidgeaeaaGreatMuts
namespace Go.Proofs.YthbebbnidgeaeaaGreat
open Go.ChangeShapes Go.WideShapes Go.ChangeAt Go.RowKit Go.Deep
set_option maxRecDepth 100000
set_option linter.unusedVariables false
set_option linter.unusedSimpArgs false

def condOK (m : Cond) : Bool := inB m.func 1 8 && (datumOK m.value && decide ((m.column.size : Int) ≤ 40))
def uuidB : ByteArray := ⟨#[95, 117, 117, 105, 100]⟩
/-- The kind and the most of the column that a name calls, '_uuid' too. -/
def named (t : Table) (s : ByteArray) : Column := if colIdx t.columns s < 0 then ⟨uuidB, 4, 0, 1, 0, 0, ⟨#[]⟩, false⟩ else colAt t s
def noCol : Column := ⟨⟨#[]⟩, 0, 0, 0, 0, 0, ⟨#[]⟩, false⟩
def isNamed (t : Table) (s : ByteArray) : Bool := decide (0 ≤ colIdx t.columns s) || eqS s uuidB
def condType (m : Cond) (c : Column) : Int := if 0 < m.value.length ∧ ¬ kind0 m.value = c.kind then 9 else if (3 ≤ m.func ∧ m.func ≤ 6) ∧ (¬ c.kind = 1 ∨ ¬ c.max = 1 ∨ ¬ (m.value.length : Int) = 1) then 9 else 0
def condCode (t : Table) (m : Cond) : Int := cond (isNamed t m.column) (condType m (named t m.column)) 11
def condAns (t : Table) (m : Cond) : Int × Int := cond (tblOK t && condOK m) (condCode t m, 0) (0, 1)
theorem uuid_eq {s : ByteArray} : eqS s uuidB = (s.toList == [95, 117, 117, 105, 100]) := by
  unfold eqS; rw [show uuidB.toList = [95, 117, 117, 105, 100] from by rw [ByteArray.toList_eq]; rfl]
theorem named_at {t : Table} {s : ByteArray} {k : Nat} (hk : k < t.columns.length) (he : colIdx t.columns s = k) : named t s = t.columns[k] ∧ isNamed t s = true := by
  unfold named isNamed; rw [if_neg (by omega), colAt_at hk he, decide_eq_true (by omega)]; exact ⟨rfl, rfl⟩
theorem named_uuid {t : Table} {s : ByteArray} (h : colIdx t.columns s < 0) (he : eqS s uuidB = true) : named t s = ⟨uuidB, 4, 0, 1, 0, 0, ⟨#[]⟩, false⟩ ∧ isNamed t s = true := by
  unfold named isNamed; rw [if_pos h, he, Bool.or_true]; exact ⟨rfl, rfl⟩
theorem named_none {t : Table} {s : ByteArray} (h : colIdx t.columns s < 0) (he : eqS s uuidB = false) : isNamed t s = false := by
  unfold isNamed; rw [he, decide_eq_false (by omega)]; rfl
theorem impl_condOK {w : World}  {bs_m : List Nat} {cs_m : List Value} {m : Cond} (H_m : CondR w bs_m cs_m m)  :
    Calls Tryz.prog 96 #[.agg cs_m.toArray] w (fun e w' => e = .returned (.bool (condOK m)) ∧ Below w.heap.size w w') := by
  have H0_m := H_m
  obtain ⟨m_v2, m_b2, rfl, rfl, hf_m, m_r2⟩ := H_m
  obtain ⟨A_m2, c_m2, rfl, hlc_m2, hcm_m2, hel_m2⟩ := m_r2.use
  have hbx := ((Below.refl w.heap.size w).alloc (Nat.le_refl _) (.cells #[.string m.column, .int .i64 m.func, .slice A_m2 m.value.length c_m2] 95))
  have q_m := blk_cells (blk_new w #[.string m.column, .int .i64 m.func, .slice A_m2 m.value.length c_m2] 95)
  have hcs : m.column.size ≤ 9223372036854775807 := hf_m.1
  go_enter Tryz.func96, Tryz.ntmps96
  go_wp2_with fail
  refine (impl_within _ _ _ _).mono ?_; rintro e w1 ⟨rfl, rfl⟩
  cases h1 : inB m.func 1 8
  · go_wp2_with fail
    go_ret
    exact ⟨ret_bool (by unfold condOK; rw [h1]; rfl), hbx⟩
  go_wp2_with fail
  refine (impl_DatumOK hbx m_r2).mono ?_; rintro e w2 ⟨rfl, hb2⟩; replace q_m := box_on q_m rfl hb2; have hw2 := nxt hbx hb2
  cases h2 : datumOK m.value
  · go_wp2_with fail
    go_ret
    exact ⟨ret_bool (by unfold condOK; rw [h1, h2]; rfl), hw2⟩
  have q9 := blk_new w2 #[.string m.column] 9
  go_wp2_with fail
  refine (impl_areShort (one_str q9 hcs)).mono ?_; rintro e w3 ⟨rfl, hb3⟩; have hw3 := nxt (hw2.alloc hw2.size _) hb3; rw [short_one]
  go_wp2_with fail
  go_ret
  exact ⟨ret_bool (by unfold condOK; rw [h1, h2]; rfl), hw3⟩
theorem spec_l06OK {w : World}  {bs_m : List Nat} {cs_m : List Value} {m : Cond} (H_m : CondR w bs_m cs_m m)  :
    Calls Tryz.prog 89 #[.agg cs_m.toArray] w (fun e w' => e = .returned (.bool (condOK m)) ∧ Below w.heap.size w w') := by
  have H0_m := H_m
  obtain ⟨m_v2, m_b2, rfl, rfl, hf_m, m_r2⟩ := H_m
  obtain ⟨A_m2, c_m2, rfl, hlc_m2, hcm_m2, hel_m2⟩ := m_r2.use
  have hbx := ((Below.refl w.heap.size w).alloc (Nat.le_refl _) (.cells #[.string m.column, .int .i64 m.func, .slice A_m2 m.value.length c_m2] 95))
  have q_m := blk_cells (blk_new w #[.string m.column, .int .i64 m.func, .slice A_m2 m.value.length c_m2] 95)
  have hcs : m.column.size ≤ 9223372036854775807 := hf_m.1
  go_enter Tryz.func89, Tryz.ntmps89
  go_wp2_with fail
  refine (spec_l01In _ _ _ _).mono ?_; rintro e w1 ⟨rfl, rfl⟩
  cases h1 : inB m.func 1 8
  · go_wp2_with fail
    go_ret
    exact ⟨ret_bool (by unfold condOK; rw [h1]; rfl), hbx⟩
  go_wp2_with fail
  refine (spec_DatumOK hbx m_r2).mono ?_; rintro e w2 ⟨rfl, hb2⟩; replace q_m := box_on q_m rfl hb2; have hw2 := nxt hbx hb2
  cases h2 : datumOK m.value
  · go_wp2_with fail
    go_ret
    exact ⟨ret_bool (by unfold condOK; rw [h1, h2]; rfl), hw2⟩
  go_wp2_with fail
  go_ret
  exact ⟨ret_bool (by unfold condOK; rw [h1, h2]; rfl), hw2⟩
set_option maxHeartbeats 2000000 in
theorem impl_named {w : World}  {bs_t : List Nat} {cs_t : List Value} {t : Table} (H_t : TableR w bs_t cs_t t) (s : ByteArray)  :
    Calls Tryz.prog 141 #[.agg cs_t.toArray, .string s] w (fun e w' => e = .returned (.tuple #[.agg (cond (isNamed t s) (named t s) noCol).raw, .bool (isNamed t s)]) ∧ Below w.heap.size w w') := by
  have H0_t := H_t
  obtain ⟨t_v1, t_b1, t_v2, t_b2, rfl, rfl, hf_t, t_r1, t_r2⟩ := H_t
  obtain ⟨A_t1, c_t1, rfl, hlc_t1, hcm_t1, hel_t1⟩ := t_r1.use
  obtain ⟨A_t2, c_t2, rfl, hlc_t2, hcm_t2, hel_t2⟩ := t_r2.use
  have hbx := (((Below.refl w.heap.size w).alloc (Nat.le_refl _) (.cells #[.string t.name, .slice A_t1 t.columns.length c_t1, .slice A_t2 t.unique.length c_t2, .bool t.root] 37)).alloc (by simp; try omega) (.cells #[.string ⟨#[]⟩, .int .i64 0, .int .i64 0, .int .i64 0, .int .i64 0, .int .i64 0, .string ⟨#[]⟩, .bool false] 130))
  obtain ⟨q_t, q_res⟩ := two_at (Below.refl ((w.alloc (.cells #[.string t.name, .slice A_t1 t.columns.length c_t1, .slice A_t2 t.unique.length c_t2, .bool t.root] 37)).alloc (.cells #[.string ⟨#[]⟩, .int .i64 0, .int .i64 0, .int .i64 0, .int .i64 0, .int .i64 0, .string ⟨#[]⟩, .bool false] 130)).heap.size _)
  have R_res : World.heap ((w.alloc (.cells #[.string t.name, .slice A_t1 t.columns.length c_t1, .slice A_t2 t.unique.length c_t2, .bool t.root] 37)).alloc (.cells #[.string ⟨#[]⟩, .int .i64 0, .int .i64 0, .int .i64 0, .int .i64 0, .int .i64 0, .string ⟨#[]⟩, .bool false] 130)) = World.heap ((w.alloc (.cells #[.string t.name, .slice A_t1 t.columns.length c_t1, .slice A_t2 t.unique.length c_t2, .bool t.root] 37)).alloc (.cells #[.string ⟨#[]⟩, .int .i64 0, .int .i64 0, .int .i64 0, .int .i64 0, .int .i64 0, .string ⟨#[]⟩, .bool false] 130)) := rfl
  clear R_res
  have R_res : (World.heap ((w.alloc (.cells #[.string t.name, .slice A_t1 t.columns.length c_t1, .slice A_t2 t.unique.length c_t2, .bool t.root] 37)).alloc (.cells #[.string ⟨#[]⟩, .int .i64 0, .int .i64 0, .int .i64 0, .int .i64 0, .int .i64 0, .string ⟨#[]⟩, .bool false] 130)))[w.heap.size + 1]? = some (.cells #[.string ⟨#[]⟩, .int .i64 0, .int .i64 0, .int .i64 0, .int .i64 0, .int .i64 0, .string ⟨#[]⟩, .bool false] 130 (0, 0)) := by simpa using blk_new ((w.alloc (.cells #[.string t.name, .slice A_t1 t.columns.length c_t1, .slice A_t2 t.unique.length c_t2, .bool t.root] 37))) #[.string ⟨#[]⟩, .int .i64 0, .int .i64 0, .int .i64 0, .int .i64 0, .int .i64 0, .string ⟨#[]⟩, .bool false] 130
  have R_free := blk_free R_res
  by_cases hn : colIdx t.columns s < 0
  · have hd : decide (0 ≤ colIdx t.columns s) = false := decide_eq_false (by omega)
    have HN := hide hn
    clear hn
    go_enter Tryz.func141, Tryz.ntmps141
    go_wp2_with fail
    refine (impl_columnAt (TableR.good.nxt hbx H0_t) s).mono ?_; rintro e w1 ⟨rfl, hb1⟩; replace q_t := box_on q_t rfl hb1; replace q_res := box_on q_res rfl hb1; have hw1 := nxt hbx hb1; replace R_res := blk_on R_res hb1; replace R_free := blk_free R_res
    cases hu : eqS s uuidB
    · have hx := hide (named_none HN.out hu)
      rw [uuid_eq] at hu
      go_wp2_with fail
      have fin : _ = some (Obj.cells #[.string ⟨#[]⟩, .int .i64 0, .int .i64 0, .int .i64 0, .int .i64 0, .int .i64 0, .string ⟨#[]⟩, .bool false] 130 (0, 0)) := blk_set (blk_set (blk_set (blk_set (blk_set (blk_set (blk_set (blk_set (R_res) 0 (.string ⟨#[]⟩)) 1 (.int .i64 0)) 2 (.int .i64 0)) 3 (.int .i64 0)) 4 (.int .i64 0)) 5 (.int .i64 0)) 6 (.string ⟨#[]⟩)) 7 (.bool false)
      have fc := blk_cells fin
      refine bodyPost_ret (v := .tuple #[.agg #[.string ⟨#[]⟩, .int .i64 0, .int .i64 0, .int .i64 0, .int .i64 0, .int .i64 0, .string ⟨#[]⟩, .bool false], .bool false]) (by simp [results, Tryz.results141, go_sem, fc]) rfl ⟨by rw [hx.out]; rfl, ((((((((hw1.setCell (p := ⟨w.heap.size + 1, 0, none⟩) (by simp) _).setCell (p := ⟨w.heap.size + 1, 1, none⟩) (by simp) _).setCell (p := ⟨w.heap.size + 1, 2, none⟩) (by simp) _).setCell (p := ⟨w.heap.size + 1, 3, none⟩) (by simp) _).setCell (p := ⟨w.heap.size + 1, 4, none⟩) (by simp) _).setCell (p := ⟨w.heap.size + 1, 5, none⟩) (by simp) _).setCell (p := ⟨w.heap.size + 1, 6, none⟩) (by simp) _).setCell (p := ⟨w.heap.size + 1, 7, none⟩) (by simp) _)⟩
    · have hx := hide (named_uuid HN.out hu)
      rw [uuid_eq] at hu
      go_wp2_with fail
      have fin : _ = some (Obj.cells #[.string ⟨#[95, 117, 117, 105, 100]⟩, .int .i64 4, .int .i64 0, .int .i64 1, .int .i64 0, .int .i64 0, .string ⟨#[]⟩, .bool false] 130 (0, 0)) := blk_set (blk_set (blk_set (blk_set (blk_set (blk_set (blk_set (blk_set (R_res) 0 (.string ⟨#[95, 117, 117, 105, 100]⟩)) 1 (.int .i64 4)) 2 (.int .i64 0)) 3 (.int .i64 1)) 4 (.int .i64 0)) 5 (.int .i64 0)) 6 (.string ⟨#[]⟩)) 7 (.bool false)
      have fc := blk_cells fin
      refine bodyPost_ret (v := .tuple #[.agg #[.string ⟨#[95, 117, 117, 105, 100]⟩, .int .i64 4, .int .i64 0, .int .i64 1, .int .i64 0, .int .i64 0, .string ⟨#[]⟩, .bool false], .bool true]) (by simp [results, Tryz.results141, go_sem, fc]) rfl ⟨by rw [hx.out.2, hx.out.1]; rfl, ((((((((hw1.setCell (p := ⟨w.heap.size + 1, 0, none⟩) (by simp) _).setCell (p := ⟨w.heap.size + 1, 1, none⟩) (by simp) _).setCell (p := ⟨w.heap.size + 1, 2, none⟩) (by simp) _).setCell (p := ⟨w.heap.size + 1, 3, none⟩) (by simp) _).setCell (p := ⟨w.heap.size + 1, 4, none⟩) (by simp) _).setCell (p := ⟨w.heap.size + 1, 5, none⟩) (by simp) _).setCell (p := ⟨w.heap.size + 1, 6, none⟩) (by simp) _).setCell (p := ⟨w.heap.size + 1, 7, none⟩) (by simp) _)⟩
  obtain ⟨k, hk, he⟩ := colIdx_lt hn
  have HE := hide he
  have hx := hide (named_at hk he)
  clear he hn
  go_enter Tryz.func141, Tryz.ntmps141
  go_wp2_with fail
  refine (impl_columnAt (TableR.good.nxt hbx H0_t) s).mono ?_; rw [HE.out]; rintro e w2 ⟨rfl, hb2⟩; replace q_t := box_on q_t rfl hb2; replace q_res := box_on q_res rfl hb2; have hw2 := nxt hbx hb2; replace R_res := blk_on R_res hb2; replace R_free := blk_free R_res
  obtain ⟨gb, go, gbk, ges, rfl, ghbl, ghcl, ghcell, gR, ghbk⟩ := hel_t1 k hk
  obtain ⟨_, ghes, ghf⟩ := gR
  subst ghes
  have g_0 := (hw2.cell (p := ⟨gb, _, none⟩) ghbl).trans (ghcell 0 _ rfl)
  have g_1 := (hw2.cell (p := ⟨gb, _, none⟩) ghbl).trans (ghcell 1 _ rfl)
  have g_2 := (hw2.cell (p := ⟨gb, _, none⟩) ghbl).trans (ghcell 2 _ rfl)
  have g_3 := (hw2.cell (p := ⟨gb, _, none⟩) ghbl).trans (ghcell 3 _ rfl)
  have g_4 := (hw2.cell (p := ⟨gb, _, none⟩) ghbl).trans (ghcell 4 _ rfl)
  have g_5 := (hw2.cell (p := ⟨gb, _, none⟩) ghbl).trans (ghcell 5 _ rfl)
  have g_6 := (hw2.cell (p := ⟨gb, _, none⟩) ghbl).trans (ghcell 6 _ rfl)
  have g_7 := (hw2.cell (p := ⟨gb, _, none⟩) ghbl).trans (ghcell 7 _ rfl)
  simp only [Nat.add_zero] at g_0 g_1 g_2 g_3 g_4 g_5 g_6 g_7
  clear ghcell ghcl
  clear hel_t1 hel_t2
  go_wp2_with fail
  have fin : _ = some (Obj.cells #[.string t.columns[k].name, .int .i64 t.columns[k].kind, .int .i64 t.columns[k].min, .int .i64 t.columns[k].max, .int .i64 t.columns[k].low, .int .i64 t.columns[k].high, .string t.columns[k].ref, .bool t.columns[k].strong] 130 (0, 0)) := blk_set (blk_set (blk_set (blk_set (blk_set (blk_set (blk_set (blk_set (R_res) 0 (.string t.columns[k].name)) 1 (.int .i64 t.columns[k].kind)) 2 (.int .i64 t.columns[k].min)) 3 (.int .i64 t.columns[k].max)) 4 (.int .i64 t.columns[k].low)) 5 (.int .i64 t.columns[k].high)) 6 (.string t.columns[k].ref)) 7 (.bool t.columns[k].strong)
  have fc := blk_cells fin
  refine bodyPost_ret (v := .tuple #[.agg #[.string t.columns[k].name, .int .i64 t.columns[k].kind, .int .i64 t.columns[k].min, .int .i64 t.columns[k].max, .int .i64 t.columns[k].low, .int .i64 t.columns[k].high, .string t.columns[k].ref, .bool t.columns[k].strong], .bool true]) (by simp [results, Tryz.results141, go_sem, fc]) rfl ⟨by rw [hx.out.2, hx.out.1]; rfl, ((((((((hw2.setCell (p := ⟨w.heap.size + 1, 0, none⟩) (by simp) _).setCell (p := ⟨w.heap.size + 1, 1, none⟩) (by simp) _).setCell (p := ⟨w.heap.size + 1, 2, none⟩) (by simp) _).setCell (p := ⟨w.heap.size + 1, 3, none⟩) (by simp) _).setCell (p := ⟨w.heap.size + 1, 4, none⟩) (by simp) _).setCell (p := ⟨w.heap.size + 1, 5, none⟩) (by simp) _).setCell (p := ⟨w.heap.size + 1, 6, none⟩) (by simp) _).setCell (p := ⟨w.heap.size + 1, 7, none⟩) (by simp) _)⟩
set_option maxHeartbeats 4000000 in
theorem impl_condCode {w : World}  {bs_t : List Nat} {cs_t : List Value} {t : Table} (H_t : TableR w bs_t cs_t t) {bs_m : List Nat} {cs_m : List Value} {m : Cond} (H_m : CondR w bs_m cs_m m)  :
    Calls Tryz.prog 100 #[.agg cs_t.toArray, .agg cs_m.toArray] w (fun e w' => e = .returned (.int .i64 (condCode t m)) ∧ Below w.heap.size w w') := by
  have H0_t := H_t
  obtain ⟨t_v1, t_b1, t_v2, t_b2, rfl, rfl, hf_t, t_r1, t_r2⟩ := H_t
  obtain ⟨A_t1, c_t1, rfl, hlc_t1, hcm_t1, hel_t1⟩ := t_r1.use
  obtain ⟨A_t2, c_t2, rfl, hlc_t2, hcm_t2, hel_t2⟩ := t_r2.use
  have H0_m := H_m
  obtain ⟨m_v2, m_b2, rfl, rfl, hf_m, m_r2⟩ := H_m
  obtain ⟨A_m2, c_m2, rfl, hlc_m2, hcm_m2, hel_m2⟩ := m_r2.use
  have hbx := (((Below.refl w.heap.size w).alloc (Nat.le_refl _) (.cells #[.string t.name, .slice A_t1 t.columns.length c_t1, .slice A_t2 t.unique.length c_t2, .bool t.root] 37)).alloc (by simp; try omega) (.cells #[.string m.column, .int .i64 m.func, .slice A_m2 m.value.length c_m2] 95))
  obtain ⟨q_t, q_m⟩ := two_at (Below.refl ((w.alloc (.cells #[.string t.name, .slice A_t1 t.columns.length c_t1, .slice A_t2 t.unique.length c_t2, .bool t.root] 37)).alloc (.cells #[.string m.column, .int .i64 m.func, .slice A_m2 m.value.length c_m2] 95)).heap.size _)
  obtain ⟨c, hc⟩ : ∃ c, cond (isNamed t m.column) (named t m.column) noCol = c := ⟨_, rfl⟩
  have HC := hide hc
  clear hc hel_t1 hel_t2
  by_cases hpos : 0 < m.value.length
  · obtain ⟨b, o, bk, es, rfl, hbl, hcl, hcell, ⟨_, hes, _⟩, _⟩ := hel_m2 0 hpos
    subst hes
    have hl : decide ((0 : Int) < m.value.length) = true := decide_eq_true (by omega)
    have ho := hide (kind0_at hpos)
    go_enter Tryz.func100, Tryz.ntmps100
    go_wp2_with fail
    refine (impl_named (TableR.good.nxt hbx H0_t) m.column).mono ?_; rw [HC.out]; rintro e w1 ⟨rfl, hb1⟩; replace q_t := box_on q_t rfl hb1; replace q_m := box_on q_m rfl hb1; have hw1 := nxt hbx hb1
    cases hi : isNamed t m.column
    · go_wp2_with fail
      go_ret
      exact ⟨ret_int (by unfold condCode; rw [hi]; rfl), (hw1).alloc (hw1).size _⟩
    have HC2 : Hid (c = named t m.column) := by show _ = _; rw [← HC.out, hi]; rfl
    have HI := hide hi
    clear hi
    go_wp2_with fail
    replace q_t := box_on q_t rfl ((Below.refl (World.heap (w1)).size (w1)).alloc (Nat.le_refl _) (.cells c.raw 130))
    replace q_m := box_on q_m rfl ((Below.refl (World.heap (w1)).size (w1)).alloc (Nat.le_refl _) (.cells c.raw 130))
    have q_c := blk_cells (blk_new (w1) c.raw 130)
    have hn1 := (hw1).alloc (hw1).size (.cells c.raw 130)
    have kz := Fw.cell ((hn1.cell (p := ⟨b, _, none⟩) hbl).trans (hcell 0 _ rfl))
    simp only [Nat.zero_mul, Nat.add_zero] at kz
    clear hcell hcl
    have q_tF0 := Fw.cell (box_cell q_t 0 rfl)
    have q_tF1 := Fw.cell (box_cell q_t 1 rfl)
    have q_tF2 := Fw.cell (box_cell q_t 2 rfl)
    have q_tF3 := Fw.cell (box_cell q_t 3 rfl)
    have q_mF0 := Fw.cell (box_cell q_m 0 rfl)
    have q_mF1 := Fw.cell (box_cell q_m 1 rfl)
    have q_mF2 := Fw.cell (box_cell q_m 2 rfl)
    have q_cF0 := Fw.cell (box_cell q_c 0 rfl)
    have q_cF1 := Fw.cell (box_cell q_c 1 rfl)
    have q_cF2 := Fw.cell (box_cell q_c 2 rfl)
    have q_cF3 := Fw.cell (box_cell q_c 3 rfl)
    have q_cF4 := Fw.cell (box_cell q_c 4 rfl)
    have q_cF5 := Fw.cell (box_cell q_c 5 rfl)
    have q_cF6 := Fw.cell (box_cell q_c 6 rfl)
    have q_cF7 := Fw.cell (box_cell q_c 7 rfl)
    refine region_quiet (by kernel_rfl) (by kernel_rfl) ?_
    repeat (go_big_quiet_step (fail))
    refine wpQuiet_nil ?_; intro w2 hb2; replace q_t := box_on q_t rfl hb2; replace q_m := box_on q_m rfl hb2; replace q_c := box_on q_c rfl hb2; have hw2 := nxt hn1 hb2; clear q_tF0 q_tF1 q_tF2 q_tF3 q_mF0 q_mF1 q_mF2 q_cF0 q_cF1 q_cF2 q_cF3 q_cF4 q_cF5 q_cF6 q_cF7 kz
    go_wp2_with (go_at_call 66; refine (impl_within _ _ _ _).mono ?_; rintro e w9 ⟨rfl, rfl⟩)
    all_goals
      go_ret
      exact ⟨ret_int (by unfold condCode condType; rw [HI.out, ← HC2.out, ho.out]; simp only [cond_true]; ((try simp only [bne_iff_ne, bne_eq_false_iff_eq, ne_eq, inB_iff, inB_not] at *) <;> (repeat' split) <;> (first | rfl | omega))), hw2⟩
  · have hl : decide ((0 : Int) < m.value.length) = false := decide_eq_false (by omega)
    clear hel_m2
    go_enter Tryz.func100, Tryz.ntmps100
    go_wp2_with fail
    refine (impl_named (TableR.good.nxt hbx H0_t) m.column).mono ?_; rw [HC.out]; rintro e w3 ⟨rfl, hb3⟩; replace q_t := box_on q_t rfl hb3; replace q_m := box_on q_m rfl hb3; have hw3 := nxt hbx hb3
    cases hi : isNamed t m.column
    · go_wp2_with fail
      go_ret
      exact ⟨ret_int (by unfold condCode; rw [hi]; rfl), (hw3).alloc (hw3).size _⟩
    have HC2 : Hid (c = named t m.column) := by show _ = _; rw [← HC.out, hi]; rfl
    have HI := hide hi
    clear hi
    go_wp2_with fail
    replace q_t := box_on q_t rfl ((Below.refl (World.heap (w3)).size (w3)).alloc (Nat.le_refl _) (.cells c.raw 130))
    replace q_m := box_on q_m rfl ((Below.refl (World.heap (w3)).size (w3)).alloc (Nat.le_refl _) (.cells c.raw 130))
    have q_c := blk_cells (blk_new (w3) c.raw 130)
    have hn2 := (hw3).alloc (hw3).size (.cells c.raw 130)
    have q_tF0 := Fw.cell (box_cell q_t 0 rfl)
    have q_tF1 := Fw.cell (box_cell q_t 1 rfl)
    have q_tF2 := Fw.cell (box_cell q_t 2 rfl)
    have q_tF3 := Fw.cell (box_cell q_t 3 rfl)
    have q_mF0 := Fw.cell (box_cell q_m 0 rfl)
    have q_mF1 := Fw.cell (box_cell q_m 1 rfl)
    have q_mF2 := Fw.cell (box_cell q_m 2 rfl)
    have q_cF0 := Fw.cell (box_cell q_c 0 rfl)
    have q_cF1 := Fw.cell (box_cell q_c 1 rfl)
    have q_cF2 := Fw.cell (box_cell q_c 2 rfl)
    have q_cF3 := Fw.cell (box_cell q_c 3 rfl)
    have q_cF4 := Fw.cell (box_cell q_c 4 rfl)
    have q_cF5 := Fw.cell (box_cell q_c 5 rfl)
    have q_cF6 := Fw.cell (box_cell q_c 6 rfl)
    have q_cF7 := Fw.cell (box_cell q_c 7 rfl)
    refine region_quiet (by kernel_rfl) (by kernel_rfl) ?_
    repeat (go_big_quiet_step (fail))
    refine wpQuiet_nil ?_; intro w4 hb4; replace q_t := box_on q_t rfl hb4; replace q_m := box_on q_m rfl hb4; replace q_c := box_on q_c rfl hb4; have hw4 := nxt hn2 hb4; clear q_tF0 q_tF1 q_tF2 q_tF3 q_mF0 q_mF1 q_mF2 q_cF0 q_cF1 q_cF2 q_cF3 q_cF4 q_cF5 q_cF6 q_cF7
    go_wp2_with (go_at_call 66; refine (impl_within _ _ _ _).mono ?_; rintro e w9 ⟨rfl, rfl⟩)
    all_goals
      go_ret
      exact ⟨ret_int (by unfold condCode condType; rw [HI.out, ← HC2.out]; simp only [cond_true]; ((try simp only [bne_iff_ne, bne_eq_false_iff_eq, ne_eq, inB_iff, inB_not] at *) <;> (repeat' split) <;> (first | rfl | omega))), hw4⟩
set_option maxHeartbeats 4000000 in
theorem spec_l06Code {w : World}  {bs_t : List Nat} {cs_t : List Value} {t : Table} (H_t : TableR w bs_t cs_t t) {bs_m : List Nat} {cs_m : List Value} {m : Cond} (H_m : CondR w bs_m cs_m m)  :
    Calls Tryz.prog 90 #[.agg cs_t.toArray, .agg cs_m.toArray] w (fun e w' => e = .returned (.int .i64 (condCode t m)) ∧ Below w.heap.size w w') := by
  have H0_t := H_t
  obtain ⟨t_v1, t_b1, t_v2, t_b2, rfl, rfl, hf_t, t_r1, t_r2⟩ := H_t
  obtain ⟨A_t1, c_t1, rfl, hlc_t1, hcm_t1, hel_t1⟩ := t_r1.use
  obtain ⟨A_t2, c_t2, rfl, hlc_t2, hcm_t2, hel_t2⟩ := t_r2.use
  have H0_m := H_m
  obtain ⟨m_v2, m_b2, rfl, rfl, hf_m, m_r2⟩ := H_m
  obtain ⟨A_m2, c_m2, rfl, hlc_m2, hcm_m2, hel_m2⟩ := m_r2.use
  have hbx := (((Below.refl w.heap.size w).alloc (Nat.le_refl _) (.cells #[.string t.name, .slice A_t1 t.columns.length c_t1, .slice A_t2 t.unique.length c_t2, .bool t.root] 37)).alloc (by simp; try omega) (.cells #[.string m.column, .int .i64 m.func, .slice A_m2 m.value.length c_m2] 95))
  obtain ⟨q_t, q_m⟩ := two_at (Below.refl ((w.alloc (.cells #[.string t.name, .slice A_t1 t.columns.length c_t1, .slice A_t2 t.unique.length c_t2, .bool t.root] 37)).alloc (.cells #[.string m.column, .int .i64 m.func, .slice A_m2 m.value.length c_m2] 95)).heap.size _)
  by_cases hn : colIdx t.columns m.column < 0
  · have hd : decide (0 ≤ colIdx t.columns m.column) = false := decide_eq_false (by omega)
    have HN := hide hn
    clear hn
    cases hu : eqS m.column uuidB
    · have hx := hide (named_none HN.out hu)
      rw [uuid_eq] at hu
      have hu2 : (m.column.toList != [95, 117, 117, 105, 100]) = true := by unfold bne; rw [hu]; rfl
      clear hel_t1 hel_t2 hel_m2
      go_enter Tryz.func90, Tryz.ntmps90
      go_wp2_with fail
      refine (spec_l04Column (TableR.good.nxt hbx H0_t) m.column).mono ?_; rintro e w1 ⟨rfl, hb1⟩; replace q_t := box_on q_t rfl hb1; replace q_m := box_on q_m rfl hb1; have hw1 := nxt hbx hb1
      go_wp2
      go_ret
      exact ⟨ret_int (by unfold condCode; rw [hx.out]; rfl), hw1⟩
    · have hx := hide (named_uuid HN.out hu)
      rw [uuid_eq] at hu
      have hu2 : (m.column.toList != [95, 117, 117, 105, 100]) = false := by unfold bne; rw [hu]; rfl
      clear hel_t1 hel_t2
      by_cases hpos : 0 < m.value.length
      · obtain ⟨b, o, bk, es, rfl, hbl, hcl, hcell, ⟨_, hes, _⟩, _⟩ := hel_m2 0 hpos
        subst hes
        have hl : decide ((0 : Int) < m.value.length) = true := decide_eq_true (by omega)
        have ho := hide (kind0_at hpos)
        clear hel_m2
        go_enter Tryz.func90, Tryz.ntmps90
        go_wp2_with fail
        refine (spec_l04Column (TableR.good.nxt hbx H0_t) m.column).mono ?_; rintro e w2 ⟨rfl, hb2⟩; replace q_t := box_on q_t rfl hb2; replace q_m := box_on q_m rfl hb2; have hw2 := nxt hbx hb2
        have kz := (hw2.cell (p := ⟨b, _, none⟩) hbl).trans (hcell 0 _ rfl)
        simp only [Nat.zero_mul, Nat.add_zero] at kz
        clear hcell hcl
        go_wp2_with (go_at_call 60; refine (spec_l01In _ _ _ _).mono ?_; rintro e w9 ⟨rfl, rfl⟩)
        all_goals
          go_ret
          exact ⟨ret_int (by unfold condCode condType; rw [hx.out.2, hx.out.1, ho.out]; simp only [cond_true]; ((try simp only [bne_iff_ne, bne_eq_false_iff_eq, ne_eq, inB_iff, inB_not] at *) <;> (repeat' split) <;> (first | rfl | omega))), hw2⟩
      · have hl : decide ((0 : Int) < m.value.length) = false := decide_eq_false (by omega)
        clear hel_m2
        go_enter Tryz.func90, Tryz.ntmps90
        go_wp2_with fail
        refine (spec_l04Column (TableR.good.nxt hbx H0_t) m.column).mono ?_; rintro e w3 ⟨rfl, hb3⟩; replace q_t := box_on q_t rfl hb3; replace q_m := box_on q_m rfl hb3; have hw3 := nxt hbx hb3
        go_wp2_with (go_at_call 60; refine (spec_l01In _ _ _ _).mono ?_; rintro e w9 ⟨rfl, rfl⟩)
        all_goals
          go_ret
          exact ⟨ret_int (by unfold condCode condType; rw [hx.out.2, hx.out.1]; simp only [cond_true]; ((try simp only [bne_iff_ne, bne_eq_false_iff_eq, ne_eq, inB_iff, inB_not] at *) <;> (repeat' split) <;> (first | rfl | omega))), hw3⟩
  obtain ⟨k, hk, he⟩ := colIdx_lt hn
  have HE := hide he
  have hx := hide (named_at hk he)
  clear he hn
  by_cases hpos : 0 < m.value.length
  · obtain ⟨b, o, bk, es, rfl, hbl, hcl, hcell, ⟨_, hes, _⟩, _⟩ := hel_m2 0 hpos
    subst hes
    have hl : decide ((0 : Int) < m.value.length) = true := decide_eq_true (by omega)
    have ho := hide (kind0_at hpos)
    clear hel_m2
    go_enter Tryz.func90, Tryz.ntmps90
    go_wp2_with fail
    refine (spec_l04Column (TableR.good.nxt hbx H0_t) m.column).mono ?_; rw [HE.out]; rintro e w4 ⟨rfl, hb4⟩; replace q_t := box_on q_t rfl hb4; replace q_m := box_on q_m rfl hb4; have hw4 := nxt hbx hb4
    obtain ⟨gb, go, gbk, ges, rfl, ghbl, ghcl, ghcell, gR, ghbk⟩ := hel_t1 k hk
    obtain ⟨_, ghes, ghf⟩ := gR
    subst ghes
    have g_0 := (hw4.cell (p := ⟨gb, _, none⟩) ghbl).trans (ghcell 0 _ rfl)
    have g_1 := (hw4.cell (p := ⟨gb, _, none⟩) ghbl).trans (ghcell 1 _ rfl)
    have g_2 := (hw4.cell (p := ⟨gb, _, none⟩) ghbl).trans (ghcell 2 _ rfl)
    have g_3 := (hw4.cell (p := ⟨gb, _, none⟩) ghbl).trans (ghcell 3 _ rfl)
    have g_4 := (hw4.cell (p := ⟨gb, _, none⟩) ghbl).trans (ghcell 4 _ rfl)
    have g_5 := (hw4.cell (p := ⟨gb, _, none⟩) ghbl).trans (ghcell 5 _ rfl)
    have g_6 := (hw4.cell (p := ⟨gb, _, none⟩) ghbl).trans (ghcell 6 _ rfl)
    have g_7 := (hw4.cell (p := ⟨gb, _, none⟩) ghbl).trans (ghcell 7 _ rfl)
    simp only [Nat.add_zero] at g_0 g_1 g_2 g_3 g_4 g_5 g_6 g_7
    clear ghcell ghcl
    clear hel_t1 hel_t2
    have kz := (hw4.cell (p := ⟨b, _, none⟩) hbl).trans (hcell 0 _ rfl)
    simp only [Nat.zero_mul, Nat.add_zero] at kz
    clear hcell hcl
    go_wp2_with (go_at_call 60; refine (spec_l01In _ _ _ _).mono ?_; rintro e w9 ⟨rfl, rfl⟩)
    all_goals
      go_ret
      exact ⟨ret_int (by unfold condCode condType; rw [hx.out.2, hx.out.1, ho.out]; simp only [cond_true]; ((try simp only [bne_iff_ne, bne_eq_false_iff_eq, ne_eq, inB_iff, inB_not] at *) <;> (repeat' split) <;> (first | rfl | omega))), hw4⟩
  · have hl : decide ((0 : Int) < m.value.length) = false := decide_eq_false (by omega)
    clear hel_m2
    go_enter Tryz.func90, Tryz.ntmps90
    go_wp2_with fail
    refine (spec_l04Column (TableR.good.nxt hbx H0_t) m.column).mono ?_; rw [HE.out]; rintro e w5 ⟨rfl, hb5⟩; replace q_t := box_on q_t rfl hb5; replace q_m := box_on q_m rfl hb5; have hw5 := nxt hbx hb5
    obtain ⟨gb, go, gbk, ges, rfl, ghbl, ghcl, ghcell, gR, ghbk⟩ := hel_t1 k hk
    obtain ⟨_, ghes, ghf⟩ := gR
    subst ghes
    have g_0 := (hw5.cell (p := ⟨gb, _, none⟩) ghbl).trans (ghcell 0 _ rfl)
    have g_1 := (hw5.cell (p := ⟨gb, _, none⟩) ghbl).trans (ghcell 1 _ rfl)
    have g_2 := (hw5.cell (p := ⟨gb, _, none⟩) ghbl).trans (ghcell 2 _ rfl)
    have g_3 := (hw5.cell (p := ⟨gb, _, none⟩) ghbl).trans (ghcell 3 _ rfl)
    have g_4 := (hw5.cell (p := ⟨gb, _, none⟩) ghbl).trans (ghcell 4 _ rfl)
    have g_5 := (hw5.cell (p := ⟨gb, _, none⟩) ghbl).trans (ghcell 5 _ rfl)
    have g_6 := (hw5.cell (p := ⟨gb, _, none⟩) ghbl).trans (ghcell 6 _ rfl)
    have g_7 := (hw5.cell (p := ⟨gb, _, none⟩) ghbl).trans (ghcell 7 _ rfl)
    simp only [Nat.add_zero] at g_0 g_1 g_2 g_3 g_4 g_5 g_6 g_7
    clear ghcell ghcl
    clear hel_t1 hel_t2
    go_wp2_with (go_at_call 60; refine (spec_l01In _ _ _ _).mono ?_; rintro e w9 ⟨rfl, rfl⟩)
    all_goals
      go_ret
      exact ⟨ret_int (by unfold condCode condType; rw [hx.out.2, hx.out.1]; simp only [cond_true]; ((try simp only [bne_iff_ne, bne_eq_false_iff_eq, ne_eq, inB_iff, inB_not] at *) <;> (repeat' split) <;> (first | rfl | omega))), hw5⟩
end Go.Proofs.YthbebbnidgeaeaaGreat
