/- Mutations and their codes, in the program and in the reference. No statement is proved here; no conditions. Written by a program (gen10.py). -/
import Derived.Test.YthglchopajdmhaaGreatFitRow
import Derived.Test.YthglchopajdmhaaGreatBox
namespace Go.Proofs.YthglchopajdmhaaGreat
open Go.ChangeShapes Go.WideShapes Go.ChangeAt Go.RowKit Go.Deep
set_option maxRecDepth 100000
set_option linter.unusedVariables false
set_option linter.unusedSimpArgs false

def kind0 (d : List Atom) : Int := (d.getD 0 default).kind
theorem kind0_at {d : List Atom} (h : 0 < d.length) : kind0 d = d[0].kind := by unfold kind0; rw [getD_at d 0 h]
def muType (m : Mut) (k : Int) : Int := if 0 < m.value.length ∧ ¬ kind0 m.value = k then 9 else if m.func ≤ 5 ∧ (¬ k = 1 ∨ ¬ (m.value.length : Int) = 1) then 9 else 0
def colAt (t : Table) (name : ByteArray) : Column := t.columns.getD (colIdx t.columns name).toNat default
def mutCode (t : Table) (m : Mut) : Int := if colIdx t.columns m.column < 0 then 11 else muType m (colAt t m.column).kind
def mutOK (m : Mut) : Bool := inB m.func 1 7 && (datumOK m.value && decide ((m.column.size : Int) ≤ 40))
def mutAns (t : Table) (m : Mut) : Int × Int := cond (tblOK t && mutOK m) (mutCode t m, 0) (0, 1)
theorem colIdx_lt {cs : List Column} {s : ByteArray} (h : ¬ colIdx cs s < 0) : ∃ k : Nat, k < cs.length ∧ colIdx cs s = k := by
  unfold colIdx idxF at h ⊢
  by_cases ha : cs.any (fun c => eqS c.name s) = true
  · rw [if_pos ha]
    obtain ⟨x, hx, hp⟩ := List.any_eq_true.1 ha
    exact ⟨_, List.findIdx_lt_length_of_exists ⟨x, hx, hp⟩, rfl⟩
  · rw [if_neg ha] at h; omega
set_option maxHeartbeats 2000000 in
theorem impl_typeCode {w : World}  {bs_m : List Nat} {cs_m : List Value} {m : Mut} (H_m : MutR w bs_m cs_m m) (c : Column)  :
    Calls Tryz.prog 88 #[.agg cs_m.toArray, .agg #[.string c.name, .int .i64 c.kind, .int .i64 c.min, .int .i64 c.max, .int .i64 c.low, .int .i64 c.high, .string c.ref, .bool c.strong]] w (fun e w' => e = .returned (.int .i64 (muType m c.kind)) ∧ Below w.heap.size w w') := by
  have H0_m := H_m
  obtain ⟨m_v2, m_b2, rfl, rfl, hf_m, m_r2⟩ := H_m
  obtain ⟨A_m2, c_m2, rfl, hlc_m2, hcm_m2, hel_m2⟩ := m_r2.use
  have hbx := (((Below.refl w.heap.size w).alloc (Nat.le_refl _) (.cells #[.string m.column, .int .i64 m.func, .slice A_m2 m.value.length c_m2] 67)).alloc (by simp; try omega) (.cells #[.string c.name, .int .i64 c.kind, .int .i64 c.min, .int .i64 c.max, .int .i64 c.low, .int .i64 c.high, .string c.ref, .bool c.strong] 88))
  obtain ⟨q_m, q_c⟩ := two_at (Below.refl ((w.alloc (.cells #[.string m.column, .int .i64 m.func, .slice A_m2 m.value.length c_m2] 67)).alloc (.cells #[.string c.name, .int .i64 c.kind, .int .i64 c.min, .int .i64 c.max, .int .i64 c.low, .int .i64 c.high, .string c.ref, .bool c.strong] 88)).heap.size _)
  by_cases hpos : 0 < m.value.length
  · obtain ⟨b, o, bk, es, rfl, hbl, hcl, hcell, ⟨_, hes, _⟩, _⟩ := hel_m2 0 hpos
    subst hes
    have kz := Fw.cell ((hbx.cell (p := ⟨b, _, none⟩) hbl).trans (hcell 0 _ rfl))
    simp only [Nat.zero_mul, Nat.add_zero] at kz
    clear hcell hel_m2 hcl
    have hl : decide ((0 : Int) < m.value.length) = true := decide_eq_true (by omega)
    have ho := hide (kind0_at hpos)
    go_enter Tryz.func88, Tryz.ntmps88
    go_wp2_with fail
    have q_mF0 := Fw.cell (box_cell q_m 0 rfl)
    have q_mF1 := Fw.cell (box_cell q_m 1 rfl)
    have q_mF2 := Fw.cell (box_cell q_m 2 rfl)
    have q_cF0 := Fw.cell (box_cell q_c 0 rfl)
    have q_cF1 := Fw.cell (box_cell q_c 1 rfl)
    have q_cF2 := Fw.cell (box_cell q_c 2 rfl)
    have q_cF3 := Fw.cell (box_cell q_c 3 rfl)
    have q_cF4 := Fw.cell (box_cell q_c 4 rfl)
    have q_cF5 := Fw.cell (box_cell q_c 5 rfl)
    have q_cF6 := Fw.cell (box_cell q_c 6 rfl)
    have q_cF7 := Fw.cell (box_cell q_c 7 rfl)
    refine region_quiet (by kernel_rfl) (by kernel_rfl) ?_
    repeat (go_big_quiet_step (fail))
    refine wpQuiet_nil ?_; intro w1 hb1; replace q_m := box_on q_m rfl hb1; replace q_c := box_on q_c rfl hb1; have hw1 := nxt hbx hb1; clear q_mF0 q_mF1 q_mF2 q_cF0 q_cF1 q_cF2 q_cF3 q_cF4 q_cF5 q_cF6 q_cF7 kz
    go_wp2
    all_goals
      go_ret
      exact ⟨ret_int (by unfold muType; rw [ho.out]; ((try simp only [bne_iff_ne, bne_eq_false_iff_eq, ne_eq, inB_iff, inB_not] at *) <;> (repeat' split) <;> (first | rfl | omega))), hw1⟩
  · have hl : decide ((0 : Int) < m.value.length) = false := decide_eq_false (by omega)
    clear hel_m2
    go_enter Tryz.func88, Tryz.ntmps88
    go_wp2_with fail
    have q_mF0 := Fw.cell (box_cell q_m 0 rfl)
    have q_mF1 := Fw.cell (box_cell q_m 1 rfl)
    have q_mF2 := Fw.cell (box_cell q_m 2 rfl)
    have q_cF0 := Fw.cell (box_cell q_c 0 rfl)
    have q_cF1 := Fw.cell (box_cell q_c 1 rfl)
    have q_cF2 := Fw.cell (box_cell q_c 2 rfl)
    have q_cF3 := Fw.cell (box_cell q_c 3 rfl)
    have q_cF4 := Fw.cell (box_cell q_c 4 rfl)
    have q_cF5 := Fw.cell (box_cell q_c 5 rfl)
    have q_cF6 := Fw.cell (box_cell q_c 6 rfl)
    have q_cF7 := Fw.cell (box_cell q_c 7 rfl)
    refine region_quiet (by kernel_rfl) (by kernel_rfl) ?_
    repeat (go_big_quiet_step (fail))
    refine wpQuiet_nil ?_; intro w2 hb2; replace q_m := box_on q_m rfl hb2; replace q_c := box_on q_c rfl hb2; have hw2 := nxt hbx hb2; clear q_mF0 q_mF1 q_mF2 q_cF0 q_cF1 q_cF2 q_cF3 q_cF4 q_cF5 q_cF6 q_cF7
    go_wp2
    all_goals
      go_ret
      exact ⟨ret_int (by unfold muType; ((try simp only [bne_iff_ne, bne_eq_false_iff_eq, ne_eq, inB_iff, inB_not] at *) <;> (repeat' split) <;> (first | rfl | omega))), hw2⟩
theorem clo_areShort {w : World} (s : ByteArray) (hs : s.size ≤ 9223372036854775807) :
    Calls Tryz.prog 104 #[.string s] w fun e w' => e = .returned (.bool (decide ((40 : Int) < s.size))) ∧ Below w.heap.size w w' := by
  go_enter Tryz.func104, Tryz.ntmps104
  go_wp2
  go_ret
  exact ⟨rfl, Below.refl _ _⟩
theorem impl_areShort {w : World} {bs : List Nat} {v : Value} {xs : List ByteArray} (h : StringSR w bs [v] xs) :
    Calls Tryz.prog 84 #[v] w fun e w' => e = .returned (.bool (!xs.any fun s => decide ((40 : Int) < s.size))) ∧ Below w.heap.size w w' := by
  have h0 := h
  obtain ⟨A, c, rfl, hlc, hcm, hel⟩ := h.use
  clear hel
  go_enter Tryz.func84, Tryz.ntmps84
  go_wp2_with fail
  refine (slices_ContainsFuncStringS h0 (fun s => decide ((40 : Int) < s.size)) 104 #[] (enters_of Tryz.func104 (by kernel_rfl) rfl) (fun k hk bk es hR W hW => by obtain ⟨_, hes, hs⟩ := hR; injection hes with hes _; subst hes; exact clo_areShort _ hs)).mono ?_; rintro e w1 ⟨rfl, hb1⟩
  go_wp2_with fail
  go_ret
  exact ⟨rfl, hb1⟩
theorem one_str {w : World} {g : Nat} {t : TypeId} {s : ByteArray} (h : w.heap[g]? = some (.cells #[.string s] t (0, 0))) (hs : s.size ≤ 9223372036854775807) : StringSR w [g] [.slice (some ⟨g, 0, none⟩) 1 1] [s] := by
  refine ⟨_, 1, rfl, Nat.le_refl _, by unfold maxLen; omega, .inr ⟨g, 0, [[]], rfl, lt_of_cells h, rfl, rfl, fun k x bk hx hbk => ?_⟩⟩
  match k with
  | 0 =>
    simp only [List.getElem?_cons_zero, Option.some.injEq] at hx hbk
    subst hx; subst hbk
    refine ⟨[.string s], rfl, fun j u hu => ?_, rfl, rfl, hs⟩
    match j with
    | 0 =>
      simp only [List.getElem?_cons_zero, Option.some.injEq] at hu
      subst hu
      rw [blk_cells h]; rfl
    | j + 1 => simp at hu
  | k + 1 => simp at hx
theorem short_one (s : ByteArray) : (!([s].any fun s => decide ((40 : Int) < s.size))) = decide ((s.size : Int) ≤ 40) := by
  simp only [List.any_cons, List.any_nil, Bool.or_false]
  by_cases h : (40 : Int) < s.size
  · rw [decide_eq_true h, decide_eq_false (by omega)]; rfl
  · rw [decide_eq_false h, decide_eq_true (by omega)]; rfl
theorem impl_mutOK {w : World}  {bs_m : List Nat} {cs_m : List Value} {m : Mut} (H_m : MutR w bs_m cs_m m)  :
    Calls Tryz.prog 59 #[.agg cs_m.toArray] w (fun e w' => e = .returned (.bool (mutOK m)) ∧ Below w.heap.size w w') := by
  have H0_m := H_m
  obtain ⟨m_v2, m_b2, rfl, rfl, hf_m, m_r2⟩ := H_m
  obtain ⟨A_m2, c_m2, rfl, hlc_m2, hcm_m2, hel_m2⟩ := m_r2.use
  have hbx := ((Below.refl w.heap.size w).alloc (Nat.le_refl _) (.cells #[.string m.column, .int .i64 m.func, .slice A_m2 m.value.length c_m2] 67))
  have q_m := blk_cells (blk_new w #[.string m.column, .int .i64 m.func, .slice A_m2 m.value.length c_m2] 67)
  have hcs : m.column.size ≤ 9223372036854775807 := hf_m.1
  go_enter Tryz.func59, Tryz.ntmps59
  go_wp2_with fail
  refine (impl_within _ _ _ _).mono ?_; rintro e w1 ⟨rfl, rfl⟩
  cases h1 : inB m.func 1 7
  · go_wp2_with fail
    go_ret
    exact ⟨ret_bool (by unfold mutOK; rw [h1]; rfl), hbx⟩
  go_wp2_with fail
  refine (impl_DatumOK hbx m_r2).mono ?_; rintro e w2 ⟨rfl, hb2⟩; replace q_m := box_on q_m rfl hb2; have hw2 := nxt hbx hb2
  cases h2 : datumOK m.value
  · go_wp2_with fail
    go_ret
    exact ⟨ret_bool (by unfold mutOK; rw [h1, h2]; rfl), hw2⟩
  have q9 := blk_new w2 #[.string m.column] 9
  go_wp2_with fail
  refine (impl_areShort (one_str q9 hcs)).mono ?_; rintro e w3 ⟨rfl, hb3⟩; have hw3 := nxt (hw2.alloc hw2.size _) hb3; rw [short_one]
  go_wp2_with fail
  go_ret
  exact ⟨ret_bool (by unfold mutOK; rw [h1, h2]; rfl), hw3⟩
theorem spec_l07OK {w : World}  {bs_m : List Nat} {cs_m : List Value} {m : Mut} (H_m : MutR w bs_m cs_m m)  :
    Calls Tryz.prog 50 #[.agg cs_m.toArray] w (fun e w' => e = .returned (.bool (mutOK m)) ∧ Below w.heap.size w w') := by
  have H0_m := H_m
  obtain ⟨m_v2, m_b2, rfl, rfl, hf_m, m_r2⟩ := H_m
  obtain ⟨A_m2, c_m2, rfl, hlc_m2, hcm_m2, hel_m2⟩ := m_r2.use
  have hbx := ((Below.refl w.heap.size w).alloc (Nat.le_refl _) (.cells #[.string m.column, .int .i64 m.func, .slice A_m2 m.value.length c_m2] 67))
  have q_m := blk_cells (blk_new w #[.string m.column, .int .i64 m.func, .slice A_m2 m.value.length c_m2] 67)
  have hcs : m.column.size ≤ 9223372036854775807 := hf_m.1
  go_enter Tryz.func50, Tryz.ntmps50
  go_wp2_with fail
  refine (spec_l01In _ _ _ _).mono ?_; rintro e w1 ⟨rfl, rfl⟩
  cases h1 : inB m.func 1 7
  · go_wp2_with fail
    go_ret
    exact ⟨ret_bool (by unfold mutOK; rw [h1]; rfl), hbx⟩
  go_wp2_with fail
  refine (spec_DatumOK hbx m_r2).mono ?_; rintro e w2 ⟨rfl, hb2⟩; replace q_m := box_on q_m rfl hb2; have hw2 := nxt hbx hb2
  cases h2 : datumOK m.value
  · go_wp2_with fail
    go_ret
    exact ⟨ret_bool (by unfold mutOK; rw [h1, h2]; rfl), hw2⟩
  go_wp2_with fail
  go_ret
  exact ⟨ret_bool (by unfold mutOK; rw [h1, h2]; rfl), hw2⟩
theorem colAt_at {t : Table} {s : ByteArray} {k : Nat} (hk : k < t.columns.length) (he : colIdx t.columns s = k) : colAt t s = t.columns[k] := by
  unfold colAt; rw [he, Int.toNat_natCast, get_at _ k hk]
set_option maxHeartbeats 2000000 in
theorem impl_mutCode {w : World}  {bs_t : List Nat} {cs_t : List Value} {t : Table} (H_t : TableR w bs_t cs_t t) {bs_m : List Nat} {cs_m : List Value} {m : Mut} (H_m : MutR w bs_m cs_m m)  :
    Calls Tryz.prog 63 #[.agg cs_t.toArray, .agg cs_m.toArray] w (fun e w' => e = .returned (.int .i64 (mutCode t m)) ∧ Below w.heap.size w w') := by
  have H0_t := H_t
  obtain ⟨t_v1, t_b1, t_v2, t_b2, rfl, rfl, hf_t, t_r1, t_r2⟩ := H_t
  obtain ⟨A_t1, c_t1, rfl, hlc_t1, hcm_t1, hel_t1⟩ := t_r1.use
  obtain ⟨A_t2, c_t2, rfl, hlc_t2, hcm_t2, hel_t2⟩ := t_r2.use
  have H0_m := H_m
  obtain ⟨m_v2, m_b2, rfl, rfl, hf_m, m_r2⟩ := H_m
  obtain ⟨A_m2, c_m2, rfl, hlc_m2, hcm_m2, hel_m2⟩ := m_r2.use
  have hbx := (((Below.refl w.heap.size w).alloc (Nat.le_refl _) (.cells #[.string t.name, .slice A_t1 t.columns.length c_t1, .slice A_t2 t.unique.length c_t2, .bool t.root] 40)).alloc (by simp; try omega) (.cells #[.string m.column, .int .i64 m.func, .slice A_m2 m.value.length c_m2] 67))
  obtain ⟨q_t, q_m⟩ := two_at (Below.refl ((w.alloc (.cells #[.string t.name, .slice A_t1 t.columns.length c_t1, .slice A_t2 t.unique.length c_t2, .bool t.root] 40)).alloc (.cells #[.string m.column, .int .i64 m.func, .slice A_m2 m.value.length c_m2] 67)).heap.size _)
  by_cases hn : colIdx t.columns m.column < 0
  · have hd : decide (colIdx t.columns m.column < 0) = true := decide_eq_true hn
    go_enter Tryz.func63, Tryz.ntmps63
    go_wp2_with fail
    refine (impl_columnAt (TableR.good.nxt hbx H0_t) m.column).mono ?_; rintro e w1 ⟨rfl, hb1⟩; replace q_t := box_on q_t rfl hb1; replace q_m := box_on q_m rfl hb1; have hw1 := nxt hbx hb1
    go_wp2_with fail
    go_ret
    exact ⟨ret_int (by unfold mutCode; rw [if_pos hn]), hw1⟩
  obtain ⟨k, hk, he⟩ := colIdx_lt hn
  have HE := hide he
  have hc := hide (colAt_at hk he)
  have HN := hide hn
  clear he hn
  go_enter Tryz.func63, Tryz.ntmps63
  go_wp2_with fail
  refine (impl_columnAt (TableR.good.nxt hbx H0_t) m.column).mono ?_; rw [HE.out]; rintro e w2 ⟨rfl, hb2⟩; replace q_t := box_on q_t rfl hb2; replace q_m := box_on q_m rfl hb2; have hw2 := nxt hbx hb2
  obtain ⟨gb, go, gbk, ges, rfl, ghbl, ghcl, ghcell, gR, ghbk⟩ := hel_t1 k hk
  obtain ⟨_, ghes, ghf⟩ := gR
  subst ghes
  have g_0 := Fw.cell ((hw2.cell (p := ⟨gb, _, none⟩) ghbl).trans (ghcell 0 _ rfl))
  have g_1 := Fw.cell ((hw2.cell (p := ⟨gb, _, none⟩) ghbl).trans (ghcell 1 _ rfl))
  have g_2 := Fw.cell ((hw2.cell (p := ⟨gb, _, none⟩) ghbl).trans (ghcell 2 _ rfl))
  have g_3 := Fw.cell ((hw2.cell (p := ⟨gb, _, none⟩) ghbl).trans (ghcell 3 _ rfl))
  have g_4 := Fw.cell ((hw2.cell (p := ⟨gb, _, none⟩) ghbl).trans (ghcell 4 _ rfl))
  have g_5 := Fw.cell ((hw2.cell (p := ⟨gb, _, none⟩) ghbl).trans (ghcell 5 _ rfl))
  have g_6 := Fw.cell ((hw2.cell (p := ⟨gb, _, none⟩) ghbl).trans (ghcell 6 _ rfl))
  have g_7 := Fw.cell ((hw2.cell (p := ⟨gb, _, none⟩) ghbl).trans (ghcell 7 _ rfl))
  simp only [Nat.add_zero] at g_0 g_1 g_2 g_3 g_4 g_5 g_6 g_7
  clear ghcell ghcl
  clear hel_t1 hel_t2 hel_m2
  have A1 := hide (fun (i : Fw w2) => impl_typeCode (MutR.good.nxt (nxt hw2 i.h) H0_m) t.columns[k])
  go_wp2_with fail
  have q_tF0 := Fw.cell (box_cell q_t 0 rfl)
  have q_tF1 := Fw.cell (box_cell q_t 1 rfl)
  have q_tF2 := Fw.cell (box_cell q_t 2 rfl)
  have q_tF3 := Fw.cell (box_cell q_t 3 rfl)
  have q_mF0 := Fw.cell (box_cell q_m 0 rfl)
  have q_mF1 := Fw.cell (box_cell q_m 1 rfl)
  have q_mF2 := Fw.cell (box_cell q_m 2 rfl)
  refine region_quiet (by kernel_rfl) (by kernel_rfl) ?_
  repeat (go_big_quiet_step ((first | (go_at_call 88; exact quiet_of (A1.out _)))))
  refine wpQuiet_nil ?_; intro w3 hb3; replace q_t := box_on q_t rfl hb3; replace q_m := box_on q_m rfl hb3; have hw3 := nxt hw2 hb3; clear q_tF0 q_tF1 q_tF2 q_tF3 q_mF0 q_mF1 q_mF2 g_0 g_1 g_2 g_3 g_4 g_5 g_6 g_7
  go_wp2_with fail
  go_ret
  exact ⟨ret_int (by unfold mutCode; rw [if_neg (by have := HN.out; omega), hc.out]), hw3⟩
set_option maxHeartbeats 4000000 in
theorem spec_l07Code {w : World}  {bs_t : List Nat} {cs_t : List Value} {t : Table} (H_t : TableR w bs_t cs_t t) {bs_m : List Nat} {cs_m : List Value} {m : Mut} (H_m : MutR w bs_m cs_m m)  :
    Calls Tryz.prog 51 #[.agg cs_t.toArray, .agg cs_m.toArray] w (fun e w' => e = .returned (.int .i64 (mutCode t m)) ∧ Below w.heap.size w w') := by
  have H0_t := H_t
  obtain ⟨t_v1, t_b1, t_v2, t_b2, rfl, rfl, hf_t, t_r1, t_r2⟩ := H_t
  obtain ⟨A_t1, c_t1, rfl, hlc_t1, hcm_t1, hel_t1⟩ := t_r1.use
  obtain ⟨A_t2, c_t2, rfl, hlc_t2, hcm_t2, hel_t2⟩ := t_r2.use
  have H0_m := H_m
  obtain ⟨m_v2, m_b2, rfl, rfl, hf_m, m_r2⟩ := H_m
  obtain ⟨A_m2, c_m2, rfl, hlc_m2, hcm_m2, hel_m2⟩ := m_r2.use
  have hbx := (((Below.refl w.heap.size w).alloc (Nat.le_refl _) (.cells #[.string t.name, .slice A_t1 t.columns.length c_t1, .slice A_t2 t.unique.length c_t2, .bool t.root] 40)).alloc (by simp; try omega) (.cells #[.string m.column, .int .i64 m.func, .slice A_m2 m.value.length c_m2] 67))
  obtain ⟨q_t, q_m⟩ := two_at (Below.refl ((w.alloc (.cells #[.string t.name, .slice A_t1 t.columns.length c_t1, .slice A_t2 t.unique.length c_t2, .bool t.root] 40)).alloc (.cells #[.string m.column, .int .i64 m.func, .slice A_m2 m.value.length c_m2] 67)).heap.size _)
  by_cases hn : colIdx t.columns m.column < 0
  · have hd : decide (colIdx t.columns m.column < 0) = true := decide_eq_true hn
    go_enter Tryz.func51, Tryz.ntmps51
    go_wp2_with fail
    refine (spec_l04Column (TableR.good.nxt hbx H0_t) m.column).mono ?_; rintro e w1 ⟨rfl, hb1⟩; replace q_t := box_on q_t rfl hb1; replace q_m := box_on q_m rfl hb1; have hw1 := nxt hbx hb1
    go_wp2_with fail
    go_ret
    exact ⟨ret_int (by unfold mutCode; rw [if_pos hn]), hw1⟩
  obtain ⟨k, hk, he⟩ := colIdx_lt hn
  have HE := hide he
  have hc := hide (colAt_at hk he)
  have HN := hide hn
  clear he hn
  by_cases hpos : 0 < m.value.length
  · have hl : decide ((0 : Int) < m.value.length) = true := decide_eq_true (by omega)
    have ho := hide (kind0_at hpos)
    go_enter Tryz.func51, Tryz.ntmps51
    go_wp2_with fail
    refine (spec_l04Column (TableR.good.nxt hbx H0_t) m.column).mono ?_; rw [HE.out]; rintro e w2 ⟨rfl, hb2⟩; replace q_t := box_on q_t rfl hb2; replace q_m := box_on q_m rfl hb2; have hw2 := nxt hbx hb2
    obtain ⟨gb, go, gbk, ges, rfl, ghbl, ghcl, ghcell, gR, ghbk⟩ := hel_t1 k hk
    obtain ⟨_, ghes, ghf⟩ := gR
    subst ghes
    have g_0 := (hw2.cell (p := ⟨gb, _, none⟩) ghbl).trans (ghcell 0 _ rfl)
    have g_1 := (hw2.cell (p := ⟨gb, _, none⟩) ghbl).trans (ghcell 1 _ rfl)
    have g_2 := (hw2.cell (p := ⟨gb, _, none⟩) ghbl).trans (ghcell 2 _ rfl)
    have g_3 := (hw2.cell (p := ⟨gb, _, none⟩) ghbl).trans (ghcell 3 _ rfl)
    have g_4 := (hw2.cell (p := ⟨gb, _, none⟩) ghbl).trans (ghcell 4 _ rfl)
    have g_5 := (hw2.cell (p := ⟨gb, _, none⟩) ghbl).trans (ghcell 5 _ rfl)
    have g_6 := (hw2.cell (p := ⟨gb, _, none⟩) ghbl).trans (ghcell 6 _ rfl)
    have g_7 := (hw2.cell (p := ⟨gb, _, none⟩) ghbl).trans (ghcell 7 _ rfl)
    simp only [Nat.add_zero] at g_0 g_1 g_2 g_3 g_4 g_5 g_6 g_7
    clear ghcell ghcl
    obtain ⟨b, o, bk, es, rfl, hbl, hcl, hcell, ⟨_, hes, _⟩, _⟩ := hel_m2 0 hpos
    subst hes
    have kz := (hw2.cell (p := ⟨b, _, none⟩) hbl).trans (hcell 0 _ rfl)
    simp only [Nat.zero_mul, Nat.add_zero] at kz
    clear hcell hcl
    clear hel_t1 hel_t2 hel_m2
    go_wp2
    all_goals
      go_ret
      exact ⟨ret_int (by unfold mutCode muType; rw [if_neg (by have := HN.out; omega), hc.out, ho.out]; ((try simp only [bne_iff_ne, bne_eq_false_iff_eq, ne_eq, inB_iff, inB_not] at *) <;> (repeat' split) <;> (first | rfl | omega))), hw2⟩
  · have hl : decide ((0 : Int) < m.value.length) = false := decide_eq_false (by omega)
    go_enter Tryz.func51, Tryz.ntmps51
    go_wp2_with fail
    refine (spec_l04Column (TableR.good.nxt hbx H0_t) m.column).mono ?_; rw [HE.out]; rintro e w3 ⟨rfl, hb3⟩; replace q_t := box_on q_t rfl hb3; replace q_m := box_on q_m rfl hb3; have hw3 := nxt hbx hb3
    obtain ⟨gb, go, gbk, ges, rfl, ghbl, ghcl, ghcell, gR, ghbk⟩ := hel_t1 k hk
    obtain ⟨_, ghes, ghf⟩ := gR
    subst ghes
    have g_0 := (hw3.cell (p := ⟨gb, _, none⟩) ghbl).trans (ghcell 0 _ rfl)
    have g_1 := (hw3.cell (p := ⟨gb, _, none⟩) ghbl).trans (ghcell 1 _ rfl)
    have g_2 := (hw3.cell (p := ⟨gb, _, none⟩) ghbl).trans (ghcell 2 _ rfl)
    have g_3 := (hw3.cell (p := ⟨gb, _, none⟩) ghbl).trans (ghcell 3 _ rfl)
    have g_4 := (hw3.cell (p := ⟨gb, _, none⟩) ghbl).trans (ghcell 4 _ rfl)
    have g_5 := (hw3.cell (p := ⟨gb, _, none⟩) ghbl).trans (ghcell 5 _ rfl)
    have g_6 := (hw3.cell (p := ⟨gb, _, none⟩) ghbl).trans (ghcell 6 _ rfl)
    have g_7 := (hw3.cell (p := ⟨gb, _, none⟩) ghbl).trans (ghcell 7 _ rfl)
    simp only [Nat.add_zero] at g_0 g_1 g_2 g_3 g_4 g_5 g_6 g_7
    clear ghcell ghcl
    clear hel_t1 hel_t2 hel_m2
    go_wp2
    all_goals
      go_ret
      exact ⟨ret_int (by unfold mutCode muType; rw [if_neg (by have := HN.out; omega), hc.out]; ((try simp only [bne_iff_ne, bne_eq_false_iff_eq, ne_eq, inB_iff, inB_not] at *) <;> (repeat' split) <;> (first | rfl | omega))), hw3⟩
end Go.Proofs.YthglchopajdmhaaGreat
