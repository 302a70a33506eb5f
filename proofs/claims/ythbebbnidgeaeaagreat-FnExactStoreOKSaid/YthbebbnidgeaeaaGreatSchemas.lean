/- Schemas: what is right, in the program and in the reference; a table by its name; the laws on both. No statement is proved here; no conditions. -/
import Derived.Test.YthbebbnidgeaeaaGreatColumnOf
namespace Go.Proofs.YthbebbnidgeaeaaGreat
open Go.ChangeShapes Go.WideShapes Go.ChangeAt Go.RowKit Go.Deep
set_option maxRecDepth 100000
set_option linter.unusedVariables false

theorem clo_tableAt {w : World} {b : Nat} (name : ByteArray) (q : ∀ j, w.cell? ⟨b, j, none⟩ = #[Value.string name][j]?) {bk : List Nat} {es : List Value} {t : Table} (ht : TableR w bk es t) :
    Calls Tryz.prog 177 #[.agg es.toArray, .pointer (some ⟨b, 0, none⟩)] w fun e w' => e = .returned (.bool (eqS t.name name)) ∧ Below w.heap.size w w' := by
  obtain ⟨v1, b1, v2, b2, rfl, rfl, hf, r1, r2⟩ := ht
  have hbx := ((Below.refl w.heap.size w).alloc (Nat.le_refl _) (.cells #[.string t.name, v1, v2, .bool t.root] 37))
  have q1 := box_on q rfl hbx
  clear q
  go_enter Tryz.func177, Tryz.ntmps177
  go_wp2
  go_ret
  exact ⟨rfl, hbx⟩
theorem impl_tableAt {w : World} {bs : List Nat} {v : Value} {ts : List Table} (ht : TableSR w bs [v] ts) (name : ByteArray) :
    Calls Tryz.prog 151 #[.agg #[v], .string name] w fun e w' => e = .returned (.int .i64 (tblIdx ts name)) ∧ Below w.heap.size w w' := by
  have ht0 := ht
  obtain ⟨A1, c1, rfl, _, _, _⟩ := ht.use
  have hbx := ((Below.refl w.heap.size w).alloc (Nat.le_refl _) (.cells #[.slice A1 ts.length c1] 61)).alloc (by simp) (.cells #[.string name] 9)
  have q := blk_cells (blk_new (w.alloc (.cells #[.slice A1 ts.length c1] 61)) #[.string name] 9)
  have hbd := idxF_bd (fun t : Table => eqS t.name name) ts
  rw [show (w.alloc (.cells #[.slice A1 ts.length c1] 61)).heap.size = w.heap.size + 1 by simp] at q
  go_enter Tryz.func151, Tryz.ntmps151
  go_wp2_with fail
  refine (slices_IndexFuncTableS (TableSR.good.nxt hbx ht0) (fun t : Table => eqS t.name name) 177 #[.pointer (some ⟨w.heap.size + 1, 0, none⟩)] (enters_of Tryz.func177 (by kernel_rfl) rfl) (fun k hk bk es hR W hW => clo_tableAt name (box_on q rfl hW) (TableR.good.nxt hW hR))).mono ?_; rintro e w2 ⟨rfl, hb2⟩
  go_wp2_with fail
  go_ret
  exact ⟨rfl, nxt hbx hb2⟩
theorem spec_l04Find {w : World} {bs : List Nat} {v : Value} {ts : List Table} (ht : TableSR w bs [v] ts) (name : ByteArray) :
    Calls Tryz.prog 106 #[.agg #[v], .string name] w fun e w' => e = .returned (.int .i64 (tblIdx ts name)) ∧ Below w.heap.size w w' := by
  obtain ⟨A1, c1, rfl, hlc, hcm, hel⟩ := ht.use
  have hbx := (Below.refl w.heap.size w).alloc (Nat.le_refl _) (.cells #[.slice A1 ts.length c1] 61)
  unfold tblIdx
  go_enter Tryz.func106, Tryz.ntmps106
  go_wp2
  go_loopw [5] (fun i wr => ∃ k : Nat, k ≤ ts.length ∧ i = .int .i64 k ∧ Hid (∀ j (hj : j < ts.length), j < k → eqS ts[j].name name = false) ∧ Below (w.alloc (.cells #[.slice A1 ts.length c1] 61)).heap.size (w.alloc (.cells #[.slice A1 ts.length c1] 61)) wr) (fun i _ => ts.length - (intOf i).toNat)
  case atStart => exact ⟨0, Nat.zero_le _, rfl, fun j hj h => absurd h (by omega), Below.refl _ _⟩
  case round =>
    obtain ⟨k, hk, rfl, hn, hbr⟩ := hrel
    have hw1 := nxt hbx hbr
    have q := box_at hbr
    by_cases hlt : k < ts.length
    · obtain ⟨b, o, bk, es, rfl, hbl, hcl, hcell, hR, hbk⟩ := hel k hlt
      obtain ⟨v1, b1, v2, b2, hbk', hes, hff, _, _⟩ := hR
      subst hes
      have c_0 := (hw1.cell (p := ⟨b, _, none⟩) hbl).trans (hcell 0 _ rfl)
      simp only [Nat.add_zero] at c_0
      clear hcell hel hcl
      cases h1 : eqS ts[k].name name
      · have hn2 : Hid (∀ j (hj : j < ts.length), j < k + 1 → eqS ts[j].name name = false) := by
          intro j hj hjk
          by_cases hjk' : j = k
          · subst hjk'; exact h1
          · exact hn.out j hj (by omega)
        unfold eqS at h1
        go_wp2
        go_roundw
        case rel => exact ⟨k + 1, hlt, by go_num, hn2, hbr⟩
        case measure => simp [intOf]; omega
      · have hr := hide (idxF_at (p := fun t : Table => eqS t.name name) hlt hn.out h1)
        unfold eqS at h1
        go_wp2
        go_ret
        exact ⟨by rw [hr.out]; rfl, hw1⟩
    · obtain rfl : k = ts.length := by omega
      have hr := hide (idxF_none (p := fun t : Table => eqS t.name name) hn.out)
      clear hel
      go_wp2
      go_ret
      exact ⟨by rw [hr.out]; rfl, hw1⟩
def badC (ts : List Table) (c : Column) : Bool := c.kind == 4 && decide (tblIdx ts c.ref < 0)
def badR (ts : List Table) (c : Column) : Bool := !c.ref.toList.isEmpty && decide (tblIdx ts c.ref < 0)
def tblStep (ts : List Table) (i : Nat) : Bool := tblOK (ts.getD i default) && (decide (i = 0) || Op.bytesLess (ts.getD (i - 1) default).name.toList (ts.getD i default).name.toList)
def refStep (ts : List Table) (i j : Nat) : Bool := !badR ts ((ts.getD i default).columns.getD j default)
def stepS (ts : List Table) (i : Nat) : Bool := tblStep ts i && upTo (refStep ts i) (ts.getD i default).columns.length
def schOK (s : Schema) : Bool := inB s.tables.length 1 4 && (upTo (tblStep s.tables) s.tables.length && !s.tables.any (fun t => t.columns.any (badC s.tables)))
def schOKs (s : Schema) : Bool := inB s.tables.length 1 4 && upTo (fun i => tblStep s.tables i && upTo (refStep s.tables i) (s.tables.getD i default).columns.length) s.tables.length
theorem empty_size {s : ByteArray} (h : s.toList.isEmpty = true) : s.size = 0 := by
  rw [ByteArray.toList_eq] at h
  have : s.data.toList = [] := by simpa using h
  have h2 : s.data.size = 0 := by rw [← Array.length_toList, this]; rfl
  exact h2
theorem ref_kind {c : Column} (h : colOK c = true) : (!c.ref.toList.isEmpty) = (c.kind == 4) := by
  unfold colOK colKind at h
  simp only [Bool.and_eq_true] at h
  have h4 := h.2.2.2
  by_cases k1 : c.kind = 1
  · simp [k1] at h4 ⊢; exact h4.2.2.2.1
  by_cases k2 : c.kind = 2
  · simp [k2] at h4 ⊢; exact h4.2.2.1
  by_cases k3 : c.kind = 3
  · simp [k3] at h4 ⊢; exact h4.2.2.1
  by_cases k4 : c.kind = 4
  · cases he : c.ref.toList.isEmpty
    · simp [k4]
    · have hz := empty_size he
      simp [k4, nameOK, hz, inB] at h4
  · simp [k1, k2, k3, k4] at h4
theorem badR_eq {ts : List Table} {c : Column} (h : colOK c = true) : badR ts c = badC ts c := by unfold badR badC; rw [ref_kind h]
theorem cols_ok {t : Table} (h : tblOK t = true) {j : Nat} (hj : j < t.columns.length) : colOK t.columns[j] = true := by
  unfold tblOK at h
  simp only [Bool.and_eq_true] at h
  have := upTo_at h.2.2.2.1 hj
  unfold colStep at this
  rw [get_at _ j hj, Bool.and_eq_true] at this
  exact this.1
theorem schOKs_eq (s : Schema) : schOKs s = schOK s := by
  unfold schOKs schOK
  congr 1
  rw [Bool.eq_iff_iff, Bool.and_eq_true, upTo_iff, upTo_iff]
  constructor
  · intro h
    refine ⟨fun i hi => ?_, ?_⟩
    · have := h i hi; rw [Bool.and_eq_true] at this; exact this.1
    · rw [Bool.not_eq_true', Bool.eq_false_iff]
      intro ha
      obtain ⟨t, ht, hb⟩ := List.any_eq_true.1 ha
      obtain ⟨c, hc, hb⟩ := List.any_eq_true.1 hb
      obtain ⟨i, hi, rfl⟩ := List.getElem_of_mem ht
      obtain ⟨j, hj, rfl⟩ := List.getElem_of_mem hc
      have := h i hi
      rw [Bool.and_eq_true] at this
      have hok : tblOK s.tables[i] = true := by have h1 := this.1; unfold tblStep at h1; rw [get_at _ i hi, Bool.and_eq_true] at h1; exact h1.1
      have h2 := this.2
      rw [get_at _ i hi] at h2
      have h3 := upTo_at h2 hj
      unfold refStep at h3
      rw [get_at _ i hi, get_at _ j hj, badR_eq (cols_ok hok hj), hb] at h3
      cases h3
  · rintro ⟨h1, h2⟩ i hi
    have h1i := h1 i hi
    rw [h1i, Bool.true_and]
    have hok : tblOK s.tables[i] = true := by unfold tblStep at h1i; rw [get_at _ i hi, Bool.and_eq_true] at h1i; exact h1i.1
    rw [get_at _ i hi, upTo_iff]
    intro j hj
    unfold refStep
    rw [get_at _ i hi, get_at _ j hj, badR_eq (cols_ok hok hj)]
    cases hb : badC s.tables s.tables[i].columns[j]
    · rfl
    · rw [Bool.not_eq_true', Bool.eq_false_iff] at h2
      exact absurd (List.any_eq_true.2 ⟨_, List.getElem_mem hi, List.any_eq_true.2 ⟨_, List.getElem_mem hj, hb⟩⟩) h2
theorem clo_ref {w : World} {b : Nat} {v : Value} {bs : List Nat} {ts : List Table} (q : ∀ j, w.cell? ⟨b, j, none⟩ = #[v][j]?) (ht : TableSR w bs [v] ts) (c : Column) :
    Calls Tryz.prog 150 #[.agg c.cells, .pointer (some ⟨b, 0, none⟩)] w fun e w' => e = .returned (.bool (badC ts c)) ∧ Below w.heap.size w w' := by
  have ht0 := ht
  obtain ⟨A, cc, rfl, _, _, _⟩ := ht.use
  have hbx := ((Below.refl w.heap.size w).alloc (Nat.le_refl _) (.cells c.cells 130))
  have q1 := box_on q rfl hbx
  clear q
  cases h1 : (c.kind == 4)
  · have hr : Hid (badC ts c = false) := by show _ = _; unfold badC; rw [h1]; rfl
    go_enter Tryz.func150, Tryz.ntmps150
    go_wp2_with fail
    go_ret
    exact ⟨by rw [hr.out]; rfl, hbx⟩
  · have hr : Hid (badC ts c = decide (tblIdx ts c.ref < 0)) := by show _ = _; unfold badC; rw [h1]; rfl
    go_enter Tryz.func150, Tryz.ntmps150
    go_wp2_with fail
    refine (impl_tableAt (TableSR.good.nxt hbx ht0) _).mono ?_; rintro e w2 ⟨rfl, hb2⟩
    go_wp2_with fail
    go_ret
    exact ⟨by rw [hr.out]; rfl, nxt hbx hb2⟩
theorem clo_refs {w : World} {b : Nat} {v : Value} {bs : List Nat} {ts : List Table} (q : ∀ j, w.cell? ⟨b, j, none⟩ = #[v][j]?) (ht : TableSR w bs [v] ts) {bk : List Nat} {es : List Value} {t : Table} (hT : TableR w bk es t) :
    Calls Tryz.prog 148 #[.agg es.toArray, .pointer (some ⟨b, 0, none⟩)] w fun e w' => e = .returned (.bool (t.columns.any (badC ts))) ∧ Below w.heap.size w w' := by
  obtain ⟨v1, b1, v2, b2, rfl, rfl, hf, r1, r2⟩ := hT
  have hbx := ((Below.refl w.heap.size w).alloc (Nat.le_refl _) (.cells #[.string t.name, v1, v2, .bool t.root] 37))
  have q1 := box_on q rfl hbx
  clear q
  have ht1 := TableSR.good.nxt hbx ht
  go_enter Tryz.func148, Tryz.ntmps148
  go_wp2_with fail
  refine (slices_ContainsFuncColumnS (ColumnSR.good.nxt hbx r1) (badC ts) 150 #[.pointer (some ⟨b, 0, none⟩)] (enters_of Tryz.func150 (by kernel_rfl) rfl) (fun k hk bk es hR W hW => by obtain ⟨rfl, rfl, _⟩ := hR; exact clo_ref (box_on q1 rfl hW) (TableSR.good.nxt hW ht1) t.columns[k])).mono ?_; rintro e w2 ⟨rfl, hb2⟩
  go_wp2_with fail
  go_ret
  exact ⟨rfl, nxt hbx hb2⟩
set_option maxHeartbeats 4000000 in
theorem impl_SchemaOK {w : World} {bs : List Nat} {cs : List Value} {s : Schema} (hs : SchemaR w bs cs s) :
    Calls Tryz.prog 110 #[.agg cs.toArray] w fun e w' => e = .returned (.bool (schOK s)) ∧ Below w.heap.size w w' := by
  obtain ⟨v0, b0, rfl, rfl, hf, r0⟩ := hs
  have r00 := r0
  obtain ⟨A1, c1, rfl, hlc, hcm, hel⟩ := r0.use
  have hbx := (Below.refl w.heap.size w).alloc (Nat.le_refl _) (.cells #[.slice A1 s.tables.length c1] 61)
  cases h1 : inB s.tables.length 1 4
  · have hr : Hid (schOK s = false) := by show _ = _; unfold schOK; rw [h1]; rfl
    have H1 := hide h1; clear h1 hel
    go_enter Tryz.func110, Tryz.ntmps110
    go_wp2_with fail
    refine (impl_within _ _ _ _).mono ?_; rw [H1.out]; rintro e w1 ⟨rfl, rfl⟩
    go_wp2_with fail
    go_ret
    exact ⟨by rw [hr.out]; rfl, hbx⟩
  have hin := inB_iff.1 h1
  have hr0 : Hid (schOK s = (upTo (tblStep s.tables) s.tables.length && !s.tables.any (fun t => t.columns.any (badC s.tables)))) := by show _ = _; unfold schOK; rw [h1, Bool.true_and]
  have H1 := hide h1; clear h1
  go_enter Tryz.func110, Tryz.ntmps110
  go_wp2_with fail
  refine (impl_within _ _ _ _).mono ?_; rw [H1.out]; rintro e w1 ⟨rfl, rfl⟩
  go_wp2_with fail
  clear H1
  go_loopw [13] (fun i wr => ∃ k : Nat, k ≤ s.tables.length ∧ i = .int .i64 k ∧ Hid (upTo (tblStep s.tables) k = true) ∧ Below (w.alloc (.cells #[.slice A1 s.tables.length c1] 61)).heap.size (w.alloc (.cells #[.slice A1 s.tables.length c1] 61)) wr) (fun i _ => s.tables.length - (intOf i).toNat)
  case atStart => exact ⟨0, Nat.zero_le _, rfl, upTo_zero _, Below.refl _ _⟩
  case round =>
    obtain ⟨k, hk, rfl, hn, hbr⟩ := hrel
    have hw1 := nxt hbx hbr
    have q := box_at hbr
    by_cases hlt : k < s.tables.length
    · obtain ⟨b, o, bk, es, rfl, hbl, hcl, hcell, hR, hbk⟩ := hel k hlt
      have hR0 := hR
      obtain ⟨v1, b1, v2, b2, hbk', hes, hff, z1, z2⟩ := hR
      subst hes
      obtain ⟨B1, d1, rfl, _, _, _⟩ := z1.use
      obtain ⟨B2, d2, rfl, _, _, _⟩ := z2.use
      have c_0 := (hw1.cell (p := ⟨b, _, none⟩) hbl).trans (hcell 0 _ rfl)
      have c_1 := (hw1.cell (p := ⟨b, _, none⟩) hbl).trans (hcell 1 _ rfl)
      have c_2 := (hw1.cell (p := ⟨b, _, none⟩) hbl).trans (hcell 2 _ rfl)
      have c_3 := (hw1.cell (p := ⟨b, _, none⟩) hbl).trans (hcell 3 _ rfl)
      simp only [Nat.add_zero] at c_0 c_1 c_2 c_3
      clear hcell hcl
      have hts : tblStep s.tables k = (tblOK s.tables[k] && (decide (k = 0) || Op.bytesLess (s.tables.getD (k - 1) default).name.toList s.tables[k].name.toList)) := by unfold tblStep; rw [get_at _ k hlt]
      have hB := (Below.refl wr.heap.size wr).alloc (Nat.le_refl _) (.cells #[.string s.tables[k].name, .slice B1 s.tables[k].columns.length d1, .slice B2 s.tables[k].unique.length d2, .bool s.tables[k].root] 37)
      have q1 := Fw.box (box_on q rfl hB) rfl
      have q4 := Fw.box (blk_cells (blk_new wr #[.string s.tables[k].name, .slice B1 s.tables[k].columns.length d1, .slice B2 s.tables[k].unique.length d2, .bool s.tables[k].root] 37)) rfl
      have A1 := hide (fun (i : Fw (wr.alloc (.cells #[.string s.tables[k].name, .slice B1 s.tables[k].columns.length d1, .slice B2 s.tables[k].unique.length d2, .bool s.tables[k].root] 37))) => impl_isTable (TableR.good.nxt (nxt (nxt hw1 hB) i.h) hR0))
      cases h1 : tblOK s.tables[k]
      · have hr : Hid (schOK s = false) := by show _ = _; rw [hr0.out, upTo_bad hlt (hts.trans (by rw [h1]; rfl))]; rfl
        rw [h1] at A1; clear h1 hts hel
        go_wp2_with fail
        refine region_quiet (by kernel_rfl) (by kernel_rfl) ?_
        repeat (go_big_quiet_step (((go_at_call 97; exact quiet_of (A1.out _)))))
        refine wpQuiet_nil ?_; intro w3 hb3; clear q1 q4
        go_wp2_with fail
        go_ret
        exact ⟨by rw [hr.out]; rfl, nxt hw1 (nxt' hB hb3)⟩
      rw [h1] at A1
      by_cases hk0 : k = 0
      · have hn2 : Hid (upTo (tblStep s.tables) (k + 1) = true) := by show _ = _; rw [upTo_succ, hn.out, hts, h1, decide_eq_true hk0]; rfl
        clear h1 hts hel
        subst hk0
        simp only [Nat.zero_mul, Nat.add_zero] at c_0 c_1 c_2 c_3
        go_wp2_with fail
        refine region_quiet (by kernel_rfl) (by kernel_rfl) ?_
        repeat (go_big_quiet_step (((go_at_call 97; exact quiet_of (A1.out _)))))
        refine wpQuiet_nil ?_; intro w3 hb3; clear q1 q4
        go_wp2_with fail
        go_roundw
        case rel => exact ⟨1, by omega, rfl, hn2, nxt hbr (nxt' hB hb3)⟩
        case measure => simp [intOf]; omega
      · obtain ⟨b', o', bk', es', hA', hbl', _, hcell', ⟨x1, y1, x2, y2, _, hes', _, _, _⟩, _⟩ := hel (k - 1) (by omega)
        cases hA'
        subst hes'
        have c_p := Fw.cell (((nxt hw1 hB).cell (p := ⟨b, _, none⟩) hbl).trans (hcell' 0 _ rfl))
        simp only [Nat.add_zero] at c_p
        have hk1 : 1 ≤ k := by omega
        have hk2 : decide (0 < k) = true := decide_eq_true (by omega)
        rw [get_at _ (k - 1) (by omega), decide_eq_false hk0] at hts
        clear hcell' hel hk0
        cases hup : Op.bytesLess s.tables[k - 1].name.toList s.tables[k].name.toList
        · have hr : Hid (schOK s = false) := by show _ = _; rw [hr0.out, upTo_bad hlt (hts.trans (by rw [h1, hup]; rfl))]; rfl
          clear h1 hts
          go_wp2_with fail
          refine region_quiet (by kernel_rfl) (by kernel_rfl) ?_
          repeat (go_big_quiet_step (((go_at_call 97; exact quiet_of (A1.out _)))))
          refine wpQuiet_nil ?_; intro w3 hb3; clear q1 q4 c_p
          go_wp2_with fail
          go_ret
          exact ⟨by rw [hr.out]; rfl, nxt hw1 (nxt' hB hb3)⟩
        · have hn2 : Hid (upTo (tblStep s.tables) (k + 1) = true) := by show _ = _; rw [upTo_succ, hn.out, hts, h1, hup]; rfl
          clear h1 hts
          go_wp2_with fail
          refine region_quiet (by kernel_rfl) (by kernel_rfl) ?_
          repeat (go_big_quiet_step (((go_at_call 97; exact quiet_of (A1.out _)))))
          refine wpQuiet_nil ?_; intro w3 hb3; clear q1 q4 c_p
          go_wp2_with fail
          go_roundw
          case rel => exact ⟨k + 1, by omega, by go_num, hn2, nxt hbr (nxt' hB hb3)⟩
          case measure => simp [intOf]; omega
    · obtain rfl : k = s.tables.length := by omega
      have hr1 : Hid (schOK s = !s.tables.any (fun t => t.columns.any (badC s.tables))) := by show _ = _; rw [hr0.out, hn.out]; rfl
      clear hr0 hel hn
      have r1 := TableSR.good.nxt hw1 r00
      go_wp2_with fail
      refine (slices_ContainsFuncTableS r1 (fun t => t.columns.any (badC s.tables)) 148 #[.pointer (some ⟨w.heap.size, 0, none⟩)] (enters_of Tryz.func148 (by kernel_rfl) rfl) (fun k hk bk es hR W hW => clo_refs (box_on q rfl hW) (TableSR.good.nxt hW r1) (TableR.good.nxt hW hR))).mono ?_; rintro e w2 ⟨rfl, hb2⟩
      go_wp2_with fail
      go_ret
      exact ⟨by rw [hr1.out]; rfl, nxt hw1 hb2⟩
set_option maxHeartbeats 4000000 in
theorem spec_SchemaOK {w : World} {bs : List Nat} {cs : List Value} {s : Schema} (hs : SchemaR w bs cs s) :
    Calls Tryz.prog 58 #[.agg cs.toArray] w fun e w' => e = .returned (.bool (schOKs s)) ∧ Below w.heap.size w w' := by
  obtain ⟨v0, b0, rfl, rfl, hf, r0⟩ := hs
  have r00 := r0
  obtain ⟨A1, c1, rfl, hlc, hcm, hel⟩ := r0.use
  have hbx := (Below.refl w.heap.size w).alloc (Nat.le_refl _) (.cells #[.slice A1 s.tables.length c1] 61)
  cases h1 : inB s.tables.length 1 4
  · have hr : Hid (schOKs s = false) := by show _ = _; unfold schOKs; rw [h1]; rfl
    have H1 := hide h1; clear h1 hel
    go_enter Tryz.func58, Tryz.ntmps58
    go_wp2_with fail
    refine (spec_l01In _ _ _ _).mono ?_; rw [H1.out]; rintro e w1 ⟨rfl, rfl⟩
    go_wp2_with fail
    go_ret
    exact ⟨by rw [hr.out]; rfl, hbx⟩
  have hin := inB_iff.1 h1
  have hr0 : Hid (schOKs s = upTo (stepS s.tables) s.tables.length) := by show _ = _; unfold schOKs; rw [h1, Bool.true_and]; rfl
  have H1 := hide h1; clear h1
  go_enter Tryz.func58, Tryz.ntmps58
  go_wp2_with fail
  refine (spec_l01In _ _ _ _).mono ?_; rw [H1.out]; rintro e w1 ⟨rfl, rfl⟩
  go_wp2_with fail
  clear H1
  go_loopw [3] (fun i wr => ∃ k : Nat, k ≤ s.tables.length ∧ i = .int .i64 k ∧ Hid (upTo (stepS s.tables) k = true) ∧ Below (w.alloc (.cells #[.slice A1 s.tables.length c1] 61)).heap.size (w.alloc (.cells #[.slice A1 s.tables.length c1] 61)) wr) (fun i _ => s.tables.length - (intOf i).toNat)
  case atStart => exact ⟨0, Nat.zero_le _, rfl, upTo_zero _, Below.refl _ _⟩
  case round =>
    obtain ⟨k, hk, rfl, hn, hbr⟩ := hrel
    have hw1 := nxt hbx hbr
    have q := box_at hbr
    by_cases hlt : k < s.tables.length
    · obtain ⟨b, o, bk, es, rfl, hbl, hcl, hcell, hR, hbk⟩ := hel k hlt
      have hR0 := hR
      obtain ⟨v1, b1, v2, b2, hbk', hes, hff, z1, z2⟩ := hR
      subst hes
      obtain ⟨B1, d1, rfl, _, _, hcol⟩ := z1.use
      obtain ⟨B2, d2, rfl, _, _, _⟩ := z2.use
      have c_0 := (hw1.cell (p := ⟨b, _, none⟩) hbl).trans (hcell 0 _ rfl)
      have c_1 := (hw1.cell (p := ⟨b, _, none⟩) hbl).trans (hcell 1 _ rfl)
      have c_2 := (hw1.cell (p := ⟨b, _, none⟩) hbl).trans (hcell 2 _ rfl)
      have c_3 := (hw1.cell (p := ⟨b, _, none⟩) hbl).trans (hcell 3 _ rfl)
      have d_1 := hcell 1 _ rfl
      simp only [Nat.add_zero] at c_0 c_1 c_2 c_3
      clear hcell hcl
      have hts : tblStep s.tables k = (tblOK s.tables[k] && (decide (k = 0) || Op.bytesLess (s.tables.getD (k - 1) default).name.toList s.tables[k].name.toList)) := by unfold tblStep; rw [get_at _ k hlt]
      have q1 := Fw.box q rfl
      have k_0 := Fw.cell c_0
      have k_1 := Fw.cell c_1
      have k_2 := Fw.cell c_2
      have k_3 := Fw.cell c_3
      have A1 := hide (fun (i : Fw wr) => spec_l04Table (TableR.good.nxt (nxt hw1 i.h) hR0))
      cases h1 : tblOK s.tables[k]
      · have hr : Hid (schOKs s = false) := by show _ = _; rw [hr0.out, upTo_bad hlt (by unfold stepS; rw [show tblStep s.tables k = false from hts.trans (by rw [h1]; rfl)]; rfl)]
        rw [h1] at A1; clear h1 hts hel hcol
        go_wp2_with fail
        refine region_quiet (by kernel_rfl) (by kernel_rfl) ?_
        repeat (go_big_quiet_step (((go_at_call 87; exact quiet_of (A1.out _)))))
        refine wpQuiet_nil ?_; intro w3 hb3; clear q1 k_0 k_1 k_2 k_3
        go_wp2_with fail
        go_ret
        exact ⟨by rw [hr.out]; rfl, nxt hw1 hb3⟩
      rw [h1] at A1
      by_cases hk0 : k = 0
      · have hts2 : Hid (tblStep s.tables k = true) := by show _ = _; rw [hts, h1, decide_eq_true hk0]; rfl
        clear hts; have hts := hts2; clear hts2 h1 hel
        have hk2 : decide (0 < k) = false := decide_eq_false (by omega)
        subst hk0
        simp only [Nat.zero_mul, Nat.add_zero] at k_0 k_1 k_2 k_3 c_0 c_1 c_2 c_3
        rw [show ((0 : Nat) : Int) = 0 from rfl]
        go_wp2_with fail
        refine region_quiet (by kernel_rfl) (by kernel_rfl) ?_
        repeat (go_big_quiet_step (((go_at_call 87; exact quiet_of (A1.out _)))))
        refine wpQuiet_nil ?_; intro w3 hb3; clear q1 k_0 k_1 k_2 k_3
        go_wp2_with fail
        have hbr3 := nxt hbr hb3
        clear q c_0 c_1 c_2 c_3
        go_loopw [4] (fun i wr => ∃ m : Nat, m ≤ s.tables[0].columns.length ∧ i = .int .i64 m ∧ Hid (upTo (refStep s.tables 0) m = true) ∧ Below (w.alloc (.cells #[.slice (some ⟨b, o, none⟩) s.tables.length c1] 61)).heap.size (w.alloc (.cells #[.slice (some ⟨b, o, none⟩) s.tables.length c1] 61)) wr) (fun i _ => s.tables[0].columns.length - (intOf i).toNat)
        case atStart => exact ⟨0, Nat.zero_le _, rfl, upTo_zero _, hbr3⟩
        case round =>
          clear hw1 hbr hbr3 hb3
          obtain ⟨m, hm, rfl, hmn, hbr⟩ := hrel
          have hw1 := nxt hbx hbr
          have q := box_at hbr
          have e_1 := (hw1.cell (p := ⟨b, _, none⟩) hbl).trans d_1; simp only [Nat.zero_mul, Nat.add_zero] at e_1
          by_cases hlm : m < s.tables[0].columns.length
          · obtain ⟨b', o', bk', es', rfl, hbl', _, hcell', ⟨_, hes', hff'⟩, _⟩ := hcol m hlm
            subst hes'
            have g_0 := (hw1.cell (p := ⟨b', _, none⟩) hbl').trans (hcell' 0 _ rfl)
            have g_1 := (hw1.cell (p := ⟨b', _, none⟩) hbl').trans (hcell' 1 _ rfl)
            have g_2 := (hw1.cell (p := ⟨b', _, none⟩) hbl').trans (hcell' 2 _ rfl)
            have g_3 := (hw1.cell (p := ⟨b', _, none⟩) hbl').trans (hcell' 3 _ rfl)
            have g_4 := (hw1.cell (p := ⟨b', _, none⟩) hbl').trans (hcell' 4 _ rfl)
            have g_5 := (hw1.cell (p := ⟨b', _, none⟩) hbl').trans (hcell' 5 _ rfl)
            have g_6 := (hw1.cell (p := ⟨b', _, none⟩) hbl').trans (hcell' 6 _ rfl)
            have g_7 := (hw1.cell (p := ⟨b', _, none⟩) hbl').trans (hcell' 7 _ rfl)
            simp only [Nat.add_zero] at g_0 g_1 g_2 g_3 g_4 g_5 g_6 g_7
            clear hcell' hcol
            have hB := (Below.refl wr.heap.size wr).alloc (Nat.le_refl _) (.cells s.tables[0].columns[m].cells 130)
            have hrs : refStep s.tables 0 m = !badR s.tables s.tables[0].columns[m] := by unfold refStep; rw [get_at _ 0 hlt, get_at _ m hlm]
            cases he : s.tables[0].columns[m].ref.toList.isEmpty
            · by_cases hi : tblIdx s.tables s.tables[0].columns[m].ref < 0
              · have hr : Hid (schOKs s = false) := by
                  show _ = _
                  rw [hr0.out, upTo_bad hlt (by unfold stepS; rw [get_at _ 0 hlt, upTo_bad hlm (by rw [hrs]; unfold badR; rw [he, decide_eq_true hi]; rfl)]; exact Bool.and_false _)]
                have hdi := decide_eq_true hi
                clear hi hrs hts
                have qB := box_on q rfl hB
                go_wp2_with fail
                refine (spec_l04Find (TableSR.good.nxt (nxt hw1 hB) r00) _).mono ?_; rintro e w5 ⟨rfl, hb5⟩
                go_wp2_with fail
                go_ret
                exact ⟨by rw [hr.out]; rfl, nxt hw1 (nxt' hB hb5)⟩
              · have hn2 : Hid (upTo (refStep s.tables 0) (m + 1) = true) := by show _ = _; rw [upTo_succ, hmn.out, hrs]; unfold badR; rw [he, decide_eq_false hi]; rfl
                have hdi := decide_eq_false hi
                clear hi hrs hts
                have qB := box_on q rfl hB
                go_wp2_with fail
                refine (spec_l04Find (TableSR.good.nxt (nxt hw1 hB) r00) _).mono ?_; rintro e w5 ⟨rfl, hb5⟩
                go_wp2_with fail
                go_roundw
                case rel => exact ⟨m + 1, hlm, by go_num, hn2, nxt hbr (nxt' hB hb5)⟩
                case measure => simp [intOf]; omega
            · have hn2 : Hid (upTo (refStep s.tables 0) (m + 1) = true) := by show _ = _; rw [upTo_succ, hmn.out, hrs]; unfold badR; rw [he]; rfl
              clear hrs hts
              go_wp2_with fail
              go_roundw
              case rel => exact ⟨m + 1, hlm, by go_num, hn2, nxt hbr hB⟩
              case measure => simp [intOf]; omega
          · obtain rfl : m = s.tables[0].columns.length := by omega
            have hn2 : Hid (upTo (stepS s.tables) (0 + 1) = true) := by show _ = _; rw [upTo_succ, hn.out]; unfold stepS; rw [hts.out, get_at _ 0 hlt, hmn.out]; rfl
            clear hcol hts
            go_wp2_with fail
            go_roundw
            case rel => exact ⟨1, hlt, rfl, hn2, hbr⟩
            case measure => simp [intOf]; omega
      · obtain ⟨b', o', bk', es', hA', hbl', _, hcell', ⟨x1, y1, x2, y2, _, hes', _, _, _⟩, _⟩ := hel (k - 1) (by omega)
        cases hA'
        subst hes'
        have c_p := Fw.cell ((hw1.cell (p := ⟨b, _, none⟩) hbl).trans (hcell' 0 _ rfl))
        simp only [Nat.add_zero] at c_p
        have hk1 : 1 ≤ k := by omega
        have hk2 : decide (0 < k) = true := decide_eq_true (by omega)
        rw [get_at _ (k - 1) (by omega), decide_eq_false hk0] at hts
        clear hcell' hel hk0
        cases hup : Op.bytesLess s.tables[k - 1].name.toList s.tables[k].name.toList
        · have hr : Hid (schOKs s = false) := by show _ = _; rw [hr0.out, upTo_bad hlt (by unfold stepS; rw [show tblStep s.tables k = false from hts.trans (by rw [h1, hup]; rfl)]; rfl)]
          clear h1 hts hcol
          go_wp2_with fail
          refine region_quiet (by kernel_rfl) (by kernel_rfl) ?_
          repeat (go_big_quiet_step (((go_at_call 87; exact quiet_of (A1.out _)))))
          refine wpQuiet_nil ?_; intro w3 hb3; clear q1 k_0 k_1 k_2 k_3 c_p
          go_wp2_with fail
          go_ret
          exact ⟨by rw [hr.out]; rfl, nxt hw1 hb3⟩
        · have hts2 : Hid (tblStep s.tables k = true) := by show _ = _; rw [hts, h1, hup]; rfl
          clear hts; have hts := hts2; clear hts2 h1
          go_wp2_with fail
          refine region_quiet (by kernel_rfl) (by kernel_rfl) ?_
          repeat (go_big_quiet_step (((go_at_call 87; exact quiet_of (A1.out _)))))
          refine wpQuiet_nil ?_; intro w3 hb3; clear q1 k_0 k_1 k_2 k_3 c_p
          go_wp2_with fail
          have hbr3 := nxt hbr hb3
          clear q c_0 c_1 c_2 c_3
          go_loopw [4] (fun i wr => ∃ m : Nat, m ≤ s.tables[k].columns.length ∧ i = .int .i64 m ∧ Hid (upTo (refStep s.tables k) m = true) ∧ Below (w.alloc (.cells #[.slice (some ⟨b, o, none⟩) s.tables.length c1] 61)).heap.size (w.alloc (.cells #[.slice (some ⟨b, o, none⟩) s.tables.length c1] 61)) wr) (fun i _ => s.tables[k].columns.length - (intOf i).toNat)
          case atStart => exact ⟨0, Nat.zero_le _, rfl, upTo_zero _, hbr3⟩
          case round =>
            clear hw1 hbr hbr3 hb3
            obtain ⟨m, hm, rfl, hmn, hbr⟩ := hrel
            have hw1 := nxt hbx hbr
            have q := box_at hbr
            have e_1 := (hw1.cell (p := ⟨b, _, none⟩) hbl).trans d_1
            by_cases hlm : m < s.tables[k].columns.length
            · obtain ⟨b', o', bk', es', rfl, hbl', _, hcell', ⟨_, hes', hff'⟩, _⟩ := hcol m hlm
              subst hes'
              have g_0 := (hw1.cell (p := ⟨b', _, none⟩) hbl').trans (hcell' 0 _ rfl)
              have g_1 := (hw1.cell (p := ⟨b', _, none⟩) hbl').trans (hcell' 1 _ rfl)
              have g_2 := (hw1.cell (p := ⟨b', _, none⟩) hbl').trans (hcell' 2 _ rfl)
              have g_3 := (hw1.cell (p := ⟨b', _, none⟩) hbl').trans (hcell' 3 _ rfl)
              have g_4 := (hw1.cell (p := ⟨b', _, none⟩) hbl').trans (hcell' 4 _ rfl)
              have g_5 := (hw1.cell (p := ⟨b', _, none⟩) hbl').trans (hcell' 5 _ rfl)
              have g_6 := (hw1.cell (p := ⟨b', _, none⟩) hbl').trans (hcell' 6 _ rfl)
              have g_7 := (hw1.cell (p := ⟨b', _, none⟩) hbl').trans (hcell' 7 _ rfl)
              simp only [Nat.add_zero] at g_0 g_1 g_2 g_3 g_4 g_5 g_6 g_7
              clear hcell' hcol
              have hB := (Below.refl wr.heap.size wr).alloc (Nat.le_refl _) (.cells s.tables[k].columns[m].cells 130)
              have hrs : refStep s.tables k m = !badR s.tables s.tables[k].columns[m] := by unfold refStep; rw [get_at _ k hlt, get_at _ m hlm]
              cases he : s.tables[k].columns[m].ref.toList.isEmpty
              · by_cases hi : tblIdx s.tables s.tables[k].columns[m].ref < 0
                · have hr : Hid (schOKs s = false) := by
                    show _ = _
                    rw [hr0.out, upTo_bad hlt (by unfold stepS; rw [get_at _ k hlt, upTo_bad hlm (by rw [hrs]; unfold badR; rw [he, decide_eq_true hi]; rfl)]; exact Bool.and_false _)]
                  have hdi := decide_eq_true hi
                  clear hi hrs hts
                  have qB := box_on q rfl hB
                  go_wp2_with fail
                  refine (spec_l04Find (TableSR.good.nxt (nxt hw1 hB) r00) _).mono ?_; rintro e w5 ⟨rfl, hb5⟩
                  go_wp2_with fail
                  go_ret
                  exact ⟨by rw [hr.out]; rfl, nxt hw1 (nxt' hB hb5)⟩
                · have hn2 : Hid (upTo (refStep s.tables k) (m + 1) = true) := by show _ = _; rw [upTo_succ, hmn.out, hrs]; unfold badR; rw [he, decide_eq_false hi]; rfl
                  have hdi := decide_eq_false hi
                  clear hi hrs hts
                  have qB := box_on q rfl hB
                  go_wp2_with fail
                  refine (spec_l04Find (TableSR.good.nxt (nxt hw1 hB) r00) _).mono ?_; rintro e w5 ⟨rfl, hb5⟩
                  go_wp2_with fail
                  go_roundw
                  case rel => exact ⟨m + 1, hlm, by go_num, hn2, nxt hbr (nxt' hB hb5)⟩
                  case measure => simp [intOf]; omega
              · have hn2 : Hid (upTo (refStep s.tables k) (m + 1) = true) := by show _ = _; rw [upTo_succ, hmn.out, hrs]; unfold badR; rw [he]; rfl
                clear hrs hts
                go_wp2_with fail
                go_roundw
                case rel => exact ⟨m + 1, hlm, by go_num, hn2, nxt hbr hB⟩
                case measure => simp [intOf]; omega
            · obtain rfl : m = s.tables[k].columns.length := by omega
              have hn2 : Hid (upTo (stepS s.tables) (k + 1) = true) := by show _ = _; rw [upTo_succ, hn.out]; unfold stepS; rw [hts.out, get_at _ k hlt, hmn.out]; rfl
              clear hcol hts
              go_wp2_with fail
              go_roundw
              case rel => exact ⟨k + 1, hlt, by go_num, hn2, hbr⟩
              case measure => simp [intOf]; omega
    · obtain rfl : k = s.tables.length := by omega
      have hr1 : Hid (schOKs s = true) := by show _ = _; rw [hr0.out, hn.out]
      clear hr0 hel hn
      go_wp2_with fail
      go_ret
      exact ⟨by rw [hr1.out]; rfl, hw1⟩
def tblOf (s : Schema) (name : ByteArray) : Int × Int := if 65536 < name.size then (0, 2) else cond (schOK s) (if tblIdx s.tables name < 0 then (0, 10) else (tblIdx s.tables name, 0)) (0, 1)
end Go.Proofs.YthbebbnidgeaeaaGreat
