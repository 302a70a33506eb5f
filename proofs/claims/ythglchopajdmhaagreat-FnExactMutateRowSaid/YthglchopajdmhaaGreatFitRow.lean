/- Rows that fit a table, in the program and in the reference. No statement is proved here; no conditions. -/
import Derived.Test.YthglchopajdmhaaGreatTables
import Derived.Test.YthglchopajdmhaaGreatFits
namespace Go.Proofs.YthglchopajdmhaaGreat
open Go.ChangeShapes Go.WideShapes Go.ChangeAt Go.RowKit Go.Deep
set_option maxRecDepth 100000
set_option linter.unusedVariables false

def cellStep (t : Table) (r : Row) (i : Nat) : Bool := datumOK (r.cells.getD i default) && fitsCode (t.columns.getD i default) (r.cells.getD i default) == 0
def cellsIn (t : Table) (r : Row) : Bool := decide (r.cells.length = t.columns.length) && upTo (cellStep t r) r.cells.length
def rowOK (t : Table) (r : Row) : Bool := tblOK t && (inB r.id 1 1000000 && cellsIn t r)
set_option maxHeartbeats 4000000 in
theorem impl_cellsOK {w : World} {b1 b2 : List Nat} {cs ds : List Value} {t : Table} {r : Row} (ht : TableR w b1 cs t) (hr : RowR w b2 ds r) :
    Calls Tryz.prog 62 #[.agg cs.toArray, .agg ds.toArray] w fun e w' => e = .returned (.bool (cellsIn t r)) ∧ Below w.heap.size w w' := by
  obtain ⟨v1, b1, v2, b2, rfl, rfl, hf, r1, r2⟩ := ht
  obtain ⟨v3, b3, rfl, rfl, hfr, r3⟩ := hr
  obtain ⟨A1, c1, rfl, hlc, hcm, hel⟩ := r1.use
  obtain ⟨A3, c3, rfl, hlc3, hcm3, hel3⟩ := r3.use
  have hbx := ((Below.refl w.heap.size w).alloc (Nat.le_refl _) (.cells #[.string t.name, .slice A1 t.columns.length c1, v2, .bool t.root] 40)).alloc (by simp) (.cells #[.int .i64 r.id, .slice A3 r.cells.length c3] 35)
  have q := two_at (Below.refl ((w.alloc (.cells #[.string t.name, .slice A1 t.columns.length c1, v2, .bool t.root] 40)).alloc (.cells #[.int .i64 r.id, .slice A3 r.cells.length c3] 35)).heap.size _)
  obtain ⟨qa, qb⟩ := q
  by_cases hl : r.cells.length ≠ t.columns.length
  · have hr : Hid (cellsIn t r = false) := by show _ = _; unfold cellsIn; rw [decide_eq_false hl]; rfl
    have hne : ((r.cells.length : Int) != (t.columns.length : Int)) = true := by simp; omega
    clear hel hel3
    go_enter Tryz.func62, Tryz.ntmps62
    go_wp2
    go_ret
    exact ⟨by rw [hr.out]; rfl, hbx⟩
  have hl : r.cells.length = t.columns.length := Decidable.not_not.1 hl
  have hr0 : Hid (cellsIn t r = upTo (cellStep t r) r.cells.length) := by show _ = _; unfold cellsIn; rw [decide_eq_true hl, Bool.true_and]
  have hne : ((r.cells.length : Int) != (t.columns.length : Int)) = false := by simp; omega
  have HL := hide hl
  clear hl
  go_enter Tryz.func62, Tryz.ntmps62
  go_wp2_with fail
  clear hne
  go_loopw [17] (fun i wr => ∃ k : Nat, k ≤ r.cells.length ∧ i = .int .i64 k ∧ Hid (upTo (cellStep t r) k = true) ∧ Below ((w.alloc (.cells #[.string t.name, .slice A1 t.columns.length c1, v2, .bool t.root] 40)).alloc (.cells #[.int .i64 r.id, .slice A3 r.cells.length c3] 35)).heap.size ((w.alloc (.cells #[.string t.name, .slice A1 t.columns.length c1, v2, .bool t.root] 40)).alloc (.cells #[.int .i64 r.id, .slice A3 r.cells.length c3] 35)) wr) (fun i _ => r.cells.length - (intOf i).toNat)
  case atStart => exact ⟨0, Nat.zero_le _, rfl, upTo_zero _, Below.refl _ _⟩
  case round =>
    obtain ⟨k, hk, rfl, hn, hbr⟩ := hrel
    have hw1 := nxt hbx hbr
    have qa1 := box_on qa rfl hbr
    have qb1 := box_on qb rfl hbr
    clear qa qb
    by_cases hlt : k < r.cells.length
    · have hkc : k < t.columns.length := by have := HL.out; omega
      obtain ⟨b, o, bk, es, rfl, hbl, hcl, hcell, hR, hbk⟩ := hel3 k hlt
      obtain ⟨A0, c0, rfl⟩ : ∃ A0 c0, es = [.slice A0 r.cells[k].length c0] := by obtain ⟨A0, c0, h, _⟩ := hR; exact ⟨A0, c0, h⟩
      have hR0 := AtomSR.good.nxt hw1 hR
      have c_0 := (hw1.cell (p := ⟨b, _, none⟩) hbl).trans (hcell 0 _ rfl)
      simp only [Nat.add_zero, Nat.mul_one] at c_0
      obtain ⟨b', o', bk', es', rfl, hbl', _, hcell', ⟨_, hes', hff'⟩, _⟩ := hel k hkc
      subst hes'
      have g_0 := (hw1.cell (p := ⟨b', _, none⟩) hbl').trans (hcell' 0 _ rfl)
      have g_1 := (hw1.cell (p := ⟨b', _, none⟩) hbl').trans (hcell' 1 _ rfl)
      have g_2 := (hw1.cell (p := ⟨b', _, none⟩) hbl').trans (hcell' 2 _ rfl)
      have g_3 := (hw1.cell (p := ⟨b', _, none⟩) hbl').trans (hcell' 3 _ rfl)
      have g_4 := (hw1.cell (p := ⟨b', _, none⟩) hbl').trans (hcell' 4 _ rfl)
      have g_5 := (hw1.cell (p := ⟨b', _, none⟩) hbl').trans (hcell' 5 _ rfl)
      have g_6 := (hw1.cell (p := ⟨b', _, none⟩) hbl').trans (hcell' 6 _ rfl)
      have g_7 := (hw1.cell (p := ⟨b', _, none⟩) hbl').trans (hcell' 7 _ rfl)
      simp only [Nat.add_zero] at g_0 g_1 g_2 g_3 g_4 g_5 g_6 g_7
      clear hcell' hcell hel hel3
      have hcs : cellStep t r k = (datumOK r.cells[k] && fitsCode t.columns[k] r.cells[k] == 0) := by unfold cellStep; rw [get_at _ k hlt, get_at _ k hkc]
      cases h1 : datumOK r.cells[k]
      · have hr : Hid (cellsIn t r = false) := by show _ = _; rw [hr0.out, upTo_bad hlt (hcs.trans (by rw [h1]; rfl))]
        have H1 := hide h1; clear h1 hcs
        go_wp2_with fail
        refine (impl_DatumOK (Below.refl _ _) hR0).mono ?_; rw [H1.out]; rintro e w1 ⟨rfl, hb1⟩
        go_wp2_with fail
        go_ret
        exact ⟨by rw [hr.out]; rfl, nxt hw1 hb1⟩
      by_cases hz : fitsCode t.columns[k] r.cells[k] = 0
      · have hn2 : Hid (upTo (cellStep t r) (k + 1) = true) := by show _ = _; rw [upTo_succ, hn.out, hcs, h1, hz]; rfl
        have hnz : (fitsCode t.columns[k] r.cells[k] != 0) = false := by simp [hz]
        have H1 := hide h1; clear h1 hcs hz
        go_wp2_with fail
        refine (impl_DatumOK (Below.refl _ _) hR0).mono ?_; rw [H1.out]; rintro e w1 ⟨rfl, hb1⟩
        have qa2 := box_on qa1 rfl hb1
        have g_0 := (hb1.cell (p := ⟨b', _, none⟩) (Nat.lt_of_lt_of_le hbl' hw1.size)).trans g_0
        have g_1 := (hb1.cell (p := ⟨b', _, none⟩) (Nat.lt_of_lt_of_le hbl' hw1.size)).trans g_1
        have g_2 := (hb1.cell (p := ⟨b', _, none⟩) (Nat.lt_of_lt_of_le hbl' hw1.size)).trans g_2
        have g_3 := (hb1.cell (p := ⟨b', _, none⟩) (Nat.lt_of_lt_of_le hbl' hw1.size)).trans g_3
        have g_4 := (hb1.cell (p := ⟨b', _, none⟩) (Nat.lt_of_lt_of_le hbl' hw1.size)).trans g_4
        have g_5 := (hb1.cell (p := ⟨b', _, none⟩) (Nat.lt_of_lt_of_le hbl' hw1.size)).trans g_5
        have g_6 := (hb1.cell (p := ⟨b', _, none⟩) (Nat.lt_of_lt_of_le hbl' hw1.size)).trans g_6
        have g_7 := (hb1.cell (p := ⟨b', _, none⟩) (Nat.lt_of_lt_of_le hbl' hw1.size)).trans g_7
        go_wp2_with fail
        refine (impl_fits (Below.refl _ _) (AtomSR.good.nxt hb1 hR0) t.columns[k]).mono ?_; rintro e w2 ⟨rfl, hb2⟩
        go_wp2_with fail
        go_roundw
        case rel => exact ⟨k + 1, hlt, by go_num, hn2, nxt (nxt hbr hb1) hb2⟩
        case measure => simp [intOf]; omega
      · have hr : Hid (cellsIn t r = false) := by show _ = _; rw [hr0.out, upTo_bad hlt (hcs.trans (by rw [h1, Bool.true_and, beq_eq_false_iff_ne]; exact hz))]
        have hnz : (fitsCode t.columns[k] r.cells[k] != 0) = true := by simp [hz]
        have H1 := hide h1; clear h1 hcs hz
        go_wp2_with fail
        refine (impl_DatumOK (Below.refl _ _) hR0).mono ?_; rw [H1.out]; rintro e w1 ⟨rfl, hb1⟩
        have qa2 := box_on qa1 rfl hb1
        have g_0 := (hb1.cell (p := ⟨b', _, none⟩) (Nat.lt_of_lt_of_le hbl' hw1.size)).trans g_0
        have g_1 := (hb1.cell (p := ⟨b', _, none⟩) (Nat.lt_of_lt_of_le hbl' hw1.size)).trans g_1
        have g_2 := (hb1.cell (p := ⟨b', _, none⟩) (Nat.lt_of_lt_of_le hbl' hw1.size)).trans g_2
        have g_3 := (hb1.cell (p := ⟨b', _, none⟩) (Nat.lt_of_lt_of_le hbl' hw1.size)).trans g_3
        have g_4 := (hb1.cell (p := ⟨b', _, none⟩) (Nat.lt_of_lt_of_le hbl' hw1.size)).trans g_4
        have g_5 := (hb1.cell (p := ⟨b', _, none⟩) (Nat.lt_of_lt_of_le hbl' hw1.size)).trans g_5
        have g_6 := (hb1.cell (p := ⟨b', _, none⟩) (Nat.lt_of_lt_of_le hbl' hw1.size)).trans g_6
        have g_7 := (hb1.cell (p := ⟨b', _, none⟩) (Nat.lt_of_lt_of_le hbl' hw1.size)).trans g_7
        go_wp2_with fail
        refine (impl_fits (Below.refl _ _) (AtomSR.good.nxt hb1 hR0) t.columns[k]).mono ?_; rintro e w2 ⟨rfl, hb2⟩
        go_wp2_with fail
        go_ret
        exact ⟨by rw [hr.out]; rfl, nxt (nxt hw1 hb1) hb2⟩
    · obtain rfl : k = r.cells.length := by omega
      have hr : Hid (cellsIn t r = true) := by show _ = _; rw [hr0.out, hn.out]
      clear hel hel3
      go_wp2
      go_ret
      exact ⟨by rw [hr.out]; rfl, hw1⟩
def rowIn (t : Table) (r : Row) : Bool := inB r.id 1 1000000 && cellsIn t r
set_option maxHeartbeats 4000000 in
theorem spec_l05Row {w : World} {b1 b2 : List Nat} {cs ds : List Value} {t : Table} {r : Row} (ht : TableR w b1 cs t) (hr : RowR w b2 ds r) :
    Calls Tryz.prog 49 #[.agg cs.toArray, .agg ds.toArray] w fun e w' => e = .returned (.bool (rowIn t r)) ∧ Below w.heap.size w w' := by
  obtain ⟨v1, b1, v2, b2, rfl, rfl, hf, r1, r2⟩ := ht
  obtain ⟨v3, b3, rfl, rfl, hfr, r3⟩ := hr
  obtain ⟨A1, c1, rfl, hlc, hcm, hel⟩ := r1.use
  obtain ⟨A3, c3, rfl, hlc3, hcm3, hel3⟩ := r3.use
  have hbx := ((Below.refl w.heap.size w).alloc (Nat.le_refl _) (.cells #[.string t.name, .slice A1 t.columns.length c1, v2, .bool t.root] 40)).alloc (by simp) (.cells #[.int .i64 r.id, .slice A3 r.cells.length c3] 35)
  obtain ⟨qa, qb⟩ := two_at (Below.refl ((w.alloc (.cells #[.string t.name, .slice A1 t.columns.length c1, v2, .bool t.root] 40)).alloc (.cells #[.int .i64 r.id, .slice A3 r.cells.length c3] 35)).heap.size _)
  cases h1 : inB r.id 1 1000000
  · have hr : Hid (rowIn t r = false) := by show _ = _; unfold rowIn; rw [h1]; rfl
    have H1 := hide h1; clear h1 hel hel3
    go_enter Tryz.func49, Tryz.ntmps49
    go_wp2_with fail
    refine (spec_l01In _ _ _ _).mono ?_; rw [H1.out]; rintro e w1 ⟨rfl, rfl⟩
    go_wp2_with fail
    go_ret
    exact ⟨by rw [hr.out]; rfl, hbx⟩
  by_cases hl : r.cells.length ≠ t.columns.length
  · have hr : Hid (rowIn t r = false) := by show _ = _; unfold rowIn cellsIn; rw [h1, decide_eq_false hl]; rfl
    have hne : ((r.cells.length : Int) != (t.columns.length : Int)) = true := by simp; omega
    have H1 := hide h1; clear h1 hel hel3
    go_enter Tryz.func49, Tryz.ntmps49
    go_wp2_with fail
    refine (spec_l01In _ _ _ _).mono ?_; rw [H1.out]; rintro e w1 ⟨rfl, rfl⟩
    go_wp2_with fail
    go_ret
    exact ⟨by rw [hr.out]; rfl, hbx⟩
  have hl : r.cells.length = t.columns.length := Decidable.not_not.1 hl
  have hr0 : Hid (rowIn t r = upTo (cellStep t r) r.cells.length) := by show _ = _; unfold rowIn cellsIn; rw [h1, decide_eq_true hl, Bool.true_and, Bool.true_and]
  have hne : ((r.cells.length : Int) != (t.columns.length : Int)) = false := by simp; omega
  have HL := hide hl
  have H1 := hide h1
  clear hl h1
  go_enter Tryz.func49, Tryz.ntmps49
  go_wp2_with fail
  refine (spec_l01In _ _ _ _).mono ?_; rw [H1.out]; rintro e w1 ⟨rfl, rfl⟩
  go_wp2_with fail
  clear hne H1
  go_loopw [5] (fun i wr => ∃ k : Nat, k ≤ r.cells.length ∧ i = .int .i64 k ∧ Hid (upTo (cellStep t r) k = true) ∧ Below ((w.alloc (.cells #[.string t.name, .slice A1 t.columns.length c1, v2, .bool t.root] 40)).alloc (.cells #[.int .i64 r.id, .slice A3 r.cells.length c3] 35)).heap.size ((w.alloc (.cells #[.string t.name, .slice A1 t.columns.length c1, v2, .bool t.root] 40)).alloc (.cells #[.int .i64 r.id, .slice A3 r.cells.length c3] 35)) wr) (fun i _ => r.cells.length - (intOf i).toNat)
  case atStart => exact ⟨0, Nat.zero_le _, rfl, upTo_zero _, Below.refl _ _⟩
  case round =>
    obtain ⟨k, hk, rfl, hn, hbr⟩ := hrel
    have hw1 := nxt hbx hbr
    have qa1 := box_on qa rfl hbr
    have qb1 := box_on qb rfl hbr
    clear qa qb
    by_cases hlt : k < r.cells.length
    · have hkc : k < t.columns.length := by have := HL.out; omega
      obtain ⟨b, o, bk, es, rfl, hbl, hcl, hcell, hR, hbk⟩ := hel3 k hlt
      obtain ⟨A0, c0, rfl⟩ : ∃ A0 c0, es = [.slice A0 r.cells[k].length c0] := by obtain ⟨A0, c0, h, _⟩ := hR; exact ⟨A0, c0, h⟩
      have hR0 := AtomSR.good.nxt hw1 hR
      have c_0 := Fw.cell ((hw1.cell (p := ⟨b, _, none⟩) hbl).trans (hcell 0 _ rfl))
      simp only [Nat.add_zero, Nat.mul_one] at c_0
      obtain ⟨b', o', bk', es', rfl, hbl', _, hcell', ⟨_, hes', hff'⟩, _⟩ := hel k hkc
      subst hes'
      have g_0 := Fw.cell ((hw1.cell (p := ⟨b', _, none⟩) hbl').trans (hcell' 0 _ rfl))
      have g_1 := Fw.cell ((hw1.cell (p := ⟨b', _, none⟩) hbl').trans (hcell' 1 _ rfl))
      have g_2 := Fw.cell ((hw1.cell (p := ⟨b', _, none⟩) hbl').trans (hcell' 2 _ rfl))
      have g_3 := Fw.cell ((hw1.cell (p := ⟨b', _, none⟩) hbl').trans (hcell' 3 _ rfl))
      have g_4 := Fw.cell ((hw1.cell (p := ⟨b', _, none⟩) hbl').trans (hcell' 4 _ rfl))
      have g_5 := Fw.cell ((hw1.cell (p := ⟨b', _, none⟩) hbl').trans (hcell' 5 _ rfl))
      have g_6 := Fw.cell ((hw1.cell (p := ⟨b', _, none⟩) hbl').trans (hcell' 6 _ rfl))
      have g_7 := Fw.cell ((hw1.cell (p := ⟨b', _, none⟩) hbl').trans (hcell' 7 _ rfl))
      simp only [Nat.add_zero] at g_0 g_1 g_2 g_3 g_4 g_5 g_6 g_7
      clear hcell' hcell hel hel3
      have hcs : cellStep t r k = (datumOK r.cells[k] && fitsCode t.columns[k] r.cells[k] == 0) := by unfold cellStep; rw [get_at _ k hlt, get_at _ k hkc]
      have A1 := hide (fun (i : Fw wr) => spec_DatumOK (Below.refl i.W.heap.size i.W) (AtomSR.good.nxt i.h hR0))
      have A2 := hide (fun (i : Fw wr) => spec_l04Fits (Below.refl i.W.heap.size i.W) (AtomSR.good.nxt i.h hR0) t.columns[k])
      have qaF := Fw.box qa1 rfl
      have qbF := Fw.box qb1 rfl
      cases h1 : datumOK r.cells[k]
      · have hr : Hid (rowIn t r = false) := by show _ = _; rw [hr0.out, upTo_bad hlt (hcs.trans (by rw [h1]; rfl))]
        rw [h1] at A1; clear h1 hcs
        go_wp2_with fail
        refine region_quiet (by kernel_rfl) (by kernel_rfl) ?_
        repeat (go_big_quiet_step ((first | (go_at_call 74; exact quiet_of (A1.out _)) | (go_at_call 75; exact quiet_of (A2.out _)))))
        refine wpQuiet_nil ?_; intro w3 hb3; clear qaF qbF c_0 g_0 g_1 g_2 g_3 g_4 g_5 g_6 g_7
        go_wp2_with fail
        go_ret
        exact ⟨by rw [hr.out]; rfl, nxt hw1 hb3⟩
      by_cases hz : fitsCode t.columns[k] r.cells[k] = 0
      · have hn2 : Hid (upTo (cellStep t r) (k + 1) = true) := by show _ = _; rw [upTo_succ, hn.out, hcs, h1, hz]; rfl
        have hnz : (fitsCode t.columns[k] r.cells[k] != 0) = false := by simp [hz]
        rw [h1] at A1; clear h1 hcs hz
        go_wp2_with fail
        refine region_quiet (by kernel_rfl) (by kernel_rfl) ?_
        repeat (go_big_quiet_step ((first | (go_at_call 74; exact quiet_of (A1.out _)) | (go_at_call 75; exact quiet_of (A2.out _)))))
        refine wpQuiet_nil ?_; intro w3 hb3; clear qaF qbF c_0 g_0 g_1 g_2 g_3 g_4 g_5 g_6 g_7
        go_wp2_with fail
        go_roundw
        case rel => exact ⟨k + 1, hlt, by go_num, hn2, nxt hbr hb3⟩
        case measure => simp [intOf]; omega
      · have hr : Hid (rowIn t r = false) := by show _ = _; rw [hr0.out, upTo_bad hlt (hcs.trans (by rw [h1, Bool.true_and, beq_eq_false_iff_ne]; exact hz))]
        have hnz : (fitsCode t.columns[k] r.cells[k] != 0) = true := by simp [hz]
        rw [h1] at A1; clear h1 hcs hz
        go_wp2_with fail
        refine region_quiet (by kernel_rfl) (by kernel_rfl) ?_
        repeat (go_big_quiet_step ((first | (go_at_call 74; exact quiet_of (A1.out _)) | (go_at_call 75; exact quiet_of (A2.out _)))))
        refine wpQuiet_nil ?_; intro w3 hb3; clear qaF qbF c_0 g_0 g_1 g_2 g_3 g_4 g_5 g_6 g_7
        go_wp2_with fail
        go_ret
        exact ⟨by rw [hr.out]; rfl, nxt hw1 hb3⟩
    · obtain rfl : k = r.cells.length := by omega
      have hr : Hid (rowIn t r = true) := by show _ = _; rw [hr0.out, hn.out]
      clear hel hel3
      go_wp2
      go_ret
      exact ⟨by rw [hr.out]; rfl, hw1⟩
theorem impl_RowOK {w : World} {b1 b2 : List Nat} {cs ds : List Value} {t : Table} {r : Row} (ht : TableR w b1 cs t) (hr : RowR w b2 ds r) :
    Calls Tryz.prog 33 #[.agg cs.toArray, .agg ds.toArray] w fun e w' => e = .returned (.bool (rowOK t r)) ∧ Below w.heap.size w w' := by
  have ht0 := ht
  have hr00 := hr
  obtain ⟨v1, b1, v2, b2, rfl, rfl, hf, r1, r2⟩ := ht
  obtain ⟨v3, b3, rfl, rfl, hfr, r3⟩ := hr
  have hbx := ((Below.refl w.heap.size w).alloc (Nat.le_refl _) (.cells #[.string t.name, v1, v2, .bool t.root] 40)).alloc (by simp) (.cells #[.int .i64 r.id, v3] 35)
  obtain ⟨qa, qb⟩ := two_at (Below.refl ((w.alloc (.cells #[.string t.name, v1, v2, .bool t.root] 40)).alloc (.cells #[.int .i64 r.id, v3] 35)).heap.size _)
  cases h1 : tblOK t
  · have hr : Hid (rowOK t r = false) := by show _ = _; unfold rowOK; rw [h1]; rfl
    have H1 := hide h1; clear h1
    go_enter Tryz.func33, Tryz.ntmps33
    go_wp2_with fail
    refine (impl_isTable (TableR.good.nxt hbx ht0)).mono ?_; rw [H1.out]; rintro e w1 ⟨rfl, hb1⟩; have qa1 := box_on qa rfl hb1; have qb1 := box_on qb rfl hb1; have hw1 := nxt hbx hb1
    go_wp2_with fail
    go_ret
    exact ⟨by rw [hr.out]; rfl, hw1⟩
  cases h2 : inB r.id 1 1000000
  · have hr : Hid (rowOK t r = false) := by show _ = _; unfold rowOK; rw [h1, h2]; rfl
    have H1 := hide h1; have H2 := hide h2; clear h1 h2
    go_enter Tryz.func33, Tryz.ntmps33
    go_wp2_with fail
    refine (impl_isTable (TableR.good.nxt hbx ht0)).mono ?_; rw [H1.out]; rintro e w1 ⟨rfl, hb1⟩; have qa1 := box_on qa rfl hb1; have qb1 := box_on qb rfl hb1; have hw1 := nxt hbx hb1
    go_wp2_with fail
    refine (impl_isId _ _).mono ?_; rw [H2.out]; rintro e w2 ⟨rfl, rfl⟩
    go_wp2_with fail
    go_ret
    exact ⟨by rw [hr.out]; rfl, hw1⟩
  have hr : Hid (rowOK t r = cellsIn t r) := by show _ = _; unfold rowOK; rw [h1, h2, Bool.true_and, Bool.true_and]
  have H1 := hide h1; have H2 := hide h2; clear h1 h2
  go_enter Tryz.func33, Tryz.ntmps33
  go_wp2_with fail
  refine (impl_isTable (TableR.good.nxt hbx ht0)).mono ?_; rw [H1.out]; rintro e w1 ⟨rfl, hb1⟩; have qa1 := box_on qa rfl hb1; have qb1 := box_on qb rfl hb1; have hw1 := nxt hbx hb1
  go_wp2_with fail
  refine (impl_isId _ _).mono ?_; rw [H2.out]; rintro e w2 ⟨rfl, rfl⟩
  go_wp2_with fail
  refine (impl_cellsOK (TableR.good.nxt hw1 ht0) (RowR.good.nxt hw1 hr00)).mono ?_; rintro e w3 ⟨rfl, hb3⟩
  go_wp2_with fail
  go_ret
  exact ⟨by rw [hr.out]; rfl, nxt hw1 hb3⟩
theorem spec_RowOK {w : World} {b1 b2 : List Nat} {cs ds : List Value} {t : Table} {r : Row} (ht : TableR w b1 cs t) (hr : RowR w b2 ds r) :
    Calls Tryz.prog 23 #[.agg cs.toArray, .agg ds.toArray] w fun e w' => e = .returned (.bool (rowOK t r)) ∧ Below w.heap.size w w' := by
  have ht0 := ht
  have hr00 := hr
  obtain ⟨v1, b1, v2, b2, rfl, rfl, hf, r1, r2⟩ := ht
  obtain ⟨v3, b3, rfl, rfl, hfr, r3⟩ := hr
  have hbx := ((Below.refl w.heap.size w).alloc (Nat.le_refl _) (.cells #[.string t.name, v1, v2, .bool t.root] 40)).alloc (by simp) (.cells #[.int .i64 r.id, v3] 35)
  obtain ⟨qa, qb⟩ := two_at (Below.refl ((w.alloc (.cells #[.string t.name, v1, v2, .bool t.root] 40)).alloc (.cells #[.int .i64 r.id, v3] 35)).heap.size _)
  cases h1 : tblOK t
  · have hr : Hid (rowOK t r = false) := by show _ = _; unfold rowOK; rw [h1]; rfl
    have H1 := hide h1; clear h1
    go_enter Tryz.func23, Tryz.ntmps23
    go_wp2_with fail
    refine (spec_l04Table (TableR.good.nxt hbx ht0)).mono ?_; rw [H1.out]; rintro e w1 ⟨rfl, hb1⟩; have qa1 := box_on qa rfl hb1; have qb1 := box_on qb rfl hb1; have hw1 := nxt hbx hb1
    go_wp2_with fail
    go_ret
    exact ⟨by rw [hr.out]; rfl, hw1⟩
  have hr : Hid (rowOK t r = rowIn t r) := by show _ = _; unfold rowOK rowIn; rw [h1, Bool.true_and]
  have H1 := hide h1; clear h1
  go_enter Tryz.func23, Tryz.ntmps23
  go_wp2_with fail
  refine (spec_l04Table (TableR.good.nxt hbx ht0)).mono ?_; rw [H1.out]; rintro e w1 ⟨rfl, hb1⟩; have qa1 := box_on qa rfl hb1; have qb1 := box_on qb rfl hb1; have hw1 := nxt hbx hb1
  go_wp2_with fail
  refine (spec_l05Row (TableR.good.nxt hw1 ht0) (RowR.good.nxt hw1 hr00)).mono ?_; rintro e w2 ⟨rfl, hb2⟩
  go_wp2_with fail
  go_ret
  exact ⟨by rw [hr.out]; rfl, nxt hw1 hb2⟩
end Go.Proofs.YthglchopajdmhaaGreat
