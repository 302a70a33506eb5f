/- How much an argument holds: what the functions sz.. of package laws return. No statement is proved here; no conditions. Written by a program (gen.py). -/
import Derived.Test.YthglchopajdmhaaGreatCodes
namespace Go.Proofs.YthglchopajdmhaaGreat
open Go.ChangeShapes Go.WideShapes Go.ChangeAt Go.RowKit Go.Deep
set_option maxRecDepth 100000
set_option linter.unusedVariables false

theorem szIntS {w0 w : World} (hb : Below w0.heap.size w0 w) {bs : List Nat} {v : Value} {xs : List Int} (ha : IntSR w0 bs [v] xs) {left : Int} (h0 : 0 ≤ left) (h1 : left ≤ 1048576) :
    Calls Tryz.prog 20 #[v, .int .i64 left] w fun e w' => e = .returned (.int .i64 (clip (left - IntS.bulk xs))) ∧ Below w.heap.size w w' := by
  obtain ⟨A, c, rfl, hlc, hcm, hel⟩ := ha.use
  by_cases hneg : left - xs.length < 0
  · have hfin : Hid (clip (left - IntS.bulk xs) = -1) := clip_neg (by unfold IntS.bulk; omega)
    go_enter Tryz.func20, Tryz.ntmps20
    go_wp2
    go_ret
    exact ⟨by rw [hfin.out]; rfl, Below.refl _ _⟩
  · have hfin : Hid (clip (left - IntS.bulk xs) = left - xs.length) := by show _ = _; unfold IntS.bulk; rw [clip_pos (by omega)]
    go_enter Tryz.func20, Tryz.ntmps20
    go_wp2
    go_ret
    exact ⟨by rw [hfin.out]; rfl, Below.refl _ _⟩
theorem szAtom {w0 w : World} (hb : Below w0.heap.size w0 w) {bs : List Nat} {cs : List Value} {a : Atom} (ha : AtomR w0 bs cs a) {left : Int} (h0 : 0 ≤ left) (h1 : left ≤ 1048576) :
    Calls Tryz.prog 70 #[.agg cs.toArray, .int .i64 left] w fun e w' => e = .returned (.int .i64 (clip (left - Atom.bulk a))) ∧ Below w.heap.size w w' := by
  obtain ⟨rfl, rfl, hf⟩ := ha
  have hs_t : a.t.size ≤ 9223372036854775807 := hf.2.2
  clear hf
  by_cases n1 : left - (a.t.size : Int) < 0
  · have hr : Hid (clip (left - Atom.bulk a) = -1) := clip_neg (by unfold Atom.bulk; omega)
    go_enter Tryz.func70, Tryz.ntmps70
    go_wp2
    go_ret
    exact ⟨by rw [hr.out]; rfl, ((Below.refl _ _).alloc (Nat.le_refl _) _)⟩
  have hr : Hid (clip (left - Atom.bulk a) = left - (a.t.size : Int)) := by show _ = _; rw [clip_pos (by unfold Atom.bulk; omega)]; unfold Atom.bulk; omega
  go_enter Tryz.func70, Tryz.ntmps70
  go_wp2
  go_ret
  exact ⟨by rw [hr.out]; rfl, ((Below.refl _ _).alloc (Nat.le_refl _) _)⟩
theorem szAtomS {w0 w : World} (hb : Below w0.heap.size w0 w) {bs : List Nat} {v : Value} {xs : List Atom} (ha : AtomSR w0 bs [v] xs) {left : Int} (h0 : 0 ≤ left) (h1 : left ≤ 1048576) :
    Calls Tryz.prog 47 #[v, .int .i64 left] w fun e w' => e = .returned (.int .i64 (clip (left - AtomS.bulk xs))) ∧ Below w.heap.size w w' := by
  obtain ⟨A, c, rfl, hlc, hcm, hel⟩ := ha.use
  by_cases hneg : left - xs.length < 0
  · have hfin : Hid (clip (left - AtomS.bulk xs) = -1) := clip_neg (by unfold AtomS.bulk bulkL; omega)
    go_enter Tryz.func47, Tryz.ntmps47
    go_wp2
    go_ret
    exact ⟨by rw [hfin.out]; rfl, Below.refl _ _⟩
  · go_enter Tryz.func47, Tryz.ntmps47
    go_wp2
    go_loopw [1, 5] (fun l i wr => ∃ k : Nat, k ≤ xs.length ∧ i = .int .i64 k ∧ psum Atom.bulk xs k ≤ left - xs.length ∧ l = .int .i64 (left - xs.length - psum Atom.bulk xs k) ∧ Below w.heap.size w wr) (fun _ i _ => xs.length - (intOf i).toNat)
    case atStart => exact ⟨0, Nat.zero_le _, rfl, by rw [psum_zero]; omega, by rw [psum_zero]; go_num, Below.refl _ _⟩
    case round =>
      obtain ⟨k, hk, rfl, hs, rfl, hbr⟩ := hrel
      by_cases hlt : k < xs.length
      · obtain ⟨b, o, bk, es, rfl, hbl, hcl, hcell, hR, hbk⟩ := hel k hlt
        have hR0 := hR
        obtain ⟨hbk', hes, _⟩ := hR
        subst hes
        have c_0 := ((nxt hb hbr).cell (p := ⟨b, _, none⟩) hbl).trans (hcell 0 _ rfl)
        have c_1 := ((nxt hb hbr).cell (p := ⟨b, _, none⟩) hbl).trans (hcell 1 _ rfl)
        have c_2 := ((nxt hb hbr).cell (p := ⟨b, _, none⟩) hbl).trans (hcell 2 _ rfl)
        simp only [Nat.add_zero] at c_0 c_1 c_2
        clear hcell hel hcl
        have hp := psum_succ Atom.bulk xs k hlt
        have hp2 := psum_le Atom.bulk xs (k + 1)
        by_cases hneg2 : left - xs.length - psum Atom.bulk xs k - Atom.bulk xs[k] < 0
        · have H1 := hide (clip_neg hneg2)
          have H2 : Hid (clip (left - AtomS.bulk xs) = -1) := clip_neg (by unfold AtomS.bulk bulkL; omega)
          clear hp hp2
          go_wp2_with (go_at_call 70; refine (szAtom (nxt hb hbr) hR0 (by omega) (by omega)).mono ?_; rw [H1.out]; rintro e w1 ⟨rfl, hb1⟩)
          go_ret
          exact ⟨by rw [H2.out]; rfl, nxt hbr hb1⟩
        · have H1 := hide (clip_pos (Int.not_lt.1 hneg2))
          have hnn : 0 ≤ left - xs.length - psum Atom.bulk xs k - Atom.bulk xs[k] := by omega
          have H := hide hp
          clear hp hp2
          go_wp2_with (go_at_call 70; refine (szAtom (nxt hb hbr) hR0 (by omega) (by omega)).mono ?_; rw [H1.out]; rintro e w1 ⟨rfl, hb1⟩)
          go_roundw
          case rel => exact ⟨k + 1, hlt, by go_num, by rw [H.out]; omega, by rw [H.out]; go_num, nxt hbr hb1⟩
          case measure => simp [intOf]; omega
      · obtain rfl : k = xs.length := by omega
        rw [psum_all] at hs ⊢
        have H2 : Hid (clip (left - AtomS.bulk xs) = left - xs.length - (xs.map Atom.bulk).sum) := by show _ = _; unfold AtomS.bulk bulkL; rw [clip_pos (by omega)]; omega
        go_wp2
        go_ret
        exact ⟨by rw [H2.out]; rfl, hbr⟩
theorem szAtomSS {w0 w : World} (hb : Below w0.heap.size w0 w) {bs : List Nat} {v : Value} {xs : List (List Atom)} (ha : AtomSSR w0 bs [v] xs) {left : Int} (h0 : 0 ≤ left) (h1 : left ≤ 1048576) :
    Calls Tryz.prog 21 #[v, .int .i64 left] w fun e w' => e = .returned (.int .i64 (clip (left - AtomSS.bulk xs))) ∧ Below w.heap.size w w' := by
  obtain ⟨A, c, rfl, hlc, hcm, hel⟩ := ha.use
  by_cases hneg : left - xs.length < 0
  · have hfin : Hid (clip (left - AtomSS.bulk xs) = -1) := clip_neg (by unfold AtomSS.bulk bulkL; omega)
    go_enter Tryz.func21, Tryz.ntmps21
    go_wp2
    go_ret
    exact ⟨by rw [hfin.out]; rfl, Below.refl _ _⟩
  · go_enter Tryz.func21, Tryz.ntmps21
    go_wp2
    go_loopw [1, 5] (fun l i wr => ∃ k : Nat, k ≤ xs.length ∧ i = .int .i64 k ∧ psum AtomS.bulk xs k ≤ left - xs.length ∧ l = .int .i64 (left - xs.length - psum AtomS.bulk xs k) ∧ Below w.heap.size w wr) (fun _ i _ => xs.length - (intOf i).toNat)
    case atStart => exact ⟨0, Nat.zero_le _, rfl, by rw [psum_zero]; omega, by rw [psum_zero]; go_num, Below.refl _ _⟩
    case round =>
      obtain ⟨k, hk, rfl, hs, rfl, hbr⟩ := hrel
      by_cases hlt : k < xs.length
      · obtain ⟨b, o, bk, es, rfl, hbl, hcl, hcell, hR, hbk⟩ := hel k hlt
        have hR0 := hR
        obtain ⟨A0, c0, rfl⟩ : ∃ A0 c0, es = [.slice A0 xs[k].length c0] := by obtain ⟨A0, c0, h, _⟩ := hR; exact ⟨A0, c0, h⟩
        obtain ⟨A0', c0', he, _, _, _⟩ := hR.use
        clear he
        have c_0 := ((nxt hb hbr).cell (p := ⟨b, _, none⟩) hbl).trans (hcell 0 _ rfl)
        simp only [Nat.add_zero, Nat.mul_one] at c_0
        clear hcell hel hcl
        have hp := psum_succ AtomS.bulk xs k hlt
        have hp2 := psum_le AtomS.bulk xs (k + 1)
        by_cases hneg2 : left - xs.length - psum AtomS.bulk xs k - AtomS.bulk xs[k] < 0
        · have H1 := hide (clip_neg hneg2)
          have H2 : Hid (clip (left - AtomSS.bulk xs) = -1) := clip_neg (by unfold AtomSS.bulk bulkL; omega)
          clear hp hp2
          go_wp2_with (go_at_call 47; refine (szAtomS (nxt hb hbr) hR0 (by omega) (by omega)).mono ?_; rw [H1.out]; rintro e w1 ⟨rfl, hb1⟩)
          go_ret
          exact ⟨by rw [H2.out]; rfl, nxt hbr hb1⟩
        · have H1 := hide (clip_pos (Int.not_lt.1 hneg2))
          have hnn : 0 ≤ left - xs.length - psum AtomS.bulk xs k - AtomS.bulk xs[k] := by omega
          have H := hide hp
          clear hp hp2
          go_wp2_with (go_at_call 47; refine (szAtomS (nxt hb hbr) hR0 (by omega) (by omega)).mono ?_; rw [H1.out]; rintro e w1 ⟨rfl, hb1⟩)
          go_roundw
          case rel => exact ⟨k + 1, hlt, by go_num, by rw [H.out]; omega, by rw [H.out]; go_num, nxt hbr hb1⟩
          case measure => simp [intOf]; omega
      · obtain rfl : k = xs.length := by omega
        rw [psum_all] at hs ⊢
        have H2 : Hid (clip (left - AtomSS.bulk xs) = left - xs.length - (xs.map AtomS.bulk).sum) := by show _ = _; unfold AtomSS.bulk bulkL; rw [clip_pos (by omega)]; omega
        go_wp2
        go_ret
        exact ⟨by rw [H2.out]; rfl, hbr⟩
theorem szColumn {w0 w : World} (hb : Below w0.heap.size w0 w) {bs : List Nat} {cs : List Value} {a : Column} (ha : ColumnR w0 bs cs a) {left : Int} (h0 : 0 ≤ left) (h1 : left ≤ 1048576) :
    Calls Tryz.prog 46 #[.agg cs.toArray, .int .i64 left] w fun e w' => e = .returned (.int .i64 (clip (left - Column.bulk a))) ∧ Below w.heap.size w w' := by
  obtain ⟨rfl, rfl, hf⟩ := ha
  have hs_name : a.name.size ≤ 9223372036854775807 := hf.1
  have hs_ref : a.ref.size ≤ 9223372036854775807 := hf.2.2.2.2.2.2
  clear hf
  by_cases n1 : left - (a.name.size : Int) < 0
  · have hr : Hid (clip (left - Column.bulk a) = -1) := clip_neg (by unfold Column.bulk; omega)
    go_enter Tryz.func46, Tryz.ntmps46
    go_wp2
    go_ret
    exact ⟨by rw [hr.out]; rfl, ((Below.refl _ _).alloc (Nat.le_refl _) _)⟩
  by_cases n2 : left - (a.name.size : Int) - (a.ref.size : Int) < 0
  · have hr : Hid (clip (left - Column.bulk a) = -1) := clip_neg (by unfold Column.bulk; omega)
    go_enter Tryz.func46, Tryz.ntmps46
    go_wp2
    go_ret
    exact ⟨by rw [hr.out]; rfl, ((Below.refl _ _).alloc (Nat.le_refl _) _)⟩
  have hr : Hid (clip (left - Column.bulk a) = left - (a.name.size : Int) - (a.ref.size : Int)) := by show _ = _; rw [clip_pos (by unfold Column.bulk; omega)]; unfold Column.bulk; omega
  go_enter Tryz.func46, Tryz.ntmps46
  go_wp2
  go_ret
  exact ⟨by rw [hr.out]; rfl, ((Below.refl _ _).alloc (Nat.le_refl _) _)⟩
theorem szColumnS {w0 w : World} (hb : Below w0.heap.size w0 w) {bs : List Nat} {v : Value} {xs : List Column} (ha : ColumnSR w0 bs [v] xs) {left : Int} (h0 : 0 ≤ left) (h1 : left ≤ 1048576) :
    Calls Tryz.prog 19 #[v, .int .i64 left] w fun e w' => e = .returned (.int .i64 (clip (left - ColumnS.bulk xs))) ∧ Below w.heap.size w w' := by
  obtain ⟨A, c, rfl, hlc, hcm, hel⟩ := ha.use
  by_cases hneg : left - xs.length < 0
  · have hfin : Hid (clip (left - ColumnS.bulk xs) = -1) := clip_neg (by unfold ColumnS.bulk bulkL; omega)
    go_enter Tryz.func19, Tryz.ntmps19
    go_wp2
    go_ret
    exact ⟨by rw [hfin.out]; rfl, Below.refl _ _⟩
  · go_enter Tryz.func19, Tryz.ntmps19
    go_wp2
    go_loopw [1, 5] (fun l i wr => ∃ k : Nat, k ≤ xs.length ∧ i = .int .i64 k ∧ psum Column.bulk xs k ≤ left - xs.length ∧ l = .int .i64 (left - xs.length - psum Column.bulk xs k) ∧ Below w.heap.size w wr) (fun _ i _ => xs.length - (intOf i).toNat)
    case atStart => exact ⟨0, Nat.zero_le _, rfl, by rw [psum_zero]; omega, by rw [psum_zero]; go_num, Below.refl _ _⟩
    case round =>
      obtain ⟨k, hk, rfl, hs, rfl, hbr⟩ := hrel
      by_cases hlt : k < xs.length
      · obtain ⟨b, o, bk, es, rfl, hbl, hcl, hcell, hR, hbk⟩ := hel k hlt
        have hR0 := hR
        obtain ⟨hbk', hes, _⟩ := hR
        subst hes
        have c_0 := ((nxt hb hbr).cell (p := ⟨b, _, none⟩) hbl).trans (hcell 0 _ rfl)
        have c_1 := ((nxt hb hbr).cell (p := ⟨b, _, none⟩) hbl).trans (hcell 1 _ rfl)
        have c_2 := ((nxt hb hbr).cell (p := ⟨b, _, none⟩) hbl).trans (hcell 2 _ rfl)
        have c_3 := ((nxt hb hbr).cell (p := ⟨b, _, none⟩) hbl).trans (hcell 3 _ rfl)
        have c_4 := ((nxt hb hbr).cell (p := ⟨b, _, none⟩) hbl).trans (hcell 4 _ rfl)
        have c_5 := ((nxt hb hbr).cell (p := ⟨b, _, none⟩) hbl).trans (hcell 5 _ rfl)
        have c_6 := ((nxt hb hbr).cell (p := ⟨b, _, none⟩) hbl).trans (hcell 6 _ rfl)
        have c_7 := ((nxt hb hbr).cell (p := ⟨b, _, none⟩) hbl).trans (hcell 7 _ rfl)
        simp only [Nat.add_zero] at c_0 c_1 c_2 c_3 c_4 c_5 c_6 c_7
        clear hcell hel hcl
        have hp := psum_succ Column.bulk xs k hlt
        have hp2 := psum_le Column.bulk xs (k + 1)
        by_cases hneg2 : left - xs.length - psum Column.bulk xs k - Column.bulk xs[k] < 0
        · have H1 := hide (clip_neg hneg2)
          have H2 : Hid (clip (left - ColumnS.bulk xs) = -1) := clip_neg (by unfold ColumnS.bulk bulkL; omega)
          clear hp hp2
          go_wp2_with (go_at_call 46; refine (szColumn (nxt hb hbr) hR0 (by omega) (by omega)).mono ?_; rw [H1.out]; rintro e w1 ⟨rfl, hb1⟩)
          go_ret
          exact ⟨by rw [H2.out]; rfl, nxt hbr hb1⟩
        · have H1 := hide (clip_pos (Int.not_lt.1 hneg2))
          have hnn : 0 ≤ left - xs.length - psum Column.bulk xs k - Column.bulk xs[k] := by omega
          have H := hide hp
          clear hp hp2
          go_wp2_with (go_at_call 46; refine (szColumn (nxt hb hbr) hR0 (by omega) (by omega)).mono ?_; rw [H1.out]; rintro e w1 ⟨rfl, hb1⟩)
          go_roundw
          case rel => exact ⟨k + 1, hlt, by go_num, by rw [H.out]; omega, by rw [H.out]; go_num, nxt hbr hb1⟩
          case measure => simp [intOf]; omega
      · obtain rfl : k = xs.length := by omega
        rw [psum_all] at hs ⊢
        have H2 : Hid (clip (left - ColumnS.bulk xs) = left - xs.length - (xs.map Column.bulk).sum) := by show _ = _; unfold ColumnS.bulk bulkL; rw [clip_pos (by omega)]; omega
        go_wp2
        go_ret
        exact ⟨by rw [H2.out]; rfl, hbr⟩
theorem szTable {w0 w : World} (hb : Below w0.heap.size w0 w) {bs : List Nat} {cs : List Value} {a : Table} (ha : TableR w0 bs cs a) {left : Int} (h0 : 0 ≤ left) (h1 : left ≤ 1048576) :
    Calls Tryz.prog 4 #[.agg cs.toArray, .int .i64 left] w fun e w' => e = .returned (.int .i64 (clip (left - Table.bulk a))) ∧ Below w.heap.size w w' := by
  obtain ⟨v1, b1, v2, b2, rfl, rfl, hf, r1, r2⟩ := ha
  have hs_name : a.name.size ≤ 9223372036854775807 := hf
  clear hf
  obtain ⟨A1, c1, rfl, _, _, _⟩ := r1.use
  obtain ⟨A2, c2, rfl, _, _, _⟩ := r2.use
  by_cases n1 : left - (a.name.size : Int) < 0
  · have hr : Hid (clip (left - Table.bulk a) = -1) := clip_neg (by unfold Table.bulk; omega)
    go_enter Tryz.func4, Tryz.ntmps4
    go_wp2
    go_ret
    exact ⟨by rw [hr.out]; rfl, ((Below.refl _ _).alloc (Nat.le_refl _) _)⟩
  by_cases n2 : left - (a.name.size : Int) - (ColumnS.bulk a.columns : Int) < 0
  · have hr : Hid (clip (left - Table.bulk a) = -1) := clip_neg (by unfold Table.bulk; omega)
    go_enter Tryz.func4, Tryz.ntmps4
    go_wp2_with (first | (go_at_call 19; refine (szColumnS (hb.alloc hb.size _) r1 (by omega) (by omega)).mono ?_; rw [clip_neg (by omega)]; rintro e w1 ⟨rfl, hb1⟩; have q1 := box_at hb1))
    go_ret
    exact ⟨by rw [hr.out]; rfl, (nxt ((Below.refl _ _).alloc (Nat.le_refl _) _) hb1)⟩
  by_cases n3 : left - (a.name.size : Int) - (ColumnS.bulk a.columns : Int) - (IntS.bulk a.unique : Int) < 0
  · have hr : Hid (clip (left - Table.bulk a) = -1) := clip_neg (by unfold Table.bulk; omega)
    go_enter Tryz.func4, Tryz.ntmps4
    go_wp2_with (first | (go_at_call 19; refine (szColumnS (hb.alloc hb.size _) r1 (by omega) (by omega)).mono ?_; rw [clip_pos (by omega)]; rintro e w1 ⟨rfl, hb1⟩; have q1 := box_at hb1) | (go_at_call 20; refine (szIntS (nxt (hb.alloc hb.size _) hb1) r2 (by omega) (by omega)).mono ?_; rw [clip_neg (by omega)]; rintro e w2 ⟨rfl, hb2⟩))
    go_ret
    exact ⟨by rw [hr.out]; rfl, (nxt (nxt ((Below.refl _ _).alloc (Nat.le_refl _) _) hb1) hb2)⟩
  have hr : Hid (clip (left - Table.bulk a) = left - (a.name.size : Int) - (ColumnS.bulk a.columns : Int) - (IntS.bulk a.unique : Int)) := by show _ = _; rw [clip_pos (by unfold Table.bulk; omega)]; unfold Table.bulk; omega
  go_enter Tryz.func4, Tryz.ntmps4
  go_wp2_with (first | (go_at_call 19; refine (szColumnS (hb.alloc hb.size _) r1 (by omega) (by omega)).mono ?_; rw [clip_pos (by omega)]; rintro e w1 ⟨rfl, hb1⟩; have q1 := box_at hb1) | (go_at_call 20; refine (szIntS (nxt (hb.alloc hb.size _) hb1) r2 (by omega) (by omega)).mono ?_; rw [clip_pos (by omega)]; rintro e w2 ⟨rfl, hb2⟩; have q2 := box_on q1 rfl hb2))
  go_ret
  exact ⟨by rw [hr.out]; rfl, (nxt (nxt ((Below.refl _ _).alloc (Nat.le_refl _) _) hb1) hb2)⟩
theorem szRow {w0 w : World} (hb : Below w0.heap.size w0 w) {bs : List Nat} {cs : List Value} {a : Row} (ha : RowR w0 bs cs a) {left : Int} (h0 : 0 ≤ left) (h1 : left ≤ 1048576) :
    Calls Tryz.prog 5 #[.agg cs.toArray, .int .i64 left] w fun e w' => e = .returned (.int .i64 (clip (left - Row.bulk a))) ∧ Below w.heap.size w w' := by
  obtain ⟨v1, b1, rfl, rfl, hf, r1⟩ := ha
  clear hf
  obtain ⟨A1, c1, rfl, _, _, _⟩ := r1.use
  by_cases n1 : left - (AtomSS.bulk a.cells : Int) < 0
  · have hr : Hid (clip (left - Row.bulk a) = -1) := clip_neg (by unfold Row.bulk; omega)
    go_enter Tryz.func5, Tryz.ntmps5
    go_wp2_with (first | (go_at_call 21; refine (szAtomSS (hb.alloc hb.size _) r1 (by omega) (by omega)).mono ?_; rw [clip_neg (by omega)]; rintro e w1 ⟨rfl, hb1⟩; have q1 := box_at hb1))
    go_ret
    exact ⟨by rw [hr.out]; rfl, (nxt ((Below.refl _ _).alloc (Nat.le_refl _) _) hb1)⟩
  have hr : Hid (clip (left - Row.bulk a) = left - (AtomSS.bulk a.cells : Int)) := by show _ = _; rw [clip_pos (by unfold Row.bulk; omega)]; unfold Row.bulk; omega
  go_enter Tryz.func5, Tryz.ntmps5
  go_wp2_with (first | (go_at_call 21; refine (szAtomSS (hb.alloc hb.size _) r1 (by omega) (by omega)).mono ?_; rw [clip_pos (by omega)]; rintro e w1 ⟨rfl, hb1⟩; have q1 := box_at hb1))
  go_ret
  exact ⟨by rw [hr.out]; rfl, (nxt ((Below.refl _ _).alloc (Nat.le_refl _) _) hb1)⟩
theorem szMut {w0 w : World} (hb : Below w0.heap.size w0 w) {bs : List Nat} {cs : List Value} {a : Mut} (ha : MutR w0 bs cs a) {left : Int} (h0 : 0 ≤ left) (h1 : left ≤ 1048576) :
    Calls Tryz.prog 22 #[.agg cs.toArray, .int .i64 left] w fun e w' => e = .returned (.int .i64 (clip (left - Mut.bulk a))) ∧ Below w.heap.size w w' := by
  obtain ⟨v2, b2, rfl, rfl, hf, r2⟩ := ha
  have hs_column : a.column.size ≤ 9223372036854775807 := hf.1
  clear hf
  obtain ⟨A2, c2, rfl, _, _, _⟩ := r2.use
  by_cases n1 : left - (a.column.size : Int) < 0
  · have hr : Hid (clip (left - Mut.bulk a) = -1) := clip_neg (by unfold Mut.bulk; omega)
    go_enter Tryz.func22, Tryz.ntmps22
    go_wp2
    go_ret
    exact ⟨by rw [hr.out]; rfl, ((Below.refl _ _).alloc (Nat.le_refl _) _)⟩
  by_cases n2 : left - (a.column.size : Int) - (AtomS.bulk a.value : Int) < 0
  · have hr : Hid (clip (left - Mut.bulk a) = -1) := clip_neg (by unfold Mut.bulk; omega)
    go_enter Tryz.func22, Tryz.ntmps22
    go_wp2_with (first | (go_at_call 47; refine (szAtomS (hb.alloc hb.size _) r2 (by omega) (by omega)).mono ?_; rw [clip_neg (by omega)]; rintro e w2 ⟨rfl, hb2⟩; have q2 := box_at hb2))
    go_ret
    exact ⟨by rw [hr.out]; rfl, (nxt ((Below.refl _ _).alloc (Nat.le_refl _) _) hb2)⟩
  have hr : Hid (clip (left - Mut.bulk a) = left - (a.column.size : Int) - (AtomS.bulk a.value : Int)) := by show _ = _; rw [clip_pos (by unfold Mut.bulk; omega)]; unfold Mut.bulk; omega
  go_enter Tryz.func22, Tryz.ntmps22
  go_wp2_with (first | (go_at_call 47; refine (szAtomS (hb.alloc hb.size _) r2 (by omega) (by omega)).mono ?_; rw [clip_pos (by omega)]; rintro e w2 ⟨rfl, hb2⟩; have q2 := box_at hb2))
  go_ret
  exact ⟨by rw [hr.out]; rfl, (nxt ((Below.refl _ _).alloc (Nat.le_refl _) _) hb2)⟩
theorem szMutS {w0 w : World} (hb : Below w0.heap.size w0 w) {bs : List Nat} {v : Value} {xs : List Mut} (ha : MutSR w0 bs [v] xs) {left : Int} (h0 : 0 ≤ left) (h1 : left ≤ 1048576) :
    Calls Tryz.prog 6 #[v, .int .i64 left] w fun e w' => e = .returned (.int .i64 (clip (left - MutS.bulk xs))) ∧ Below w.heap.size w w' := by
  obtain ⟨A, c, rfl, hlc, hcm, hel⟩ := ha.use
  by_cases hneg : left - xs.length < 0
  · have hfin : Hid (clip (left - MutS.bulk xs) = -1) := clip_neg (by unfold MutS.bulk bulkL; omega)
    go_enter Tryz.func6, Tryz.ntmps6
    go_wp2
    go_ret
    exact ⟨by rw [hfin.out]; rfl, Below.refl _ _⟩
  · go_enter Tryz.func6, Tryz.ntmps6
    go_wp2
    go_loopw [1, 5] (fun l i wr => ∃ k : Nat, k ≤ xs.length ∧ i = .int .i64 k ∧ psum Mut.bulk xs k ≤ left - xs.length ∧ l = .int .i64 (left - xs.length - psum Mut.bulk xs k) ∧ Below w.heap.size w wr) (fun _ i _ => xs.length - (intOf i).toNat)
    case atStart => exact ⟨0, Nat.zero_le _, rfl, by rw [psum_zero]; omega, by rw [psum_zero]; go_num, Below.refl _ _⟩
    case round =>
      obtain ⟨k, hk, rfl, hs, rfl, hbr⟩ := hrel
      by_cases hlt : k < xs.length
      · obtain ⟨b, o, bk, es, rfl, hbl, hcl, hcell, hR, hbk⟩ := hel k hlt
        have hR0 := hR
        obtain ⟨v2, b2, hbk', hes, _, r2⟩ := hR
        subst hes
        obtain ⟨A2, c2, rfl, _, _, _⟩ := r2.use
        have c_0 := ((nxt hb hbr).cell (p := ⟨b, _, none⟩) hbl).trans (hcell 0 _ rfl)
        have c_1 := ((nxt hb hbr).cell (p := ⟨b, _, none⟩) hbl).trans (hcell 1 _ rfl)
        have c_2 := ((nxt hb hbr).cell (p := ⟨b, _, none⟩) hbl).trans (hcell 2 _ rfl)
        simp only [Nat.add_zero] at c_0 c_1 c_2
        clear hcell hel hcl
        have hp := psum_succ Mut.bulk xs k hlt
        have hp2 := psum_le Mut.bulk xs (k + 1)
        by_cases hneg2 : left - xs.length - psum Mut.bulk xs k - Mut.bulk xs[k] < 0
        · have H1 := hide (clip_neg hneg2)
          have H2 : Hid (clip (left - MutS.bulk xs) = -1) := clip_neg (by unfold MutS.bulk bulkL; omega)
          clear hp hp2
          go_wp2_with (go_at_call 22; refine (szMut (nxt hb hbr) hR0 (by omega) (by omega)).mono ?_; rw [H1.out]; rintro e w1 ⟨rfl, hb1⟩)
          go_ret
          exact ⟨by rw [H2.out]; rfl, nxt hbr hb1⟩
        · have H1 := hide (clip_pos (Int.not_lt.1 hneg2))
          have hnn : 0 ≤ left - xs.length - psum Mut.bulk xs k - Mut.bulk xs[k] := by omega
          have H := hide hp
          clear hp hp2
          go_wp2_with (go_at_call 22; refine (szMut (nxt hb hbr) hR0 (by omega) (by omega)).mono ?_; rw [H1.out]; rintro e w1 ⟨rfl, hb1⟩)
          go_roundw
          case rel => exact ⟨k + 1, hlt, by go_num, by rw [H.out]; omega, by rw [H.out]; go_num, nxt hbr hb1⟩
          case measure => simp [intOf]; omega
      · obtain rfl : k = xs.length := by omega
        rw [psum_all] at hs ⊢
        have H2 : Hid (clip (left - MutS.bulk xs) = left - xs.length - (xs.map Mut.bulk).sum) := by show _ = _; unfold MutS.bulk bulkL; rw [clip_pos (by omega)]; omega
        go_wp2
        go_ret
        exact ⟨by rw [H2.out]; rfl, hbr⟩
end Go.Proofs.YthglchopajdmhaaGreat
