/- How much an argument holds: what the functions sz.. of package laws return. No statement is proved here; no conditions. Written by a program (gen.py). -/
import Derived.Test.YtfkpllkgganejaaCodes
namespace Go.Proofs.Ytfkpllkgganejaa
open Go.ChangeShapes Go.WideShapes Go.ChangeAt Go.RowKit Go.Deep
set_option maxRecDepth 100000
set_option linter.unusedVariables false

theorem szAtom {w0 w : World} (hb : Below w0.heap.size w0 w) {bs : List Nat} {cs : List Value} {a : Atom} (ha : AtomR w0 bs cs a) {left : Int} (h0 : 0 ≤ left) (h1 : left ≤ 1048576) :
    Calls Try.prog 52 #[.agg cs.toArray, .int .i64 left] w fun e w' => e = .returned (.int .i64 (clip (left - Atom.bulk a))) ∧ Below w.heap.size w w' := by
  obtain ⟨rfl, rfl, hf⟩ := ha
  have hs_t : a.t.size ≤ 9223372036854775807 := hf.2.2
  clear hf
  by_cases n1 : left - (a.t.size : Int) < 0
  · have hr : Hid (clip (left - Atom.bulk a) = -1) := clip_neg (by unfold Atom.bulk; omega)
    go_enter Try.func52, Try.ntmps52
    go_wp2
    go_ret
    exact ⟨by rw [hr.out]; rfl, ((Below.refl _ _).alloc (Nat.le_refl _) _)⟩
  have hr : Hid (clip (left - Atom.bulk a) = left - (a.t.size : Int)) := by show _ = _; rw [clip_pos (by unfold Atom.bulk; omega)]; unfold Atom.bulk; omega
  go_enter Try.func52, Try.ntmps52
  go_wp2
  go_ret
  exact ⟨by rw [hr.out]; rfl, ((Below.refl _ _).alloc (Nat.le_refl _) _)⟩
theorem szAtomS {w0 w : World} (hb : Below w0.heap.size w0 w) {bs : List Nat} {v : Value} {xs : List Atom} (ha : AtomSR w0 bs [v] xs) {left : Int} (h0 : 0 ≤ left) (h1 : left ≤ 1048576) :
    Calls Try.prog 35 #[v, .int .i64 left] w fun e w' => e = .returned (.int .i64 (clip (left - AtomS.bulk xs))) ∧ Below w.heap.size w w' := by
  obtain ⟨A, c, rfl, hlc, hcm, hel⟩ := ha.use
  by_cases hneg : left - xs.length < 0
  · have hfin : Hid (clip (left - AtomS.bulk xs) = -1) := clip_neg (by unfold AtomS.bulk bulkL; omega)
    go_enter Try.func35, Try.ntmps35
    go_wp2
    go_ret
    exact ⟨by rw [hfin.out]; rfl, Below.refl _ _⟩
  · go_enter Try.func35, Try.ntmps35
    go_wp2
    go_loopw [1, 5] (fun l i wr => ∃ k : Nat, k ≤ xs.length ∧ i = .int .i64 k ∧ psum Atom.bulk xs k ≤ left - xs.length ∧ l = .int .i64 (left - xs.length - psum Atom.bulk xs k) ∧ Below w.heap.size w wr) (fun _ i _ => xs.length - (intOf i).toNat)
    case atStart => exact ⟨0, Nat.zero_le _, rfl, by rw [psum_zero]; omega, by rw [psum_zero]; go_num, Below.refl _ _⟩
    case round =>
      obtain ⟨k, hk, rfl, hs, rfl, hbr⟩ := hrel
      by_cases hlt : k < xs.length
      · obtain ⟨b, o, bk, es, rfl, hbl, hcl, hcell, hR, hbk⟩ := hel k hlt
        have hR0 := hR
        obtain ⟨hbk', hes, _⟩ := hR
        subst hes
        have c_0 := ((nxt hb hbr).cell (p := ⟨b, _, none⟩) hbl).trans (hcell 0 _ rfl)
        have c_1 := ((nxt hb hbr).cell (p := ⟨b, _, none⟩) hbl).trans (hcell 1 _ rfl)
        have c_2 := ((nxt hb hbr).cell (p := ⟨b, _, none⟩) hbl).trans (hcell 2 _ rfl)
        simp only [Nat.add_zero] at c_0 c_1 c_2
        clear hcell hel hcl
        have hp := psum_succ Atom.bulk xs k hlt
        have hp2 := psum_le Atom.bulk xs (k + 1)
        by_cases hneg2 : left - xs.length - psum Atom.bulk xs k - Atom.bulk xs[k] < 0
        · have H1 := hide (clip_neg hneg2)
          have H2 : Hid (clip (left - AtomS.bulk xs) = -1) := clip_neg (by unfold AtomS.bulk bulkL; omega)
          clear hp hp2
          go_wp2_with (go_at_call 52; refine (szAtom (nxt hb hbr) hR0 (by omega) (by omega)).mono ?_; rw [H1.out]; rintro e w1 ⟨rfl, hb1⟩)
          go_ret
          exact ⟨by rw [H2.out]; rfl, nxt hbr hb1⟩
        · have H1 := hide (clip_pos (Int.not_lt.1 hneg2))
          have hnn : 0 ≤ left - xs.length - psum Atom.bulk xs k - Atom.bulk xs[k] := by omega
          have H := hide hp
          clear hp hp2
          go_wp2_with (go_at_call 52; refine (szAtom (nxt hb hbr) hR0 (by omega) (by omega)).mono ?_; rw [H1.out]; rintro e w1 ⟨rfl, hb1⟩)
          go_roundw
          case rel => exact ⟨k + 1, hlt, by go_num, by rw [H.out]; omega, by rw [H.out]; go_num, nxt hbr hb1⟩
          case measure => simp [intOf]; omega
      · obtain rfl : k = xs.length := by omega
        rw [psum_all] at hs ⊢
        have H2 : Hid (clip (left - AtomS.bulk xs) = left - xs.length - (xs.map Atom.bulk).sum) := by show _ = _; unfold AtomS.bulk bulkL; rw [clip_pos (by omega)]; omega
        go_wp2
        go_ret
        exact ⟨by rw [H2.out]; rfl, hbr⟩
theorem szAtomSS {w0 w : World} (hb : Below w0.heap.size w0 w) {bs : List Nat} {v : Value} {xs : List (List Atom)} (ha : AtomSSR w0 bs [v] xs) {left : Int} (h0 : 0 ≤ left) (h1 : left ≤ 1048576) :
    Calls Try.prog 16 #[v, .int .i64 left] w fun e w' => e = .returned (.int .i64 (clip (left - AtomSS.bulk xs))) ∧ Below w.heap.size w w' := by
  obtain ⟨A, c, rfl, hlc, hcm, hel⟩ := ha.use
  by_cases hneg : left - xs.length < 0
  · have hfin : Hid (clip (left - AtomSS.bulk xs) = -1) := clip_neg (by unfold AtomSS.bulk bulkL; omega)
    go_enter Try.func16, Try.ntmps16
    go_wp2
    go_ret
    exact ⟨by rw [hfin.out]; rfl, Below.refl _ _⟩
  · go_enter Try.func16, Try.ntmps16
    go_wp2
    go_loopw [1, 5] (fun l i wr => ∃ k : Nat, k ≤ xs.length ∧ i = .int .i64 k ∧ psum AtomS.bulk xs k ≤ left - xs.length ∧ l = .int .i64 (left - xs.length - psum AtomS.bulk xs k) ∧ Below w.heap.size w wr) (fun _ i _ => xs.length - (intOf i).toNat)
    case atStart => exact ⟨0, Nat.zero_le _, rfl, by rw [psum_zero]; omega, by rw [psum_zero]; go_num, Below.refl _ _⟩
    case round =>
      obtain ⟨k, hk, rfl, hs, rfl, hbr⟩ := hrel
      by_cases hlt : k < xs.length
      · obtain ⟨b, o, bk, es, rfl, hbl, hcl, hcell, hR, hbk⟩ := hel k hlt
        have hR0 := hR
        obtain ⟨A0, c0, rfl⟩ : ∃ A0 c0, es = [.slice A0 xs[k].length c0] := by obtain ⟨A0, c0, h, _⟩ := hR; exact ⟨A0, c0, h⟩
        obtain ⟨A0', c0', he, _, _, _⟩ := hR.use
        clear he
        have c_0 := ((nxt hb hbr).cell (p := ⟨b, _, none⟩) hbl).trans (hcell 0 _ rfl)
        simp only [Nat.add_zero, Nat.mul_one] at c_0
        clear hcell hel hcl
        have hp := psum_succ AtomS.bulk xs k hlt
        have hp2 := psum_le AtomS.bulk xs (k + 1)
        by_cases hneg2 : left - xs.length - psum AtomS.bulk xs k - AtomS.bulk xs[k] < 0
        · have H1 := hide (clip_neg hneg2)
          have H2 : Hid (clip (left - AtomSS.bulk xs) = -1) := clip_neg (by unfold AtomSS.bulk bulkL; omega)
          clear hp hp2
          go_wp2_with (go_at_call 35; refine (szAtomS (nxt hb hbr) hR0 (by omega) (by omega)).mono ?_; rw [H1.out]; rintro e w1 ⟨rfl, hb1⟩)
          go_ret
          exact ⟨by rw [H2.out]; rfl, nxt hbr hb1⟩
        · have H1 := hide (clip_pos (Int.not_lt.1 hneg2))
          have hnn : 0 ≤ left - xs.length - psum AtomS.bulk xs k - AtomS.bulk xs[k] := by omega
          have H := hide hp
          clear hp hp2
          go_wp2_with (go_at_call 35; refine (szAtomS (nxt hb hbr) hR0 (by omega) (by omega)).mono ?_; rw [H1.out]; rintro e w1 ⟨rfl, hb1⟩)
          go_roundw
          case rel => exact ⟨k + 1, hlt, by go_num, by rw [H.out]; omega, by rw [H.out]; go_num, nxt hbr hb1⟩
          case measure => simp [intOf]; omega
      · obtain rfl : k = xs.length := by omega
        rw [psum_all] at hs ⊢
        have H2 : Hid (clip (left - AtomSS.bulk xs) = left - xs.length - (xs.map AtomS.bulk).sum) := by show _ = _; unfold AtomSS.bulk bulkL; rw [clip_pos (by omega)]; omega
        go_wp2
        go_ret
        exact ⟨by rw [H2.out]; rfl, hbr⟩
theorem szRow {w0 w : World} (hb : Below w0.heap.size w0 w) {bs : List Nat} {cs : List Value} {a : Row} (ha : RowR w0 bs cs a) {left : Int} (h0 : 0 ≤ left) (h1 : left ≤ 1048576) :
    Calls Try.prog 5 #[.agg cs.toArray, .int .i64 left] w fun e w' => e = .returned (.int .i64 (clip (left - Row.bulk a))) ∧ Below w.heap.size w w' := by
  obtain ⟨v1, b1, rfl, rfl, hf, r1⟩ := ha
  clear hf
  obtain ⟨A1, c1, rfl, _, _, _⟩ := r1.use
  by_cases n1 : left - (AtomSS.bulk a.cells : Int) < 0
  · have hr : Hid (clip (left - Row.bulk a) = -1) := clip_neg (by unfold Row.bulk; omega)
    go_enter Try.func5, Try.ntmps5
    go_wp2_with (first | (go_at_call 16; refine (szAtomSS (hb.alloc hb.size _) r1 (by omega) (by omega)).mono ?_; rw [clip_neg (by omega)]; rintro e w1 ⟨rfl, hb1⟩; have q1 := box_at hb1))
    go_ret
    exact ⟨by rw [hr.out]; rfl, (nxt ((Below.refl _ _).alloc (Nat.le_refl _) _) hb1)⟩
  have hr : Hid (clip (left - Row.bulk a) = left - (AtomSS.bulk a.cells : Int)) := by show _ = _; rw [clip_pos (by unfold Row.bulk; omega)]; unfold Row.bulk; omega
  go_enter Try.func5, Try.ntmps5
  go_wp2_with (first | (go_at_call 16; refine (szAtomSS (hb.alloc hb.size _) r1 (by omega) (by omega)).mono ?_; rw [clip_pos (by omega)]; rintro e w1 ⟨rfl, hb1⟩; have q1 := box_at hb1))
  go_ret
  exact ⟨by rw [hr.out]; rfl, (nxt ((Below.refl _ _).alloc (Nat.le_refl _) _) hb1)⟩
theorem szRowS {w0 w : World} (hb : Below w0.heap.size w0 w) {bs : List Nat} {v : Value} {xs : List Row} (ha : RowSR w0 bs [v] xs) {left : Int} (h0 : 0 ≤ left) (h1 : left ≤ 1048576) :
    Calls Try.prog 34 #[v, .int .i64 left] w fun e w' => e = .returned (.int .i64 (clip (left - RowS.bulk xs))) ∧ Below w.heap.size w w' := by
  obtain ⟨A, c, rfl, hlc, hcm, hel⟩ := ha.use
  by_cases hneg : left - xs.length < 0
  · have hfin : Hid (clip (left - RowS.bulk xs) = -1) := clip_neg (by unfold RowS.bulk bulkL; omega)
    go_enter Try.func34, Try.ntmps34
    go_wp2
    go_ret
    exact ⟨by rw [hfin.out]; rfl, Below.refl _ _⟩
  · go_enter Try.func34, Try.ntmps34
    go_wp2
    go_loopw [1, 5] (fun l i wr => ∃ k : Nat, k ≤ xs.length ∧ i = .int .i64 k ∧ psum Row.bulk xs k ≤ left - xs.length ∧ l = .int .i64 (left - xs.length - psum Row.bulk xs k) ∧ Below w.heap.size w wr) (fun _ i _ => xs.length - (intOf i).toNat)
    case atStart => exact ⟨0, Nat.zero_le _, rfl, by rw [psum_zero]; omega, by rw [psum_zero]; go_num, Below.refl _ _⟩
    case round =>
      obtain ⟨k, hk, rfl, hs, rfl, hbr⟩ := hrel
      by_cases hlt : k < xs.length
      · obtain ⟨b, o, bk, es, rfl, hbl, hcl, hcell, hR, hbk⟩ := hel k hlt
        have hR0 := hR
        obtain ⟨v1, b1, hbk', hes, _, r1⟩ := hR
        subst hes
        obtain ⟨A1, c1, rfl, _, _, _⟩ := r1.use
        have c_0 := ((nxt hb hbr).cell (p := ⟨b, _, none⟩) hbl).trans (hcell 0 _ rfl)
        have c_1 := ((nxt hb hbr).cell (p := ⟨b, _, none⟩) hbl).trans (hcell 1 _ rfl)
        simp only [Nat.add_zero] at c_0 c_1
        clear hcell hel hcl
        have hp := psum_succ Row.bulk xs k hlt
        have hp2 := psum_le Row.bulk xs (k + 1)
        by_cases hneg2 : left - xs.length - psum Row.bulk xs k - Row.bulk xs[k] < 0
        · have H1 := hide (clip_neg hneg2)
          have H2 : Hid (clip (left - RowS.bulk xs) = -1) := clip_neg (by unfold RowS.bulk bulkL; omega)
          clear hp hp2
          go_wp2_with (go_at_call 5; refine (szRow (nxt hb hbr) hR0 (by omega) (by omega)).mono ?_; rw [H1.out]; rintro e w1 ⟨rfl, hb1⟩)
          go_ret
          exact ⟨by rw [H2.out]; rfl, nxt hbr hb1⟩
        · have H1 := hide (clip_pos (Int.not_lt.1 hneg2))
          have hnn : 0 ≤ left - xs.length - psum Row.bulk xs k - Row.bulk xs[k] := by omega
          have H := hide hp
          clear hp hp2
          go_wp2_with (go_at_call 5; refine (szRow (nxt hb hbr) hR0 (by omega) (by omega)).mono ?_; rw [H1.out]; rintro e w1 ⟨rfl, hb1⟩)
          go_roundw
          case rel => exact ⟨k + 1, hlt, by go_num, by rw [H.out]; omega, by rw [H.out]; go_num, nxt hbr hb1⟩
          case measure => simp [intOf]; omega
      · obtain rfl : k = xs.length := by omega
        rw [psum_all] at hs ⊢
        have H2 : Hid (clip (left - RowS.bulk xs) = left - xs.length - (xs.map Row.bulk).sum) := by show _ = _; unfold RowS.bulk bulkL; rw [clip_pos (by omega)]; omega
        go_wp2
        go_ret
        exact ⟨by rw [H2.out]; rfl, hbr⟩
theorem szRowSS {w0 w : World} (hb : Below w0.heap.size w0 w) {bs : List Nat} {v : Value} {xs : List (List Row)} (ha : RowSSR w0 bs [v] xs) {left : Int} (h0 : 0 ≤ left) (h1 : left ≤ 1048576) :
    Calls Try.prog 15 #[v, .int .i64 left] w fun e w' => e = .returned (.int .i64 (clip (left - RowSS.bulk xs))) ∧ Below w.heap.size w w' := by
  obtain ⟨A, c, rfl, hlc, hcm, hel⟩ := ha.use
  by_cases hneg : left - xs.length < 0
  · have hfin : Hid (clip (left - RowSS.bulk xs) = -1) := clip_neg (by unfold RowSS.bulk bulkL; omega)
    go_enter Try.func15, Try.ntmps15
    go_wp2
    go_ret
    exact ⟨by rw [hfin.out]; rfl, Below.refl _ _⟩
  · go_enter Try.func15, Try.ntmps15
    go_wp2
    go_loopw [1, 5] (fun l i wr => ∃ k : Nat, k ≤ xs.length ∧ i = .int .i64 k ∧ psum RowS.bulk xs k ≤ left - xs.length ∧ l = .int .i64 (left - xs.length - psum RowS.bulk xs k) ∧ Below w.heap.size w wr) (fun _ i _ => xs.length - (intOf i).toNat)
    case atStart => exact ⟨0, Nat.zero_le _, rfl, by rw [psum_zero]; omega, by rw [psum_zero]; go_num, Below.refl _ _⟩
    case round =>
      obtain ⟨k, hk, rfl, hs, rfl, hbr⟩ := hrel
      by_cases hlt : k < xs.length
      · obtain ⟨b, o, bk, es, rfl, hbl, hcl, hcell, hR, hbk⟩ := hel k hlt
        have hR0 := hR
        obtain ⟨A0, c0, rfl⟩ : ∃ A0 c0, es = [.slice A0 xs[k].length c0] := by obtain ⟨A0, c0, h, _⟩ := hR; exact ⟨A0, c0, h⟩
        obtain ⟨A0', c0', he, _, _, _⟩ := hR.use
        clear he
        have c_0 := ((nxt hb hbr).cell (p := ⟨b, _, none⟩) hbl).trans (hcell 0 _ rfl)
        simp only [Nat.add_zero, Nat.mul_one] at c_0
        clear hcell hel hcl
        have hp := psum_succ RowS.bulk xs k hlt
        have hp2 := psum_le RowS.bulk xs (k + 1)
        by_cases hneg2 : left - xs.length - psum RowS.bulk xs k - RowS.bulk xs[k] < 0
        · have H1 := hide (clip_neg hneg2)
          have H2 : Hid (clip (left - RowSS.bulk xs) = -1) := clip_neg (by unfold RowSS.bulk bulkL; omega)
          clear hp hp2
          go_wp2_with (go_at_call 34; refine (szRowS (nxt hb hbr) hR0 (by omega) (by omega)).mono ?_; rw [H1.out]; rintro e w1 ⟨rfl, hb1⟩)
          go_ret
          exact ⟨by rw [H2.out]; rfl, nxt hbr hb1⟩
        · have H1 := hide (clip_pos (Int.not_lt.1 hneg2))
          have hnn : 0 ≤ left - xs.length - psum RowS.bulk xs k - RowS.bulk xs[k] := by omega
          have H := hide hp
          clear hp hp2
          go_wp2_with (go_at_call 34; refine (szRowS (nxt hb hbr) hR0 (by omega) (by omega)).mono ?_; rw [H1.out]; rintro e w1 ⟨rfl, hb1⟩)
          go_roundw
          case rel => exact ⟨k + 1, hlt, by go_num, by rw [H.out]; omega, by rw [H.out]; go_num, nxt hbr hb1⟩
          case measure => simp [intOf]; omega
      · obtain rfl : k = xs.length := by omega
        rw [psum_all] at hs ⊢
        have H2 : Hid (clip (left - RowSS.bulk xs) = left - xs.length - (xs.map RowS.bulk).sum) := by show _ = _; unfold RowSS.bulk bulkL; rw [clip_pos (by omega)]; omega
        go_wp2
        go_ret
        exact ⟨by rw [H2.out]; rfl, hbr⟩
theorem szStore {w0 w : World} (hb : Below w0.heap.size w0 w) {bs : List Nat} {cs : List Value} {a : Store} (ha : StoreR w0 bs cs a) {left : Int} (h0 : 0 ≤ left) (h1 : left ≤ 1048576) :
    Calls Try.prog 4 #[.agg cs.toArray, .int .i64 left] w fun e w' => e = .returned (.int .i64 (clip (left - Store.bulk a))) ∧ Below w.heap.size w w' := by
  obtain ⟨v0, b0, rfl, rfl, hf, r0⟩ := ha
  clear hf
  obtain ⟨A0, c0, rfl, _, _, _⟩ := r0.use
  by_cases n1 : left - (RowSS.bulk a.tables : Int) < 0
  · have hr : Hid (clip (left - Store.bulk a) = -1) := clip_neg (by unfold Store.bulk; omega)
    go_enter Try.func4, Try.ntmps4
    go_wp2_with (first | (go_at_call 15; refine (szRowSS (hb.alloc hb.size _) r0 (by omega) (by omega)).mono ?_; rw [clip_neg (by omega)]; rintro e w0 ⟨rfl, hb0⟩; have q0 := box_at hb0))
    go_ret
    exact ⟨by rw [hr.out]; rfl, (nxt ((Below.refl _ _).alloc (Nat.le_refl _) _) hb0)⟩
  have hr : Hid (clip (left - Store.bulk a) = left - (RowSS.bulk a.tables : Int)) := by show _ = _; rw [clip_pos (by unfold Store.bulk; omega)]; unfold Store.bulk; omega
  go_enter Try.func4, Try.ntmps4
  go_wp2_with (first | (go_at_call 15; refine (szRowSS (hb.alloc hb.size _) r0 (by omega) (by omega)).mono ?_; rw [clip_pos (by omega)]; rintro e w0 ⟨rfl, hb0⟩; have q0 := box_at hb0))
  go_ret
  exact ⟨by rw [hr.out]; rfl, (nxt ((Below.refl _ _).alloc (Nat.le_refl _) _) hb0)⟩
end Go.Proofs.Ytfkpllkgganejaa
