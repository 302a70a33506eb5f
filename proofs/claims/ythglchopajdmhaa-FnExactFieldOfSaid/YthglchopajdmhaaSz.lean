/- How much an argument holds: what the functions sz.. of package laws return. No statement is proved here; no conditions. Written by a program (gen.py). -/
import Derived.Test.YthglchopajdmhaaCodes
namespace Go.Proofs.Ythglchopajdmhaa
open Go.ChangeShapes Go.WideShapes Go.ChangeAt Go.RowKit Go.Deep
set_option maxRecDepth 100000
set_option linter.unusedVariables false

theorem szStringS {w0 w : World} (hb : Below w0.heap.size w0 w) {bs : List Nat} {v : Value} {xs : List ByteArray} (ha : StringSR w0 bs [v] xs) {left : Int} (h0 : 0 ≤ left) (h1 : left ≤ 1048576) :
    Calls Try.prog 43 #[v, .int .i64 left] w fun e w' => e = .returned (.int .i64 (clip (left - StringS.bulk xs))) ∧ Below w.heap.size w w' := by
  obtain ⟨A, c, rfl, hlc, hcm, hel⟩ := ha.use
  by_cases hneg : left - xs.length < 0
  · have hfin : Hid (clip (left - StringS.bulk xs) = -1) := clip_neg (by unfold StringS.bulk bulkL; omega)
    go_enter Try.func43, Try.ntmps43
    go_wp2
    go_ret
    exact ⟨by rw [hfin.out]; rfl, Below.refl _ _⟩
  · go_enter Try.func43, Try.ntmps43
    go_wp2
    go_loopw [1, 5] (fun l i wr => ∃ k : Nat, k ≤ xs.length ∧ i = .int .i64 k ∧ psum (fun s : ByteArray => s.size) xs k ≤ left - xs.length ∧ l = .int .i64 (left - xs.length - psum (fun s : ByteArray => s.size) xs k) ∧ Below w.heap.size w wr) (fun _ i _ => xs.length - (intOf i).toNat)
    case atStart => exact ⟨0, Nat.zero_le _, rfl, by rw [psum_zero]; omega, by rw [psum_zero]; go_num, Below.refl _ _⟩
    case round =>
      obtain ⟨k, hk, rfl, hs, rfl, hbr⟩ := hrel
      by_cases hlt : k < xs.length
      · obtain ⟨b, o, bk, es, rfl, hbl, hcl, hcell, hR, hbk⟩ := hel k hlt
        obtain ⟨hbk', hes, hsz⟩ := hR
        subst hes
        have c_0 := ((nxt hb hbr).cell (p := ⟨b, _, none⟩) hbl).trans (hcell 0 _ rfl)
        simp only [Nat.add_zero, Nat.mul_one] at c_0
        clear hcell hel hcl
        have hp := psum_succ (fun s : ByteArray => s.size) xs k hlt
        have hp2 := psum_le (fun s : ByteArray => s.size) xs (k + 1)
        by_cases hneg2 : left - xs.length - psum (fun s : ByteArray => s.size) xs k - xs[k].size < 0
        · have H2 : Hid (clip (left - StringS.bulk xs) = -1) := clip_neg (by unfold StringS.bulk bulkL; omega)
          clear hp hp2
          go_wp2
          go_ret
          exact ⟨by rw [H2.out]; rfl, hbr⟩
        · have H := hide hp
          clear hp hp2
          go_wp2
          go_roundw
          case rel => exact ⟨k + 1, hlt, by go_num, by rw [H.out]; omega, by rw [H.out]; go_num, hbr⟩
          case measure => simp [intOf]; omega
      · obtain rfl : k = xs.length := by omega
        rw [psum_all] at hs ⊢
        have H2 : Hid (clip (left - StringS.bulk xs) = left - xs.length - (xs.map (fun s : ByteArray => s.size)).sum) := by show _ = _; unfold StringS.bulk bulkL; rw [clip_pos (by omega)]; omega
        go_wp2
        go_ret
        exact ⟨by rw [H2.out]; rfl, hbr⟩
theorem szAtom {w0 w : World} (hb : Below w0.heap.size w0 w) {bs : List Nat} {cs : List Value} {a : Atom} (ha : AtomR w0 bs cs a) {left : Int} (h0 : 0 ≤ left) (h1 : left ≤ 1048576) :
    Calls Try.prog 65 #[.agg cs.toArray, .int .i64 left] w fun e w' => e = .returned (.int .i64 (clip (left - Atom.bulk a))) ∧ Below w.heap.size w w' := by
  obtain ⟨rfl, rfl, hf⟩ := ha
  have hs_t : a.t.size ≤ 9223372036854775807 := hf.2.2
  clear hf
  by_cases n1 : left - (a.t.size : Int) < 0
  · have hr : Hid (clip (left - Atom.bulk a) = -1) := clip_neg (by unfold Atom.bulk; omega)
    go_enter Try.func65, Try.ntmps65
    go_wp2
    go_ret
    exact ⟨by rw [hr.out]; rfl, ((Below.refl _ _).alloc (Nat.le_refl _) _)⟩
  have hr : Hid (clip (left - Atom.bulk a) = left - (a.t.size : Int)) := by show _ = _; rw [clip_pos (by unfold Atom.bulk; omega)]; unfold Atom.bulk; omega
  go_enter Try.func65, Try.ntmps65
  go_wp2
  go_ret
  exact ⟨by rw [hr.out]; rfl, ((Below.refl _ _).alloc (Nat.le_refl _) _)⟩
theorem szAtomS {w0 w : World} (hb : Below w0.heap.size w0 w) {bs : List Nat} {v : Value} {xs : List Atom} (ha : AtomSR w0 bs [v] xs) {left : Int} (h0 : 0 ≤ left) (h1 : left ≤ 1048576) :
    Calls Try.prog 26 #[v, .int .i64 left] w fun e w' => e = .returned (.int .i64 (clip (left - AtomS.bulk xs))) ∧ Below w.heap.size w w' := by
  obtain ⟨A, c, rfl, hlc, hcm, hel⟩ := ha.use
  by_cases hneg : left - xs.length < 0
  · have hfin : Hid (clip (left - AtomS.bulk xs) = -1) := clip_neg (by unfold AtomS.bulk bulkL; omega)
    go_enter Try.func26, Try.ntmps26
    go_wp2
    go_ret
    exact ⟨by rw [hfin.out]; rfl, Below.refl _ _⟩
  · go_enter Try.func26, Try.ntmps26
    go_wp2
    go_loopw [1, 5] (fun l i wr => ∃ k : Nat, k ≤ xs.length ∧ i = .int .i64 k ∧ psum Atom.bulk xs k ≤ left - xs.length ∧ l = .int .i64 (left - xs.length - psum Atom.bulk xs k) ∧ Below w.heap.size w wr) (fun _ i _ => xs.length - (intOf i).toNat)
    case atStart => exact ⟨0, Nat.zero_le _, rfl, by rw [psum_zero]; omega, by rw [psum_zero]; go_num, Below.refl _ _⟩
    case round =>
      obtain ⟨k, hk, rfl, hs, rfl, hbr⟩ := hrel
      by_cases hlt : k < xs.length
      · obtain ⟨b, o, bk, es, rfl, hbl, hcl, hcell, hR, hbk⟩ := hel k hlt
        have hR0 := hR
        obtain ⟨hbk', hes, _⟩ := hR
        subst hes
        have c_0 := ((nxt hb hbr).cell (p := ⟨b, _, none⟩) hbl).trans (hcell 0 _ rfl)
        have c_1 := ((nxt hb hbr).cell (p := ⟨b, _, none⟩) hbl).trans (hcell 1 _ rfl)
        have c_2 := ((nxt hb hbr).cell (p := ⟨b, _, none⟩) hbl).trans (hcell 2 _ rfl)
        simp only [Nat.add_zero] at c_0 c_1 c_2
        clear hcell hel hcl
        have hp := psum_succ Atom.bulk xs k hlt
        have hp2 := psum_le Atom.bulk xs (k + 1)
        by_cases hneg2 : left - xs.length - psum Atom.bulk xs k - Atom.bulk xs[k] < 0
        · have H1 := hide (clip_neg hneg2)
          have H2 : Hid (clip (left - AtomS.bulk xs) = -1) := clip_neg (by unfold AtomS.bulk bulkL; omega)
          clear hp hp2
          go_wp2_with (go_at_call 65; refine (szAtom (nxt hb hbr) hR0 (by omega) (by omega)).mono ?_; rw [H1.out]; rintro e w1 ⟨rfl, hb1⟩)
          go_ret
          exact ⟨by rw [H2.out]; rfl, nxt hbr hb1⟩
        · have H1 := hide (clip_pos (Int.not_lt.1 hneg2))
          have hnn : 0 ≤ left - xs.length - psum Atom.bulk xs k - Atom.bulk xs[k] := by omega
          have H := hide hp
          clear hp hp2
          go_wp2_with (go_at_call 65; refine (szAtom (nxt hb hbr) hR0 (by omega) (by omega)).mono ?_; rw [H1.out]; rintro e w1 ⟨rfl, hb1⟩)
          go_roundw
          case rel => exact ⟨k + 1, hlt, by go_num, by rw [H.out]; omega, by rw [H.out]; go_num, nxt hbr hb1⟩
          case measure => simp [intOf]; omega
      · obtain rfl : k = xs.length := by omega
        rw [psum_all] at hs ⊢
        have H2 : Hid (clip (left - AtomS.bulk xs) = left - xs.length - (xs.map Atom.bulk).sum) := by show _ = _; unfold AtomS.bulk bulkL; rw [clip_pos (by omega)]; omega
        go_wp2
        go_ret
        exact ⟨by rw [H2.out]; rfl, hbr⟩
theorem szColumn {w0 w : World} (hb : Below w0.heap.size w0 w) {bs : List Nat} {cs : List Value} {a : Column} (ha : ColumnR w0 bs cs a) {left : Int} (h0 : 0 ≤ left) (h1 : left ≤ 1048576) :
    Calls Try.prog 35 #[.agg cs.toArray, .int .i64 left] w fun e w' => e = .returned (.int .i64 (clip (left - Column.bulk a))) ∧ Below w.heap.size w w' := by
  obtain ⟨rfl, rfl, hf⟩ := ha
  have hs_name : a.name.size ≤ 9223372036854775807 := hf.1
  have hs_ref : a.ref.size ≤ 9223372036854775807 := hf.2.2.2.2.2.2
  clear hf
  by_cases n1 : left - (a.name.size : Int) < 0
  · have hr : Hid (clip (left - Column.bulk a) = -1) := clip_neg (by unfold Column.bulk; omega)
    go_enter Try.func35, Try.ntmps35
    go_wp2
    go_ret
    exact ⟨by rw [hr.out]; rfl, ((Below.refl _ _).alloc (Nat.le_refl _) _)⟩
  by_cases n2 : left - (a.name.size : Int) - (a.ref.size : Int) < 0
  · have hr : Hid (clip (left - Column.bulk a) = -1) := clip_neg (by unfold Column.bulk; omega)
    go_enter Try.func35, Try.ntmps35
    go_wp2
    go_ret
    exact ⟨by rw [hr.out]; rfl, ((Below.refl _ _).alloc (Nat.le_refl _) _)⟩
  have hr : Hid (clip (left - Column.bulk a) = left - (a.name.size : Int) - (a.ref.size : Int)) := by show _ = _; rw [clip_pos (by unfold Column.bulk; omega)]; unfold Column.bulk; omega
  go_enter Try.func35, Try.ntmps35
  go_wp2
  go_ret
  exact ⟨by rw [hr.out]; rfl, ((Below.refl _ _).alloc (Nat.le_refl _) _)⟩
theorem szMut {w0 w : World} (hb : Below w0.heap.size w0 w) {bs : List Nat} {cs : List Value} {a : Mut} (ha : MutR w0 bs cs a) {left : Int} (h0 : 0 ≤ left) (h1 : left ≤ 1048576) :
    Calls Try.prog 36 #[.agg cs.toArray, .int .i64 left] w fun e w' => e = .returned (.int .i64 (clip (left - Mut.bulk a))) ∧ Below w.heap.size w w' := by
  obtain ⟨v2, b2, rfl, rfl, hf, r2⟩ := ha
  have hs_column : a.column.size ≤ 9223372036854775807 := hf.1
  clear hf
  obtain ⟨A2, c2, rfl, _, _, _⟩ := r2.use
  by_cases n1 : left - (a.column.size : Int) < 0
  · have hr : Hid (clip (left - Mut.bulk a) = -1) := clip_neg (by unfold Mut.bulk; omega)
    go_enter Try.func36, Try.ntmps36
    go_wp2
    go_ret
    exact ⟨by rw [hr.out]; rfl, ((Below.refl _ _).alloc (Nat.le_refl _) _)⟩
  by_cases n2 : left - (a.column.size : Int) - (AtomS.bulk a.value : Int) < 0
  · have hr : Hid (clip (left - Mut.bulk a) = -1) := clip_neg (by unfold Mut.bulk; omega)
    go_enter Try.func36, Try.ntmps36
    go_wp2_with (first | (go_at_call 26; refine (szAtomS (hb.alloc hb.size _) r2 (by omega) (by omega)).mono ?_; rw [clip_neg (by omega)]; rintro e w2 ⟨rfl, hb2⟩; have q2 := box_at hb2))
    go_ret
    exact ⟨by rw [hr.out]; rfl, (nxt ((Below.refl _ _).alloc (Nat.le_refl _) _) hb2)⟩
  have hr : Hid (clip (left - Mut.bulk a) = left - (a.column.size : Int) - (AtomS.bulk a.value : Int)) := by show _ = _; rw [clip_pos (by unfold Mut.bulk; omega)]; unfold Mut.bulk; omega
  go_enter Try.func36, Try.ntmps36
  go_wp2_with (first | (go_at_call 26; refine (szAtomS (hb.alloc hb.size _) r2 (by omega) (by omega)).mono ?_; rw [clip_pos (by omega)]; rintro e w2 ⟨rfl, hb2⟩; have q2 := box_at hb2))
  go_ret
  exact ⟨by rw [hr.out]; rfl, (nxt ((Below.refl _ _).alloc (Nat.le_refl _) _) hb2)⟩
end Go.Proofs.Ythglchopajdmhaa
