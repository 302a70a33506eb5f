/- Arguments as the program takes them: what the functions to.. of package laws return. No statement is proved here; no conditions. Written by a program (gen.py). -/
import Derived.Test.YthglchopajdmhaaGreatOwn
namespace Go.Proofs.YthglchopajdmhaaGreat
open Go.ChangeShapes Go.WideShapes Go.ChangeAt Go.RowKit Go.Deep
set_option maxRecDepth 100000
set_option linter.unusedVariables false

section
variable {α : Type}
/-- A struct in new memory, read as the datum. -/
def ToP (R : Rd α) (w : World) (a : α) (e : Ending) (w' : World) : Prop := ∃ cs bs, e = .returned (.agg cs.toArray) ∧ R w' bs cs a ∧ Fr w.heap.size w' bs ∧ Below w.heap.size w w'
/-- A slice in new memory, read as the datum. -/
def ToS (R : Rd α) (w : World) (a : α) (e : Ending) (w' : World) : Prop := ∃ v bs, e = .returned v ∧ R w' bs [v] a ∧ Fr w.heap.size w' bs ∧ Below w.heap.size w w'
end

theorem IntS.info : (Tryz.prog.info? 3).map (fun i => (i.zero, i.size, i.bytes)) = some (some (.int .i64 0), 1, 8) := by kernel_rfl
theorem toIntS {w0 w : World} (hb : Below w0.heap.size w0 w) {bs : List Nat} {v : Value} {xs : List Int} (ha : IntSR w0 bs [v] xs) (hbk : IntS.bulk xs ≤ 1048576) :
    Calls Tryz.prog 28 #[v] w (ToS IntSR w xs) := by
  obtain ⟨A, c, rfl, hlc, hcm, hel⟩ := ha.use
  have hn : xs.length ≤ 1048576 := by unfold IntS.bulk at hbk; omega
  obtain ⟨cur0, hcs, hmk⟩ := make_row (P := Tryz.prog) (t := 23) Tryz.underlying23 IntS.info xs.length (by omega) (by omega)
  have hB0 := hide (Bld.start (R := IntR) (e := 3) w xs hcs)
  clear hcs hbk
  go_enter Tryz.func28, Tryz.ntmps28
  go_wp2
  go_loopw [4] (fun i wr => ∃ k : Nat, k ≤ xs.length ∧ i = .int .i64 k ∧ Hid (Bld 1 IntR 3 wr w.heap.size xs k) ∧ Below w.heap.size w wr) (fun i _ => xs.length - (intOf i).toNat)
  case atStart => exact ⟨0, Nat.zero_le _, rfl, hB0, (Below.refl _ _).alloc (Nat.le_refl _) _⟩
  case round =>
    clear hmk hB0
    obtain ⟨k, hk, rfl, hB, hbr⟩ := hrel
    by_cases hlt : k < xs.length
    · obtain ⟨b, o, bk, es, rfl, hbl, hcl, hcell, hR, _⟩ := hel k hlt
      have hR0 := hR
      obtain ⟨hbk', hes, hsz⟩ := hR
      subst hes
      have c_0 := ((nxt hb hbr).cell (p := ⟨b, _, none⟩) hbl).trans (hcell 0 _ rfl)
      simp only [Nat.add_zero, Nat.mul_one] at c_0
      clear hcell hel hcl
      have hco := hB.out.cells (Below.refl _ _) hlt
      obtain ⟨u0, s_0⟩ := hco.1 0 (by omega); simp only [Nat.add_zero, Nat.mul_one] at s_0; have fz := hco.2
      clear hco
      go_wp2
      go_roundw
      case rel => exact ⟨k + 1, hlt, by go_num, hide (by have h := hB.out.step IntR.good (Below.refl _ _) hlt (IntR.good.nxt (nxt hb hbr) hR0) rfl (by rw [hbk']; exact Fr.nil _ _); rw [setMany_1, Nat.mul_one] at h; exact h), (hbr.setCell (Nat.le_refl _) _)⟩
      case measure => simp [intOf]; omega
    · obtain rfl : k = xs.length := by omega
      have hd := hide (hB.out.done (by omega))
      go_wp2
      go_ret
      obtain ⟨bs', h1, h2⟩ := hd.out
      exact ⟨_, bs', rfl, h1, h2, hbr⟩
theorem toAtom {w0 w : World} {bs : List Nat} {cs : List Value} {a : Atom} (ha : AtomR w0 bs cs a) :
    Calls Tryz.prog 80 #[.agg cs.toArray] w fun e w' => e = .returned (.agg #[.int .i64 a.kind, .int .i64 a.n, .string a.t]) ∧ Below w.heap.size w w' := by
  obtain ⟨rfl, rfl, hf⟩ := ha
  go_enter Tryz.func80, Tryz.ntmps80
  go_wp2
  exact bodyPost_ret (v := .agg #[.int .i64 a.kind, .int .i64 a.n, .string a.t]) (by simp [results, Tryz.results80, go_sem]) rfl ⟨rfl, (((Below.refl _ _).alloc (Nat.le_refl _) _).alloc (by simp) _).alloc (by simp; omega) _⟩
theorem AtomS.info : (Tryz.prog.info? 98).map (fun i => (i.zero, i.size, i.bytes)) = some (some (.agg #[.int .i64 0, .int .i64 0, .string ⟨#[]⟩]), 3, 32) := by kernel_rfl
theorem toAtomS {w0 w : World} (hb : Below w0.heap.size w0 w) {bs : List Nat} {v : Value} {xs : List Atom} (ha : AtomSR w0 bs [v] xs) (hbk : AtomS.bulk xs ≤ 1048576) :
    Calls Tryz.prog 56 #[v] w (ToS AtomSR w xs) := by
  obtain ⟨A, c, rfl, hlc, hcm, hel⟩ := ha.use
  have hn : xs.length ≤ 1048576 := by unfold AtomS.bulk bulkL at hbk; omega
  obtain ⟨cur0, hcs, hmk⟩ := make_row (P := Tryz.prog) (t := 65) Tryz.underlying65 AtomS.info xs.length (by omega) (by omega)
  have hB0 := hide (Bld.start (R := AtomR) (e := 98) w xs hcs)
  clear hcs hbk
  go_enter Tryz.func56, Tryz.ntmps56
  go_wp2
  go_loopw [4] (fun i wr => ∃ k : Nat, k ≤ xs.length ∧ i = .int .i64 k ∧ Hid (Bld 3 AtomR 98 wr w.heap.size xs k) ∧ Below w.heap.size w wr) (fun i _ => xs.length - (intOf i).toNat)
  case atStart => exact ⟨0, Nat.zero_le _, rfl, hB0, (Below.refl _ _).alloc (Nat.le_refl _) _⟩
  case round =>
    clear hmk hB0
    obtain ⟨k, hk, rfl, hB, hbr⟩ := hrel
    by_cases hlt : k < xs.length
    · obtain ⟨b, o, bk, es, rfl, hbl, hcl, hcell, hR, _⟩ := hel k hlt
      have hR0 := hR
      obtain ⟨hbk', hes, _⟩ := hR
      subst hes
      have c_0 := ((nxt hb hbr).cell (p := ⟨b, _, none⟩) hbl).trans (hcell 0 _ rfl)
      have c_1 := ((nxt hb hbr).cell (p := ⟨b, _, none⟩) hbl).trans (hcell 1 _ rfl)
      have c_2 := ((nxt hb hbr).cell (p := ⟨b, _, none⟩) hbl).trans (hcell 2 _ rfl)
      simp only [Nat.add_zero] at c_0 c_1 c_2
      clear hcell hel hcl
      go_wp2_with (go_at_call 80; refine (toAtom hR0).mono ?_; rintro e w1 ⟨rfl, hb1⟩; have hco := hB.out.cells hb1 hlt; obtain ⟨u0, s_0⟩ := hco.1 0 (by omega); obtain ⟨u1, s_1⟩ := hco.1 1 (by omega); obtain ⟨u2, s_2⟩ := hco.1 2 (by omega); simp only [Nat.add_zero] at s_0 s_1 s_2; have fz := hco.2; clear hco)
      go_roundw
      case rel => exact ⟨k + 1, hlt, by go_num, hide (by have h := hB.out.step AtomR.good hb1 hlt ⟨rfl, rfl, hR0.2.2⟩ rfl (Fr.nil _ _); rw [setMany_3] at h; exact h), ((((nxt hbr hb1).setCell (Nat.le_refl _) _).setCell (Nat.le_refl _) _).setCell (Nat.le_refl _) _)⟩
      case measure => simp [intOf]; omega
    · obtain rfl : k = xs.length := by omega
      have hd := hide (hB.out.done (by omega))
      go_wp2
      go_ret
      obtain ⟨bs', h1, h2⟩ := hd.out
      exact ⟨_, bs', rfl, h1, h2, hbr⟩
theorem AtomSS.info : (Tryz.prog.info? 65).map (fun i => (i.zero, i.size, i.bytes)) = some (some (.slice none 0 0), 1, 24) := by kernel_rfl
theorem toAtomSS {w0 w : World} (hb : Below w0.heap.size w0 w) {bs : List Nat} {v : Value} {xs : List (List Atom)} (ha : AtomSSR w0 bs [v] xs) (hbk : AtomSS.bulk xs ≤ 1048576) :
    Calls Tryz.prog 29 #[v] w (ToS AtomSSR w xs) := by
  obtain ⟨A, c, rfl, hlc, hcm, hel⟩ := ha.use
  have hn : xs.length ≤ 1048576 := by unfold AtomSS.bulk bulkL at hbk; omega
  have hbe : ∀ k (hk : k < xs.length), AtomS.bulk xs[k] ≤ 1048576 := fun k hk => by
    have h1 := psum_succ AtomS.bulk xs k hk
    have h2 := psum_le AtomS.bulk xs (k + 1)
    unfold AtomSS.bulk bulkL at hbk; omega
  obtain ⟨cur0, hcs, hmk⟩ := make_row (P := Tryz.prog) (t := 33) Tryz.underlying33 AtomSS.info xs.length (by omega) (by omega)
  have hB0 := hide (Bld.start (R := AtomSR) (e := 65) w xs hcs)
  clear hcs hbk
  go_enter Tryz.func29, Tryz.ntmps29
  go_wp2
  go_loopw [4] (fun i wr => ∃ k : Nat, k ≤ xs.length ∧ i = .int .i64 k ∧ Hid (Bld 1 AtomSR 65 wr w.heap.size xs k) ∧ Below w.heap.size w wr) (fun i _ => xs.length - (intOf i).toNat)
  case atStart => exact ⟨0, Nat.zero_le _, rfl, hB0, (Below.refl _ _).alloc (Nat.le_refl _) _⟩
  case round =>
    clear hmk hB0
    obtain ⟨k, hk, rfl, hB, hbr⟩ := hrel
    by_cases hlt : k < xs.length
    · obtain ⟨b, o, bk, es, rfl, hbl, hcl, hcell, hR, _⟩ := hel k hlt
      have hR0 := hR
      obtain ⟨A0, c0, rfl⟩ : ∃ A0 c0, es = [.slice A0 xs[k].length c0] := by obtain ⟨A0, c0, h, _⟩ := hR; exact ⟨A0, c0, h⟩
      have c_0 := ((nxt hb hbr).cell (p := ⟨b, _, none⟩) hbl).trans (hcell 0 _ rfl)
      simp only [Nat.add_zero, Nat.mul_one] at c_0
      clear hcell hel hcl
      go_wp2_with (go_at_call 56; refine (toAtomS (nxt hb hbr) hR0 (hbe k hlt)).mono ?_; rintro e w1 ⟨v1, bs1, rfl, hR1, hF1, hb1⟩; obtain ⟨D0, d0, rfl, _, _, _⟩ := hR1.use; have hco := hB.out.cells hb1 hlt; obtain ⟨u0, s_0⟩ := hco.1 0 (by omega); simp only [Nat.add_zero, Nat.mul_one] at s_0; have fz := hco.2; clear hco)
      go_roundw
      case rel => exact ⟨k + 1, hlt, by go_num, hide (by have h := hB.out.step AtomSR.good hb1 hlt hR1 rfl hF1; rw [setMany_1, Nat.mul_one] at h; exact h), ((nxt hbr hb1).setCell (Nat.le_refl _) _)⟩
      case measure => simp [intOf]; omega
    · obtain rfl : k = xs.length := by omega
      have hd := hide (hB.out.done (by omega))
      go_wp2
      go_ret
      obtain ⟨bs', h1, h2⟩ := hd.out
      exact ⟨_, bs', rfl, h1, h2, hbr⟩
theorem toColumn {w0 w : World} {bs : List Nat} {cs : List Value} {a : Column} (ha : ColumnR w0 bs cs a) :
    Calls Tryz.prog 55 #[.agg cs.toArray] w fun e w' => e = .returned (.agg #[.string a.name, .int .i64 a.kind, .int .i64 a.min, .int .i64 a.max, .int .i64 a.low, .int .i64 a.high, .string a.ref, .bool a.strong]) ∧ Below w.heap.size w w' := by
  obtain ⟨rfl, rfl, hf⟩ := ha
  go_enter Tryz.func55, Tryz.ntmps55
  go_wp2
  exact bodyPost_ret (v := .agg #[.string a.name, .int .i64 a.kind, .int .i64 a.min, .int .i64 a.max, .int .i64 a.low, .int .i64 a.high, .string a.ref, .bool a.strong]) (by simp [results, Tryz.results55, go_sem]) rfl ⟨rfl, (((Below.refl _ _).alloc (Nat.le_refl _) _).alloc (by simp) _).alloc (by simp; omega) _⟩
theorem ColumnS.info : (Tryz.prog.info? 88).map (fun i => (i.zero, i.size, i.bytes)) = some (some (.agg #[.string ⟨#[]⟩, .int .i64 0, .int .i64 0, .int .i64 0, .int .i64 0, .int .i64 0, .string ⟨#[]⟩, .bool false]), 8, 80) := by kernel_rfl
theorem toColumnS {w0 w : World} (hb : Below w0.heap.size w0 w) {bs : List Nat} {v : Value} {xs : List Column} (ha : ColumnSR w0 bs [v] xs) (hbk : ColumnS.bulk xs ≤ 1048576) :
    Calls Tryz.prog 27 #[v] w (ToS ColumnSR w xs) := by
  obtain ⟨A, c, rfl, hlc, hcm, hel⟩ := ha.use
  have hn : xs.length ≤ 1048576 := by unfold ColumnS.bulk bulkL at hbk; omega
  obtain ⟨cur0, hcs, hmk⟩ := make_row (P := Tryz.prog) (t := 38) Tryz.underlying38 ColumnS.info xs.length (by omega) (by omega)
  have hB0 := hide (Bld.start (R := ColumnR) (e := 88) w xs hcs)
  clear hcs hbk
  go_enter Tryz.func27, Tryz.ntmps27
  go_wp2
  go_loopw [4] (fun i wr => ∃ k : Nat, k ≤ xs.length ∧ i = .int .i64 k ∧ Hid (Bld 8 ColumnR 88 wr w.heap.size xs k) ∧ Below w.heap.size w wr) (fun i _ => xs.length - (intOf i).toNat)
  case atStart => exact ⟨0, Nat.zero_le _, rfl, hB0, (Below.refl _ _).alloc (Nat.le_refl _) _⟩
  case round =>
    clear hmk hB0
    obtain ⟨k, hk, rfl, hB, hbr⟩ := hrel
    by_cases hlt : k < xs.length
    · obtain ⟨b, o, bk, es, rfl, hbl, hcl, hcell, hR, _⟩ := hel k hlt
      have hR0 := hR
      obtain ⟨hbk', hes, _⟩ := hR
      subst hes
      have c_0 := ((nxt hb hbr).cell (p := ⟨b, _, none⟩) hbl).trans (hcell 0 _ rfl)
      have c_1 := ((nxt hb hbr).cell (p := ⟨b, _, none⟩) hbl).trans (hcell 1 _ rfl)
      have c_2 := ((nxt hb hbr).cell (p := ⟨b, _, none⟩) hbl).trans (hcell 2 _ rfl)
      have c_3 := ((nxt hb hbr).cell (p := ⟨b, _, none⟩) hbl).trans (hcell 3 _ rfl)
      have c_4 := ((nxt hb hbr).cell (p := ⟨b, _, none⟩) hbl).trans (hcell 4 _ rfl)
      have c_5 := ((nxt hb hbr).cell (p := ⟨b, _, none⟩) hbl).trans (hcell 5 _ rfl)
      have c_6 := ((nxt hb hbr).cell (p := ⟨b, _, none⟩) hbl).trans (hcell 6 _ rfl)
      have c_7 := ((nxt hb hbr).cell (p := ⟨b, _, none⟩) hbl).trans (hcell 7 _ rfl)
      simp only [Nat.add_zero] at c_0 c_1 c_2 c_3 c_4 c_5 c_6 c_7
      clear hcell hel hcl
      go_wp2_with (go_at_call 55; refine (toColumn hR0).mono ?_; rintro e w1 ⟨rfl, hb1⟩; have hco := hB.out.cells hb1 hlt; obtain ⟨u0, s_0⟩ := hco.1 0 (by omega); obtain ⟨u1, s_1⟩ := hco.1 1 (by omega); obtain ⟨u2, s_2⟩ := hco.1 2 (by omega); obtain ⟨u3, s_3⟩ := hco.1 3 (by omega); obtain ⟨u4, s_4⟩ := hco.1 4 (by omega); obtain ⟨u5, s_5⟩ := hco.1 5 (by omega); obtain ⟨u6, s_6⟩ := hco.1 6 (by omega); obtain ⟨u7, s_7⟩ := hco.1 7 (by omega); simp only [Nat.add_zero] at s_0 s_1 s_2 s_3 s_4 s_5 s_6 s_7; have fz := hco.2; clear hco)
      go_roundw
      case rel => exact ⟨k + 1, hlt, by go_num, hide (by have h := hB.out.step ColumnR.good hb1 hlt ⟨rfl, rfl, hR0.2.2⟩ rfl (Fr.nil _ _); rw [setMany_8] at h; exact h), (((((((((nxt hbr hb1).setCell (Nat.le_refl _) _).setCell (Nat.le_refl _) _).setCell (Nat.le_refl _) _).setCell (Nat.le_refl _) _).setCell (Nat.le_refl _) _).setCell (Nat.le_refl _) _).setCell (Nat.le_refl _) _).setCell (Nat.le_refl _) _)⟩
      case measure => simp [intOf]; omega
    · obtain rfl : k = xs.length := by omega
      have hd := hide (hB.out.done (by omega))
      go_wp2
      go_ret
      obtain ⟨bs', h1, h2⟩ := hd.out
      exact ⟨_, bs', rfl, h1, h2, hbr⟩
theorem toTable {w0 w : World} (hb : Below w0.heap.size w0 w) {bs : List Nat} {cs : List Value} {a : Table} (ha : TableR w0 bs cs a) (hbk : Table.bulk a ≤ 1048576) :
    Calls Tryz.prog 8 #[.agg cs.toArray] w (ToP TableR w a) := by
  obtain ⟨v1, b1, v2, b2, rfl, rfl, hf, r1, r2⟩ := ha
  have hf0 := hf
  obtain ⟨A1, c1, rfl, _, _, _⟩ := r1.use
  have k1 : ColumnS.bulk a.columns ≤ 1048576 := by unfold Table.bulk at hbk; omega
  obtain ⟨A2, c2, rfl, _, _, _⟩ := r2.use
  have k2 : IntS.bulk a.unique ≤ 1048576 := by unfold Table.bulk at hbk; omega
  clear hf hbk
  go_enter Tryz.func8, Tryz.ntmps8
  go_wp2_with (first | (go_at_call 27; refine (toColumnS (((hb.alloc hb.size _).alloc (by have := hb.size; simp; omega) _).alloc (by have := hb.size; simp; omega) _) r1 k1).mono ?_; rintro e W1 ⟨x1, e1, rfl, s1, f1, hb1⟩; obtain ⟨D1, d1, rfl, _, _, _⟩ := s1.use; have B1 : Hid (W1.heap[w.heap.size]? = some (.cells #[.string a.name, .slice A1 a.columns.length c1, .slice A2 a.unique.length c2, .bool a.root] 25 (0, 0))) := blk_on (blk_old (blk_old (blk_new _ _ _) _) _) hb1; have R1 : Hid (W1.heap[(w.heap.size + 1)]? = some (.cells #[.string ⟨#[]⟩, .slice none 0 0, .slice none 0 0, .bool false] 40 (0, 0))) := blk_on (blk_old (by simpa using blk_new (w.alloc _) _ _) _) hb1; have O1 : Hid (W1.heap[(w.heap.size + 1 + 1)]? = some (.cells #[.string a.name, .slice none 0 0, .slice none 0 0, .bool false] 40 (0, 0))) := blk_on (by simpa using blk_new ((w.alloc _).alloc _) _ _) hb1; have pc1 := blk_cells B1.out; have qc1 := blk_cells R1.out; have qf1 := blk_free R1.out; have oc1 := blk_cells O1.out; have of1 := blk_free O1.out) | (go_at_call 28; refine (toIntS ((nxt (((hb.alloc hb.size _).alloc (by have := hb.size; simp; omega) _).alloc (by have := hb.size; simp; omega) _) hb1).setCell (p := ⟨(w.heap.size + 1 + 1), 1, none⟩) (by have := hb.size; simp; omega) _) r2 k2).mono ?_; rintro e W2 ⟨x2, e2, rfl, s2, f2, hb2⟩; obtain ⟨D2, d2, rfl, _, _, _⟩ := s2.use; have B2 : Hid (W2.heap[w.heap.size]? = some (.cells #[.string a.name, .slice A1 a.columns.length c1, .slice A2 a.unique.length c2, .bool a.root] 25 (0, 0))) := blk_on ((blk_far (p := ⟨(w.heap.size + 1 + 1), 1, none⟩) (by simp; try omega) _).trans (B1.out)) hb2; have R2 : Hid (W2.heap[(w.heap.size + 1)]? = some (.cells #[.string ⟨#[]⟩, .slice none 0 0, .slice none 0 0, .bool false] 40 (0, 0))) := blk_on ((blk_far (p := ⟨(w.heap.size + 1 + 1), 1, none⟩) (by simp; try omega) _).trans (R1.out)) hb2; have O2 : Hid (W2.heap[(w.heap.size + 1 + 1)]? = some (.cells #[.string a.name, .slice D1 a.columns.length d1, .slice none 0 0, .bool false] 40 (0, 0))) := blk_on (blk_set (O1.out) 1 _) hb2; have pc2 := blk_cells B2.out; have qc2 := blk_cells R2.out; have qf2 := blk_free R2.out; have oc2 := blk_cells O2.out; have of2 := blk_free O2.out; clear pc1 qc1 qf1 oc1 of1))
  have z1 := hb1.size
  simp at z1
  have z2 := hb2.size
  simp [World.setCell] at z2
  have fin : _ = some (Obj.cells #[.string a.name, .slice D1 a.columns.length d1, .slice D2 a.unique.length d2, .bool a.root] 40 (0, 0)) := blk_set (blk_set (blk_set (blk_set ((blk_far (p := ⟨(w.heap.size + 1 + 1), 3, none⟩) (by simp; try omega) (.bool a.root)).trans ((blk_far (p := ⟨(w.heap.size + 1 + 1), 2, none⟩) (by simp; try omega) (.slice D2 a.unique.length d2)).trans (R2.out))) 0 (.string a.name)) 1 (.slice D1 a.columns.length d1)) 2 (.slice D2 a.unique.length d2)) 3 (.bool a.root)
  have fc := blk_cells fin
  have a1 := (((((((((Away.refl (w.heap.size + 3) W1).set (p := ⟨(w.heap.size + 1 + 1), 1, none⟩) (by simp) (.slice D1 a.columns.length d1)).call hb2).set (p := ⟨(w.heap.size + 1 + 1), 2, none⟩) (by simp) (.slice D2 a.unique.length d2)).set (p := ⟨(w.heap.size + 1 + 1), 3, none⟩) (by simp) (.bool a.root)).set (p := ⟨w.heap.size + 1, 0, none⟩) (by simp) (.string a.name)).set (p := ⟨w.heap.size + 1, 1, none⟩) (by simp) (.slice D1 a.columns.length d1)).set (p := ⟨w.heap.size + 1, 2, none⟩) (by simp) (.slice D2 a.unique.length d2)).set (p := ⟨w.heap.size + 1, 3, none⟩) (by simp) (.bool a.root))
  have a2 := (((((((Away.refl (w.heap.size + 3) W2).set (p := ⟨(w.heap.size + 1 + 1), 2, none⟩) (by simp) (.slice D2 a.unique.length d2)).set (p := ⟨(w.heap.size + 1 + 1), 3, none⟩) (by simp) (.bool a.root)).set (p := ⟨w.heap.size + 1, 0, none⟩) (by simp) (.string a.name)).set (p := ⟨w.heap.size + 1, 1, none⟩) (by simp) (.slice D1 a.columns.length d1)).set (p := ⟨w.heap.size + 1, 2, none⟩) (by simp) (.slice D2 a.unique.length d2)).set (p := ⟨w.heap.size + 1, 3, none⟩) (by simp) (.bool a.root))
  refine bodyPost_ret (v := .agg #[.string a.name, .slice D1 a.columns.length d1, .slice D2 a.unique.length d2, .bool a.root]) (by simp [results, Tryz.results8, go_sem, fc]) rfl ⟨[.string a.name, .slice D1 a.columns.length d1, .slice D2 a.unique.length d2, .bool a.root], _, rfl, ⟨_, e1, _, e2, rfl, rfl, hf0, a1.rd ColumnSR.good s1 f1 (by simp; try omega), a2.rd IntSR.good s2 f2 (by simp; try omega)⟩, ?_, (((((((nxt' ((nxt' ((((Below.refl w.heap.size w).alloc (Nat.le_refl _) _).alloc (by simp) _).alloc (by simp; omega) _) hb1).setCell (p := ⟨(w.heap.size + 1 + 1), 1, none⟩) (by simp; try omega) _) hb2).setCell (p := ⟨(w.heap.size + 1 + 1), 2, none⟩) (by simp; try omega) _).setCell (p := ⟨(w.heap.size + 1 + 1), 3, none⟩) (by simp; try omega) _).setCell (p := ⟨w.heap.size + 1, 0, none⟩) (by simp) _).setCell (p := ⟨w.heap.size + 1, 1, none⟩) (by simp) _).setCell (p := ⟨w.heap.size + 1, 2, none⟩) (by simp) _).setCell (p := ⟨w.heap.size + 1, 3, none⟩) (by simp) _)⟩
  exact (Fr.append (mid := W1.heap.size) ((a1.fr f1 (by simp; try omega))) (((a2.fr f2 (by simp; try omega))).mono (by simp [World.setCell])) (by have := hb1.size; simp at this ⊢; omega) (fun b hm => f1.lt b hm)).mono (by simp; try omega)
theorem toRow {w0 w : World} (hb : Below w0.heap.size w0 w) {bs : List Nat} {cs : List Value} {a : Row} (ha : RowR w0 bs cs a) (hbk : Row.bulk a ≤ 1048576) :
    Calls Tryz.prog 9 #[.agg cs.toArray] w (ToP RowR w a) := by
  obtain ⟨v1, b1, rfl, rfl, hf, r1⟩ := ha
  have hf0 := hf
  obtain ⟨A1, c1, rfl, _, _, _⟩ := r1.use
  have k1 : AtomSS.bulk a.cells ≤ 1048576 := by unfold Row.bulk at hbk; omega
  clear hf hbk
  go_enter Tryz.func9, Tryz.ntmps9
  go_wp2_with (first | (go_at_call 29; refine (toAtomSS (((hb.alloc hb.size _).alloc (by have := hb.size; simp; omega) _).alloc (by have := hb.size; simp; omega) _) r1 k1).mono ?_; rintro e W1 ⟨x1, e1, rfl, s1, f1, hb1⟩; obtain ⟨D1, d1, rfl, _, _, _⟩ := s1.use; have B1 : Hid (W1.heap[w.heap.size]? = some (.cells #[.int .i64 a.id, .slice A1 a.cells.length c1] 28 (0, 0))) := blk_on (blk_old (blk_old (blk_new _ _ _) _) _) hb1; have R1 : Hid (W1.heap[(w.heap.size + 1)]? = some (.cells #[.int .i64 0, .slice none 0 0] 35 (0, 0))) := blk_on (blk_old (by simpa using blk_new (w.alloc _) _ _) _) hb1; have O1 : Hid (W1.heap[(w.heap.size + 1 + 1)]? = some (.cells #[.int .i64 a.id, .slice none 0 0] 35 (0, 0))) := blk_on (by simpa using blk_new ((w.alloc _).alloc _) _ _) hb1; have pc1 := blk_cells B1.out; have qc1 := blk_cells R1.out; have qf1 := blk_free R1.out; have oc1 := blk_cells O1.out; have of1 := blk_free O1.out))
  have z1 := hb1.size
  simp at z1
  have fin : _ = some (Obj.cells #[.int .i64 a.id, .slice D1 a.cells.length d1] 35 (0, 0)) := blk_set (blk_set ((blk_far (p := ⟨(w.heap.size + 1 + 1), 1, none⟩) (by simp; try omega) (.slice D1 a.cells.length d1)).trans (R1.out)) 0 (.int .i64 a.id)) 1 (.slice D1 a.cells.length d1)
  have fc := blk_cells fin
  have a1 := ((((Away.refl (w.heap.size + 3) W1).set (p := ⟨(w.heap.size + 1 + 1), 1, none⟩) (by simp) (.slice D1 a.cells.length d1)).set (p := ⟨w.heap.size + 1, 0, none⟩) (by simp) (.int .i64 a.id)).set (p := ⟨w.heap.size + 1, 1, none⟩) (by simp) (.slice D1 a.cells.length d1))
  refine bodyPost_ret (v := .agg #[.int .i64 a.id, .slice D1 a.cells.length d1]) (by simp [results, Tryz.results9, go_sem, fc]) rfl ⟨[.int .i64 a.id, .slice D1 a.cells.length d1], _, rfl, ⟨_, e1, rfl, rfl, hf0, a1.rd AtomSSR.good s1 f1 (by simp; try omega)⟩, ?_, ((((nxt' ((((Below.refl w.heap.size w).alloc (Nat.le_refl _) _).alloc (by simp) _).alloc (by simp; omega) _) hb1).setCell (p := ⟨(w.heap.size + 1 + 1), 1, none⟩) (by simp; try omega) _).setCell (p := ⟨w.heap.size + 1, 0, none⟩) (by simp) _).setCell (p := ⟨w.heap.size + 1, 1, none⟩) (by simp) _)⟩
  exact ((a1.fr f1 (by simp; try omega))).mono (by simp; try omega)
theorem toMut {w0 w : World} (hb : Below w0.heap.size w0 w) {bs : List Nat} {cs : List Value} {a : Mut} (ha : MutR w0 bs cs a) (hbk : Mut.bulk a ≤ 1048576) :
    Calls Tryz.prog 30 #[.agg cs.toArray] w (ToP MutR w a) := by
  obtain ⟨v2, b2, rfl, rfl, hf, r2⟩ := ha
  have hf0 := hf
  obtain ⟨A2, c2, rfl, _, _, _⟩ := r2.use
  have k2 : AtomS.bulk a.value ≤ 1048576 := by unfold Mut.bulk at hbk; omega
  clear hf hbk
  go_enter Tryz.func30, Tryz.ntmps30
  go_wp2_with (first | (go_at_call 56; refine (toAtomS (((hb.alloc hb.size _).alloc (by have := hb.size; simp; omega) _).alloc (by have := hb.size; simp; omega) _) r2 k2).mono ?_; rintro e W2 ⟨x2, e2, rfl, s2, f2, hb2⟩; obtain ⟨D2, d2, rfl, _, _, _⟩ := s2.use; have B2 : Hid (W2.heap[w.heap.size]? = some (.cells #[.string a.column, .int .i64 a.func, .slice A2 a.value.length c2] 58 (0, 0))) := blk_on (blk_old (blk_old (blk_new _ _ _) _) _) hb2; have R2 : Hid (W2.heap[(w.heap.size + 1)]? = some (.cells #[.string ⟨#[]⟩, .int .i64 0, .slice none 0 0] 67 (0, 0))) := blk_on (blk_old (by simpa using blk_new (w.alloc _) _ _) _) hb2; have O2 : Hid (W2.heap[(w.heap.size + 1 + 1)]? = some (.cells #[.string a.column, .int .i64 a.func, .slice none 0 0] 67 (0, 0))) := blk_on (by simpa using blk_new ((w.alloc _).alloc _) _ _) hb2; have pc2 := blk_cells B2.out; have qc2 := blk_cells R2.out; have qf2 := blk_free R2.out; have oc2 := blk_cells O2.out; have of2 := blk_free O2.out))
  have z2 := hb2.size
  simp at z2
  have fin : _ = some (Obj.cells #[.string a.column, .int .i64 a.func, .slice D2 a.value.length d2] 67 (0, 0)) := blk_set (blk_set (blk_set ((blk_far (p := ⟨(w.heap.size + 1 + 1), 2, none⟩) (by simp; try omega) (.slice D2 a.value.length d2)).trans (R2.out)) 0 (.string a.column)) 1 (.int .i64 a.func)) 2 (.slice D2 a.value.length d2)
  have fc := blk_cells fin
  have a2 := (((((Away.refl (w.heap.size + 3) W2).set (p := ⟨(w.heap.size + 1 + 1), 2, none⟩) (by simp) (.slice D2 a.value.length d2)).set (p := ⟨w.heap.size + 1, 0, none⟩) (by simp) (.string a.column)).set (p := ⟨w.heap.size + 1, 1, none⟩) (by simp) (.int .i64 a.func)).set (p := ⟨w.heap.size + 1, 2, none⟩) (by simp) (.slice D2 a.value.length d2))
  refine bodyPost_ret (v := .agg #[.string a.column, .int .i64 a.func, .slice D2 a.value.length d2]) (by simp [results, Tryz.results30, go_sem, fc]) rfl ⟨[.string a.column, .int .i64 a.func, .slice D2 a.value.length d2], _, rfl, ⟨_, e2, rfl, rfl, hf0, a2.rd AtomSR.good s2 f2 (by simp; try omega)⟩, ?_, (((((nxt' ((((Below.refl w.heap.size w).alloc (Nat.le_refl _) _).alloc (by simp) _).alloc (by simp; omega) _) hb2).setCell (p := ⟨(w.heap.size + 1 + 1), 2, none⟩) (by simp; try omega) _).setCell (p := ⟨w.heap.size + 1, 0, none⟩) (by simp) _).setCell (p := ⟨w.heap.size + 1, 1, none⟩) (by simp) _).setCell (p := ⟨w.heap.size + 1, 2, none⟩) (by simp) _)⟩
  exact ((a2.fr f2 (by simp; try omega))).mono (by simp; try omega)
theorem MutS.info : (Tryz.prog.info? 67).map (fun i => (i.zero, i.size, i.bytes)) = some (some (.agg #[.string ⟨#[]⟩, .int .i64 0, .slice none 0 0]), 3, 48) := by kernel_rfl
theorem toMutS {w0 w : World} (hb : Below w0.heap.size w0 w) {bs : List Nat} {v : Value} {xs : List Mut} (ha : MutSR w0 bs [v] xs) (hbk : MutS.bulk xs ≤ 1048576) :
    Calls Tryz.prog 10 #[v] w (ToS MutSR w xs) := by
  obtain ⟨A, c, rfl, hlc, hcm, hel⟩ := ha.use
  have hn : xs.length ≤ 1048576 := by unfold MutS.bulk bulkL at hbk; omega
  have hbe : ∀ k (hk : k < xs.length), Mut.bulk xs[k] ≤ 1048576 := fun k hk => by
    have h1 := psum_succ Mut.bulk xs k hk
    have h2 := psum_le Mut.bulk xs (k + 1)
    unfold MutS.bulk bulkL at hbk; omega
  obtain ⟨cur0, hcs, hmk⟩ := make_row (P := Tryz.prog) (t := 43) Tryz.underlying43 MutS.info xs.length (by omega) (by omega)
  have hB0 := hide (Bld.start (R := MutR) (e := 67) w xs hcs)
  clear hcs hbk
  go_enter Tryz.func10, Tryz.ntmps10
  go_wp2
  go_loopw [4] (fun i wr => ∃ k : Nat, k ≤ xs.length ∧ i = .int .i64 k ∧ Hid (Bld 3 MutR 67 wr w.heap.size xs k) ∧ Below w.heap.size w wr) (fun i _ => xs.length - (intOf i).toNat)
  case atStart => exact ⟨0, Nat.zero_le _, rfl, hB0, (Below.refl _ _).alloc (Nat.le_refl _) _⟩
  case round =>
    clear hmk hB0
    obtain ⟨k, hk, rfl, hB, hbr⟩ := hrel
    by_cases hlt : k < xs.length
    · obtain ⟨b, o, bk, es, rfl, hbl, hcl, hcell, hR, _⟩ := hel k hlt
      have hR0 := hR
      obtain ⟨v2, b2, hbk', hes, _, r2⟩ := hR
      subst hes
      obtain ⟨A2, c2, rfl, _, _, _⟩ := r2.use
      have c_0 := ((nxt hb hbr).cell (p := ⟨b, _, none⟩) hbl).trans (hcell 0 _ rfl)
      have c_1 := ((nxt hb hbr).cell (p := ⟨b, _, none⟩) hbl).trans (hcell 1 _ rfl)
      have c_2 := ((nxt hb hbr).cell (p := ⟨b, _, none⟩) hbl).trans (hcell 2 _ rfl)
      simp only [Nat.add_zero] at c_0 c_1 c_2
      clear hcell hel hcl
      go_wp2_with (go_at_call 30; refine (toMut (nxt hb hbr) hR0 (hbe k hlt)).mono ?_; rintro e w1 ⟨cs1, bs1, rfl, hR1, hF1, hb1⟩; have hR2 := hide hR1; obtain ⟨z2, y2, hbs1, hcs1, _, t2⟩ := hR1; subst hcs1; obtain ⟨D2, d2, rfl, _, _, _⟩ := t2.use; have hco := hB.out.cells hb1 hlt; obtain ⟨u0, s_0⟩ := hco.1 0 (by omega); obtain ⟨u1, s_1⟩ := hco.1 1 (by omega); obtain ⟨u2, s_2⟩ := hco.1 2 (by omega); simp only [Nat.add_zero] at s_0 s_1 s_2; have fz := hco.2; clear hco)
      go_roundw
      case rel => exact ⟨k + 1, hlt, by go_num, hide (by have h := hB.out.step MutR.good hb1 hlt hR2.out rfl hF1; rw [setMany_3] at h; exact h), ((((nxt hbr hb1).setCell (Nat.le_refl _) _).setCell (Nat.le_refl _) _).setCell (Nat.le_refl _) _)⟩
      case measure => simp [intOf]; omega
    · obtain rfl : k = xs.length := by omega
      have hd := hide (hB.out.done (by omega))
      go_wp2
      go_ret
      obtain ⟨bs', h1, h2⟩ := hd.out
      exact ⟨_, bs', rfl, h1, h2, hbr⟩
end Go.Proofs.YthglchopajdmhaaGreat
