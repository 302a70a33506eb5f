/- Arguments as the program takes them: what the functions to.. of package laws return. No statement is proved here; no conditions. Written by a program (gen.py). -/
import Derived.Test.YtfkpllkgganejaaOwn
namespace Go.Proofs.Ytfkpllkgganejaa
open Go.ChangeShapes Go.WideShapes Go.ChangeAt Go.RowKit Go.Deep
set_option maxRecDepth 100000
set_option linter.unusedVariables false

section
variable {α : Type}
/-- A struct in new memory, read as the datum. -/
def ToP (R : Rd α) (w : World) (a : α) (e : Ending) (w' : World) : Prop := ∃ cs bs, e = .returned (.agg cs.toArray) ∧ R w' bs cs a ∧ Fr w.heap.size w' bs ∧ Below w.heap.size w w'
/-- A slice in new memory, read as the datum. -/
def ToS (R : Rd α) (w : World) (a : α) (e : Ending) (w' : World) : Prop := ∃ v bs, e = .returned v ∧ R w' bs [v] a ∧ Fr w.heap.size w' bs ∧ Below w.heap.size w w'
end

theorem toAtom {w0 w : World} {bs : List Nat} {cs : List Value} {a : Atom} (ha : AtomR w0 bs cs a) :
    Calls Try.prog 53 #[.agg cs.toArray] w fun e w' => e = .returned (.agg #[.int .i64 a.kind, .int .i64 a.n, .string a.t]) ∧ Below w.heap.size w w' := by
  obtain ⟨rfl, rfl, hf⟩ := ha
  go_enter Try.func53, Try.ntmps53
  go_wp2
  exact bodyPost_ret (v := .agg #[.int .i64 a.kind, .int .i64 a.n, .string a.t]) (by simp [results, Try.results53, go_sem]) rfl ⟨rfl, (((Below.refl _ _).alloc (Nat.le_refl _) _).alloc (by simp) _).alloc (by simp; omega) _⟩
theorem AtomS.info : (Try.prog.info? 78).map (fun i => (i.zero, i.size, i.bytes)) = some (some (.agg #[.int .i64 0, .int .i64 0, .string ⟨#[]⟩]), 3, 32) := by kernel_rfl
theorem toAtomS {w0 w : World} (hb : Below w0.heap.size w0 w) {bs : List Nat} {v : Value} {xs : List Atom} (ha : AtomSR w0 bs [v] xs) (hbk : AtomS.bulk xs ≤ 1048576) :
    Calls Try.prog 38 #[v] w (ToS AtomSR w xs) := by
  obtain ⟨A, c, rfl, hlc, hcm, hel⟩ := ha.use
  have hn : xs.length ≤ 1048576 := by unfold AtomS.bulk bulkL at hbk; omega
  obtain ⟨cur0, hcs, hmk⟩ := make_row (P := Try.prog) (t := 68) Try.underlying68 AtomS.info xs.length (by omega) (by omega)
  have hB0 := hide (Bld.start (R := AtomR) (e := 78) w xs hcs)
  clear hcs hbk
  go_enter Try.func38, Try.ntmps38
  go_wp2
  go_loopw [4] (fun i wr => ∃ k : Nat, k ≤ xs.length ∧ i = .int .i64 k ∧ Hid (Bld 3 AtomR 78 wr w.heap.size xs k) ∧ Below w.heap.size w wr) (fun i _ => xs.length - (intOf i).toNat)
  case atStart => exact ⟨0, Nat.zero_le _, rfl, hB0, (Below.refl _ _).alloc (Nat.le_refl _) _⟩
  case round =>
    clear hmk hB0
    obtain ⟨k, hk, rfl, hB, hbr⟩ := hrel
    by_cases hlt : k < xs.length
    · obtain ⟨b, o, bk, es, rfl, hbl, hcl, hcell, hR, _⟩ := hel k hlt
      have hR0 := hR
      obtain ⟨hbk', hes, _⟩ := hR
      subst hes
      have c_0 := ((nxt hb hbr).cell (p := ⟨b, _, none⟩) hbl).trans (hcell 0 _ rfl)
      have c_1 := ((nxt hb hbr).cell (p := ⟨b, _, none⟩) hbl).trans (hcell 1 _ rfl)
      have c_2 := ((nxt hb hbr).cell (p := ⟨b, _, none⟩) hbl).trans (hcell 2 _ rfl)
      simp only [Nat.add_zero] at c_0 c_1 c_2
      clear hcell hel hcl
      go_wp2_with (go_at_call 53; refine (toAtom hR0).mono ?_; rintro e w1 ⟨rfl, hb1⟩; have hco := hB.out.cells hb1 hlt; obtain ⟨u0, s_0⟩ := hco.1 0 (by omega); obtain ⟨u1, s_1⟩ := hco.1 1 (by omega); obtain ⟨u2, s_2⟩ := hco.1 2 (by omega); simp only [Nat.add_zero] at s_0 s_1 s_2; have fz := hco.2; clear hco)
      go_roundw
      case rel => exact ⟨k + 1, hlt, by go_num, hide (by have h := hB.out.step AtomR.good hb1 hlt ⟨rfl, rfl, hR0.2.2⟩ rfl (Fr.nil _ _); rw [setMany_3] at h; exact h), ((((nxt hbr hb1).setCell (Nat.le_refl _) _).setCell (Nat.le_refl _) _).setCell (Nat.le_refl _) _)⟩
      case measure => simp [intOf]; omega
    · obtain rfl : k = xs.length := by omega
      have hd := hide (hB.out.done (by omega))
      go_wp2
      go_ret
      obtain ⟨bs', h1, h2⟩ := hd.out
      exact ⟨_, bs', rfl, h1, h2, hbr⟩
theorem AtomSS.info : (Try.prog.info? 68).map (fun i => (i.zero, i.size, i.bytes)) = some (some (.slice none 0 0), 1, 24) := by kernel_rfl
theorem toAtomSS {w0 w : World} (hb : Below w0.heap.size w0 w) {bs : List Nat} {v : Value} {xs : List (List Atom)} (ha : AtomSSR w0 bs [v] xs) (hbk : AtomSS.bulk xs ≤ 1048576) :
    Calls Try.prog 23 #[v] w (ToS AtomSSR w xs) := by
  obtain ⟨A, c, rfl, hlc, hcm, hel⟩ := ha.use
  have hn : xs.length ≤ 1048576 := by unfold AtomSS.bulk bulkL at hbk; omega
  have hbe : ∀ k (hk : k < xs.length), AtomS.bulk xs[k] ≤ 1048576 := fun k hk => by
    have h1 := psum_succ AtomS.bulk xs k hk
    have h2 := psum_le AtomS.bulk xs (k + 1)
    unfold AtomSS.bulk bulkL at hbk; omega
  obtain ⟨cur0, hcs, hmk⟩ := make_row (P := Try.prog) (t := 36) Try.underlying36 AtomSS.info xs.length (by omega) (by omega)
  have hB0 := hide (Bld.start (R := AtomSR) (e := 68) w xs hcs)
  clear hcs hbk
  go_enter Try.func23, Try.ntmps23
  go_wp2
  go_loopw [4] (fun i wr => ∃ k : Nat, k ≤ xs.length ∧ i = .int .i64 k ∧ Hid (Bld 1 AtomSR 68 wr w.heap.size xs k) ∧ Below w.heap.size w wr) (fun i _ => xs.length - (intOf i).toNat)
  case atStart => exact ⟨0, Nat.zero_le _, rfl, hB0, (Below.refl _ _).alloc (Nat.le_refl _) _⟩
  case round =>
    clear hmk hB0
    obtain ⟨k, hk, rfl, hB, hbr⟩ := hrel
    by_cases hlt : k < xs.length
    · obtain ⟨b, o, bk, es, rfl, hbl, hcl, hcell, hR, _⟩ := hel k hlt
      have hR0 := hR
      obtain ⟨A0, c0, rfl⟩ : ∃ A0 c0, es = [.slice A0 xs[k].length c0] := by obtain ⟨A0, c0, h, _⟩ := hR; exact ⟨A0, c0, h⟩
      have c_0 := ((nxt hb hbr).cell (p := ⟨b, _, none⟩) hbl).trans (hcell 0 _ rfl)
      simp only [Nat.add_zero, Nat.mul_one] at c_0
      clear hcell hel hcl
      go_wp2_with (go_at_call 38; refine (toAtomS (nxt hb hbr) hR0 (hbe k hlt)).mono ?_; rintro e w1 ⟨v1, bs1, rfl, hR1, hF1, hb1⟩; obtain ⟨D0, d0, rfl, _, _, _⟩ := hR1.use; have hco := hB.out.cells hb1 hlt; obtain ⟨u0, s_0⟩ := hco.1 0 (by omega); simp only [Nat.add_zero, Nat.mul_one] at s_0; have fz := hco.2; clear hco)
      go_roundw
      case rel => exact ⟨k + 1, hlt, by go_num, hide (by have h := hB.out.step AtomSR.good hb1 hlt hR1 rfl hF1; rw [setMany_1, Nat.mul_one] at h; exact h), ((nxt hbr hb1).setCell (Nat.le_refl _) _)⟩
      case measure => simp [intOf]; omega
    · obtain rfl : k = xs.length := by omega
      have hd := hide (hB.out.done (by omega))
      go_wp2
      go_ret
      obtain ⟨bs', h1, h2⟩ := hd.out
      exact ⟨_, bs', rfl, h1, h2, hbr⟩
theorem toRow {w0 w : World} (hb : Below w0.heap.size w0 w) {bs : List Nat} {cs : List Value} {a : Row} (ha : RowR w0 bs cs a) (hbk : Row.bulk a ≤ 1048576) :
    Calls Try.prog 8 #[.agg cs.toArray] w (ToP RowR w a) := by
  obtain ⟨v1, b1, rfl, rfl, hf, r1⟩ := ha
  have hf0 := hf
  obtain ⟨A1, c1, rfl, _, _, _⟩ := r1.use
  have k1 : AtomSS.bulk a.cells ≤ 1048576 := by unfold Row.bulk at hbk; omega
  clear hf hbk
  go_enter Try.func8, Try.ntmps8
  go_wp2_with (first | (go_at_call 23; refine (toAtomSS (((hb.alloc hb.size _).alloc (by have := hb.size; simp; omega) _).alloc (by have := hb.size; simp; omega) _) r1 k1).mono ?_; rintro e W1 ⟨x1, e1, rfl, s1, f1, hb1⟩; obtain ⟨D1, d1, rfl, _, _, _⟩ := s1.use; have B1 : Hid (W1.heap[w.heap.size]? = some (.cells #[.int .i64 a.id, .slice A1 a.cells.length c1] 27 (0, 0))) := blk_on (blk_old (blk_old (blk_new _ _ _) _) _) hb1; have R1 : Hid (W1.heap[(w.heap.size + 1)]? = some (.cells #[.int .i64 0, .slice none 0 0] 38 (0, 0))) := blk_on (blk_old (by simpa using blk_new (w.alloc _) _ _) _) hb1; have O1 : Hid (W1.heap[(w.heap.size + 1 + 1)]? = some (.cells #[.int .i64 a.id, .slice none 0 0] 38 (0, 0))) := blk_on (by simpa using blk_new ((w.alloc _).alloc _) _ _) hb1; have pc1 := blk_cells B1.out; have qc1 := blk_cells R1.out; have qf1 := blk_free R1.out; have oc1 := blk_cells O1.out; have of1 := blk_free O1.out))
  have z1 := hb1.size
  simp at z1
  have fin : _ = some (Obj.cells #[.int .i64 a.id, .slice D1 a.cells.length d1] 38 (0, 0)) := blk_set (blk_set ((blk_far (p := ⟨(w.heap.size + 1 + 1), 1, none⟩) (by simp; try omega) (.slice D1 a.cells.length d1)).trans (R1.out)) 0 (.int .i64 a.id)) 1 (.slice D1 a.cells.length d1)
  have fc := blk_cells fin
  have a1 := ((((Away.refl (w.heap.size + 3) W1).set (p := ⟨(w.heap.size + 1 + 1), 1, none⟩) (by simp) (.slice D1 a.cells.length d1)).set (p := ⟨w.heap.size + 1, 0, none⟩) (by simp) (.int .i64 a.id)).set (p := ⟨w.heap.size + 1, 1, none⟩) (by simp) (.slice D1 a.cells.length d1))
  refine bodyPost_ret (v := .agg #[.int .i64 a.id, .slice D1 a.cells.length d1]) (by simp [results, Try.results8, go_sem, fc]) rfl ⟨[.int .i64 a.id, .slice D1 a.cells.length d1], _, rfl, ⟨_, e1, rfl, rfl, hf0, a1.rd AtomSSR.good s1 f1 (by simp; try omega)⟩, ?_, ((((nxt' ((((Below.refl w.heap.size w).alloc (Nat.le_refl _) _).alloc (by simp) _).alloc (by simp; omega) _) hb1).setCell (p := ⟨(w.heap.size + 1 + 1), 1, none⟩) (by simp; try omega) _).setCell (p := ⟨w.heap.size + 1, 0, none⟩) (by simp) _).setCell (p := ⟨w.heap.size + 1, 1, none⟩) (by simp) _)⟩
  exact ((a1.fr f1 (by simp; try omega))).mono (by simp; try omega)
theorem RowS.info : (Try.prog.info? 38).map (fun i => (i.zero, i.size, i.bytes)) = some (some (.agg #[.int .i64 0, .slice none 0 0]), 2, 32) := by kernel_rfl
theorem toRowS {w0 w : World} (hb : Below w0.heap.size w0 w) {bs : List Nat} {v : Value} {xs : List Row} (ha : RowSR w0 bs [v] xs) (hbk : RowS.bulk xs ≤ 1048576) :
    Calls Try.prog 37 #[v] w (ToS RowSR w xs) := by
  obtain ⟨A, c, rfl, hlc, hcm, hel⟩ := ha.use
  have hn : xs.length ≤ 1048576 := by unfold RowS.bulk bulkL at hbk; omega
  have hbe : ∀ k (hk : k < xs.length), Row.bulk xs[k] ≤ 1048576 := fun k hk => by
    have h1 := psum_succ Row.bulk xs k hk
    have h2 := psum_le Row.bulk xs (k + 1)
    unfold RowS.bulk bulkL at hbk; omega
  obtain ⟨cur0, hcs, hmk⟩ := make_row (P := Try.prog) (t := 50) Try.underlying50 RowS.info xs.length (by omega) (by omega)
  have hB0 := hide (Bld.start (R := RowR) (e := 38) w xs hcs)
  clear hcs hbk
  go_enter Try.func37, Try.ntmps37
  go_wp2
  go_loopw [4] (fun i wr => ∃ k : Nat, k ≤ xs.length ∧ i = .int .i64 k ∧ Hid (Bld 2 RowR 38 wr w.heap.size xs k) ∧ Below w.heap.size w wr) (fun i _ => xs.length - (intOf i).toNat)
  case atStart => exact ⟨0, Nat.zero_le _, rfl, hB0, (Below.refl _ _).alloc (Nat.le_refl _) _⟩
  case round =>
    clear hmk hB0
    obtain ⟨k, hk, rfl, hB, hbr⟩ := hrel
    by_cases hlt : k < xs.length
    · obtain ⟨b, o, bk, es, rfl, hbl, hcl, hcell, hR, _⟩ := hel k hlt
      have hR0 := hR
      obtain ⟨v1, b1, hbk', hes, _, r1⟩ := hR
      subst hes
      obtain ⟨A1, c1, rfl, _, _, _⟩ := r1.use
      have c_0 := ((nxt hb hbr).cell (p := ⟨b, _, none⟩) hbl).trans (hcell 0 _ rfl)
      have c_1 := ((nxt hb hbr).cell (p := ⟨b, _, none⟩) hbl).trans (hcell 1 _ rfl)
      simp only [Nat.add_zero] at c_0 c_1
      clear hcell hel hcl
      go_wp2_with (go_at_call 8; refine (toRow (nxt hb hbr) hR0 (hbe k hlt)).mono ?_; rintro e w1 ⟨cs1, bs1, rfl, hR1, hF1, hb1⟩; have hR2 := hide hR1; obtain ⟨z1, y1, hbs1, hcs1, _, t1⟩ := hR1; subst hcs1; obtain ⟨D1, d1, rfl, _, _, _⟩ := t1.use; have hco := hB.out.cells hb1 hlt; obtain ⟨u0, s_0⟩ := hco.1 0 (by omega); obtain ⟨u1, s_1⟩ := hco.1 1 (by omega); simp only [Nat.add_zero] at s_0 s_1; have fz := hco.2; clear hco)
      go_roundw
      case rel => exact ⟨k + 1, hlt, by go_num, hide (by have h := hB.out.step RowR.good hb1 hlt hR2.out rfl hF1; rw [setMany_2] at h; exact h), (((nxt hbr hb1).setCell (Nat.le_refl _) _).setCell (Nat.le_refl _) _)⟩
      case measure => simp [intOf]; omega
    · obtain rfl : k = xs.length := by omega
      have hd := hide (hB.out.done (by omega))
      go_wp2
      go_ret
      obtain ⟨bs', h1, h2⟩ := hd.out
      exact ⟨_, bs', rfl, h1, h2, hbr⟩
theorem RowSS.info : (Try.prog.info? 50).map (fun i => (i.zero, i.size, i.bytes)) = some (some (.slice none 0 0), 1, 24) := by kernel_rfl
theorem toRowSS {w0 w : World} (hb : Below w0.heap.size w0 w) {bs : List Nat} {v : Value} {xs : List (List Row)} (ha : RowSSR w0 bs [v] xs) (hbk : RowSS.bulk xs ≤ 1048576) :
    Calls Try.prog 22 #[v] w (ToS RowSSR w xs) := by
  obtain ⟨A, c, rfl, hlc, hcm, hel⟩ := ha.use
  have hn : xs.length ≤ 1048576 := by unfold RowSS.bulk bulkL at hbk; omega
  have hbe : ∀ k (hk : k < xs.length), RowS.bulk xs[k] ≤ 1048576 := fun k hk => by
    have h1 := psum_succ RowS.bulk xs k hk
    have h2 := psum_le RowS.bulk xs (k + 1)
    unfold RowSS.bulk bulkL at hbk; omega
  obtain ⟨cur0, hcs, hmk⟩ := make_row (P := Try.prog) (t := 30) Try.underlying30 RowSS.info xs.length (by omega) (by omega)
  have hB0 := hide (Bld.start (R := RowSR) (e := 50) w xs hcs)
  clear hcs hbk
  go_enter Try.func22, Try.ntmps22
  go_wp2
  go_loopw [4] (fun i wr => ∃ k : Nat, k ≤ xs.length ∧ i = .int .i64 k ∧ Hid (Bld 1 RowSR 50 wr w.heap.size xs k) ∧ Below w.heap.size w wr) (fun i _ => xs.length - (intOf i).toNat)
  case atStart => exact ⟨0, Nat.zero_le _, rfl, hB0, (Below.refl _ _).alloc (Nat.le_refl _) _⟩
  case round =>
    clear hmk hB0
    obtain ⟨k, hk, rfl, hB, hbr⟩ := hrel
    by_cases hlt : k < xs.length
    · obtain ⟨b, o, bk, es, rfl, hbl, hcl, hcell, hR, _⟩ := hel k hlt
      have hR0 := hR
      obtain ⟨A0, c0, rfl⟩ : ∃ A0 c0, es = [.slice A0 xs[k].length c0] := by obtain ⟨A0, c0, h, _⟩ := hR; exact ⟨A0, c0, h⟩
      have c_0 := ((nxt hb hbr).cell (p := ⟨b, _, none⟩) hbl).trans (hcell 0 _ rfl)
      simp only [Nat.add_zero, Nat.mul_one] at c_0
      clear hcell hel hcl
      go_wp2_with (go_at_call 37; refine (toRowS (nxt hb hbr) hR0 (hbe k hlt)).mono ?_; rintro e w1 ⟨v1, bs1, rfl, hR1, hF1, hb1⟩; obtain ⟨D0, d0, rfl, _, _, _⟩ := hR1.use; have hco := hB.out.cells hb1 hlt; obtain ⟨u0, s_0⟩ := hco.1 0 (by omega); simp only [Nat.add_zero, Nat.mul_one] at s_0; have fz := hco.2; clear hco)
      go_roundw
      case rel => exact ⟨k + 1, hlt, by go_num, hide (by have h := hB.out.step RowSR.good hb1 hlt hR1 rfl hF1; rw [setMany_1, Nat.mul_one] at h; exact h), ((nxt hbr hb1).setCell (Nat.le_refl _) _)⟩
      case measure => simp [intOf]; omega
    · obtain rfl : k = xs.length := by omega
      have hd := hide (hB.out.done (by omega))
      go_wp2
      go_ret
      obtain ⟨bs', h1, h2⟩ := hd.out
      exact ⟨_, bs', rfl, h1, h2, hbr⟩
theorem toStore {w0 w : World} (hb : Below w0.heap.size w0 w) {bs : List Nat} {cs : List Value} {a : Store} (ha : StoreR w0 bs cs a) (hbk : Store.bulk a ≤ 1048576) :
    Calls Try.prog 7 #[.agg cs.toArray] w (ToP StoreR w a) := by
  obtain ⟨v0, b0, rfl, rfl, hf, r0⟩ := ha
  have hf0 := hf
  obtain ⟨A0, c0, rfl, _, _, _⟩ := r0.use
  have k0 : RowSS.bulk a.tables ≤ 1048576 := by unfold Store.bulk at hbk; omega
  clear hf hbk
  go_enter Try.func7, Try.ntmps7
  go_wp2_with (first | (go_at_call 22; refine (toRowSS (((hb.alloc hb.size _).alloc (by have := hb.size; simp; omega) _).alloc (by have := hb.size; simp; omega) _) r0 k0).mono ?_; rintro e W0 ⟨x0, e0, rfl, s0, f0, hb0⟩; obtain ⟨D0, d0, rfl, _, _, _⟩ := s0.use; have B0 : Hid (W0.heap[w.heap.size]? = some (.cells #[.slice A0 a.tables.length c0, .int .i64 a.next] 24 (0, 0))) := blk_on (blk_old (blk_old (blk_new _ _ _) _) _) hb0; have R0 : Hid (W0.heap[(w.heap.size + 1)]? = some (.cells #[.slice none 0 0, .int .i64 0] 32 (0, 0))) := blk_on (blk_old (by simpa using blk_new (w.alloc _) _ _) _) hb0; have O0 : Hid (W0.heap[(w.heap.size + 1 + 1)]? = some (.cells #[.slice none 0 0, .int .i64 0] 32 (0, 0))) := blk_on (by simpa using blk_new ((w.alloc _).alloc _) _ _) hb0; have pc0 := blk_cells B0.out; have qc0 := blk_cells R0.out; have qf0 := blk_free R0.out; have oc0 := blk_cells O0.out; have of0 := blk_free O0.out))
  have z0 := hb0.size
  simp at z0
  have fin : _ = some (Obj.cells #[.slice D0 a.tables.length d0, .int .i64 a.next] 32 (0, 0)) := blk_set (blk_set ((blk_far (p := ⟨(w.heap.size + 1 + 1), 1, none⟩) (by simp; try omega) (.int .i64 a.next)).trans ((blk_far (p := ⟨(w.heap.size + 1 + 1), 0, none⟩) (by simp; try omega) (.slice D0 a.tables.length d0)).trans (R0.out))) 0 (.slice D0 a.tables.length d0)) 1 (.int .i64 a.next)
  have fc := blk_cells fin
  have a0 := (((((Away.refl (w.heap.size + 3) W0).set (p := ⟨(w.heap.size + 1 + 1), 0, none⟩) (by simp) (.slice D0 a.tables.length d0)).set (p := ⟨(w.heap.size + 1 + 1), 1, none⟩) (by simp) (.int .i64 a.next)).set (p := ⟨w.heap.size + 1, 0, none⟩) (by simp) (.slice D0 a.tables.length d0)).set (p := ⟨w.heap.size + 1, 1, none⟩) (by simp) (.int .i64 a.next))
  refine bodyPost_ret (v := .agg #[.slice D0 a.tables.length d0, .int .i64 a.next]) (by simp [results, Try.results7, go_sem, fc]) rfl ⟨[.slice D0 a.tables.length d0, .int .i64 a.next], _, rfl, ⟨_, e0, rfl, rfl, hf0, a0.rd RowSSR.good s0 f0 (by simp; try omega)⟩, ?_, (((((nxt' ((((Below.refl w.heap.size w).alloc (Nat.le_refl _) _).alloc (by simp) _).alloc (by simp; omega) _) hb0).setCell (p := ⟨(w.heap.size + 1 + 1), 0, none⟩) (by simp; try omega) _).setCell (p := ⟨(w.heap.size + 1 + 1), 1, none⟩) (by simp; try omega) _).setCell (p := ⟨w.heap.size + 1, 0, none⟩) (by simp) _).setCell (p := ⟨w.heap.size + 1, 1, none⟩) (by simp) _)⟩
  exact ((a0.fr f0 (by simp; try omega))).mono (by simp; try omega)
end Go.Proofs.Ytfkpllkgganejaa
