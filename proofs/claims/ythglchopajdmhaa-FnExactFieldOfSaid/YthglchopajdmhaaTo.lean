/- Arguments as the program takes them: what the functions to.. of package laws return. No statement is proved here; no conditions. Written by a program (gen.py). -/
import Derived.Test.YthglchopajdmhaaOwn
namespace Go.Proofs.Ythglchopajdmhaa
open Go.ChangeShapes Go.WideShapes Go.ChangeAt Go.RowKit Go.Deep
set_option maxRecDepth 100000
set_option linter.unusedVariables false

section
variable {α : Type}
/-- A struct in new memory, read as the datum. -/
def ToP (R : Rd α) (w : World) (a : α) (e : Ending) (w' : World) : Prop := ∃ cs bs, e = .returned (.agg cs.toArray) ∧ R w' bs cs a ∧ Fr w.heap.size w' bs ∧ Below w.heap.size w w'
/-- A slice in new memory, read as the datum. -/
def ToS (R : Rd α) (w : World) (a : α) (e : Ending) (w' : World) : Prop := ∃ v bs, e = .returned v ∧ R w' bs [v] a ∧ Fr w.heap.size w' bs ∧ Below w.heap.size w w'
end

theorem StringS.info : (Try.prog.info? 9).map (fun i => (i.zero, i.size, i.bytes)) = some (some (.string ⟨#[]⟩), 1, 16) := by kernel_rfl
theorem toStringS {w0 w : World} (hb : Below w0.heap.size w0 w) {bs : List Nat} {v : Value} {xs : List ByteArray} (ha : StringSR w0 bs [v] xs) (hbk : StringS.bulk xs ≤ 1048576) :
    Calls Try.prog 46 #[v] w (ToS StringSR w xs) := by
  obtain ⟨A, c, rfl, hlc, hcm, hel⟩ := ha.use
  have hn : xs.length ≤ 1048576 := by unfold StringS.bulk bulkL at hbk; omega
  obtain ⟨cur0, hcs, hmk⟩ := make_row (P := Try.prog) (t := 22) Try.underlying22 StringS.info xs.length (by omega) (by omega)
  have hB0 := hide (Bld.start (R := StrR) (e := 9) w xs hcs)
  clear hcs hbk
  go_enter Try.func46, Try.ntmps46
  go_wp2
  go_loopw [4] (fun i wr => ∃ k : Nat, k ≤ xs.length ∧ i = .int .i64 k ∧ Hid (Bld 1 StrR 9 wr w.heap.size xs k) ∧ Below w.heap.size w wr) (fun i _ => xs.length - (intOf i).toNat)
  case atStart => exact ⟨0, Nat.zero_le _, rfl, hB0, (Below.refl _ _).alloc (Nat.le_refl _) _⟩
  case round =>
    clear hmk hB0
    obtain ⟨k, hk, rfl, hB, hbr⟩ := hrel
    by_cases hlt : k < xs.length
    · obtain ⟨b, o, bk, es, rfl, hbl, hcl, hcell, hR, _⟩ := hel k hlt
      have hR0 := hR
      obtain ⟨hbk', hes, hsz⟩ := hR
      subst hes
      have c_0 := ((nxt hb hbr).cell (p := ⟨b, _, none⟩) hbl).trans (hcell 0 _ rfl)
      simp only [Nat.add_zero, Nat.mul_one] at c_0
      clear hcell hel hcl
      have hco := hB.out.cells (Below.refl _ _) hlt
      obtain ⟨u0, s_0⟩ := hco.1 0 (by omega); simp only [Nat.add_zero, Nat.mul_one] at s_0; have fz := hco.2
      clear hco
      go_wp2
      go_roundw
      case rel => exact ⟨k + 1, hlt, by go_num, hide (by have h := hB.out.step StrR.good (Below.refl _ _) hlt (StrR.good.nxt (nxt hb hbr) hR0) rfl (by rw [hbk']; exact Fr.nil _ _); rw [setMany_1, Nat.mul_one] at h; exact h), (hbr.setCell (Nat.le_refl _) _)⟩
      case measure => simp [intOf]; omega
    · obtain rfl : k = xs.length := by omega
      have hd := hide (hB.out.done (by omega))
      go_wp2
      go_ret
      obtain ⟨bs', h1, h2⟩ := hd.out
      exact ⟨_, bs', rfl, h1, h2, hbr⟩
theorem toAtom {w0 w : World} {bs : List Nat} {cs : List Value} {a : Atom} (ha : AtomR w0 bs cs a) :
    Calls Try.prog 68 #[.agg cs.toArray] w fun e w' => e = .returned (.agg #[.int .i64 a.kind, .int .i64 a.n, .string a.t]) ∧ Below w.heap.size w w' := by
  obtain ⟨rfl, rfl, hf⟩ := ha
  go_enter Try.func68, Try.ntmps68
  go_wp2
  exact bodyPost_ret (v := .agg #[.int .i64 a.kind, .int .i64 a.n, .string a.t]) (by simp [results, Try.results68, go_sem]) rfl ⟨rfl, (((Below.refl _ _).alloc (Nat.le_refl _) _).alloc (by simp) _).alloc (by simp; omega) _⟩
theorem AtomS.info : (Try.prog.info? 90).map (fun i => (i.zero, i.size, i.bytes)) = some (some (.agg #[.int .i64 0, .int .i64 0, .string ⟨#[]⟩]), 3, 32) := by kernel_rfl
theorem toAtomS {w0 w : World} (hb : Below w0.heap.size w0 w) {bs : List Nat} {v : Value} {xs : List Atom} (ha : AtomSR w0 bs [v] xs) (hbk : AtomS.bulk xs ≤ 1048576) :
    Calls Try.prog 28 #[v] w (ToS AtomSR w xs) := by
  obtain ⟨A, c, rfl, hlc, hcm, hel⟩ := ha.use
  have hn : xs.length ≤ 1048576 := by unfold AtomS.bulk bulkL at hbk; omega
  obtain ⟨cur0, hcs, hmk⟩ := make_row (P := Try.prog) (t := 43) Try.underlying43 AtomS.info xs.length (by omega) (by omega)
  have hB0 := hide (Bld.start (R := AtomR) (e := 90) w xs hcs)
  clear hcs hbk
  go_enter Try.func28, Try.ntmps28
  go_wp2
  go_loopw [4] (fun i wr => ∃ k : Nat, k ≤ xs.length ∧ i = .int .i64 k ∧ Hid (Bld 3 AtomR 90 wr w.heap.size xs k) ∧ Below w.heap.size w wr) (fun i _ => xs.length - (intOf i).toNat)
  case atStart => exact ⟨0, Nat.zero_le _, rfl, hB0, (Below.refl _ _).alloc (Nat.le_refl _) _⟩
  case round =>
    clear hmk hB0
    obtain ⟨k, hk, rfl, hB, hbr⟩ := hrel
    by_cases hlt : k < xs.length
    · obtain ⟨b, o, bk, es, rfl, hbl, hcl, hcell, hR, _⟩ := hel k hlt
      have hR0 := hR
      obtain ⟨hbk', hes, _⟩ := hR
      subst hes
      have c_0 := ((nxt hb hbr).cell (p := ⟨b, _, none⟩) hbl).trans (hcell 0 _ rfl)
      have c_1 := ((nxt hb hbr).cell (p := ⟨b, _, none⟩) hbl).trans (hcell 1 _ rfl)
      have c_2 := ((nxt hb hbr).cell (p := ⟨b, _, none⟩) hbl).trans (hcell 2 _ rfl)
      simp only [Nat.add_zero] at c_0 c_1 c_2
      clear hcell hel hcl
      go_wp2_with (go_at_call 68; refine (toAtom hR0).mono ?_; rintro e w1 ⟨rfl, hb1⟩; have hco := hB.out.cells hb1 hlt; obtain ⟨u0, s_0⟩ := hco.1 0 (by omega); obtain ⟨u1, s_1⟩ := hco.1 1 (by omega); obtain ⟨u2, s_2⟩ := hco.1 2 (by omega); simp only [Nat.add_zero] at s_0 s_1 s_2; have fz := hco.2; clear hco)
      go_roundw
      case rel => exact ⟨k + 1, hlt, by go_num, hide (by have h := hB.out.step AtomR.good hb1 hlt ⟨rfl, rfl, hR0.2.2⟩ rfl (Fr.nil _ _); rw [setMany_3] at h; exact h), ((((nxt hbr hb1).setCell (Nat.le_refl _) _).setCell (Nat.le_refl _) _).setCell (Nat.le_refl _) _)⟩
      case measure => simp [intOf]; omega
    · obtain rfl : k = xs.length := by omega
      have hd := hide (hB.out.done (by omega))
      go_wp2
      go_ret
      obtain ⟨bs', h1, h2⟩ := hd.out
      exact ⟨_, bs', rfl, h1, h2, hbr⟩
theorem toColumn {w0 w : World} {bs : List Nat} {cs : List Value} {a : Column} (ha : ColumnR w0 bs cs a) :
    Calls Try.prog 38 #[.agg cs.toArray] w fun e w' => e = .returned (.agg #[.string a.name, .int .i64 a.kind, .int .i64 a.min, .int .i64 a.max, .int .i64 a.low, .int .i64 a.high, .string a.ref, .bool a.strong]) ∧ Below w.heap.size w w' := by
  obtain ⟨rfl, rfl, hf⟩ := ha
  go_enter Try.func38, Try.ntmps38
  go_wp2
  exact bodyPost_ret (v := .agg #[.string a.name, .int .i64 a.kind, .int .i64 a.min, .int .i64 a.max, .int .i64 a.low, .int .i64 a.high, .string a.ref, .bool a.strong]) (by simp [results, Try.results38, go_sem]) rfl ⟨rfl, (((Below.refl _ _).alloc (Nat.le_refl _) _).alloc (by simp) _).alloc (by simp; omega) _⟩
theorem toMut {w0 w : World} (hb : Below w0.heap.size w0 w) {bs : List Nat} {cs : List Value} {a : Mut} (ha : MutR w0 bs cs a) (hbk : Mut.bulk a ≤ 1048576) :
    Calls Try.prog 39 #[.agg cs.toArray] w (ToP MutR w a) := by
  obtain ⟨v2, b2, rfl, rfl, hf, r2⟩ := ha
  have hf0 := hf
  obtain ⟨A2, c2, rfl, _, _, _⟩ := r2.use
  have k2 : AtomS.bulk a.value ≤ 1048576 := by unfold Mut.bulk at hbk; omega
  clear hf hbk
  go_enter Try.func39, Try.ntmps39
  go_wp2_with (first | (go_at_call 28; refine (toAtomS (((hb.alloc hb.size _).alloc (by have := hb.size; simp; omega) _).alloc (by have := hb.size; simp; omega) _) r2 k2).mono ?_; rintro e W2 ⟨x2, e2, rfl, s2, f2, hb2⟩; obtain ⟨D2, d2, rfl, _, _, _⟩ := s2.use; have B2 : Hid (W2.heap[w.heap.size]? = some (.cells #[.string a.column, .int .i64 a.func, .slice A2 a.value.length c2] 55 (0, 0))) := blk_on (blk_old (blk_old (blk_new _ _ _) _) _) hb2; have R2 : Hid (W2.heap[(w.heap.size + 1)]? = some (.cells #[.string ⟨#[]⟩, .int .i64 0, .slice none 0 0] 62 (0, 0))) := blk_on (blk_old (by simpa using blk_new (w.alloc _) _ _) _) hb2; have O2 : Hid (W2.heap[(w.heap.size + 1 + 1)]? = some (.cells #[.string a.column, .int .i64 a.func, .slice none 0 0] 62 (0, 0))) := blk_on (by simpa using blk_new ((w.alloc _).alloc _) _ _) hb2; have pc2 := blk_cells B2.out; have qc2 := blk_cells R2.out; have qf2 := blk_free R2.out; have oc2 := blk_cells O2.out; have of2 := blk_free O2.out))
  have z2 := hb2.size
  simp at z2
  have fin : _ = some (Obj.cells #[.string a.column, .int .i64 a.func, .slice D2 a.value.length d2] 62 (0, 0)) := blk_set (blk_set (blk_set ((blk_far (p := ⟨(w.heap.size + 1 + 1), 2, none⟩) (by simp; try omega) (.slice D2 a.value.length d2)).trans (R2.out)) 0 (.string a.column)) 1 (.int .i64 a.func)) 2 (.slice D2 a.value.length d2)
  have fc := blk_cells fin
  have a2 := (((((Away.refl (w.heap.size + 3) W2).set (p := ⟨(w.heap.size + 1 + 1), 2, none⟩) (by simp) (.slice D2 a.value.length d2)).set (p := ⟨w.heap.size + 1, 0, none⟩) (by simp) (.string a.column)).set (p := ⟨w.heap.size + 1, 1, none⟩) (by simp) (.int .i64 a.func)).set (p := ⟨w.heap.size + 1, 2, none⟩) (by simp) (.slice D2 a.value.length d2))
  refine bodyPost_ret (v := .agg #[.string a.column, .int .i64 a.func, .slice D2 a.value.length d2]) (by simp [results, Try.results39, go_sem, fc]) rfl ⟨[.string a.column, .int .i64 a.func, .slice D2 a.value.length d2], _, rfl, ⟨_, e2, rfl, rfl, hf0, a2.rd AtomSR.good s2 f2 (by simp; try omega)⟩, ?_, (((((nxt' ((((Below.refl w.heap.size w).alloc (Nat.le_refl _) _).alloc (by simp) _).alloc (by simp; omega) _) hb2).setCell (p := ⟨(w.heap.size + 1 + 1), 2, none⟩) (by simp; try omega) _).setCell (p := ⟨w.heap.size + 1, 0, none⟩) (by simp) _).setCell (p := ⟨w.heap.size + 1, 1, none⟩) (by simp) _).setCell (p := ⟨w.heap.size + 1, 2, none⟩) (by simp) _)⟩
  exact ((a2.fr f2 (by simp; try omega))).mono (by simp; try omega)
end Go.Proofs.Ythglchopajdmhaa
