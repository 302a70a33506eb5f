/- Arguments as the program takes them: what the functions to.. of package laws return. No statement is proved here; no conditions. Written by a program (gen.py). -/
import Derived.Test.YtdleccpjejdgiaaGreatDoorOwn
namespace Go.Proofs.YtdleccpjejdgiaaGreatDoor
open Go.ChangeShapes Go.WideShapes Go.ChangeAt Go.RowKit Go.Deep
set_option maxRecDepth 100000
set_option linter.unusedVariables false

section
variable {α : Type}
/-- A struct in new memory, read as the datum. -/
def ToP (R : Rd α) (w : World) (a : α) (e : Ending) (w' : World) : Prop := ∃ cs bs, e = .returned (.agg cs.toArray) ∧ R w' bs cs a ∧ Fr w.heap.size w' bs ∧ Below w.heap.size w w'
/-- A slice in new memory, read as the datum. -/
def ToS (R : Rd α) (w : World) (a : α) (e : Ending) (w' : World) : Prop := ∃ v bs, e = .returned v ∧ R w' bs [v] a ∧ Fr w.heap.size w' bs ∧ Below w.heap.size w w'
end

theorem StringS.info : (Tryz.prog.info? 9).map (fun i => (i.zero, i.size, i.bytes)) = some (some (.string ⟨#[]⟩), 1, 16) := by kernel_rfl
theorem toStringS {w0 w : World} (hb : Below w0.heap.size w0 w) {bs : List Nat} {v : Value} {xs : List ByteArray} (ha : StringSR w0 bs [v] xs) (hbk : StringS.bulk xs ≤ 1048576) :
    Calls Tryz.prog 13 #[v] w (ToS StringSR w xs) := by
  obtain ⟨A, c, rfl, hlc, hcm, hel⟩ := ha.use
  have hn : xs.length ≤ 1048576 := by unfold StringS.bulk bulkL at hbk; omega
  obtain ⟨cur0, hcs, hmk⟩ := make_row (P := Tryz.prog) (t := 22) Tryz.underlying22 StringS.info xs.length (by omega) (by omega)
  have hB0 := hide (Bld.start (R := StrR) (e := 9) w xs hcs)
  clear hcs hbk
  go_enter Tryz.func13, Tryz.ntmps13
  go_wp2
  go_loopw [4] (fun i wr => ∃ k : Nat, k ≤ xs.length ∧ i = .int .i64 k ∧ Hid (Bld 1 StrR 9 wr w.heap.size xs k) ∧ Below w.heap.size w wr) (fun i _ => xs.length - (intOf i).toNat)
  case atStart => exact ⟨0, Nat.zero_le _, rfl, hB0, (Below.refl _ _).alloc (Nat.le_refl _) _⟩
  case round =>
    clear hmk hB0
    obtain ⟨k, hk, rfl, hB, hbr⟩ := hrel
    by_cases hlt : k < xs.length
    · obtain ⟨b, o, bk, es, rfl, hbl, hcl, hcell, hR, _⟩ := hel k hlt
      have hR0 := hR
      obtain ⟨hbk', hes, hsz⟩ := hR
      subst hes
      have c_0 := ((nxt hb hbr).cell (p := ⟨b, _, none⟩) hbl).trans (hcell 0 _ rfl)
      simp only [Nat.add_zero, Nat.mul_one] at c_0
      clear hcell hel hcl
      have hco := hB.out.cells (Below.refl _ _) hlt
      obtain ⟨u0, s_0⟩ := hco.1 0 (by omega); simp only [Nat.add_zero, Nat.mul_one] at s_0; have fz := hco.2
      clear hco
      go_wp2
      go_roundw
      case rel => exact ⟨k + 1, hlt, by go_num, hide (by have h := hB.out.step StrR.good (Below.refl _ _) hlt (StrR.good.nxt (nxt hb hbr) hR0) rfl (by rw [hbk']; exact Fr.nil _ _); rw [setMany_1, Nat.mul_one] at h; exact h), (hbr.setCell (Nat.le_refl _) _)⟩
      case measure => simp [intOf]; omega
    · obtain rfl : k = xs.length := by omega
      have hd := hide (hB.out.done (by omega))
      go_wp2
      go_ret
      obtain ⟨bs', h1, h2⟩ := hd.out
      exact ⟨_, bs', rfl, h1, h2, hbr⟩
end Go.Proofs.YtdleccpjejdgiaaGreatDoor
