/- Whether an atom is in a list, in the program and in the reference. No statement is proved here; no conditions. -/
import Derived.Test.YtfkpllkgganejaaDatum
namespace Go.Proofs.Ytfkpllkgganejaa
open Go.ChangeShapes Go.WideShapes Go.ChangeAt Go.RowKit Go.Deep
set_option maxRecDepth 100000

theorem atom_fields : Try.prog.fieldsOf 78 = #[{ name := "Kind", type := 3, offset := 0, embedded := false, tag := "", pkgPath := "", byteOffset := 0 }, { name := "N", type := 3, offset := 1, embedded := false, tag := "", pkgPath := "", byteOffset := 8 }, { name := "T", type := 9, offset := 2, embedded := false, tag := "", pkgPath := "", byteOffset := 16 }] := by kernel_rfl
theorem atom_under : Try.prog.underlying 78 = some (.struct (Try.prog.fieldsOf 78)) := by kernel_rfl
theorem atom_stood : Try.prog.stoodInHeld 78 = false := by kernel_rfl
theorem atom_guard : Try.prog.eqGuardType Try.prog.depth 78 = false := by kernel_rfl
theorem eql_atom (a b : Atom) (W : World) : (binOp .eql 78 (.agg #[.int .i64 a.kind, .int .i64 a.n, .string a.t]) (.agg #[.int .i64 b.kind, .int .i64 b.n, .string b.t])).run Try.prog W = .ok (.bool (decide (a = b))) W := by
  rw [run_eql_struct, run_equalIn_struct W 9999 _ _ _ atom_under atom_stood, atom_fields]
  obtain ⟨k1, n1, t1⟩ := a
  obtain ⟨k2, n2, t2⟩ := b
  by_cases h1 : k1 = k2
  · by_cases h2 : n1 = n2
    · by_cases h3 : t1.toList = t2.toList
      · have h4 : t1 = t2 := eqS_iff.1 (by unfold eqS; simp [h3])
        simp [go_sem, h1, h2, h4]
      · have h4 : t1 ≠ t2 := fun h => h3 (by rw [h])
        simp [go_sem, h1, h2, h3, h4]
    · simp [go_sem, h1, h2]
  · simp [go_sem, h1]
theorem grd_atom (op : BinOp) (x y : Operand) (xs ys : Array Value) (W : World) : (eqGuard op 78 x y (.agg xs) (.agg ys)).run Try.prog W = .ok () W := run_eqGuard_agg W op _ x y xs ys atom_guard
def idxA (d : List Atom) (a : Atom) : Int := if a ∈ d then (d.idxOf a : Int) else -1
theorem idxA_none {d : List Atom} {a : Atom} (h : ∀ j (hj : j < d.length), j < d.length → d[j] ≠ a) : idxA d a = -1 := by
  unfold idxA; rw [if_neg]
  intro hm
  obtain ⟨j, hj, he⟩ := List.getElem_of_mem hm
  exact h j hj hj he
theorem idxA_at {d : List Atom} {a : Atom} {k : Nat} (hk : k < d.length) (hb : ∀ j (hj : j < d.length), j < k → d[j] ≠ a) (he : d[k] = a) : idxA d a = k := by
  unfold idxA; rw [if_pos (by rw [← he]; exact List.getElem_mem hk)]
  have h1 : d.idxOf a < d.length := List.idxOf_lt_length_of_mem (by rw [← he]; exact List.getElem_mem hk)
  have h2 : d[d.idxOf a] = a := List.getElem_idxOf h1
  rcases Nat.lt_trichotomy (d.idxOf a) k with h | h | h
  · exact absurd h2 (hb _ h1 h)
  · rw [h]
  · have := List.not_of_lt_findIdx (p := fun x => x == a) (xs := d) (i := k) h
    simp [he] at this
theorem idxA_mem {d : List Atom} {a : Atom} : decide (0 ≤ idxA d a) = decide (a ∈ d) := by
  unfold idxA; by_cases h : a ∈ d <;> simp [h]
theorem idxA_bd (d : List Atom) (a : Atom) : -1 ≤ idxA d a ∧ idxA d a < d.length := by
  unfold idxA
  split
  · rename_i h
    have h1 := List.idxOf_lt_length_of_mem h
    omega
  · omega
def hasCode (d : List Atom) (a : Atom) : Bool × Int := if 4096 < d.length then (false, 2) else if datumOK d && atomOK a then (decide (a ∈ d), 0) else (false, 1)
end Go.Proofs.Ytfkpllkgganejaa
