/- Equality of rows of data, in the program and in the reference. No statement is proved here; no conditions. Written by a program (gen16.py). -/
import Derived.Test.YthglchopajdmhaaGreatHas
import Derived.Test.YthglchopajdmhaaGreatFunc
import Derived.Test.YthglchopajdmhaaGreatBox
import Derived.Shelf.Abstract
namespace Go.Proofs.YthglchopajdmhaaGreat
open Go.ChangeShapes Go.WideShapes Go.ChangeAt Go.RowKit Go.Deep
set_option maxRecDepth 100000
set_option linter.unusedVariables false
set_option linter.unusedSimpArgs false

theorem neq_atom (a b : Atom) (W : World) : (binOp .neq 98 (.agg #[.int .i64 a.kind, .int .i64 a.n, .string a.t]) (.agg #[.int .i64 b.kind, .int .i64 b.n, .string b.t])).run Tryz.prog W = .ok (.bool (!decide (a = b))) W := by
  rw [run_neq_struct, run_equalIn_struct W 9999 _ _ _ atom_under atom_stood, atom_fields]
  obtain ⟨k1, n1, t1⟩ := a
  obtain ⟨k2, n2, t2⟩ := b
  by_cases h1 : k1 = k2
  · by_cases h2 : n1 = n2
    · by_cases h3 : t1.toList = t2.toList
      · have h4 : t1 = t2 := eqS_iff.1 (by unfold eqS; simp [h3])
        simp [go_sem, h1, h2, h4]
      · have h4 : t1 ≠ t2 := fun h => h3 (by rw [h])
        simp [go_sem, h1, h2, h3, h4]
    · simp [go_sem, h1, h2]
  · simp [go_sem, h1]
section
variable {α : Type} {xs ys : List α}
theorem same_zero : ∀ j (hj : j < xs.length) (hj2 : j < ys.length), j < 0 → xs[j] = ys[j] := fun _ _ _ h => absurd h (Nat.not_lt_zero _)
theorem same_step {k : Nat} (h : ∀ j (hj : j < xs.length) (hj2 : j < ys.length), j < k → xs[j] = ys[j]) (hk : k < xs.length) (hk2 : k < ys.length) (he : xs[k] = ys[k]) : ∀ j (hj : j < xs.length) (hj2 : j < ys.length), j < k + 1 → xs[j] = ys[j] := by
  intro j hj hj2 hjk
  by_cases hjk' : j = k
  · subst hjk'; exact he
  · exact h j hj hj2 (by omega)
end
section
variable {α : Type} [DecidableEq α] {xs ys : List α}
theorem same_all (hl : xs.length = ys.length) (h : ∀ j (hj : j < xs.length) (hj2 : j < ys.length), j < xs.length → xs[j] = ys[j]) : decide (xs = ys) = true := by
  simp only [decide_eq_true_eq]; exact List.ext_getElem hl fun j h1 h2 => h j h1 h2 h1
theorem same_not {k : Nat} (hk : k < xs.length) (hk2 : k < ys.length) (h : decide (xs[k] = ys[k]) = false) : decide (xs = ys) = false := by
  simp only [decide_eq_false_iff_not] at h ⊢; intro he; subst he; exact h rfl
theorem same_len (hl : ¬ xs.length = ys.length) : decide (xs = ys) = false := by
  simp only [decide_eq_false_iff_not]; intro he; subst he; exact hl rfl
end
end Go.Proofs.YthglchopajdmhaaGreat
