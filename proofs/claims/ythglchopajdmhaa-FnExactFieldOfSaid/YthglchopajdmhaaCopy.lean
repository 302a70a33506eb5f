/- Copies of rows and stores, in the program. No statement is proved here; no conditions. Written by a program (gen22.py). -/
import Derived.Test.YthglchopajdmhaaDrawn
import Derived.Test.YthglchopajdmhaaStart
import Derived.Test.YthglchopajdmhaaBox
import Derived.Deep.RegionHeld3
namespace Go.Proofs.Ythglchopajdmhaa
open Go.ChangeShapes Go.WideShapes Go.ChangeAt Go.RowKit Go.Deep
set_option maxRecDepth 100000
set_option linter.unusedVariables false
set_option linter.unusedSimpArgs false

theorem bulkL_len {α : Type} (f : α → Nat) (xs : List α) : xs.length ≤ bulkL f xs := Nat.le_add_right _ _
theorem bulkL_mem {α : Type} (f : α → Nat) {xs : List α} {x : α} (h : x ∈ xs) : f x ≤ bulkL f xs := by
  unfold bulkL
  induction xs with
  | nil => cases h
  | cons a l ih =>
    simp only [List.map_cons, List.sum_cons, List.length_cons]
    rcases List.mem_cons.1 h with rfl | h
    · omega
    · have := ih h; omega
theorem bulkL_at {α : Type} (f : α → Nat) {xs : List α} {k : Nat} (h : k < xs.length) {n : Nat} (hn : bulkL f xs ≤ n) : f xs[k] ≤ n := Nat.le_trans (bulkL_mem f (List.getElem_mem h)) hn
theorem take_step {α : Type} {xs : List α} {k : Nat} (h : k < xs.length) : xs.take (k + 1) = xs.take k ++ [xs[k]] := by rw [List.take_add_one, List.getElem?_eq_getElem h]; rfl
theorem Row.cells_le {r : Row} {n : Nat} (h : r.bulk ≤ n) : r.cells.length ≤ n ∧ ∀ k (hk : k < r.cells.length), r.cells[k].length ≤ n := by
  have h1 : bulkL AtomS.bulk r.cells ≤ n := h
  exact ⟨Nat.le_trans (bulkL_len _ _) h1, fun k hk => Nat.le_trans (bulkL_len _ _) (bulkL_at _ hk h1)⟩
end Go.Proofs.Ythglchopajdmhaa
