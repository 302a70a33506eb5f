/- slices.IndexFunc and slices.ContainsFunc, at a predicate. No statement is proved here; no conditions. Written by a program (gen.py). -/
import Derived.Test.YtdleccpjejdgiaaGreatDoorCodes
import Derived.Shelf.Abstract
namespace Go.Proofs.YtdleccpjejdgiaaGreatDoor
open Go.ChangeShapes Go.WideShapes Go.ChangeAt Go.RowKit Go.Deep
set_option maxRecDepth 100000
set_option linter.unusedVariables false

def idxF {α : Type} (p : α → Bool) (xs : List α) : Int := if xs.any p then ((xs.findIdx p : Nat) : Int) else -1
theorem idxF_none {α : Type} {p : α → Bool} {xs : List α} (h : ∀ j (hj : j < xs.length), j < xs.length → p xs[j] = false) : idxF p xs = -1 := by
  unfold idxF; rw [if_neg]
  intro hm
  obtain ⟨x, hx, hp⟩ := List.any_eq_true.1 hm
  obtain ⟨j, hj, rfl⟩ := List.getElem_of_mem hx
  rw [h j hj hj] at hp; cases hp
theorem idxF_at {α : Type} {p : α → Bool} {xs : List α} {k : Nat} (hk : k < xs.length) (hb : ∀ j (hj : j < xs.length), j < k → p xs[j] = false) (he : p xs[k] = true) : idxF p xs = k := by
  unfold idxF; rw [if_pos (List.any_eq_true.2 ⟨xs[k], List.getElem_mem hk, he⟩)]
  congr 1
  rcases Nat.lt_trichotomy (xs.findIdx p) k with h | h | h
  · have h1 : xs.findIdx p < xs.length := by omega
    have := List.findIdx_getElem (w := h1)
    rw [hb _ h1 h] at this; cases this
  · exact h
  · have := List.not_of_lt_findIdx h
    rw [he] at this; simp at this
theorem idxF_any {α : Type} {p : α → Bool} {xs : List α} : decide (0 ≤ idxF p xs) = xs.any p := by
  unfold idxF; cases h : xs.any p <;> simp
theorem idxF_bd {α : Type} (p : α → Bool) (xs : List α) : -1 ≤ idxF p xs ∧ idxF p xs ≤ xs.length := by
  unfold idxF
  split
  · rename_i h
    have h1 : xs.findIdx p ≤ xs.length := List.findIdx_le_length
    omega
  · omega

end Go.Proofs.YtdleccpjejdgiaaGreatDoor
