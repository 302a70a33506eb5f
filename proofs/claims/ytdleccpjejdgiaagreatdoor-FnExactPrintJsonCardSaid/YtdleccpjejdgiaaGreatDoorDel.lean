/- slices.DeleteFunc. No statement is proved here; no conditions. Written by a program (gen17.py). -/
import Derived.Test.YtdleccpjejdgiaaGreatDoorClone
import Derived.Test.YtdleccpjejdgiaaGreatDoorFunc
import Derived.Shelf.Abstract
namespace Go.Proofs.YtdleccpjejdgiaaGreatDoor
open Go.ChangeShapes Go.WideShapes Go.ChangeAt Go.RowKit Go.Deep
set_option maxRecDepth 100000
set_option linter.unusedVariables false
set_option linter.unusedSimpArgs false

section
variable {α : Type} [Inhabited α]
theorem kept_some (p : α → Bool) (xs : List α) : (keptIdx p xs xs.length).map (fun q => xs[q]?) = (xs.filter fun x => !p x).map some := by
  have h := kept_map p xs xs.length (Nat.le_refl _)
  rw [List.take_length] at h
  rw [← h, List.map_map]
  apply List.map_congr_left
  intro q hq
  have := kept_lt hq
  simp [List.getD, this]
theorem kept_sub (p : α → Bool) (xs : List α) (k : Nat) : (keptIdx p xs k).Sublist (List.range k) := List.filter_sublist
end
theorem kept_mem {bss : List (List Nat)} {idx : List Nat} {x : Nat} (h : x ∈ (idx.map fun q => bss.getD q []).flatten) : x ∈ bss.flatten := by
  obtain ⟨l, hl, hx⟩ := List.mem_flatten.1 h
  obtain ⟨q, _, rfl⟩ := List.mem_map.1 hl
  rw [List.getD_eq_getElem?_getD] at hx
  cases hq : bss[q]? with
  | none => rw [hq] at hx; simp at hx
  | some l => rw [hq] at hx; exact List.mem_flatten.2 ⟨l, List.mem_of_getElem? hq, hx⟩
theorem kept_fr {lo : Nat} {w W : World} {b : Nat} {bss : List (List Nat)} {idx : List Nat} {n : Nat} (hf : Fr lo w (b :: bss.flatten)) (hu : Upd [b] w W) (hn : bss.length = n) (hi : idx.Sublist (List.range n)) :
    Fr lo W (if idx = [] then [] else b :: (idx.map fun q => bss.getD q []).flatten) := by
  have h1 := hf.upd hu
  split
  · exact Fr.nil _ _
  · have hc := List.nodup_cons.1 hf.1
    refine ⟨List.nodup_cons.2 ⟨fun hm => hc.1 (kept_mem hm), kept_nodup hc.2 hn hi⟩, fun x hx => ?_⟩
    rcases List.mem_cons.1 hx with rfl | hx
    · exact h1.2 x (by simp)
    · exact h1.2 x (List.mem_cons_of_mem _ (kept_mem hx))
theorem kept_in {b : Nat} {bss : List (List Nat)} {idx : List Nat} : ∀ x ∈ (if idx = [] then [] else b :: (idx.map fun q => bss.getD q []).flatten), x ∈ b :: bss.flatten := by
  intro x hx
  split at hx
  · cases hx
  · rcases List.mem_cons.1 hx with rfl | hx
    · simp
    · exact List.mem_cons_of_mem _ (kept_mem hx)
end Go.Proofs.YtdleccpjejdgiaaGreatDoor
