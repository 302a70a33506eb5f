/- Nodes and depth of values. No statement is proved here; no conditions. Written by a program (gen36.py). -/
import Derived.Test.YtdleccpjejdgiaaGreatDoorJsonOK
import Derived.Test.YtdleccpjejdgiaaGreatDoorOrder
namespace Go.Proofs.YtdleccpjejdgiaaGreatDoor
open Go.ChangeShapes Go.WideShapes Go.ChangeAt Go.RowKit Go.Deep
set_option maxRecDepth 100000
set_option linter.unusedVariables false
set_option linter.unusedSimpArgs false

def mxJ (f : Json → Nat) (xs : List Json) : Nat := xs.foldl (fun z x => max z (f x)) 0
def dep : Nat → Json → Nat
  | 0, _ => 0
  | d + 1, j => mxJ (dep d) j.items + (if 4 ≤ j.kind then 1 else 0)
theorem good_parts {d : Nat} {a : Json} (h : goodJ (d + 1) a = true) : partOK a = true ∧ ∀ k (hk : k < a.items.length), goodJ d a.items[k] = true := by
  have h1 : (partOK a && a.items.all (goodJ d)) = true := h
  rw [Bool.and_eq_true] at h1
  exact ⟨h1.1, fun k hk => List.all_eq_true.1 h1.2 _ (List.getElem_mem hk)⟩
theorem cnt_succ (d : Nat) (a : Json) : cnt (d + 1) a = 1 + psum (cnt d) a.items a.items.length := by rw [psum_all]; rfl
theorem cnt_item {d : Nat} {a : Json} {k : Nat} (hk : k < a.items.length) (h : cnt (d + 1) a ≤ 400) : cnt d a.items[k] ≤ 400 ∧ psum (cnt d) a.items (k + 1) ≤ 399 := by
  rw [cnt_succ] at h
  have h1 := psum_succ (cnt d) a.items k hk; have h2 := psum_le (cnt d) a.items (k + 1); rw [← psum_all] at h2
  constructor <;> omega
theorem part_kind {a : Json} (h : partOK a = true) : 0 ≤ a.kind ∧ a.kind ≤ 5 ∧ (a.kind < 4 → a.items.length = 0) := by
  unfold partOK at h
  by_cases e0 : a.kind = 0
  · rw [e0] at h ⊢; simp at h; refine ⟨by omega, by omega, fun _ => ?_⟩; simp [h.2.2.2]
  · by_cases e1 : a.kind = 1
    · rw [e1] at h ⊢; simp at h; refine ⟨by omega, by omega, fun _ => ?_⟩; simp [h.2.2.2]
    · by_cases e2 : a.kind = 2
      · rw [e2] at h ⊢; simp at h; refine ⟨by omega, by omega, fun _ => ?_⟩; simp [h.2.2.2]
      · by_cases e3 : a.kind = 3
        · rw [e3] at h ⊢; simp at h; refine ⟨by omega, by omega, fun _ => ?_⟩; simp [h.2.2.2]
        · by_cases e4 : a.kind = 4
          · omega
          · by_cases e5 : a.kind = 5
            · omega
            · simp [e0, e1, e2, e3, e4, e5] at h
theorem mxJ_le (f : Json → Nat) (m : Nat) : ∀ (xs : List Json), (∀ x ∈ xs, f x ≤ m) → mxJ f xs ≤ m := fun xs => by
  unfold mxJ
  have : ∀ (xs : List Json) (z : Nat), z ≤ m → (∀ x ∈ xs, f x ≤ m) → xs.foldl (fun z x => max z (f x)) z ≤ m := by
    intro xs
    induction xs with
    | nil => intro z hz _; exact hz
    | cons x xs ih => intro z hz h; exact ih _ (Nat.max_le.2 ⟨hz, h x (by simp)⟩) fun y hy => h y (by simp [hy])
  exact this xs 0 (Nat.zero_le _)
theorem dep_le : ∀ (d : Nat) (a : Json), dep d a ≤ d
  | 0, _ => Nat.le_refl _
  | d + 1, a => by have := mxJ_le (dep d) d a.items (fun x _ => dep_le d x); show mxJ (dep d) a.items + _ ≤ _; split <;> omega
theorem mxJ_take (f : Json → Nat) (xs : List Json) (k : Nat) (h : k < xs.length) : mxJ f (xs.take (k + 1)) = max (mxJ f (xs.take k)) (f xs[k]) := by
  unfold mxJ; rw [List.take_add_one, List.getElem?_eq_getElem h, List.foldl_append]; rfl
abbrev DP (F : FuncId) (d : Nat) : Prop := ∀ {w : World} {bs : List Nat} {cs : List Value} {a : Json} (H : JsonR w bs cs a) (hg : goodJ d a = true) (hd : d ≤ 12),
    Calls Tryz.prog F #[.agg cs.toArray] w fun e w' => e = .returned (.int .i64 ((dep d a : Nat) : Int)) ∧ Below w.heap.size w w'
end Go.Proofs.YtdleccpjejdgiaaGreatDoor
