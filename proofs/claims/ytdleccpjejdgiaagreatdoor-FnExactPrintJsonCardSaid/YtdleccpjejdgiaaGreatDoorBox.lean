/- Blocks of the call's own, three at once. No statement is proved here; no conditions. -/
import Derived.Test.YtdleccpjejdgiaaGreatDoorOwn
namespace Go.Proofs.YtdleccpjejdgiaaGreatDoor
open Go.ChangeShapes Go.WideShapes Go.ChangeAt Go.RowKit Go.Deep
theorem three_at {w w1 : World} {cs ds es : Array Value} {t u v : TypeId} (hb1 : Below (((w.alloc (.cells cs t)).alloc (.cells ds u)).alloc (.cells es v)).heap.size (((w.alloc (.cells cs t)).alloc (.cells ds u)).alloc (.cells es v)) w1) :
    (∀ j, w1.cell? ⟨w.heap.size, j, none⟩ = cs[j]?) ∧ (∀ j, w1.cell? ⟨w.heap.size + 1, j, none⟩ = ds[j]?) ∧ ∀ j, w1.cell? ⟨w.heap.size + 1 + 1, j, none⟩ = es[j]? := by
  have h1 : (((w.alloc (.cells cs t)).alloc (.cells ds u)).alloc (.cells es v)).heap[w.heap.size]? = some (.cells cs t (0, 0)) := blk_old (blk_old (blk_new _ _ _) _) _
  have h2 : (((w.alloc (.cells cs t)).alloc (.cells ds u)).alloc (.cells es v)).heap[w.heap.size + 1]? = some (.cells ds u (0, 0)) := blk_old (by simpa using blk_new (w.alloc (.cells cs t)) ds u) _
  have h3 : (((w.alloc (.cells cs t)).alloc (.cells ds u)).alloc (.cells es v)).heap[w.heap.size + 1 + 1]? = some (.cells es v (0, 0)) := by simpa using blk_new ((w.alloc (.cells cs t)).alloc (.cells ds u)) es v
  exact ⟨blk_cells (blk_on h1 hb1), blk_cells (blk_on h2 hb1), blk_cells (blk_on h3 hb1)⟩
theorem box_cell {w : World} {b : Nat} {cs : Array Value} (q : ∀ j, w.cell? ⟨b, j, none⟩ = cs[j]?) (j : Nat) {v : Value} (h : cs.toList[j]? = some v) : w.cell? ⟨b, j, none⟩ = some v := by
  rw [q j, ← h]; simp
end Go.Proofs.YtdleccpjejdgiaaGreatDoor
