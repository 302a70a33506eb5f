/- What the functions mark.. of package laws write, at structs handed over by value. No statement is proved here; no conditions. Written by a program (gen14.py). -/
import Derived.Test.YtfkpllkgganejaaMark
namespace Go.Proofs.Ytfkpllkgganejaa
open Go.ChangeShapes Go.WideShapes Go.ChangeAt Go.RowKit Go.Deep
set_option maxRecDepth 100000
set_option linter.unusedVariables false
set_option linter.unusedSimpArgs false

theorem markVRow {w : World} {lo : Nat} {bs : List Nat} {cs : List Value} {a : Row} (h : RowR w bs cs a) (hf : Fr lo w bs) {k : Int} (h0 : 0 < k) (h1 : k + a.wtV ≤ 1099511627776) :
    Calls Try.prog 13 #[.agg cs.toArray, .int .i64 k] w (MkP RowR w lo bs cs (a.markV k) (k + a.wtV)) := by
  obtain ⟨v1, b1, rfl, rfl, hfine, r1⟩ := h
  have rr1 := hide r1
  obtain ⟨D1, d1, rfl, _, _, _⟩ := r1.use
  have hw : (a.wtV : Int) = (AtomSS.wt a.cells : Int) := by unfold Row.wtV; rfl
  rw [hw] at h1 ⊢
  clear hw
  have hFn1 := hf
  have hss1 : ∀ x ∈ bs, x ∈ bs := fun _ h => h
  have hlt1 := hide (fun x hx => AtomSSR.good.lt rr1.out x hx)
  have hB := (Below.refl w.heap.size w).alloc (Nat.le_refl _) (.cells #[.int .i64 a.id, .slice D1 a.cells.length d1] 38)
  have B0 := blk_new w #[.int .i64 a.id, .slice D1 a.cells.length d1] 38
  have c0 := blk_cells B0
  go_enter Try.func13, Try.ntmps13
  have n1 := AtomSSR.good.upd rr1.out (Upd.of (bs := []) hB) (fun x hx hm => by cases hm)
  have m1 := hFn1.upd (Upd.of (bs := []) hB)
  go_wp2_with fail
  refine (markAtomSS n1 m1 (by omega) (by omega)).mono ?_; rintro e w1 ⟨rfl, x1, y1, u1⟩
  have B11 := (u1.far w.heap.size (lt_of_cells (B0)) (fun hx => by have := hlt1.out _ hx; omega)).trans (B0)
  clear c0; have c0 := blk_cells B11
  have HU := ((Upd.of (bs := bs) hB).trans u1 hss1)
  have hF' := hf.upd HU
  have hRR := hide (show RowR _ (bs) _ (a.markV k) from ⟨_, bs, rfl, rfl, hfine, x1⟩)
  go_wp2_with fail
  go_ret
  exact ⟨by first | rfl | (rw [Int.add_assoc]; rfl), hRR.out, hF', HU⟩
theorem markVStore {w : World} {lo : Nat} {bs : List Nat} {cs : List Value} {a : Store} (h : StoreR w bs cs a) (hf : Fr lo w bs) {k : Int} (h0 : 0 < k) (h1 : k + a.wtV ≤ 1099511627776) :
    Calls Try.prog 12 #[.agg cs.toArray, .int .i64 k] w (MkP StoreR w lo bs cs (a.markV k) (k + a.wtV)) := by
  obtain ⟨v0, b0, rfl, rfl, hfine, r0⟩ := h
  have rr0 := hide r0
  obtain ⟨D0, d0, rfl, _, _, _⟩ := r0.use
  have hw : (a.wtV : Int) = (RowSS.wt a.tables : Int) := by unfold Store.wtV; rfl
  rw [hw] at h1 ⊢
  clear hw
  have hFn0 := hf
  have hss0 : ∀ x ∈ bs, x ∈ bs := fun _ h => h
  have hlt0 := hide (fun x hx => RowSSR.good.lt rr0.out x hx)
  have hB := (Below.refl w.heap.size w).alloc (Nat.le_refl _) (.cells #[.slice D0 a.tables.length d0, .int .i64 a.next] 32)
  have B0 := blk_new w #[.slice D0 a.tables.length d0, .int .i64 a.next] 32
  have c0 := blk_cells B0
  go_enter Try.func12, Try.ntmps12
  have n0 := RowSSR.good.upd rr0.out (Upd.of (bs := []) hB) (fun x hx hm => by cases hm)
  have m0 := hFn0.upd (Upd.of (bs := []) hB)
  go_wp2_with fail
  refine (markRowSS n0 m0 (by omega) (by omega)).mono ?_; rintro e w0 ⟨rfl, x0, y0, u0⟩
  have B01 := (u0.far w.heap.size (lt_of_cells (B0)) (fun hx => by have := hlt0.out _ hx; omega)).trans (B0)
  clear c0; have c0 := blk_cells B01
  have HU := ((Upd.of (bs := bs) hB).trans u0 hss0)
  have hF' := hf.upd HU
  have hRR := hide (show StoreR _ (bs) _ (a.markV k) from ⟨_, bs, rfl, rfl, hfine, x0⟩)
  go_wp2_with fail
  go_ret
  exact ⟨by first | rfl | (rw [Int.add_assoc]; rfl), hRR.out, hF', HU⟩
end Go.Proofs.Ytfkpllkgganejaa
