/- What the functions mark.. of package laws write, at structs handed over by value. No statement is proved here; no conditions. Written by a program (gen14.py). -/
import Derived.Test.YthglchopajdmhaaGreatMark
namespace Go.Proofs.YthglchopajdmhaaGreat
open Go.ChangeShapes Go.WideShapes Go.ChangeAt Go.RowKit Go.Deep
set_option maxRecDepth 100000
set_option linter.unusedVariables false
set_option linter.unusedSimpArgs false

theorem markVTable {w : World} {lo : Nat} {bs : List Nat} {cs : List Value} {a : Table} (h : TableR w bs cs a) (hf : Fr lo w bs) {k : Int} (h0 : 0 < k) (h1 : k + a.wtV ≤ 1099511627776) :
    Calls Tryz.prog 15 #[.agg cs.toArray, .int .i64 k] w (MkP TableR w lo bs cs (a.markV k) (k + a.wtV)) := by
  obtain ⟨v1, b1, v2, b2, rfl, rfl, hfine, r1, r2⟩ := h
  have rr1 := hide r1
  obtain ⟨D1, d1, rfl, _, _, _⟩ := r1.use
  have rr2 := hide r2
  obtain ⟨D2, d2, rfl, _, _, _⟩ := r2.use
  have hw : (a.wtV : Int) = (ColumnS.wt a.columns : Int) + (IntS.wt a.unique : Int) := by unfold Table.wtV; simp
  rw [hw] at h1 ⊢
  clear hw
  have hss1 : ∀ x ∈ b1, x ∈ b1 ++ b2 := fun x hx => (List.mem_append_left _ hx)
  have hFn1 : Fr lo w b1 := ⟨(List.nodup_append.1 hf.1).1, fun x hx => hf.2 x (List.mem_append_left _ hx)⟩
  have hss2 : ∀ x ∈ b2, x ∈ b1 ++ b2 := fun x hx => (List.mem_append_right _ hx)
  have hFn2 : Fr lo w b2 := ⟨(List.nodup_append.1 hf.1).2.1, fun x hx => hf.2 x (List.mem_append_right _ hx)⟩
  have hdis : ∀ x ∈ b2, x ∉ b1 := fun x hx hy => (List.nodup_append.1 hf.1).2.2 x hy x hx rfl
  have hlt1 := hide (fun x hx => ColumnSR.good.lt rr1.out x hx)
  have hlt2 := hide (fun x hx => IntSR.good.lt rr2.out x hx)
  have hB := (Below.refl w.heap.size w).alloc (Nat.le_refl _) (.cells #[.string a.name, .slice D1 a.columns.length d1, .slice D2 a.unique.length d2, .bool a.root] 40)
  have B0 := blk_new w #[.string a.name, .slice D1 a.columns.length d1, .slice D2 a.unique.length d2, .bool a.root] 40
  have c0 := blk_cells B0
  go_enter Tryz.func15, Tryz.ntmps15
  have n1 := ColumnSR.good.upd rr1.out (Upd.of (bs := []) hB) (fun x hx hm => by cases hm)
  have m1 := hFn1.upd (Upd.of (bs := []) hB)
  go_wp2_with fail
  refine (markColumnS n1 m1 (by omega) (by omega)).mono ?_; rintro e w1 ⟨rfl, x1, y1, u1⟩
  have B11 := (u1.far w.heap.size (lt_of_cells (B0)) (fun hx => by have := hlt1.out _ hx; omega)).trans (B0)
  clear c0; have c0 := blk_cells B11
  have n2 := IntSR.good.upd rr2.out ((Upd.of (bs := b1) hB).trans u1 (fun x hx => by simp [hx])) (fun x hx hm => hdis x hx hm)
  have m2 := hFn2.upd ((Upd.of (bs := b1) hB).trans u1 (fun x hx => by simp [hx]))
  go_wp2_with fail
  refine (markIntS n2 m2 (by omega) (by omega)).mono ?_; rintro e w2 ⟨rfl, x2, y2, u2⟩
  have B21 := (u2.far w.heap.size (lt_of_cells (B11)) (fun hx => by have := hlt2.out _ hx; omega)).trans (B11)
  clear c0; have c0 := blk_cells B21
  have HU := (((Upd.of (bs := b1 ++ b2) hB).trans u1 hss1).trans u2 hss2)
  have hF' := hf.upd HU
  have hRR := hide (show TableR _ (b1 ++ b2) _ (a.markV k) from ⟨_, b1, _, b2, rfl, rfl, hfine, ColumnSR.good.upd x1 u2 (fun x hx hm => hdis x hm hx), x2⟩)
  go_wp2_with fail
  go_ret
  exact ⟨by first | rfl | (rw [Int.add_assoc]; rfl), hRR.out, hF', HU⟩
theorem markVRow {w : World} {lo : Nat} {bs : List Nat} {cs : List Value} {a : Row} (h : RowR w bs cs a) (hf : Fr lo w bs) {k : Int} (h0 : 0 < k) (h1 : k + a.wtV ≤ 1099511627776) :
    Calls Tryz.prog 16 #[.agg cs.toArray, .int .i64 k] w (MkP RowR w lo bs cs (a.markV k) (k + a.wtV)) := by
  obtain ⟨v1, b1, rfl, rfl, hfine, r1⟩ := h
  have rr1 := hide r1
  obtain ⟨D1, d1, rfl, _, _, _⟩ := r1.use
  have hw : (a.wtV : Int) = (AtomSS.wt a.cells : Int) := by unfold Row.wtV; rfl
  rw [hw] at h1 ⊢
  clear hw
  have hFn1 := hf
  have hss1 : ∀ x ∈ bs, x ∈ bs := fun _ h => h
  have hlt1 := hide (fun x hx => AtomSSR.good.lt rr1.out x hx)
  have hB := (Below.refl w.heap.size w).alloc (Nat.le_refl _) (.cells #[.int .i64 a.id, .slice D1 a.cells.length d1] 35)
  have B0 := blk_new w #[.int .i64 a.id, .slice D1 a.cells.length d1] 35
  have c0 := blk_cells B0
  go_enter Tryz.func16, Tryz.ntmps16
  have n1 := AtomSSR.good.upd rr1.out (Upd.of (bs := []) hB) (fun x hx hm => by cases hm)
  have m1 := hFn1.upd (Upd.of (bs := []) hB)
  go_wp2_with fail
  refine (markAtomSS n1 m1 (by omega) (by omega)).mono ?_; rintro e w1 ⟨rfl, x1, y1, u1⟩
  have B11 := (u1.far w.heap.size (lt_of_cells (B0)) (fun hx => by have := hlt1.out _ hx; omega)).trans (B0)
  clear c0; have c0 := blk_cells B11
  have HU := ((Upd.of (bs := bs) hB).trans u1 hss1)
  have hF' := hf.upd HU
  have hRR := hide (show RowR _ (bs) _ (a.markV k) from ⟨_, bs, rfl, rfl, hfine, x1⟩)
  go_wp2_with fail
  go_ret
  exact ⟨by first | rfl | (rw [Int.add_assoc]; rfl), hRR.out, hF', HU⟩
end Go.Proofs.YthglchopajdmhaaGreat
