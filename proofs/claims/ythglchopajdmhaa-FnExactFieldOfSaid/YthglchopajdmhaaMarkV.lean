/- What the functions mark.. of package laws write, at structs handed over by value. No statement is proved here; no conditions. Written by a program (gen14.py). -/
import Derived.Test.YthglchopajdmhaaMark
namespace Go.Proofs.Ythglchopajdmhaa
open Go.ChangeShapes Go.WideShapes Go.ChangeAt Go.RowKit Go.Deep
set_option maxRecDepth 100000
set_option linter.unusedVariables false
set_option linter.unusedSimpArgs false

theorem markVMut {w : World} {lo : Nat} {bs : List Nat} {cs : List Value} {a : Mut} (h : MutR w bs cs a) (hf : Fr lo w bs) {k : Int} (h0 : 0 < k) (h1 : k + a.wtV ≤ 1099511627776) :
    Calls Try.prog 42 #[.agg cs.toArray, .int .i64 k] w (MkP MutR w lo bs cs (a.markV k) (k + a.wtV)) := by
  obtain ⟨v2, b2, rfl, rfl, hfine, r2⟩ := h
  have rr2 := hide r2
  obtain ⟨D2, d2, rfl, _, _, _⟩ := r2.use
  have hw : (a.wtV : Int) = (AtomS.wt a.value : Int) := by unfold Mut.wtV; rfl
  rw [hw] at h1 ⊢
  clear hw
  have hFn2 := hf
  have hss2 : ∀ x ∈ bs, x ∈ bs := fun _ h => h
  have hlt2 := hide (fun x hx => AtomSR.good.lt rr2.out x hx)
  have hB := (Below.refl w.heap.size w).alloc (Nat.le_refl _) (.cells #[.string a.column, .int .i64 a.func, .slice D2 a.value.length d2] 62)
  have B0 := blk_new w #[.string a.column, .int .i64 a.func, .slice D2 a.value.length d2] 62
  have c0 := blk_cells B0
  go_enter Try.func42, Try.ntmps42
  have n2 := AtomSR.good.upd rr2.out (Upd.of (bs := []) hB) (fun x hx hm => by cases hm)
  have m2 := hFn2.upd (Upd.of (bs := []) hB)
  go_wp2_with fail
  refine (markAtomS n2 m2 (by omega) (by omega)).mono ?_; rintro e w2 ⟨rfl, x2, y2, u2⟩
  have B21 := (u2.far w.heap.size (lt_of_cells (B0)) (fun hx => by have := hlt2.out _ hx; omega)).trans (B0)
  clear c0; have c0 := blk_cells B21
  have HU := ((Upd.of (bs := bs) hB).trans u2 hss2)
  have hF' := hf.upd HU
  have hRR := hide (show MutR _ (bs) _ (a.markV k) from ⟨_, bs, rfl, rfl, hfine, x2⟩)
  go_wp2_with fail
  go_ret
  exact ⟨by first | rfl | (rw [Int.add_assoc]; rfl), hRR.out, hF', HU⟩
end Go.Proofs.Ythglchopajdmhaa
