/- The walk of the law on Fits. No statement is proved here; no conditions. -/
import Derived.Test.YtgnfblefepjpjaaFits
namespace Go.Proofs.Ytgnfblefepjpjaa
open Go.ChangeShapes Go.WideShapes Go.ChangeAt Go.RowKit Go.Deep
set_option maxRecDepth 100000

theorem lawFits {W : World} {b1 b2 : List Nat} {v : Value} {cs : List Value} {c : Column} {d : List Atom} (hc : ColumnR W b1 cs c) (h : AtomSR W b2 [v] d) :
    Calls Try.prog 9 #[.agg cs.toArray, v] W fun e w' => e = .returned (.bool true) ∧ Below W.heap.size W w' := by
  have h0 := h
  have hc0 := hc
  obtain ⟨A, c0, rfl, _, _, _⟩ := atoms_at h
  obtain ⟨rfl, rfl, fc⟩ := hc
  have hB := (Below.refl W.heap.size W).alloc (Nat.le_refl _) (.cells c.cells 30)
  by_cases hn : (1048576 : Int) - c.bulk < 0
  · go_enter Try.func9, Try.ntmps9
    go_wp2_with fail
    refine (szColumn hB hc0 (by omega) (by omega)).mono ?_; rw [clip_neg (by omega)]; rintro e w1 ⟨rfl, hb1⟩
    go_wp2_with fail
    go_ret
    exact ⟨rfl, nxt hB hb1⟩
  by_cases hn2 : (1048576 : Int) - c.bulk - AtomS.bulk d < 0
  · go_enter Try.func9, Try.ntmps9
    go_wp2_with fail
    refine (szColumn hB hc0 (by omega) (by omega)).mono ?_; rw [clip_pos (by omega)]; rintro e w1 ⟨rfl, hb1⟩
    go_wp2_with fail
    refine (szAtomS (nxt hB hb1) h0 (by omega) (by omega)).mono ?_; rw [clip_neg (by omega)]; rintro e w2 ⟨rfl, hb2⟩
    go_wp2_with fail
    go_ret
    exact ⟨rfl, nxt (nxt hB hb1) hb2⟩
  have hk : AtomS.bulk d ≤ 1048576 := by omega
  obtain ⟨ok, co, hok⟩ : ∃ ok co, fitsAll c d = (ok, co) := ⟨_, _, rfl⟩
  have HO := hide hok
  have qq1 : (ok != ok) = false := by simp
  have qq2 : (co != co) = false := by simp
  clear hok
  go_enter Try.func9, Try.ntmps9
  go_wp2_with fail
  refine (szColumn hB hc0 (by omega) (by omega)).mono ?_; rw [clip_pos (by omega)]; rintro e w1 ⟨rfl, hb1⟩; have q1 := box_at hb1; have hw1 := nxt hB hb1
  go_wp2_with fail
  refine (szAtomS hw1 h0 (by omega) (by omega)).mono ?_; rw [clip_pos (by omega)]; rintro e w2 ⟨rfl, hb2⟩; have q2 := box_on q1 rfl hb2; have hw2 := nxt hw1 hb2
  go_wp2_with fail
  refine (toColumn hc0).mono ?_; rintro e w3 ⟨rfl, hb3⟩; have q3 := box_on q2 rfl hb3; have hw3 := nxt hw2 hb3
  go_wp2_with fail
  refine (toAtomS hw3 h0 hk).mono ?_; rintro e w4 ⟨v4, s4, rfl, r4, f4, hb4⟩; obtain ⟨A4, c4, rfl, _, _, _⟩ := r4.use; have q4 := box_on q3 rfl hb4; have hw4 := nxt hw3 hb4
  go_wp2_with fail
  refine (spec_Fits (Below.refl _ _) r4 c fc).mono ?_; rw [HO.out]; rintro e w5 ⟨rfl, hb5⟩; have q5 := box_on q4 rfl hb5; have hw5 := nxt hw4 hb5
  go_wp2_with fail
  refine (toAtomS hw5 h0 hk).mono ?_; rintro e w6 ⟨v6, s6, rfl, r6, f6, hb6⟩; obtain ⟨A6, c6, rfl, _, _, _⟩ := r6.use; have q6 := box_on q5 rfl hb6; have hw6 := nxt hw5 hb6
  go_wp2_with fail
  refine (toColumn hc0).mono ?_; rintro e w7 ⟨rfl, hb7⟩; have hw7 := nxt hw6 hb7
  go_wp2_with fail
  refine (impl_Fits hb7 r6 c fc).mono ?_; rw [HO.out]; rintro e w8 ⟨rfl, hb8⟩; have hw8 := nxt hw7 hb8
  have r6' := AtomSR.good.nxt (nxt hb7 hb8) r6
  go_wp2_with fail
  refine (toAtomS hw8 h0 hk).mono ?_; rintro e w9 ⟨v9, s9, rfl, r9, f9, hb9⟩; obtain ⟨A9, c9, rfl, _, _, _⟩ := r9.use; have hw9 := nxt hw8 hb9
  have r6'' := AtomSR.good.nxt hb9 r6'
  go_wp2_with fail
  refine (eqAtomS (Below.refl _ _) r6'' r9).mono ?_; rintro e w10 ⟨rfl, hb10⟩
  go_wp2_with fail
  go_ret
  exact ⟨rfl, nxt hw9 hb10⟩
end Go.Proofs.Ytgnfblefepjpjaa
