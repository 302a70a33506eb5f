/- The walks of the laws on one atom or one column. No statement is proved here; no conditions. -/
import Derived.Test.YtgnfblefepjpjaaSz
import Derived.Test.YtgnfblefepjpjaaTo
import Derived.Test.YtgnfblefepjpjaaColumn
namespace Go.Proofs.Ytgnfblefepjpjaa
open Go.ChangeShapes Go.WideShapes Go.ChangeAt Go.RowKit Go.Deep
set_option maxRecDepth 100000

theorem lawAtomOK {W : World} {bs : List Nat} {cs : List Value} {a : Atom} (h : AtomR W bs cs a) :
    Calls Try.prog 3 #[.agg cs.toArray] W fun e w' => e = .returned (.bool true) ∧ Below W.heap.size W w' := by
  have h0 := h
  obtain ⟨rfl, rfl, hf⟩ := h
  by_cases hn : (1048576 : Int) - a.bulk < 0
  · go_enter Try.func3, Try.ntmps3
    go_wp2_with (go_at_call 14; refine (szAtom ((Below.refl _ _).alloc (Nat.le_refl _) _) h0 (by omega) (by omega)).mono ?_; rw [clip_neg (by omega)]; rintro e w1 ⟨rfl, hb1⟩)
    go_ret
    exact ⟨rfl, nxt ((Below.refl _ _).alloc (Nat.le_refl _) _) hb1⟩
  · go_enter Try.func3, Try.ntmps3
    go_wp2_with (go_at_call 14; refine (szAtom ((Below.refl _ _).alloc (Nat.le_refl _) _) h0 (by omega) (by omega)).mono ?_; rw [clip_pos (by omega)]; rintro e w1 ⟨rfl, hb1⟩; have q1 := box_at hb1)
    refine (toAtom h0).mono ?_; rintro e w2 ⟨rfl, hb2⟩; have q2 := box_on q1 rfl hb2
    go_wp2_with fail
    refine (spec_AtomOK a _ hf).mono ?_; rintro e w3 ⟨rfl, hb3⟩; have q3 := box_on q2 rfl hb3
    go_wp2_with fail
    refine (toAtom h0).mono ?_; rintro e w4 ⟨rfl, hb4⟩; have q4 := box_on q3 rfl hb4
    go_wp2_with fail
    refine (impl_AtomOK a _ hf).mono ?_; rintro e w5 ⟨rfl, hb5⟩
    go_wp2_with fail
    go_ret
    exact ⟨rfl, nxt (nxt (nxt (nxt (nxt ((Below.refl _ _).alloc (Nat.le_refl _) _) hb1) hb2) hb3) hb4) hb5⟩
theorem lawColumnOK {W : World} {bs : List Nat} {cs : List Value} {a : Column} (h : ColumnR W bs cs a) :
    Calls Try.prog 4 #[.agg cs.toArray] W fun e w' => e = .returned (.bool true) ∧ Below W.heap.size W w' := by
  have h0 := h
  obtain ⟨rfl, rfl, hf⟩ := h
  by_cases hn : (1048576 : Int) - a.bulk < 0
  · go_enter Try.func4, Try.ntmps4
    go_wp2_with (go_at_call 18; refine (szColumn ((Below.refl _ _).alloc (Nat.le_refl _) _) h0 (by omega) (by omega)).mono ?_; rw [clip_neg (by omega)]; rintro e w1 ⟨rfl, hb1⟩)
    go_ret
    exact ⟨rfl, nxt ((Below.refl _ _).alloc (Nat.le_refl _) _) hb1⟩
  · go_enter Try.func4, Try.ntmps4
    go_wp2_with (go_at_call 18; refine (szColumn ((Below.refl _ _).alloc (Nat.le_refl _) _) h0 (by omega) (by omega)).mono ?_; rw [clip_pos (by omega)]; rintro e w1 ⟨rfl, hb1⟩; have q1 := box_at hb1)
    refine (toColumn h0).mono ?_; rintro e w2 ⟨rfl, hb2⟩; have q2 := box_on q1 rfl hb2
    go_wp2_with fail
    refine (spec_ColumnOK a _ hf).mono ?_; rw [colOKs_eq]; rintro e w3 ⟨rfl, hb3⟩; have q3 := box_on q2 rfl hb3
    go_wp2_with fail
    refine (toColumn h0).mono ?_; rintro e w4 ⟨rfl, hb4⟩; have q4 := box_on q3 rfl hb4
    go_wp2_with fail
    refine (impl_ColumnOK a _ hf).mono ?_; rintro e w5 ⟨rfl, hb5⟩
    go_wp2_with fail
    go_ret
    exact ⟨rfl, nxt (nxt (nxt (nxt (nxt ((Below.refl _ _).alloc (Nat.le_refl _) _) hb1) hb2) hb3) hb4) hb5⟩
end Go.Proofs.Ytgnfblefepjpjaa
