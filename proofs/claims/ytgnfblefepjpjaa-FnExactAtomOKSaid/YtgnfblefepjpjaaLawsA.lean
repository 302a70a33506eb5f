/- The walks of the laws on atoms and columns. No statement is proved here; no conditions. -/
import Derived.Test.YtgnfblefepjpjaaSz
import Derived.Test.YtgnfblefepjpjaaAtom1
namespace Go.Proofs.Ytgnfblefepjpjaa
open Go.ChangeShapes Go.WideShapes Go.ChangeAt Go.RowKit Go.Deep
set_option maxRecDepth 100000

theorem toAtom {w : World} {bs : List Nat} {cs : List Value} {a : Atom} (h : AtomR w bs cs a) :
    Calls Try.prog 16 #[.agg cs.toArray] w fun e w' => e = .returned a.val ∧ Below w.heap.size w w' := by
  obtain ⟨rfl, rfl, hf⟩ := h
  unfold Atom.val
  go_enter Try.func16, Try.ntmps16
  go_wp2
  exact bodyPost_ret (v := .agg #[.int .i64 a.kind, .int .i64 a.n, .string a.t]) (by simp [results, Try.results16, go_sem]) rfl ⟨rfl, (((Below.refl _ _).alloc (Nat.le_refl _) _).alloc (by simp) _).alloc (by simp; omega) _⟩

theorem lawAtomOK {W : World} {bs : List Nat} {cs : List Value} {a : Atom} (h : AtomR W bs cs a) :
    Calls Try.prog 3 #[.agg cs.toArray] W fun e w' => e = .returned (.bool true) ∧ Below W.heap.size W w' := by
  have h0 := h
  obtain ⟨rfl, rfl, hf⟩ := h
  by_cases hn : (1048576 : Int) - a.bulk < 0
  · go_enter Try.func3, Try.ntmps3
    go_wp2_with (go_at_call 14; refine (szAtom ((Below.refl _ _).alloc (Nat.le_refl _) _) h0 (by omega) (by omega)).mono ?_; rw [clip_neg (by omega)]; rintro e w1 ⟨rfl, hb1⟩)
    go_ret
    exact ⟨rfl, nxt ((Below.refl _ _).alloc (Nat.le_refl _) _) hb1⟩
  · go_enter Try.func3, Try.ntmps3
    go_wp2_with (go_at_call 14; refine (szAtom ((Below.refl _ _).alloc (Nat.le_refl _) _) h0 (by omega) (by omega)).mono ?_; rw [clip_pos (by omega)]; rintro e w1 ⟨rfl, hb1⟩; have q1 := box_at hb1)
    refine (toAtom ⟨rfl, rfl, hf⟩).mono ?_; rintro e w2 ⟨rfl, hb2⟩; have q2 := box_on q1 rfl hb2
    go_wp2_with fail
    refine (spec_AtomOK a _ hf).mono ?_; rintro e w3 ⟨rfl, hb3⟩; have q3 := box_on q2 rfl hb3
    go_wp2_with fail
    refine (toAtom ⟨rfl, rfl, hf⟩).mono ?_; rintro e w4 ⟨rfl, hb4⟩; have q4 := box_on q3 rfl hb4
    go_wp2_with fail
    refine (impl_AtomOK a _ hf).mono ?_; rintro e w5 ⟨rfl, hb5⟩
    go_wp2_with fail
    go_ret
    exact ⟨rfl, nxt (nxt (nxt (nxt (nxt ((Below.refl _ _).alloc (Nat.le_refl _) _) hb1) hb2) hb3) hb4) hb5⟩
end Go.Proofs.Ytgnfblefepjpjaa
