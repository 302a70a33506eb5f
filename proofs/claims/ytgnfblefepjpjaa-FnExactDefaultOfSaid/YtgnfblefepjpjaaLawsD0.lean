/- The walks of laws: DefaultOf. No statement is proved here; no conditions. Written by a program (genlaw.py). -/
import Derived.Test.YtgnfblefepjpjaaStart
import Derived.Test.YtgnfblefepjpjaaBox
import Derived.Test.YtgnfblefepjpjaaSz
import Derived.Test.YtgnfblefepjpjaaTo
import Derived.Test.YtgnfblefepjpjaaEq
import Derived.Test.YtgnfblefepjpjaaMarkV
import Derived.Test.YtgnfblefepjpjaaHeld
import Derived.Deep.RegionHeld3
namespace Go.Proofs.Ytgnfblefepjpjaa
open Go.ChangeShapes Go.WideShapes Go.ChangeAt Go.RowKit Go.Deep
set_option maxRecDepth 100000
set_option linter.unusedVariables false

set_option maxHeartbeats 4000000 in
theorem lawDefaultOf {W : World} {bs0 : List Nat} {cs0 : List Value} {a0 : Column} (h0 : ColumnR W bs0 cs0 a0) :
    Calls Try.prog 6 #[.agg cs0.toArray] W fun e w' => e = .returned (.bool true) ∧ Below W.heap.size W w' := by
  have H0 := h0
  obtain ⟨rfl, rfl, hf0⟩ := h0
  go_enter Try.func6, Try.ntmps6
  go_wp2_with fail
  by_cases n0 : (1048576 : Int) - (Column.bulk a0 : Int) < 0
  · refine (szColumn ((Below.refl W.heap.size W).alloc (Nat.le_refl _) _) H0 (by omega) (by omega)).mono ?_; rw [clip_neg (by omega)]; rintro e w' ⟨rfl, hb'⟩
    go_wp2_with fail
    go_ret
    exact ⟨rfl, nxt ((Below.refl W.heap.size W).alloc (Nat.le_refl _) _) hb'⟩
  refine (szColumn ((Below.refl W.heap.size W).alloc (Nat.le_refl _) _) H0 (by omega) (by omega)).mono ?_; rw [clip_pos (by omega)]; rintro e w1 ⟨rfl, hb1⟩; have st1 := nxt' ((Below.refl W.heap.size W).alloc (Nat.le_refl _) _) hb1; have q0 := box_at hb1; have hw_w1 := nxt (Below.refl W.heap.size W) st1
  have k0 : Column.bulk a0 ≤ 1048576 := by omega
  obtain ⟨ok, co, hok⟩ : ∃ ok co, defAns a0 = (ok, co) := ⟨_, _, rfl⟩
  have HO := hide hok
  have qq1 : (ok != ok) = false := by simp
  have qq2 : (co != co) = false := by simp
  clear hok
  have qi := hni
  have hbd := defAns_wt a0
  rw [HO.out] at hbd
  have hbd : (AtomS.wt ok : Int) ≤ 1073741824 := by have := hbd; simp only [] at this; omega
  go_wp2_with fail
  refine (toColumn H0).mono ?_; rintro e w2 ⟨rfl, hb2⟩; have q0 := box_on q0 rfl hb2; have hw_w2 := nxt hw_w1 hb2
  go_wp2_with fail
  refine (spec_DefaultOf a0 hf0).mono ?_; rw [HO.out]; rintro e w3 ⟨v_w, bs_w, rfl, r_w, hb3⟩; have q0 := box_on q0 rfl hb3; have hw_w3 := nxt hw_w2 hb3; have r_w0 : AtomSR w3 bs_w [v_w] ok := r_w; clear r_w; have r_w := r_w0; obtain ⟨A_w, c_w, rfl, _, _, _⟩ := r_w0.use
  go_wp2_with fail
  refine (toColumn H0).mono ?_; rintro e w4 ⟨rfl, hb4⟩; have q0 := box_on q0 rfl hb4; have r_w := AtomSR.good.nxt hb4 r_w; have hw_w4 := nxt hw_w3 hb4
  have ob_g_0 := hide (Nat.lt_of_lt_of_le (World.block_lt_of_cell? _ ⟨W.heap.size, 0, none⟩ (box_cell q0 0 rfl)) ((Below.refl w4.heap.size w4)).size)
  have od_g_r_w := hide (AtomSR.good.lt r_w)
  have lo_g := hide (hw_w4).size
  go_wp2_with fail
  refine (impl_DefaultOf a0 hf0).mono ?_; rw [HO.out]; rintro e w5 ⟨v_g, bs_g, rfl, r_g, f_g, hb5⟩; have q0 := box_on q0 rfl hb5; have r_w := AtomSR.good.nxt hb5 r_w; have hw_w5 := nxt hw_w4 hb5; have r_g0 : AtomSR w5 bs_g [v_g] ok := r_g; clear r_g; have r_g := r_g0; obtain ⟨A_g, c_g, rfl, _, _, _⟩ := r_g0.use
  go_wp2_with fail
  refine (eqAtomS (Below.refl _ _) r_g r_w).mono ?_; rintro e w6 ⟨rfl, hb6⟩; have q0 := box_on q0 rfl hb6; have r_w := AtomSR.good.nxt hb6 r_w; have r_g := AtomSR.good.nxt hb6 r_g; have f_g := f_g.below hb6; have hw_w6 := nxt hw_w5 hb6
  go_wp2_with fail
  refine (markAtomS r_g f_g (by omega) (by omega)).mono ?_; rintro e w7 ⟨rfl, rm7, fm7, u7⟩; have q0 := box_upd q0 rfl u7 (fun hm => by have := (f_g.2 _ hm).1; have := ob_g_0.out; omega); have r_w := AtomSR.good.upd r_w u7 (fun b hb hm => by have := od_g_r_w.out b hb; have := (f_g.2 b hm).1; omega); have hw_w7 := hw_w6.trans (u7.below W.heap.size hw_w6.size (fun b hb => by have := (f_g.2 b hb).1; have := lo_g.out; omega)); have r_g := rm7; have f_g := fm7
  go_wp2_with fail
  refine (heldAtomS (Below.refl _ _) r_g (by omega) (by omega)).mono ?_; rintro e w8 ⟨rfl, hb8⟩; have q0 := box_on q0 rfl hb8; have r_w := AtomSR.good.nxt hb8 r_w; have r_g := AtomSR.good.nxt hb8 r_g; have f_g := f_g.below hb8; have hw_w8 := nxt hw_w7 hb8
  go_wp2_with fail
  refine (toColumn H0).mono ?_; rintro e w9 ⟨rfl, hb9⟩; have q0 := box_on q0 rfl hb9; have r_w := AtomSR.good.nxt hb9 r_w; have r_g := AtomSR.good.nxt hb9 r_g; have f_g := f_g.below hb9; have hw_w9 := nxt hw_w8 hb9
  go_wp2_with fail
  refine (impl_DefaultOf a0 hf0).mono ?_; rw [HO.out]; rintro e w10 ⟨v_h, bs_h, rfl, r_h, f_h, hb10⟩; have q0 := box_on q0 rfl hb10; have r_w := AtomSR.good.nxt hb10 r_w; have r_g := AtomSR.good.nxt hb10 r_g; have f_g := f_g.below hb10; have hw_w10 := nxt hw_w9 hb10; have r_h0 : AtomSR w10 bs_h [v_h] ok := r_h; clear r_h; have r_h := r_h0; obtain ⟨A_h, c_h, rfl, _, _, _⟩ := r_h0.use
  go_wp2_with fail
  refine (eqAtomS (Below.refl _ _) r_h r_w).mono ?_; rintro e w11 ⟨rfl, hb11⟩; have q0 := box_on q0 rfl hb11; have r_w := AtomSR.good.nxt hb11 r_w; have r_g := AtomSR.good.nxt hb11 r_g; have r_h := AtomSR.good.nxt hb11 r_h; have f_g := f_g.below hb11; have hw_w11 := nxt hw_w10 hb11
  clear r_h
  go_wp2_with fail
  refine (heldAtomS (Below.refl _ _) r_g (by omega) (by omega)).mono ?_; rintro e w12 ⟨rfl, hb12⟩; have q0 := box_on q0 rfl hb12; have r_w := AtomSR.good.nxt hb12 r_w; have r_g := AtomSR.good.nxt hb12 r_g; have f_g := f_g.below hb12; have hw_w12 := nxt hw_w11 hb12
  go_wp2_with fail
  go_ret
  exact ⟨rfl, hw_w12⟩
end Go.Proofs.Ytgnfblefepjpjaa
