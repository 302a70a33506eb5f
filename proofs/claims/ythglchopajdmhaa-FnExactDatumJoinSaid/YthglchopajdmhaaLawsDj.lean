/- The walks of laws: DatumJoin. No statement is proved here; no conditions. Written by a program (genlaw.py). -/
import Derived.Test.YthglchopajdmhaaJoin
import Derived.Test.YthglchopajdmhaaBox
import Derived.Test.YthglchopajdmhaaSz
import Derived.Test.YthglchopajdmhaaTo
import Derived.Test.YthglchopajdmhaaEq
import Derived.Test.YthglchopajdmhaaMarkV
import Derived.Test.YthglchopajdmhaaHeld
import Derived.Deep.RegionHeld3
namespace Go.Proofs.Ythglchopajdmhaa
open Go.ChangeShapes Go.WideShapes Go.ChangeAt Go.RowKit Go.Deep
set_option maxRecDepth 100000
set_option linter.unusedVariables false

set_option maxHeartbeats 4000000 in
theorem lawDatumJoin {W : World} {bs0 : List Nat} {v0 : Value} {a0 : List Atom} {bs1 : List Nat} {v1 : Value} {a1 : List Atom} (h0 : AtomSR W bs0 [v0] a0) (h1 : AtomSR W bs1 [v1] a1) :
    Calls Try.prog 9 #[v0, v1] W fun e w' => e = .returned (.bool true) ∧ Below W.heap.size W w' := by
  have H0 := h0
  have H1 := h1
  obtain ⟨A0, c0, rfl, _, _, _⟩ := h0.use
  obtain ⟨A1, c1, rfl, _, _, _⟩ := h1.use
  go_enter Try.func9, Try.ntmps9
  go_wp2_with fail
  by_cases n0 : (1048576 : Int) - (AtomS.bulk a0 : Int) < 0
  · refine (szAtomS (Below.refl W.heap.size W) H0 (by omega) (by omega)).mono ?_; rw [clip_neg (by omega)]; rintro e w' ⟨rfl, hb'⟩
    go_wp2_with fail
    go_ret
    exact ⟨rfl, nxt (Below.refl W.heap.size W) hb'⟩
  refine (szAtomS (Below.refl W.heap.size W) H0 (by omega) (by omega)).mono ?_; rw [clip_pos (by omega)]; rintro e w1 ⟨rfl, hb1⟩; have hw_w1 := nxt (Below.refl W.heap.size W) hb1
  have k0 : AtomS.bulk a0 ≤ 1048576 := by omega
  go_wp2_with fail
  by_cases n1 : (1048576 : Int) - (AtomS.bulk a0 : Int) - (AtomS.bulk a1 : Int) < 0
  · refine (szAtomS hw_w1 H1 (by omega) (by omega)).mono ?_; rw [clip_neg (by omega)]; rintro e w' ⟨rfl, hb'⟩
    go_wp2_with fail
    go_ret
    exact ⟨rfl, nxt hw_w1 hb'⟩
  refine (szAtomS hw_w1 H1 (by omega) (by omega)).mono ?_; rw [clip_pos (by omega)]; rintro e w2 ⟨rfl, hb2⟩; have hw_w2 := nxt hw_w1 hb2
  have k1 : AtomS.bulk a1 ≤ 1048576 := by omega
  obtain ⟨ok, co, hok⟩ : ∃ ok co, joinAns a0 a1 = (ok, co) := ⟨_, _, rfl⟩
  have HO := hide hok
  have qq1 : (ok != ok) = false := by simp
  have qq2 : (co != co) = false := by simp
  clear hok
  have qi := hni
  have hbd := joinAns_wt a0 a1
  rw [HO.out] at hbd
  have hbd : (AtomS.wt ok : Int) ≤ 1073741824 := by have := hbd; (try simp only [] at this); omega
  go_wp2_with fail
  refine (toAtomS hw_w2 H0 k0).mono ?_; rintro e w3 ⟨v_s0, bs_s0, rfl, r_s0, f_s0, hb3⟩; have hw_w3 := nxt hw_w2 hb3; have r_s0_3 := r_s0; obtain ⟨A_s0, c_s0, rfl, _, _, _⟩ := r_s0.use
  go_wp2_with fail
  refine (toAtomS hw_w3 H1 k1).mono ?_; rintro e w4 ⟨v_s1, bs_s1, rfl, r_s1, f_s1, hb4⟩; have r_s0_3 := AtomSR.good.nxt hb4 r_s0_3; have hw_w4 := nxt hw_w3 hb4; have r_s1_4 := r_s1; obtain ⟨A_s1, c_s1, rfl, _, _, _⟩ := r_s1.use
  go_wp2_with fail
  refine (spec_DatumJoin r_s0_3 r_s1_4).mono ?_; rw [HO.out]; rintro e w5 ⟨v_w, bs_w, rfl, r_w, hb5⟩; have r_s0_3 := AtomSR.good.nxt hb5 r_s0_3; have r_s1_4 := AtomSR.good.nxt hb5 r_s1_4; have hw_w5 := nxt hw_w4 hb5; have r_w0 : AtomSR w5 bs_w [v_w] ok := r_w; clear r_w; have r_w := r_w0; obtain ⟨A_w, c_w, rfl, _, _, _⟩ := r_w0.use
  clear r_s0_3
  clear r_s1_4
  have od_x0_r_w := hide (AtomSR.good.lt r_w)
  have lo_x0 := hide (hw_w5).size
  go_wp2_with fail
  refine (toAtomS hw_w5 H0 k0).mono ?_; rintro e w6 ⟨v_x0, bs_x0, rfl, r_x0, f_x0, hb6⟩; have r_w := AtomSR.good.nxt hb6 r_w; have hw_w6 := nxt hw_w5 hb6; have r_x0_6 := r_x0; obtain ⟨A_x0, c_x0, rfl, _, _, _⟩ := r_x0.use
  have od_x1_r_w := hide (AtomSR.good.lt r_w)
  have od_x1_r_x0 := hide (AtomSR.good.lt r_x0_6)
  have lo_x1 := hide (hw_w6).size
  go_wp2_with fail
  refine (toAtomS hw_w6 H1 k1).mono ?_; rintro e w7 ⟨v_x1, bs_x1, rfl, r_x1, f_x1, hb7⟩; have r_w := AtomSR.good.nxt hb7 r_w; have r_x0_6 := AtomSR.good.nxt hb7 r_x0_6; have f_x0 := f_x0.below hb7; have hw_w7 := nxt hw_w6 hb7; have r_x1_7 := r_x1; obtain ⟨A_x1, c_x1, rfl, _, _, _⟩ := r_x1.use
  have od_g_r_w := hide (AtomSR.good.lt r_w)
  have od_g_r_x0 := hide (AtomSR.good.lt r_x0_6)
  have od_g_r_x1 := hide (AtomSR.good.lt r_x1_7)
  have lo_g := hide (hw_w7).size
  go_wp2_with fail
  refine (impl_DatumJoin r_x0_6 r_x1_7).mono ?_; rw [HO.out]; rintro e w8 ⟨v_g, bs_g, rfl, r_g, f_g, hb8⟩; have r_w := AtomSR.good.nxt hb8 r_w; have r_x0_6 := AtomSR.good.nxt hb8 r_x0_6; have r_x1_7 := AtomSR.good.nxt hb8 r_x1_7; have f_x0 := f_x0.below hb8; have f_x1 := f_x1.below hb8; have hw_w8 := nxt hw_w7 hb8; have r_g0 : AtomSR w8 bs_g [v_g] ok := r_g; clear r_g; have r_g := r_g0; obtain ⟨A_g, c_g, rfl, _, _, _⟩ := r_g0.use
  go_wp2_with fail
  refine (eqAtomS (Below.refl _ _) r_g r_w).mono ?_; rintro e w9 ⟨rfl, hb9⟩; have r_w := AtomSR.good.nxt hb9 r_w; have r_x0_6 := AtomSR.good.nxt hb9 r_x0_6; have r_x1_7 := AtomSR.good.nxt hb9 r_x1_7; have r_g := AtomSR.good.nxt hb9 r_g; have f_x0 := f_x0.below hb9; have f_x1 := f_x1.below hb9; have f_g := f_g.below hb9; have hw_w9 := nxt hw_w8 hb9
  go_wp2_with fail
  refine (toAtomS hw_w9 H0 k0).mono ?_; rintro e w10 ⟨v_y0, bs_y0, rfl, r_y0, f_y0, hb10⟩; have r_w := AtomSR.good.nxt hb10 r_w; have r_x0_6 := AtomSR.good.nxt hb10 r_x0_6; have r_x1_7 := AtomSR.good.nxt hb10 r_x1_7; have r_g := AtomSR.good.nxt hb10 r_g; have f_x0 := f_x0.below hb10; have f_x1 := f_x1.below hb10; have f_g := f_g.below hb10; have hw_w10 := nxt hw_w9 hb10; have r_y0_10 := r_y0; obtain ⟨A_y0, c_y0, rfl, _, _, _⟩ := r_y0.use
  go_wp2_with fail
  refine (eqAtomS (Below.refl _ _) r_x0_6 r_y0_10).mono ?_; rintro e w11 ⟨rfl, hb11⟩; have r_w := AtomSR.good.nxt hb11 r_w; have r_x0_6 := AtomSR.good.nxt hb11 r_x0_6; have r_x1_7 := AtomSR.good.nxt hb11 r_x1_7; have r_g := AtomSR.good.nxt hb11 r_g; have r_y0_10 := AtomSR.good.nxt hb11 r_y0_10; have f_x0 := f_x0.below hb11; have f_x1 := f_x1.below hb11; have f_g := f_g.below hb11; have hw_w11 := nxt hw_w10 hb11
  clear r_y0_10
  go_wp2_with fail
  refine (toAtomS hw_w11 H1 k1).mono ?_; rintro e w12 ⟨v_y1, bs_y1, rfl, r_y1, f_y1, hb12⟩; have r_w := AtomSR.good.nxt hb12 r_w; have r_x0_6 := AtomSR.good.nxt hb12 r_x0_6; have r_x1_7 := AtomSR.good.nxt hb12 r_x1_7; have r_g := AtomSR.good.nxt hb12 r_g; have f_x0 := f_x0.below hb12; have f_x1 := f_x1.below hb12; have f_g := f_g.below hb12; have hw_w12 := nxt hw_w11 hb12; have r_y1_12 := r_y1; obtain ⟨A_y1, c_y1, rfl, _, _, _⟩ := r_y1.use
  go_wp2_with fail
  refine (eqAtomS (Below.refl _ _) r_x1_7 r_y1_12).mono ?_; rintro e w13 ⟨rfl, hb13⟩; have r_w := AtomSR.good.nxt hb13 r_w; have r_x0_6 := AtomSR.good.nxt hb13 r_x0_6; have r_x1_7 := AtomSR.good.nxt hb13 r_x1_7; have r_g := AtomSR.good.nxt hb13 r_g; have r_y1_12 := AtomSR.good.nxt hb13 r_y1_12; have f_x0 := f_x0.below hb13; have f_x1 := f_x1.below hb13; have f_g := f_g.below hb13; have hw_w13 := nxt hw_w12 hb13
  clear r_y1_12
  have wx0 := AtomS.wt_le a0
  go_wp2_with fail
  refine (markAtomS r_x0_6 f_x0 (by omega) (by omega)).mono ?_; rintro e w14 ⟨rfl, rm14, fm14, u14⟩; have r_w := AtomSR.good.upd r_w u14 (fun b hb hm => by have := od_x0_r_w.out b hb; have := (f_x0.2 b hm).1; omega); have r_x1_7 := AtomSR.good.upd r_x1_7 u14 (fun b hb hm => by have := od_x1_r_x0.out b hm; have := (f_x1.2 b hb).1; omega); have r_g := AtomSR.good.upd r_g u14 (fun b hb hm => by have := od_g_r_x0.out b hm; have := (f_g.2 b hb).1; omega); have hw_w14 := hw_w13.trans (u14.below W.heap.size hw_w13.size (fun b hb => by have := (f_x0.2 b hb).1; have := lo_x0.out; omega)); have f_x1 := f_x1.upd u14; have f_g := f_g.upd u14
  clear rm14 fm14
  have wx1 := AtomS.wt_le a1
  go_wp2_with fail
  refine (markAtomS r_x1_7 f_x1 (by omega) (by omega)).mono ?_; rintro e w15 ⟨rfl, rm15, fm15, u15⟩; have r_w := AtomSR.good.upd r_w u15 (fun b hb hm => by have := od_x1_r_w.out b hb; have := (f_x1.2 b hm).1; omega); have r_g := AtomSR.good.upd r_g u15 (fun b hb hm => by have := od_g_r_x1.out b hm; have := (f_g.2 b hb).1; omega); have hw_w15 := hw_w14.trans (u15.below W.heap.size hw_w14.size (fun b hb => by have := (f_x1.2 b hb).1; have := lo_x1.out; omega)); have f_g := f_g.upd u15
  clear rm15 fm15
  go_wp2_with fail
  refine (eqAtomS (Below.refl _ _) r_g r_w).mono ?_; rintro e w16 ⟨rfl, hb16⟩; have r_w := AtomSR.good.nxt hb16 r_w; have r_g := AtomSR.good.nxt hb16 r_g; have f_g := f_g.below hb16; have hw_w16 := nxt hw_w15 hb16
  go_wp2_with fail
  refine (markAtomS r_g f_g (by omega) (by omega)).mono ?_; rintro e w17 ⟨rfl, rm17, fm17, u17⟩; have r_w := AtomSR.good.upd r_w u17 (fun b hb hm => by have := od_g_r_w.out b hb; have := (f_g.2 b hm).1; omega); have hw_w17 := hw_w16.trans (u17.below W.heap.size hw_w16.size (fun b hb => by have := (f_g.2 b hb).1; have := lo_g.out; omega)); have r_g := rm17; have f_g := fm17
  go_wp2_with fail
  refine (heldAtomS (Below.refl _ _) r_g (by omega) (by omega)).mono ?_; rintro e w18 ⟨rfl, hb18⟩; have r_w := AtomSR.good.nxt hb18 r_w; have r_g := AtomSR.good.nxt hb18 r_g; have f_g := f_g.below hb18; have hw_w18 := nxt hw_w17 hb18
  go_wp2_with fail
  refine (toAtomS hw_w18 H0 k0).mono ?_; rintro e w19 ⟨v_z0, bs_z0, rfl, r_z0, f_z0, hb19⟩; have r_w := AtomSR.good.nxt hb19 r_w; have r_g := AtomSR.good.nxt hb19 r_g; have f_g := f_g.below hb19; have hw_w19 := nxt hw_w18 hb19; have r_z0_19 := r_z0; obtain ⟨A_z0, c_z0, rfl, _, _, _⟩ := r_z0.use
  go_wp2_with fail
  refine (toAtomS hw_w19 H1 k1).mono ?_; rintro e w20 ⟨v_z1, bs_z1, rfl, r_z1, f_z1, hb20⟩; have r_w := AtomSR.good.nxt hb20 r_w; have r_g := AtomSR.good.nxt hb20 r_g; have r_z0_19 := AtomSR.good.nxt hb20 r_z0_19; have f_g := f_g.below hb20; have hw_w20 := nxt hw_w19 hb20; have r_z1_20 := r_z1; obtain ⟨A_z1, c_z1, rfl, _, _, _⟩ := r_z1.use
  go_wp2_with fail
  refine (impl_DatumJoin r_z0_19 r_z1_20).mono ?_; rw [HO.out]; rintro e w21 ⟨v_h, bs_h, rfl, r_h, f_h, hb21⟩; have r_w := AtomSR.good.nxt hb21 r_w; have r_g := AtomSR.good.nxt hb21 r_g; have r_z0_19 := AtomSR.good.nxt hb21 r_z0_19; have r_z1_20 := AtomSR.good.nxt hb21 r_z1_20; have f_g := f_g.below hb21; have hw_w21 := nxt hw_w20 hb21; have r_h0 : AtomSR w21 bs_h [v_h] ok := r_h; clear r_h; have r_h := r_h0; obtain ⟨A_h, c_h, rfl, _, _, _⟩ := r_h0.use
  clear r_z0_19
  clear r_z1_20
  go_wp2_with fail
  refine (eqAtomS (Below.refl _ _) r_h r_w).mono ?_; rintro e w22 ⟨rfl, hb22⟩; have r_w := AtomSR.good.nxt hb22 r_w; have r_g := AtomSR.good.nxt hb22 r_g; have r_h := AtomSR.good.nxt hb22 r_h; have f_g := f_g.below hb22; have hw_w22 := nxt hw_w21 hb22
  clear r_h
  go_wp2_with fail
  refine (heldAtomS (Below.refl _ _) r_g (by omega) (by omega)).mono ?_; rintro e w23 ⟨rfl, hb23⟩; have r_w := AtomSR.good.nxt hb23 r_w; have r_g := AtomSR.good.nxt hb23 r_g; have f_g := f_g.below hb23; have hw_w23 := nxt hw_w22 hb23
  go_wp2_with fail
  go_ret
  exact ⟨rfl, hw_w23⟩
end Go.Proofs.Ythglchopajdmhaa
