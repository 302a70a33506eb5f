/- The walks of laws: DatumOf. No statement is proved here; no conditions. Written by a program (genlaw.py). -/
import Derived.Test.YthglchopajdmhaaSets
import Derived.Test.YthglchopajdmhaaBox
import Derived.Test.YthglchopajdmhaaSz
import Derived.Test.YthglchopajdmhaaTo
import Derived.Test.YthglchopajdmhaaEq
import Derived.Test.YthglchopajdmhaaMarkV
import Derived.Test.YthglchopajdmhaaHeld
import Derived.Deep.RegionHeld3
namespace Go.Proofs.Ythglchopajdmhaa
open Go.ChangeShapes Go.WideShapes Go.ChangeAt Go.RowKit Go.Deep
set_option maxRecDepth 100000
set_option linter.unusedVariables false

set_option maxHeartbeats 4000000 in
theorem lawDatumOf {W : World} {bs0 : List Nat} {v0 : Value} {a0 : List Atom} (h0 : AtomSR W bs0 [v0] a0) :
    Calls Try.prog 8 #[v0] W fun e w' => e = .returned (.bool true) ∧ Below W.heap.size W w' := by
  have H0 := h0
  obtain ⟨A0, c0, rfl, _, _, _⟩ := h0.use
  go_enter Try.func8, Try.ntmps8
  go_wp2_with fail
  by_cases n0 : (1048576 : Int) - (AtomS.bulk a0 : Int) < 0
  · refine (szAtomS (Below.refl W.heap.size W) H0 (by omega) (by omega)).mono ?_; rw [clip_neg (by omega)]; rintro e w' ⟨rfl, hb'⟩
    go_wp2_with fail
    go_ret
    exact ⟨rfl, nxt (Below.refl W.heap.size W) hb'⟩
  refine (szAtomS (Below.refl W.heap.size W) H0 (by omega) (by omega)).mono ?_; rw [clip_pos (by omega)]; rintro e w1 ⟨rfl, hb1⟩; have hw_w1 := nxt (Below.refl W.heap.size W) hb1
  have k0 : AtomS.bulk a0 ≤ 1048576 := by omega
  obtain ⟨ok, co, hok⟩ : ∃ ok co, datAns a0 = (ok, co) := ⟨_, _, rfl⟩
  have HO := hide hok
  have qq1 : (ok != ok) = false := by simp
  have qq2 : (co != co) = false := by simp
  clear hok
  have qi := hni
  have hbd := datAns_wt a0
  rw [HO.out] at hbd
  have hbd : (AtomS.wt ok : Int) ≤ 1073741824 := by have := hbd; (try simp only [] at this); omega
  go_wp2_with fail
  refine (toAtomS hw_w1 H0 k0).mono ?_; rintro e w2 ⟨v_s0, bs_s0, rfl, r_s0, f_s0, hb2⟩; have hw_w2 := nxt hw_w1 hb2; have r_s0_2 := r_s0; obtain ⟨A_s0, c_s0, rfl, _, _, _⟩ := r_s0.use
  go_wp2_with fail
  refine (spec_DatumOf r_s0_2).mono ?_; rw [HO.out]; rintro e w3 ⟨v_w, bs_w, rfl, r_w, hb3⟩; have r_s0_2 := AtomSR.good.nxt hb3 r_s0_2; have hw_w3 := nxt hw_w2 hb3; have r_w0 : AtomSR w3 bs_w [v_w] ok := r_w; clear r_w; have r_w := r_w0; obtain ⟨A_w, c_w, rfl, _, _, _⟩ := r_w0.use
  clear r_s0_2
  have od_x0_r_w := hide (AtomSR.good.lt r_w)
  have lo_x0 := hide (hw_w3).size
  go_wp2_with fail
  refine (toAtomS hw_w3 H0 k0).mono ?_; rintro e w4 ⟨v_x0, bs_x0, rfl, r_x0, f_x0, hb4⟩; have r_w := AtomSR.good.nxt hb4 r_w; have hw_w4 := nxt hw_w3 hb4; have r_x0_4 := r_x0; obtain ⟨A_x0, c_x0, rfl, _, _, _⟩ := r_x0.use
  have od_g_r_w := hide (AtomSR.good.lt r_w)
  have od_g_r_x0 := hide (AtomSR.good.lt r_x0_4)
  have lo_g := hide (hw_w4).size
  go_wp2_with fail
  refine (impl_DatumOf r_x0_4).mono ?_; rw [HO.out]; rintro e w5 ⟨v_g, bs_g, rfl, r_g, f_g, hb5⟩; have r_w := AtomSR.good.nxt hb5 r_w; have r_x0_4 := AtomSR.good.nxt hb5 r_x0_4; have f_x0 := f_x0.below hb5; have hw_w5 := nxt hw_w4 hb5; have r_g0 : AtomSR w5 bs_g [v_g] ok := r_g; clear r_g; have r_g := r_g0; obtain ⟨A_g, c_g, rfl, _, _, _⟩ := r_g0.use
  go_wp2_with fail
  refine (eqAtomS (Below.refl _ _) r_g r_w).mono ?_; rintro e w6 ⟨rfl, hb6⟩; have r_w := AtomSR.good.nxt hb6 r_w; have r_x0_4 := AtomSR.good.nxt hb6 r_x0_4; have r_g := AtomSR.good.nxt hb6 r_g; have f_x0 := f_x0.below hb6; have f_g := f_g.below hb6; have hw_w6 := nxt hw_w5 hb6
  go_wp2_with fail
  refine (toAtomS hw_w6 H0 k0).mono ?_; rintro e w7 ⟨v_y0, bs_y0, rfl, r_y0, f_y0, hb7⟩; have r_w := AtomSR.good.nxt hb7 r_w; have r_x0_4 := AtomSR.good.nxt hb7 r_x0_4; have r_g := AtomSR.good.nxt hb7 r_g; have f_x0 := f_x0.below hb7; have f_g := f_g.below hb7; have hw_w7 := nxt hw_w6 hb7; have r_y0_7 := r_y0; obtain ⟨A_y0, c_y0, rfl, _, _, _⟩ := r_y0.use
  go_wp2_with fail
  refine (eqAtomS (Below.refl _ _) r_x0_4 r_y0_7).mono ?_; rintro e w8 ⟨rfl, hb8⟩; have r_w := AtomSR.good.nxt hb8 r_w; have r_x0_4 := AtomSR.good.nxt hb8 r_x0_4; have r_g := AtomSR.good.nxt hb8 r_g; have r_y0_7 := AtomSR.good.nxt hb8 r_y0_7; have f_x0 := f_x0.below hb8; have f_g := f_g.below hb8; have hw_w8 := nxt hw_w7 hb8
  clear r_y0_7
  have wx0 := AtomS.wt_le a0
  go_wp2_with fail
  refine (markAtomS r_x0_4 f_x0 (by omega) (by omega)).mono ?_; rintro e w9 ⟨rfl, rm9, fm9, u9⟩; have r_w := AtomSR.good.upd r_w u9 (fun b hb hm => by have := od_x0_r_w.out b hb; have := (f_x0.2 b hm).1; omega); have r_g := AtomSR.good.upd r_g u9 (fun b hb hm => by have := od_g_r_x0.out b hm; have := (f_g.2 b hb).1; omega); have hw_w9 := hw_w8.trans (u9.below W.heap.size hw_w8.size (fun b hb => by have := (f_x0.2 b hb).1; have := lo_x0.out; omega)); have f_g := f_g.upd u9
  clear rm9 fm9
  go_wp2_with fail
  refine (eqAtomS (Below.refl _ _) r_g r_w).mono ?_; rintro e w10 ⟨rfl, hb10⟩; have r_w := AtomSR.good.nxt hb10 r_w; have r_g := AtomSR.good.nxt hb10 r_g; have f_g := f_g.below hb10; have hw_w10 := nxt hw_w9 hb10
  go_wp2_with fail
  refine (markAtomS r_g f_g (by omega) (by omega)).mono ?_; rintro e w11 ⟨rfl, rm11, fm11, u11⟩; have r_w := AtomSR.good.upd r_w u11 (fun b hb hm => by have := od_g_r_w.out b hb; have := (f_g.2 b hm).1; omega); have hw_w11 := hw_w10.trans (u11.below W.heap.size hw_w10.size (fun b hb => by have := (f_g.2 b hb).1; have := lo_g.out; omega)); have r_g := rm11; have f_g := fm11
  go_wp2_with fail
  refine (heldAtomS (Below.refl _ _) r_g (by omega) (by omega)).mono ?_; rintro e w12 ⟨rfl, hb12⟩; have r_w := AtomSR.good.nxt hb12 r_w; have r_g := AtomSR.good.nxt hb12 r_g; have f_g := f_g.below hb12; have hw_w12 := nxt hw_w11 hb12
  go_wp2_with fail
  refine (toAtomS hw_w12 H0 k0).mono ?_; rintro e w13 ⟨v_z0, bs_z0, rfl, r_z0, f_z0, hb13⟩; have r_w := AtomSR.good.nxt hb13 r_w; have r_g := AtomSR.good.nxt hb13 r_g; have f_g := f_g.below hb13; have hw_w13 := nxt hw_w12 hb13; have r_z0_13 := r_z0; obtain ⟨A_z0, c_z0, rfl, _, _, _⟩ := r_z0.use
  go_wp2_with fail
  refine (impl_DatumOf r_z0_13).mono ?_; rw [HO.out]; rintro e w14 ⟨v_h, bs_h, rfl, r_h, f_h, hb14⟩; have r_w := AtomSR.good.nxt hb14 r_w; have r_g := AtomSR.good.nxt hb14 r_g; have r_z0_13 := AtomSR.good.nxt hb14 r_z0_13; have f_g := f_g.below hb14; have hw_w14 := nxt hw_w13 hb14; have r_h0 : AtomSR w14 bs_h [v_h] ok := r_h; clear r_h; have r_h := r_h0; obtain ⟨A_h, c_h, rfl, _, _, _⟩ := r_h0.use
  clear r_z0_13
  go_wp2_with fail
  refine (eqAtomS (Below.refl _ _) r_h r_w).mono ?_; rintro e w15 ⟨rfl, hb15⟩; have r_w := AtomSR.good.nxt hb15 r_w; have r_g := AtomSR.good.nxt hb15 r_g; have r_h := AtomSR.good.nxt hb15 r_h; have f_g := f_g.below hb15; have hw_w15 := nxt hw_w14 hb15
  clear r_h
  go_wp2_with fail
  refine (heldAtomS (Below.refl _ _) r_g (by omega) (by omega)).mono ?_; rintro e w16 ⟨rfl, hb16⟩; have r_w := AtomSR.good.nxt hb16 r_w; have r_g := AtomSR.good.nxt hb16 r_g; have f_g := f_g.below hb16; have hw_w16 := nxt hw_w15 hb16
  go_wp2_with fail
  go_ret
  exact ⟨rfl, hw_w16⟩
end Go.Proofs.Ythglchopajdmhaa
