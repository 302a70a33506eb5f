/- The walks of laws: PlainSchema. No statement is proved here; no conditions. Written by a program (genlaw.py). -/
import Derived.Test.YthbebbnidgeaeaaPlain
import Derived.Test.YthbebbnidgeaeaaBox
import Derived.Test.YthbebbnidgeaeaaSz
import Derived.Test.YthbebbnidgeaeaaTo
import Derived.Test.YthbebbnidgeaeaaEq
import Derived.Test.YthbebbnidgeaeaaMarkV
import Derived.Test.YthbebbnidgeaeaaHeld
import Derived.Deep.RegionHeld3
namespace Go.Proofs.Ythbebbnidgeaeaa
open Go.ChangeShapes Go.WideShapes Go.ChangeAt Go.RowKit Go.Deep
set_option maxRecDepth 100000
set_option linter.unusedVariables false

set_option maxHeartbeats 4000000 in
theorem lawPlainSchema {W : World}  :
    Calls Try.prog 4 #[] W fun e w' => e = .returned (.bool true) ∧ Below W.heap.size W w' := by
  go_enter Try.func4, Try.ntmps4
  obtain ⟨ok, hok⟩ : ∃ ok, plainS = ok := ⟨_, rfl⟩
  have HO := hide hok
  have qq1 : (ok != ok) = false := by simp
  clear hok
  have qi := hni
  have hbd := plain_wt
  rw [HO.out] at hbd
  have hbd : (Schema.wtV ok : Int) ≤ 1073741824 := by have := hbd; (try simp only [] at this); omega
  go_wp2_with fail
  refine (spec_PlainSchemaS).mono ?_; rw [HO.out]; rintro e w1 ⟨cs_w, bs_w, rfl, r_w, hb1⟩; have hw_w1 := nxt (Below.refl W.heap.size W) hb1; have r_w0 : SchemaR w1 bs_w cs_w ok := r_w; clear r_w; have r_w := r_w0; obtain ⟨wv0, wb0, wbs, rfl, _, wr0⟩ := r_w0; subst wbs; obtain ⟨wA0, wc0, rfl, _, _, _⟩ := wr0.use
  have od_g_r_w := hide (SchemaR.good.lt (SchemaR.good.nxt ((Below.refl w1.heap.size w1).alloc (Nat.le_refl _) (.cells #[.slice wA0 ok.tables.length wc0] 25)) r_w))
  have lo_g := hide ((hw_w1.alloc (hw_w1.size) (.cells #[.slice wA0 ok.tables.length wc0] 25))).size
  go_wp2_with fail
  refine (impl_PlainSchema).mono ?_; rw [HO.out]; rintro e w2 ⟨cs_g, bs_g, rfl, r_g, f_g, hb2⟩; have st2 := nxt' ((Below.refl w1.heap.size w1).alloc (Nat.le_refl _) (.cells #[.slice wA0 ok.tables.length wc0] 25)) hb2; have q0 := box_at hb2; have r_w := SchemaR.good.nxt st2 r_w; have hw_w2 := nxt hw_w1 st2; have r_g0 : SchemaR w2 bs_g cs_g ok := r_g; clear r_g; have r_g := r_g0; obtain ⟨gv0, gb0, gbs, rfl, _, gr0⟩ := r_g0; subst gbs; obtain ⟨gA0, gc0, rfl, _, _, _⟩ := gr0.use
  have q0p := box_on q0 rfl ((Below.refl w2.heap.size w2).alloc (Nat.le_refl _) (.cells #[.slice gA0 ok.tables.length gc0] 25))
  have ly_g_1 := hide (SchemaR.good.lt r_g)
  go_wp2_with fail
  refine (eqSchema (Below.refl _ _) (SchemaR.good.nxt ((Below.refl w2.heap.size w2).alloc (Nat.le_refl _) (.cells #[.slice gA0 ok.tables.length gc0] 25)) r_g) (SchemaR.good.nxt ((Below.refl w2.heap.size w2).alloc (Nat.le_refl _) (.cells #[.slice gA0 ok.tables.length gc0] 25)) r_w)).mono ?_; rintro e w3 ⟨rfl, hb3⟩; have st3 := nxt' ((Below.refl w2.heap.size w2).alloc (Nat.le_refl _) (.cells #[.slice gA0 ok.tables.length gc0] 25)) hb3; have q0 := box_on q0 rfl st3; have q1 := box_at hb3; have r_w := SchemaR.good.nxt st3 r_w; have r_g := SchemaR.good.nxt st3 r_g; have f_g := f_g.below st3; have hw_w3 := nxt hw_w2 st3
  go_wp2_with fail
  refine (markVSchema r_g f_g (by omega) (by omega)).mono ?_; rintro e w4 ⟨rfl, rm4, fm4, u4⟩; have q0 := box_upd q0 rfl u4 (fun hm => by have := (f_g.2 _ hm).1; simp at this; omega); have q1 := box_upd q1 rfl u4 (fun hm => by have := ly_g_1.out _ hm; omega); have r_w := SchemaR.good.upd r_w u4 (fun b hb hm => by have := od_g_r_w.out b hb; have := (f_g.2 b hm).1; omega); have hw_w4 := hw_w3.trans (u4.below W.heap.size hw_w3.size (fun b hb => by have := (f_g.2 b hb).1; have := lo_g.out; omega)); have r_g := rm4; have f_g := fm4
  go_wp2_with fail
  refine (heldVSchema (Below.refl _ _) r_g (by omega) (by omega)).mono ?_; rintro e w5 ⟨rfl, hb5⟩; have q0 := box_on q0 rfl hb5; have q1 := box_on q1 rfl hb5; have r_w := SchemaR.good.nxt hb5 r_w; have r_g := SchemaR.good.nxt hb5 r_g; have f_g := f_g.below hb5; have hw_w5 := nxt hw_w4 hb5
  go_wp2_with fail
  refine (impl_PlainSchema).mono ?_; rw [HO.out]; rintro e w6 ⟨cs_h, bs_h, rfl, r_h, f_h, hb6⟩; have q0 := box_on q0 rfl hb6; have q1 := box_on q1 rfl hb6; have r_w := SchemaR.good.nxt hb6 r_w; have r_g := SchemaR.good.nxt hb6 r_g; have f_g := f_g.below hb6; have hw_w6 := nxt hw_w5 hb6; have r_h0 : SchemaR w6 bs_h cs_h ok := r_h; clear r_h; have r_h := r_h0; obtain ⟨hv0, hb0, hbs, rfl, _, hr0⟩ := r_h0; subst hbs; obtain ⟨hA0, hc0, rfl, _, _, _⟩ := hr0.use
  have q0p := box_on q0 rfl ((Below.refl w6.heap.size w6).alloc (Nat.le_refl _) (.cells #[.slice hA0 ok.tables.length hc0] 25))
  have q1p := box_on q1 rfl ((Below.refl w6.heap.size w6).alloc (Nat.le_refl _) (.cells #[.slice hA0 ok.tables.length hc0] 25))
  have ly_g_2 := hide (SchemaR.good.lt r_g)
  go_wp2_with fail
  refine (eqSchema (Below.refl _ _) (SchemaR.good.nxt ((Below.refl w6.heap.size w6).alloc (Nat.le_refl _) (.cells #[.slice hA0 ok.tables.length hc0] 25)) r_h) (SchemaR.good.nxt ((Below.refl w6.heap.size w6).alloc (Nat.le_refl _) (.cells #[.slice hA0 ok.tables.length hc0] 25)) r_w)).mono ?_; rintro e w7 ⟨rfl, hb7⟩; have st7 := nxt' ((Below.refl w6.heap.size w6).alloc (Nat.le_refl _) (.cells #[.slice hA0 ok.tables.length hc0] 25)) hb7; have q0 := box_on q0 rfl st7; have q1 := box_on q1 rfl st7; have q2 := box_at hb7; have r_w := SchemaR.good.nxt st7 r_w; have r_g := SchemaR.good.nxt st7 r_g; have r_h := SchemaR.good.nxt st7 r_h; have f_g := f_g.below st7; have hw_w7 := nxt hw_w6 st7
  clear r_h
  go_wp2_with fail
  refine (heldVSchema (Below.refl _ _) r_g (by omega) (by omega)).mono ?_; rintro e w8 ⟨rfl, hb8⟩; have q0 := box_on q0 rfl hb8; have q1 := box_on q1 rfl hb8; have q2 := box_on q2 rfl hb8; have r_w := SchemaR.good.nxt hb8 r_w; have r_g := SchemaR.good.nxt hb8 r_g; have f_g := f_g.below hb8; have hw_w8 := nxt hw_w7 hb8
  go_wp2_with fail
  go_ret
  exact ⟨rfl, hw_w8⟩
end Go.Proofs.Ythbebbnidgeaeaa
