/- The walks of laws: NewStore. No statement is proved here; no conditions. Written by a program (genlaw.py). -/
import Derived.Test.YthbebbnidgeaeaaNew
import Derived.Test.YthbebbnidgeaeaaBox
import Derived.Test.YthbebbnidgeaeaaSz
import Derived.Test.YthbebbnidgeaeaaTo
import Derived.Test.YthbebbnidgeaeaaEq
import Derived.Test.YthbebbnidgeaeaaMarkV
import Derived.Test.YthbebbnidgeaeaaHeld
import Derived.Deep.RegionHeld3
namespace Go.Proofs.Ythbebbnidgeaeaa
open Go.ChangeShapes Go.WideShapes Go.ChangeAt Go.RowKit Go.Deep
set_option maxRecDepth 100000
set_option linter.unusedVariables false

set_option maxHeartbeats 4000000 in
theorem lawNewStore {W : World} {bs0 : List Nat} {cs0 : List Value} {a0 : Schema} (h0 : SchemaR W bs0 cs0 a0) :
    Calls Try.prog 5 #[.agg cs0.toArray] W fun e w' => e = .returned (.bool true) ∧ Below W.heap.size W w' := by
  have H0 := h0
  obtain ⟨p0v0, p0b0, rfl, rfl, hf0, p0r0⟩ := h0
  clear p0r0
  go_enter Try.func5, Try.ntmps5
  go_wp2_with fail
  by_cases n0 : (1048576 : Int) - (Schema.bulk a0 : Int) < 0
  · refine (szSchema ((Below.refl W.heap.size W).alloc (Nat.le_refl _) (.cells #[p0v0] 45)) H0 (by omega) (by omega)).mono ?_; rw [clip_neg (by omega)]; rintro e w' ⟨rfl, hb'⟩
    go_wp2_with fail
    go_ret
    exact ⟨rfl, nxt ((Below.refl W.heap.size W).alloc (Nat.le_refl _) (.cells #[p0v0] 45)) hb'⟩
  refine (szSchema ((Below.refl W.heap.size W).alloc (Nat.le_refl _) (.cells #[p0v0] 45)) H0 (by omega) (by omega)).mono ?_; rw [clip_pos (by omega)]; rintro e w1 ⟨rfl, hb1⟩; have st1 := nxt' ((Below.refl W.heap.size W).alloc (Nat.le_refl _) (.cells #[p0v0] 45)) hb1; have q0 := box_at hb1; have hw_w1 := nxt (Below.refl W.heap.size W) st1
  have k0 : Schema.bulk a0 ≤ 1048576 := by omega
  obtain ⟨ok, co, hok⟩ : ∃ ok co, newAns a0 = (ok, co) := ⟨_, _, rfl⟩
  have HO := hide hok
  have qq1 : (ok != ok) = false := by simp
  have qq2 : (co != co) = false := by simp
  clear hok
  have qi := hni
  have hbd := newAns_wt a0
  rw [HO.out] at hbd
  have hbd : (Store.wtV ok : Int) ≤ 1073741824 := by have := hbd; simp only [] at this; omega
  go_wp2_with fail
  refine (toSchema hw_w1 H0 k0).mono ?_; rintro e w2 ⟨cs_s0, bs_s0, rfl, r_s0, f_s0, hb2⟩; have q0 := box_on q0 rfl hb2; have hw_w2 := nxt hw_w1 hb2; have r_s0_2 := r_s0; obtain ⟨s0v0, s0b0, rfl, rfl, _, s0r0⟩ := r_s0; obtain ⟨s0A0, s0c0, rfl, _, _, _⟩ := s0r0.use
  go_wp2_with fail
  refine (spec_NewStore r_s0_2).mono ?_; rw [HO.out]; rintro e w3 ⟨cs_w, bs_w, rfl, r_w, hb3⟩; have q0 := box_on q0 rfl hb3; have r_s0_2 := SchemaR.good.nxt hb3 r_s0_2; have hw_w3 := nxt hw_w2 hb3; have r_w0 : StoreR w3 bs_w cs_w ok := r_w; clear r_w; have r_w := r_w0; obtain ⟨wv0, wb0, wbs, rfl, _, wr0⟩ := r_w0; subst wbs; obtain ⟨wA0, wc0, rfl, _, _, _⟩ := wr0.use
  clear r_s0_2
  have q0p := box_on q0 rfl ((Below.refl w3.heap.size w3).alloc (Nat.le_refl _) (.cells #[.slice wA0 ok.tables.length wc0, .int .i64 ok.next] 49))
  have ob_x0_0 := hide (Nat.lt_of_lt_of_le (World.block_lt_of_cell? _ ⟨W.heap.size, 0, none⟩ (box_cell q0 0 rfl)) (((Below.refl w3.heap.size w3).alloc (Nat.le_refl _) (.cells #[.slice wA0 ok.tables.length wc0, .int .i64 ok.next] 49))).size)
  have od_x0_r_w := hide (StoreR.good.lt (StoreR.good.nxt ((Below.refl w3.heap.size w3).alloc (Nat.le_refl _) (.cells #[.slice wA0 ok.tables.length wc0, .int .i64 ok.next] 49)) r_w))
  have lo_x0 := hide ((hw_w3.alloc (hw_w3.size) (.cells #[.slice wA0 ok.tables.length wc0, .int .i64 ok.next] 49))).size
  go_wp2_with fail
  refine (toSchema (hw_w3.alloc (hw_w3.size) (.cells #[.slice wA0 ok.tables.length wc0, .int .i64 ok.next] 49)) H0 k0).mono ?_; rintro e w4 ⟨cs_x0, bs_x0, rfl, r_x0, f_x0, hb4⟩; have st4 := nxt' ((Below.refl w3.heap.size w3).alloc (Nat.le_refl _) (.cells #[.slice wA0 ok.tables.length wc0, .int .i64 ok.next] 49)) hb4; have q0 := box_on q0 rfl st4; have q1 := box_at hb4; have r_w := StoreR.good.nxt st4 r_w; have hw_w4 := nxt hw_w3 st4; have r_x0_4 := r_x0; obtain ⟨x0v0, x0b0, rfl, rfl, _, x0r0⟩ := r_x0; obtain ⟨x0A0, x0c0, rfl, _, _, _⟩ := x0r0.use
  have q0p := box_on q0 rfl ((Below.refl w4.heap.size w4).alloc (Nat.le_refl _) (.cells #[.slice x0A0 a0.tables.length x0c0] 25))
  have q1p := box_on q1 rfl ((Below.refl w4.heap.size w4).alloc (Nat.le_refl _) (.cells #[.slice x0A0 a0.tables.length x0c0] 25))
  have ly_x0_2 := hide (SchemaR.good.lt r_x0_4)
  have ob_g_0 := hide (Nat.lt_of_lt_of_le (World.block_lt_of_cell? _ ⟨W.heap.size, 0, none⟩ (box_cell q0 0 rfl)) (((Below.refl w4.heap.size w4).alloc (Nat.le_refl _) (.cells #[.slice x0A0 a0.tables.length x0c0] 25))).size)
  have ob_g_1 := hide (Nat.lt_of_lt_of_le (World.block_lt_of_cell? _ ⟨w3.heap.size, 0, none⟩ (box_cell q1 0 rfl)) (((Below.refl w4.heap.size w4).alloc (Nat.le_refl _) (.cells #[.slice x0A0 a0.tables.length x0c0] 25))).size)
  have od_g_r_w := hide (StoreR.good.lt (StoreR.good.nxt ((Below.refl w4.heap.size w4).alloc (Nat.le_refl _) (.cells #[.slice x0A0 a0.tables.length x0c0] 25)) r_w))
  have od_g_r_x0 := hide (SchemaR.good.lt (SchemaR.good.nxt ((Below.refl w4.heap.size w4).alloc (Nat.le_refl _) (.cells #[.slice x0A0 a0.tables.length x0c0] 25)) r_x0_4))
  have lo_g := hide ((hw_w4.alloc (hw_w4.size) (.cells #[.slice x0A0 a0.tables.length x0c0] 25))).size
  go_wp2_with fail
  refine (impl_NewStore (SchemaR.good.nxt ((Below.refl w4.heap.size w4).alloc (Nat.le_refl _) (.cells #[.slice x0A0 a0.tables.length x0c0] 25)) r_x0_4)).mono ?_; rw [HO.out]; rintro e w5 ⟨cs_g, bs_g, rfl, r_g, f_g, hb5⟩; have st5 := nxt' ((Below.refl w4.heap.size w4).alloc (Nat.le_refl _) (.cells #[.slice x0A0 a0.tables.length x0c0] 25)) hb5; have q0 := box_on q0 rfl st5; have q1 := box_on q1 rfl st5; have q2 := box_at hb5; have r_w := StoreR.good.nxt st5 r_w; have r_x0_4 := SchemaR.good.nxt st5 r_x0_4; have f_x0 := f_x0.below st5; have hw_w5 := nxt hw_w4 st5; have r_g0 : StoreR w5 bs_g cs_g ok := r_g; clear r_g; have r_g := r_g0; obtain ⟨gv0, gb0, gbs, rfl, _, gr0⟩ := r_g0; subst gbs; obtain ⟨gA0, gc0, rfl, _, _, _⟩ := gr0.use
  have q0p := box_on q0 rfl ((Below.refl w5.heap.size w5).alloc (Nat.le_refl _) (.cells #[.slice gA0 ok.tables.length gc0, .int .i64 ok.next] 49))
  have q1p := box_on q1 rfl ((Below.refl w5.heap.size w5).alloc (Nat.le_refl _) (.cells #[.slice gA0 ok.tables.length gc0, .int .i64 ok.next] 49))
  have q2p := box_on q2 rfl ((Below.refl w5.heap.size w5).alloc (Nat.le_refl _) (.cells #[.slice gA0 ok.tables.length gc0, .int .i64 ok.next] 49))
  have ly_x0_3 := hide (SchemaR.good.lt r_x0_4)
  have ly_g_3 := hide (StoreR.good.lt r_g)
  go_wp2_with fail
  refine (eqStore (Below.refl _ _) (StoreR.good.nxt ((Below.refl w5.heap.size w5).alloc (Nat.le_refl _) (.cells #[.slice gA0 ok.tables.length gc0, .int .i64 ok.next] 49)) r_g) (StoreR.good.nxt ((Below.refl w5.heap.size w5).alloc (Nat.le_refl _) (.cells #[.slice gA0 ok.tables.length gc0, .int .i64 ok.next] 49)) r_w)).mono ?_; rintro e w6 ⟨rfl, hb6⟩; have st6 := nxt' ((Below.refl w5.heap.size w5).alloc (Nat.le_refl _) (.cells #[.slice gA0 ok.tables.length gc0, .int .i64 ok.next] 49)) hb6; have q0 := box_on q0 rfl st6; have q1 := box_on q1 rfl st6; have q2 := box_on q2 rfl st6; have q3 := box_at hb6; have r_w := StoreR.good.nxt st6 r_w; have r_x0_4 := SchemaR.good.nxt st6 r_x0_4; have r_g := StoreR.good.nxt st6 r_g; have f_x0 := f_x0.below st6; have f_g := f_g.below st6; have hw_w6 := nxt hw_w5 st6
  go_wp2_with fail
  go_region_held3 (fun w' => (w'.cell? ⟨W.heap.size, 0, none⟩ = some (p0v0)) ∧ (w'.cell? ⟨w4.heap.size, 0, none⟩ = some (.slice x0A0 a0.tables.length x0c0))) (exact ⟨q0 0, q2 0⟩)
    (first | (go_at_call 23; (with_reducible refine (toSchema hw_w6.drew H0 k0).mono ?_); rintro e w7 ⟨cs_y0, bs_y0, rfl, r_y0, f_y0, hb7⟩; have hd7 := nxt (Below.refl _ _).drew hb7; have q0 := box_on q0 rfl hd7; have q1 := box_on q1 rfl hd7; have q2 := box_on q2 rfl hd7; have q3 := box_on q3 rfl hd7; have r_w := StoreR.good.nxt hd7 r_w; have r_x0_4 := SchemaR.good.nxt hd7 r_x0_4; have r_g := StoreR.good.nxt hd7 r_g; have f_x0 := f_x0.below hd7; have f_g := f_g.below hd7; have hw_w7 := nxt hw_w6 hd7; have r_y0_7 := r_y0; obtain ⟨y0v0, y0b0, rfl, rfl, _, y0r0⟩ := r_y0; obtain ⟨y0A0, y0c0, rfl, _, _, _⟩ := y0r0.use) | (go_at_call 18; (with_reducible refine (eqSchema (Below.refl _ _) r_x0_4 r_y0_7).mono ?_); rintro e w8 ⟨rfl, hb8⟩; have q0 := box_on q0 rfl hb8; have q1 := box_on q1 rfl hb8; have q2 := box_on q2 rfl hb8; have q3 := box_on q3 rfl hb8; have r_w := StoreR.good.nxt hb8 r_w; have r_x0_4 := SchemaR.good.nxt hb8 r_x0_4; have r_g := StoreR.good.nxt hb8 r_g; have r_y0_7 := SchemaR.good.nxt hb8 r_y0_7; have f_x0 := f_x0.below hb8; have f_g := f_g.below hb8; have hw_w8 := nxt hw_w7 hb8))
  clear r_y0_7
  have wx0 := Schema.wtV_le a0
  go_wp2_with fail
  refine (markVSchema r_x0_4 f_x0 (by omega) (by omega)).mono ?_; rintro e w9 ⟨rfl, rm9, fm9, u9⟩; have q0 := box_upd q0 rfl u9 (fun hm => by have := (f_x0.2 _ hm).1; have := ob_x0_0.out; omega); have q1 := box_upd q1 rfl u9 (fun hm => by have := (f_x0.2 _ hm).1; simp at this; omega); have q2 := box_upd q2 rfl u9 (fun hm => by have := ly_x0_2.out _ hm; omega); have q3 := box_upd q3 rfl u9 (fun hm => by have := ly_x0_3.out _ hm; omega); have r_w := StoreR.good.upd r_w u9 (fun b hb hm => by have := od_x0_r_w.out b hb; have := (f_x0.2 b hm).1; omega); have r_g := StoreR.good.upd r_g u9 (fun b hb hm => by have := od_g_r_x0.out b hm; have := (f_g.2 b hb).1; omega); have hw_w9 := hw_w8.trans (u9.below W.heap.size hw_w8.size (fun b hb => by have := (f_x0.2 b hb).1; have := lo_x0.out; omega)); have f_g := f_g.upd u9
  clear rm9 fm9
  go_wp2_with fail
  refine (eqStore (Below.refl _ _) r_g r_w).mono ?_; rintro e w10 ⟨rfl, hb10⟩; have q0 := box_on q0 rfl hb10; have q1 := box_on q1 rfl hb10; have q2 := box_on q2 rfl hb10; have q3 := box_on q3 rfl hb10; have r_w := StoreR.good.nxt hb10 r_w; have r_g := StoreR.good.nxt hb10 r_g; have f_g := f_g.below hb10; have hw_w10 := nxt hw_w9 hb10
  go_wp2_with fail
  refine (markVStore r_g f_g (by omega) (by omega)).mono ?_; rintro e w11 ⟨rfl, rm11, fm11, u11⟩; have q0 := box_upd q0 rfl u11 (fun hm => by have := (f_g.2 _ hm).1; have := ob_g_0.out; omega); have q1 := box_upd q1 rfl u11 (fun hm => by have := (f_g.2 _ hm).1; have := ob_g_1.out; omega); have q2 := box_upd q2 rfl u11 (fun hm => by have := (f_g.2 _ hm).1; simp at this; omega); have q3 := box_upd q3 rfl u11 (fun hm => by have := ly_g_3.out _ hm; omega); have r_w := StoreR.good.upd r_w u11 (fun b hb hm => by have := od_g_r_w.out b hb; have := (f_g.2 b hm).1; omega); have hw_w11 := hw_w10.trans (u11.below W.heap.size hw_w10.size (fun b hb => by have := (f_g.2 b hb).1; have := lo_g.out; omega)); have r_g := rm11; have f_g := fm11
  go_wp2_with fail
  refine (heldVStore (Below.refl _ _) r_g (by omega) (by omega)).mono ?_; rintro e w12 ⟨rfl, hb12⟩; have q0 := box_on q0 rfl hb12; have q1 := box_on q1 rfl hb12; have q2 := box_on q2 rfl hb12; have q3 := box_on q3 rfl hb12; have r_w := StoreR.good.nxt hb12 r_w; have r_g := StoreR.good.nxt hb12 r_g; have f_g := f_g.below hb12; have hw_w12 := nxt hw_w11 hb12
  go_wp2_with fail
  refine (toSchema hw_w12 H0 k0).mono ?_; rintro e w13 ⟨cs_z0, bs_z0, rfl, r_z0, f_z0, hb13⟩; have q0 := box_on q0 rfl hb13; have q1 := box_on q1 rfl hb13; have q2 := box_on q2 rfl hb13; have q3 := box_on q3 rfl hb13; have r_w := StoreR.good.nxt hb13 r_w; have r_g := StoreR.good.nxt hb13 r_g; have f_g := f_g.below hb13; have hw_w13 := nxt hw_w12 hb13; have r_z0_13 := r_z0; obtain ⟨z0v0, z0b0, rfl, rfl, _, z0r0⟩ := r_z0; obtain ⟨z0A0, z0c0, rfl, _, _, _⟩ := z0r0.use
  go_wp2_with fail
  refine (impl_NewStore r_z0_13).mono ?_; rw [HO.out]; rintro e w14 ⟨cs_h, bs_h, rfl, r_h, f_h, hb14⟩; have q0 := box_on q0 rfl hb14; have q1 := box_on q1 rfl hb14; have q2 := box_on q2 rfl hb14; have q3 := box_on q3 rfl hb14; have r_w := StoreR.good.nxt hb14 r_w; have r_g := StoreR.good.nxt hb14 r_g; have r_z0_13 := SchemaR.good.nxt hb14 r_z0_13; have f_g := f_g.below hb14; have hw_w14 := nxt hw_w13 hb14; have r_h0 : StoreR w14 bs_h cs_h ok := r_h; clear r_h; have r_h := r_h0; obtain ⟨hv0, hb0, hbs, rfl, _, hr0⟩ := r_h0; subst hbs; obtain ⟨hA0, hc0, rfl, _, _, _⟩ := hr0.use
  clear r_z0_13
  have q0p := box_on q0 rfl ((Below.refl w14.heap.size w14).alloc (Nat.le_refl _) (.cells #[.slice hA0 ok.tables.length hc0, .int .i64 ok.next] 49))
  have q1p := box_on q1 rfl ((Below.refl w14.heap.size w14).alloc (Nat.le_refl _) (.cells #[.slice hA0 ok.tables.length hc0, .int .i64 ok.next] 49))
  have q2p := box_on q2 rfl ((Below.refl w14.heap.size w14).alloc (Nat.le_refl _) (.cells #[.slice hA0 ok.tables.length hc0, .int .i64 ok.next] 49))
  have q3p := box_on q3 rfl ((Below.refl w14.heap.size w14).alloc (Nat.le_refl _) (.cells #[.slice hA0 ok.tables.length hc0, .int .i64 ok.next] 49))
  have ly_g_4 := hide (StoreR.good.lt r_g)
  go_wp2_with fail
  refine (eqStore (Below.refl _ _) (StoreR.good.nxt ((Below.refl w14.heap.size w14).alloc (Nat.le_refl _) (.cells #[.slice hA0 ok.tables.length hc0, .int .i64 ok.next] 49)) r_h) (StoreR.good.nxt ((Below.refl w14.heap.size w14).alloc (Nat.le_refl _) (.cells #[.slice hA0 ok.tables.length hc0, .int .i64 ok.next] 49)) r_w)).mono ?_; rintro e w15 ⟨rfl, hb15⟩; have st15 := nxt' ((Below.refl w14.heap.size w14).alloc (Nat.le_refl _) (.cells #[.slice hA0 ok.tables.length hc0, .int .i64 ok.next] 49)) hb15; have q0 := box_on q0 rfl st15; have q1 := box_on q1 rfl st15; have q2 := box_on q2 rfl st15; have q3 := box_on q3 rfl st15; have q4 := box_at hb15; have r_w := StoreR.good.nxt st15 r_w; have r_g := StoreR.good.nxt st15 r_g; have r_h := StoreR.good.nxt st15 r_h; have f_g := f_g.below st15; have hw_w15 := nxt hw_w14 st15
  clear r_h
  go_wp2_with fail
  refine (heldVStore (Below.refl _ _) r_g (by omega) (by omega)).mono ?_; rintro e w16 ⟨rfl, hb16⟩; have q0 := box_on q0 rfl hb16; have q1 := box_on q1 rfl hb16; have q2 := box_on q2 rfl hb16; have q3 := box_on q3 rfl hb16; have q4 := box_on q4 rfl hb16; have r_w := StoreR.good.nxt hb16 r_w; have r_g := StoreR.good.nxt hb16 r_g; have f_g := f_g.below hb16; have hw_w16 := nxt hw_w15 hb16
  go_wp2_with fail
  go_ret
  exact ⟨rfl, hw_w16⟩
end Go.Proofs.Ythbebbnidgeaeaa
