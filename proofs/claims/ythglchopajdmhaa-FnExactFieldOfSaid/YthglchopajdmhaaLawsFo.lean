/- The walks of laws: FieldOf. No statement is proved here; no conditions. Written by a program (genlaw.py). -/
import Derived.Test.YthglchopajdmhaaFieldT
import Derived.Test.YthglchopajdmhaaBox
import Derived.Test.YthglchopajdmhaaSz
import Derived.Test.YthglchopajdmhaaTo
import Derived.Test.YthglchopajdmhaaEq
import Derived.Test.YthglchopajdmhaaMarkV
import Derived.Test.YthglchopajdmhaaHeld
import Derived.Deep.RegionHeld3
namespace Go.Proofs.Ythglchopajdmhaa
open Go.ChangeShapes Go.WideShapes Go.ChangeAt Go.RowKit Go.Deep
set_option maxRecDepth 100000
set_option linter.unusedVariables false
set_option linter.unusedSimpArgs false

set_option maxHeartbeats 32000000 in
theorem lawFieldOf {W : World} {bs0 : List Nat} {cs0 : List Value} {a0 : Json} {a1 : ByteArray} (h0 : JsonR W bs0 cs0 a0) (h1 : a1.size ≤ 9223372036854775807) :
    Calls Try.prog 7 #[.agg cs0.toArray, .string a1] W fun e w' => e = .returned (.bool true) ∧ Below W.heap.size W w' := by
  have H0 := h0
  obtain ⟨p0v3, p0b3, p0v4, p0b4, rfl, rfl, hf0, p0r3, p0r4⟩ := h0.open
  clear p0r3
  clear p0r4
  by_cases hl1 : 1048576 < a1.size
  · go_enter Try.func7, Try.ntmps7
    go_wp2_with fail
    go_ret
    exact ⟨rfl, ((Below.refl W.heap.size W).alloc (Nat.le_refl _) (.cells #[.int .i64 a0.kind, .int .i64 a0.n, .string a0.t, p0v3, p0v4] 25))⟩
  go_enter Try.func7, Try.ntmps7
  go_wp2_with fail
  by_cases n0 : (1048576 : Int) - (Json.bulk a0 : Int) < 0
  · refine (szJson ((Below.refl W.heap.size W).alloc (Nat.le_refl _) (.cells #[.int .i64 a0.kind, .int .i64 a0.n, .string a0.t, p0v3, p0v4] 25)) H0 (by omega) (by omega)).mono ?_; rw [clip_neg (by omega)]; rintro e w' ⟨rfl, hb'⟩
    go_wp2_with fail
    go_ret
    exact ⟨rfl, nxt ((Below.refl W.heap.size W).alloc (Nat.le_refl _) (.cells #[.int .i64 a0.kind, .int .i64 a0.n, .string a0.t, p0v3, p0v4] 25)) hb'⟩
  refine (szJson ((Below.refl W.heap.size W).alloc (Nat.le_refl _) (.cells #[.int .i64 a0.kind, .int .i64 a0.n, .string a0.t, p0v3, p0v4] 25)) H0 (by omega) (by omega)).mono ?_; rw [clip_pos (by omega)]; rintro e w1 ⟨rfl, hb1⟩; have st1 := nxt' ((Below.refl W.heap.size W).alloc (Nat.le_refl _) (.cells #[.int .i64 a0.kind, .int .i64 a0.n, .string a0.t, p0v3, p0v4] 25)) hb1; have q0 := box_at hb1; have hw_w1 := nxt (Below.refl W.heap.size W) st1
  have k0 : Json.bulk a0 ≤ 1048576 := by omega
  obtain ⟨ok, co, hok⟩ : ∃ ok co, fieldAns a0 a1 = (ok, co) := ⟨_, _, rfl⟩
  have HO := hide hok
  have qq2 : (co != co) = false := by simp
  clear hok
  have qi := hni
  have hbd := fieldAns_wtV k0 a1
  rw [HO.out] at hbd
  have hbd : (Json.wtV ok : Int) ≤ 1073741824 := by have := hbd; (try simp only [] at this); omega
  go_wp2_with fail
  refine (toJson hw_w1 H0 k0).mono ?_; rintro e w2 ⟨cs_s0, bs_s0, rfl, r_s0, f_s0, hb2⟩; have q0 := box_on q0 rfl hb2; have hw_w2 := nxt hw_w1 hb2; have r_s0_2 := r_s0; obtain ⟨s0v3, s0b3, s0v4, s0b4, rfl, rfl, _, s0r3, s0r4⟩ := r_s0.open; obtain ⟨s0A3, s0c3, rfl, _, _, _⟩ := s0r3.use; obtain ⟨s0A4, s0c4, rfl, _, _, _⟩ := s0r4.use
  go_wp2_with fail
  refine (spec_FieldOf r_s0_2 a1 h1 k0).mono ?_; rw [HO.out]; rintro e w3 ⟨cs_w, bs_w, rfl, r_w, hb3⟩; have q0 := box_on q0 rfl hb3; have r_s0_2 := JsonR.good.nxt hb3 r_s0_2; have hw_w3 := nxt hw_w2 hb3; have r_w0 : JsonR w3 bs_w cs_w ok := r_w; clear r_w; have r_w := r_w0; obtain ⟨wv3, wb3, wv4, wb4, wbs, rfl, _, wr3, wr4⟩ := r_w0.open; subst wbs; obtain ⟨wA3, wc3, rfl, _, _, _⟩ := wr3.use; obtain ⟨wA4, wc4, rfl, _, _, _⟩ := wr4.use
  clear r_s0_2
  have q0p := box_on q0 rfl ((Below.refl w3.heap.size w3).alloc (Nat.le_refl _) (.cells #[.int .i64 ok.kind, .int .i64 ok.n, .string ok.t, .slice wA3 ok.keys.length wc3, .slice wA4 ok.items.length wc4] 30))
  have ob_x0_0 := hide (Nat.lt_of_lt_of_le (World.block_lt_of_cell? _ ⟨W.heap.size, 0, none⟩ (box_cell q0 0 rfl)) (((Below.refl w3.heap.size w3).alloc (Nat.le_refl _) (.cells #[.int .i64 ok.kind, .int .i64 ok.n, .string ok.t, .slice wA3 ok.keys.length wc3, .slice wA4 ok.items.length wc4] 30))).size)
  have od_x0_r_w := hide (JsonR.good.lt (JsonR.good.nxt ((Below.refl w3.heap.size w3).alloc (Nat.le_refl _) (.cells #[.int .i64 ok.kind, .int .i64 ok.n, .string ok.t, .slice wA3 ok.keys.length wc3, .slice wA4 ok.items.length wc4] 30)) r_w))
  have lo_x0 := hide ((hw_w3.alloc (hw_w3.size) (.cells #[.int .i64 ok.kind, .int .i64 ok.n, .string ok.t, .slice wA3 ok.keys.length wc3, .slice wA4 ok.items.length wc4] 30))).size
  go_wp2_with fail
  refine (toJson (hw_w3.alloc (hw_w3.size) (.cells #[.int .i64 ok.kind, .int .i64 ok.n, .string ok.t, .slice wA3 ok.keys.length wc3, .slice wA4 ok.items.length wc4] 30)) H0 k0).mono ?_; rintro e w4 ⟨cs_x0, bs_x0, rfl, r_x0, f_x0, hb4⟩; have st4 := nxt' ((Below.refl w3.heap.size w3).alloc (Nat.le_refl _) (.cells #[.int .i64 ok.kind, .int .i64 ok.n, .string ok.t, .slice wA3 ok.keys.length wc3, .slice wA4 ok.items.length wc4] 30)) hb4; have q0 := box_on q0 rfl st4; have q1 := box_at hb4; have r_w := JsonR.good.nxt st4 r_w; have hw_w4 := nxt hw_w3 st4; have r_x0_4 := r_x0; obtain ⟨x0v3, x0b3, x0v4, x0b4, rfl, rfl, _, x0r3, x0r4⟩ := r_x0.open; obtain ⟨x0A3, x0c3, rfl, _, _, _⟩ := x0r3.use; obtain ⟨x0A4, x0c4, rfl, _, _, _⟩ := x0r4.use
  have q0p := box_on q0 rfl ((Below.refl w4.heap.size w4).alloc (Nat.le_refl _) (.cells #[.int .i64 a0.kind, .int .i64 a0.n, .string a0.t, .slice x0A3 a0.keys.length x0c3, .slice x0A4 a0.items.length x0c4] 30))
  have q1p := box_on q1 rfl ((Below.refl w4.heap.size w4).alloc (Nat.le_refl _) (.cells #[.int .i64 a0.kind, .int .i64 a0.n, .string a0.t, .slice x0A3 a0.keys.length x0c3, .slice x0A4 a0.items.length x0c4] 30))
  have ly_x0_2 := hide (JsonR.good.lt r_x0_4)
  have ob_g_0 := hide (Nat.lt_of_lt_of_le (World.block_lt_of_cell? _ ⟨W.heap.size, 0, none⟩ (box_cell q0 0 rfl)) (((Below.refl w4.heap.size w4).alloc (Nat.le_refl _) (.cells #[.int .i64 a0.kind, .int .i64 a0.n, .string a0.t, .slice x0A3 a0.keys.length x0c3, .slice x0A4 a0.items.length x0c4] 30))).size)
  have ob_g_1 := hide (Nat.lt_of_lt_of_le (World.block_lt_of_cell? _ ⟨w3.heap.size, 0, none⟩ (box_cell q1 0 rfl)) (((Below.refl w4.heap.size w4).alloc (Nat.le_refl _) (.cells #[.int .i64 a0.kind, .int .i64 a0.n, .string a0.t, .slice x0A3 a0.keys.length x0c3, .slice x0A4 a0.items.length x0c4] 30))).size)
  have od_g_r_w := hide (JsonR.good.lt (JsonR.good.nxt ((Below.refl w4.heap.size w4).alloc (Nat.le_refl _) (.cells #[.int .i64 a0.kind, .int .i64 a0.n, .string a0.t, .slice x0A3 a0.keys.length x0c3, .slice x0A4 a0.items.length x0c4] 30)) r_w))
  have od_g_r_x0 := hide (JsonR.good.lt (JsonR.good.nxt ((Below.refl w4.heap.size w4).alloc (Nat.le_refl _) (.cells #[.int .i64 a0.kind, .int .i64 a0.n, .string a0.t, .slice x0A3 a0.keys.length x0c3, .slice x0A4 a0.items.length x0c4] 30)) r_x0_4))
  have lo_g := hide ((hw_w4.alloc (hw_w4.size) (.cells #[.int .i64 a0.kind, .int .i64 a0.n, .string a0.t, .slice x0A3 a0.keys.length x0c3, .slice x0A4 a0.items.length x0c4] 30))).size
  go_wp2_with fail
  refine (impl_FieldOf (JsonR.good.nxt ((Below.refl w4.heap.size w4).alloc (Nat.le_refl _) (.cells #[.int .i64 a0.kind, .int .i64 a0.n, .string a0.t, .slice x0A3 a0.keys.length x0c3, .slice x0A4 a0.items.length x0c4] 30)) r_x0_4) a1 h1 k0).mono ?_; rw [HO.out]; rintro e w5 ⟨cs_g, bs_g, rfl, r_g, f_g, hb5⟩; have st5 := nxt' ((Below.refl w4.heap.size w4).alloc (Nat.le_refl _) (.cells #[.int .i64 a0.kind, .int .i64 a0.n, .string a0.t, .slice x0A3 a0.keys.length x0c3, .slice x0A4 a0.items.length x0c4] 30)) hb5; have q0 := box_on q0 rfl st5; have q1 := box_on q1 rfl st5; have q2 := box_at hb5; have r_w := JsonR.good.nxt st5 r_w; have r_x0_4 := JsonR.good.nxt st5 r_x0_4; have f_x0 := f_x0.below st5; have hw_w5 := nxt hw_w4 st5; have r_g0 : JsonR w5 bs_g cs_g ok := r_g; clear r_g; have r_g := r_g0; obtain ⟨gv3, gb3, gv4, gb4, gbs, rfl, _, gr3, gr4⟩ := r_g0.open; subst gbs; obtain ⟨gA3, gc3, rfl, _, _, _⟩ := gr3.use; obtain ⟨gA4, gc4, rfl, _, _, _⟩ := gr4.use
  have q0p := box_on q0 rfl ((Below.refl w5.heap.size w5).alloc (Nat.le_refl _) (.cells #[.int .i64 ok.kind, .int .i64 ok.n, .string ok.t, .slice gA3 ok.keys.length gc3, .slice gA4 ok.items.length gc4] 30))
  have q1p := box_on q1 rfl ((Below.refl w5.heap.size w5).alloc (Nat.le_refl _) (.cells #[.int .i64 ok.kind, .int .i64 ok.n, .string ok.t, .slice gA3 ok.keys.length gc3, .slice gA4 ok.items.length gc4] 30))
  have q2p := box_on q2 rfl ((Below.refl w5.heap.size w5).alloc (Nat.le_refl _) (.cells #[.int .i64 ok.kind, .int .i64 ok.n, .string ok.t, .slice gA3 ok.keys.length gc3, .slice gA4 ok.items.length gc4] 30))
  have ly_x0_3 := hide (JsonR.good.lt r_x0_4)
  have ly_g_3 := hide (JsonR.good.lt r_g)
  go_wp2_with fail
  refine (eqJson (Below.refl _ _) (JsonR.good.nxt ((Below.refl w5.heap.size w5).alloc (Nat.le_refl _) (.cells #[.int .i64 ok.kind, .int .i64 ok.n, .string ok.t, .slice gA3 ok.keys.length gc3, .slice gA4 ok.items.length gc4] 30)) r_g) (JsonR.good.nxt ((Below.refl w5.heap.size w5).alloc (Nat.le_refl _) (.cells #[.int .i64 ok.kind, .int .i64 ok.n, .string ok.t, .slice gA3 ok.keys.length gc3, .slice gA4 ok.items.length gc4] 30)) r_w)).mono ?_; rintro e w6 ⟨rfl, hb6⟩; have st6 := nxt' ((Below.refl w5.heap.size w5).alloc (Nat.le_refl _) (.cells #[.int .i64 ok.kind, .int .i64 ok.n, .string ok.t, .slice gA3 ok.keys.length gc3, .slice gA4 ok.items.length gc4] 30)) hb6; have q0 := box_on q0 rfl st6; have q1 := box_on q1 rfl st6; have q2 := box_on q2 rfl st6; have q3 := box_at hb6; have r_w := JsonR.good.nxt st6 r_w; have r_x0_4 := JsonR.good.nxt st6 r_x0_4; have r_g := JsonR.good.nxt st6 r_g; have f_x0 := f_x0.below st6; have f_g := f_g.below st6; have hw_w6 := nxt hw_w5 st6
  go_wp2_with fail
  go_region_held3 (fun w' => (w'.cell? ⟨W.heap.size, 0, none⟩ = some (.int .i64 a0.kind) ∧ w'.cell? ⟨W.heap.size, 1, none⟩ = some (.int .i64 a0.n) ∧ w'.cell? ⟨W.heap.size, 2, none⟩ = some (.string a0.t) ∧ w'.cell? ⟨W.heap.size, 3, none⟩ = some (p0v3) ∧ w'.cell? ⟨W.heap.size, 4, none⟩ = some (p0v4)) ∧ (w'.cell? ⟨w4.heap.size, 0, none⟩ = some (.int .i64 a0.kind) ∧ w'.cell? ⟨w4.heap.size, 1, none⟩ = some (.int .i64 a0.n) ∧ w'.cell? ⟨w4.heap.size, 2, none⟩ = some (.string a0.t) ∧ w'.cell? ⟨w4.heap.size, 3, none⟩ = some (.slice x0A3 a0.keys.length x0c3) ∧ w'.cell? ⟨w4.heap.size, 4, none⟩ = some (.slice x0A4 a0.items.length x0c4))) (exact ⟨⟨q0 0, q0 1, q0 2, q0 3, q0 4⟩, ⟨q2 0, q2 1, q2 2, q2 3, q2 4⟩⟩)
    (first | (go_at_call 13; (with_reducible refine (toJson hw_w6.drew H0 k0).mono ?_); rintro e w7 ⟨cs_y0, bs_y0, rfl, r_y0, f_y0, hb7⟩; have hd7 := nxt (Below.refl _ _).drew hb7; have q0 := box_on q0 rfl hd7; have q1 := box_on q1 rfl hd7; have q2 := box_on q2 rfl hd7; have q3 := box_on q3 rfl hd7; have r_w := JsonR.good.nxt hd7 r_w; have r_x0_4 := JsonR.good.nxt hd7 r_x0_4; have r_g := JsonR.good.nxt hd7 r_g; have f_x0 := f_x0.below hd7; have f_g := f_g.below hd7; have hw_w7 := nxt hw_w6 hd7; have r_y0_7 := r_y0; obtain ⟨y0v3, y0b3, y0v4, y0b4, rfl, rfl, _, y0r3, y0r4⟩ := r_y0.open; obtain ⟨y0A3, y0c3, rfl, _, _, _⟩ := y0r3.use; obtain ⟨y0A4, y0c4, rfl, _, _, _⟩ := y0r4.use) | (go_at_call 15; (with_reducible refine (eqJson (Below.refl _ _) r_x0_4 r_y0_7).mono ?_); rintro e w8 ⟨rfl, hb8⟩; have q0 := box_on q0 rfl hb8; have q1 := box_on q1 rfl hb8; have q2 := box_on q2 rfl hb8; have q3 := box_on q3 rfl hb8; have r_w := JsonR.good.nxt hb8 r_w; have r_x0_4 := JsonR.good.nxt hb8 r_x0_4; have r_g := JsonR.good.nxt hb8 r_g; have r_y0_7 := JsonR.good.nxt hb8 r_y0_7; have f_x0 := f_x0.below hb8; have f_g := f_g.below hb8; have hw_w8 := nxt hw_w7 hb8))
  clear r_y0_7
  have wx0 := Json.wtV_le a0
  go_wp2_with fail
  refine (markVJson r_x0_4 f_x0 (by omega) (by omega)).mono ?_; rintro e w9 ⟨rfl, rm9, fm9, u9⟩; have q0 := box_upd q0 rfl u9 (fun hm => by have := (f_x0.2 _ hm).1; have := ob_x0_0.out; omega); have q1 := box_upd q1 rfl u9 (fun hm => by have := (f_x0.2 _ hm).1; simp at this; omega); have q2 := box_upd q2 rfl u9 (fun hm => by have := ly_x0_2.out _ hm; omega); have q3 := box_upd q3 rfl u9 (fun hm => by have := ly_x0_3.out _ hm; omega); have r_w := JsonR.good.upd r_w u9 (fun b hb hm => by have := od_x0_r_w.out b hb; have := (f_x0.2 b hm).1; omega); have r_g := JsonR.good.upd r_g u9 (fun b hb hm => by have := od_g_r_x0.out b hm; have := (f_g.2 b hb).1; omega); have hw_w9 := hw_w8.trans (u9.below W.heap.size hw_w8.size (fun b hb => by have := (f_x0.2 b hb).1; have := lo_x0.out; omega)); have f_g := f_g.upd u9
  clear rm9 fm9
  go_wp2_with fail
  refine (eqJson (Below.refl _ _) r_g r_w).mono ?_; rintro e w10 ⟨rfl, hb10⟩; have q0 := box_on q0 rfl hb10; have q1 := box_on q1 rfl hb10; have q2 := box_on q2 rfl hb10; have q3 := box_on q3 rfl hb10; have r_w := JsonR.good.nxt hb10 r_w; have r_g := JsonR.good.nxt hb10 r_g; have f_g := f_g.below hb10; have hw_w10 := nxt hw_w9 hb10
  go_wp2_with fail
  refine (markVJson r_g f_g (by omega) (by omega)).mono ?_; rintro e w11 ⟨rfl, rm11, fm11, u11⟩; have q0 := box_upd q0 rfl u11 (fun hm => by have := (f_g.2 _ hm).1; have := ob_g_0.out; omega); have q1 := box_upd q1 rfl u11 (fun hm => by have := (f_g.2 _ hm).1; have := ob_g_1.out; omega); have q2 := box_upd q2 rfl u11 (fun hm => by have := (f_g.2 _ hm).1; simp at this; omega); have q3 := box_upd q3 rfl u11 (fun hm => by have := ly_g_3.out _ hm; omega); have r_w := JsonR.good.upd r_w u11 (fun b hb hm => by have := od_g_r_w.out b hb; have := (f_g.2 b hm).1; omega); have hw_w11 := hw_w10.trans (u11.below W.heap.size hw_w10.size (fun b hb => by have := (f_g.2 b hb).1; have := lo_g.out; omega)); have r_g := rm11; have f_g := fm11
  go_wp2_with fail
  refine (heldVJson (Below.refl _ _) r_g (by omega) (by omega)).mono ?_; rintro e w12 ⟨rfl, hb12⟩; have q0 := box_on q0 rfl hb12; have q1 := box_on q1 rfl hb12; have q2 := box_on q2 rfl hb12; have q3 := box_on q3 rfl hb12; have r_w := JsonR.good.nxt hb12 r_w; have r_g := JsonR.good.nxt hb12 r_g; have f_g := f_g.below hb12; have hw_w12 := nxt hw_w11 hb12
  go_wp2_with fail
  refine (toJson hw_w12 H0 k0).mono ?_; rintro e w13 ⟨cs_z0, bs_z0, rfl, r_z0, f_z0, hb13⟩; have q0 := box_on q0 rfl hb13; have q1 := box_on q1 rfl hb13; have q2 := box_on q2 rfl hb13; have q3 := box_on q3 rfl hb13; have r_w := JsonR.good.nxt hb13 r_w; have r_g := JsonR.good.nxt hb13 r_g; have f_g := f_g.below hb13; have hw_w13 := nxt hw_w12 hb13; have r_z0_13 := r_z0; obtain ⟨z0v3, z0b3, z0v4, z0b4, rfl, rfl, _, z0r3, z0r4⟩ := r_z0.open; obtain ⟨z0A3, z0c3, rfl, _, _, _⟩ := z0r3.use; obtain ⟨z0A4, z0c4, rfl, _, _, _⟩ := z0r4.use
  go_wp2_with fail
  refine (impl_FieldOf r_z0_13 a1 h1 k0).mono ?_; rw [HO.out]; rintro e w14 ⟨cs_h, bs_h, rfl, r_h, f_h, hb14⟩; have q0 := box_on q0 rfl hb14; have q1 := box_on q1 rfl hb14; have q2 := box_on q2 rfl hb14; have q3 := box_on q3 rfl hb14; have r_w := JsonR.good.nxt hb14 r_w; have r_g := JsonR.good.nxt hb14 r_g; have r_z0_13 := JsonR.good.nxt hb14 r_z0_13; have f_g := f_g.below hb14; have hw_w14 := nxt hw_w13 hb14; have r_h0 : JsonR w14 bs_h cs_h ok := r_h; clear r_h; have r_h := r_h0; obtain ⟨hv3, hb3, hv4, hb4, hbs, rfl, _, hr3, hr4⟩ := r_h0.open; subst hbs; obtain ⟨hA3, hc3, rfl, _, _, _⟩ := hr3.use; obtain ⟨hA4, hc4, rfl, _, _, _⟩ := hr4.use
  clear r_z0_13
  have q0p := box_on q0 rfl ((Below.refl w14.heap.size w14).alloc (Nat.le_refl _) (.cells #[.int .i64 ok.kind, .int .i64 ok.n, .string ok.t, .slice hA3 ok.keys.length hc3, .slice hA4 ok.items.length hc4] 30))
  have q1p := box_on q1 rfl ((Below.refl w14.heap.size w14).alloc (Nat.le_refl _) (.cells #[.int .i64 ok.kind, .int .i64 ok.n, .string ok.t, .slice hA3 ok.keys.length hc3, .slice hA4 ok.items.length hc4] 30))
  have q2p := box_on q2 rfl ((Below.refl w14.heap.size w14).alloc (Nat.le_refl _) (.cells #[.int .i64 ok.kind, .int .i64 ok.n, .string ok.t, .slice hA3 ok.keys.length hc3, .slice hA4 ok.items.length hc4] 30))
  have q3p := box_on q3 rfl ((Below.refl w14.heap.size w14).alloc (Nat.le_refl _) (.cells #[.int .i64 ok.kind, .int .i64 ok.n, .string ok.t, .slice hA3 ok.keys.length hc3, .slice hA4 ok.items.length hc4] 30))
  have ly_g_4 := hide (JsonR.good.lt r_g)
  go_wp2_with fail
  refine (eqJson (Below.refl _ _) (JsonR.good.nxt ((Below.refl w14.heap.size w14).alloc (Nat.le_refl _) (.cells #[.int .i64 ok.kind, .int .i64 ok.n, .string ok.t, .slice hA3 ok.keys.length hc3, .slice hA4 ok.items.length hc4] 30)) r_h) (JsonR.good.nxt ((Below.refl w14.heap.size w14).alloc (Nat.le_refl _) (.cells #[.int .i64 ok.kind, .int .i64 ok.n, .string ok.t, .slice hA3 ok.keys.length hc3, .slice hA4 ok.items.length hc4] 30)) r_w)).mono ?_; rintro e w15 ⟨rfl, hb15⟩; have st15 := nxt' ((Below.refl w14.heap.size w14).alloc (Nat.le_refl _) (.cells #[.int .i64 ok.kind, .int .i64 ok.n, .string ok.t, .slice hA3 ok.keys.length hc3, .slice hA4 ok.items.length hc4] 30)) hb15; have q0 := box_on q0 rfl st15; have q1 := box_on q1 rfl st15; have q2 := box_on q2 rfl st15; have q3 := box_on q3 rfl st15; have q4 := box_at hb15; have r_w := JsonR.good.nxt st15 r_w; have r_g := JsonR.good.nxt st15 r_g; have r_h := JsonR.good.nxt st15 r_h; have f_g := f_g.below st15; have hw_w15 := nxt hw_w14 st15
  clear r_h
  go_wp2_with fail
  refine (heldVJson (Below.refl _ _) r_g (by omega) (by omega)).mono ?_; rintro e w16 ⟨rfl, hb16⟩; have q0 := box_on q0 rfl hb16; have q1 := box_on q1 rfl hb16; have q2 := box_on q2 rfl hb16; have q3 := box_on q3 rfl hb16; have q4 := box_on q4 rfl hb16; have r_w := JsonR.good.nxt hb16 r_w; have r_g := JsonR.good.nxt hb16 r_g; have f_g := f_g.below hb16; have hw_w16 := nxt hw_w15 hb16
  go_wp2_with fail
  go_ret
  exact ⟨rfl, hw_w16⟩
end Go.Proofs.Ythglchopajdmhaa
