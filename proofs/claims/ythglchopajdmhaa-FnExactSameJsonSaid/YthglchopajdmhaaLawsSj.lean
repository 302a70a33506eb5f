/- The walks of laws: SameJson. No statement is proved here; no conditions. Written by a program (genlaw.py). -/
import Derived.Test.YthglchopajdmhaaSameJ
import Derived.Test.YthglchopajdmhaaBox
import Derived.Test.YthglchopajdmhaaSz
import Derived.Test.YthglchopajdmhaaTo
import Derived.Test.YthglchopajdmhaaEq
import Derived.Deep.RegionHeld3
namespace Go.Proofs.Ythglchopajdmhaa
open Go.ChangeShapes Go.WideShapes Go.ChangeAt Go.RowKit Go.Deep
set_option maxRecDepth 100000
set_option linter.unusedVariables false
set_option linter.unusedSimpArgs false

set_option maxHeartbeats 4000000 in
theorem lawSameJson {W : World} {bs0 : List Nat} {cs0 : List Value} {a0 : Json} {bs1 : List Nat} {cs1 : List Value} {a1 : Json} (h0 : JsonR W bs0 cs0 a0) (h1 : JsonR W bs1 cs1 a1) :
    Calls Try.prog 6 #[.agg cs0.toArray, .agg cs1.toArray] W fun e w' => e = .returned (.bool true) ∧ Below W.heap.size W w' := by
  have H0 := h0
  have H1 := h1
  obtain ⟨p0v3, p0b3, p0v4, p0b4, rfl, rfl, hf0, p0r3, p0r4⟩ := h0.open
  clear p0r3
  clear p0r4
  obtain ⟨p1v3, p1b3, p1v4, p1b4, rfl, rfl, hf1, p1r3, p1r4⟩ := h1.open
  clear p1r3
  clear p1r4
  go_enter Try.func6, Try.ntmps6
  go_wp2_with fail
  by_cases n0 : (1048576 : Int) - (Json.bulk a0 : Int) < 0
  · refine (szJson (((Below.refl W.heap.size W).alloc (Nat.le_refl _) (.cells #[.int .i64 a0.kind, .int .i64 a0.n, .string a0.t, p0v3, p0v4] 25)).alloc (by simp; try omega) (.cells #[.int .i64 a1.kind, .int .i64 a1.n, .string a1.t, p1v3, p1v4] 25)) H0 (by omega) (by omega)).mono ?_; rw [clip_neg (by omega)]; rintro e w' ⟨rfl, hb'⟩
    go_wp2_with fail
    go_ret
    exact ⟨rfl, nxt (((Below.refl W.heap.size W).alloc (Nat.le_refl _) (.cells #[.int .i64 a0.kind, .int .i64 a0.n, .string a0.t, p0v3, p0v4] 25)).alloc (by simp; try omega) (.cells #[.int .i64 a1.kind, .int .i64 a1.n, .string a1.t, p1v3, p1v4] 25)) hb'⟩
  refine (szJson (((Below.refl W.heap.size W).alloc (Nat.le_refl _) (.cells #[.int .i64 a0.kind, .int .i64 a0.n, .string a0.t, p0v3, p0v4] 25)).alloc (by simp; try omega) (.cells #[.int .i64 a1.kind, .int .i64 a1.n, .string a1.t, p1v3, p1v4] 25)) H0 (by omega) (by omega)).mono ?_; rw [clip_pos (by omega)]; rintro e w1 ⟨rfl, hb1⟩; have st1 := nxt' (((Below.refl W.heap.size W).alloc (Nat.le_refl _) (.cells #[.int .i64 a0.kind, .int .i64 a0.n, .string a0.t, p0v3, p0v4] 25)).alloc (by simp; try omega) (.cells #[.int .i64 a1.kind, .int .i64 a1.n, .string a1.t, p1v3, p1v4] 25)) hb1; obtain ⟨q0, q1⟩ := two_at hb1; have hw_w1 := nxt (Below.refl W.heap.size W) st1
  have k0 : Json.bulk a0 ≤ 1048576 := by omega
  go_wp2_with fail
  by_cases n1 : (1048576 : Int) - (Json.bulk a0 : Int) - (Json.bulk a1 : Int) < 0
  · refine (szJson hw_w1 H1 (by omega) (by omega)).mono ?_; rw [clip_neg (by omega)]; rintro e w' ⟨rfl, hb'⟩
    go_wp2_with fail
    go_ret
    exact ⟨rfl, nxt hw_w1 hb'⟩
  refine (szJson hw_w1 H1 (by omega) (by omega)).mono ?_; rw [clip_pos (by omega)]; rintro e w2 ⟨rfl, hb2⟩; have q0 := box_on q0 rfl hb2; have q1 := box_on q1 rfl hb2; have hw_w2 := nxt hw_w1 hb2
  have k1 : Json.bulk a1 ≤ 1048576 := by omega
  obtain ⟨ok, hok⟩ : ∃ ok, sameJ a0 a1 = ok := ⟨_, rfl⟩
  have HO := hide hok
  have qq1 : (ok != ok) = false := by simp
  clear hok
  go_wp2_with fail
  go_region_held3 (fun w' => (w'.cell? ⟨W.heap.size, 0, none⟩ = some (.int .i64 a0.kind) ∧ w'.cell? ⟨W.heap.size, 1, none⟩ = some (.int .i64 a0.n) ∧ w'.cell? ⟨W.heap.size, 2, none⟩ = some (.string a0.t) ∧ w'.cell? ⟨W.heap.size, 3, none⟩ = some (p0v3) ∧ w'.cell? ⟨W.heap.size, 4, none⟩ = some (p0v4)) ∧ (w'.cell? ⟨W.heap.size + 1, 0, none⟩ = some (.int .i64 a1.kind) ∧ w'.cell? ⟨W.heap.size + 1, 1, none⟩ = some (.int .i64 a1.n) ∧ w'.cell? ⟨W.heap.size + 1, 2, none⟩ = some (.string a1.t) ∧ w'.cell? ⟨W.heap.size + 1, 3, none⟩ = some (p1v3) ∧ w'.cell? ⟨W.heap.size + 1, 4, none⟩ = some (p1v4))) (exact ⟨⟨q0 0, q0 1, q0 2, q0 3, q0 4⟩, ⟨q1 0, q1 1, q1 2, q1 3, q1 4⟩⟩)
    (first | (go_at_call 13; (with_reducible refine (toJson hw_w2.drew H0 k0).mono ?_); rintro e w3 ⟨cs_s0, bs_s0, rfl, r_s0, f_s0, hb3⟩; have hd3 := nxt (Below.refl _ _).drew hb3; have q0 := box_on q0 rfl hd3; have q1 := box_on q1 rfl hd3; have hw_w3 := nxt hw_w2 hd3; have r_s0_3 := r_s0; obtain ⟨s0v3, s0b3, s0v4, s0b4, rfl, rfl, _, s0r3, s0r4⟩ := r_s0.open; obtain ⟨s0A3, s0c3, rfl, _, _, _⟩ := s0r3.use; obtain ⟨s0A4, s0c4, rfl, _, _, _⟩ := s0r4.use) | (go_at_call 13; (with_reducible refine (toJson hw_w3 H1 k1).mono ?_); rintro e w4 ⟨cs_s1, bs_s1, rfl, r_s1, f_s1, hb4⟩; have q0 := box_on q0 rfl hb4; have q1 := box_on q1 rfl hb4; have r_s0_3 := JsonR.good.nxt hb4 r_s0_3; have hw_w4 := nxt hw_w3 hb4; have r_s1_4 := r_s1; obtain ⟨s1v3, s1b3, s1v4, s1b4, rfl, rfl, _, s1r3, s1r4⟩ := r_s1.open; obtain ⟨s1A3, s1c3, rfl, _, _, _⟩ := s1r3.use; obtain ⟨s1A4, s1c4, rfl, _, _, _⟩ := s1r4.use) | (go_at_call 20; (with_reducible refine (spec_SameJson r_s0_3 r_s1_4).mono ?_); rw [HO.out]; rintro e w5 ⟨rfl, hb5⟩; have q0 := box_on q0 rfl hb5; have q1 := box_on q1 rfl hb5; have r_s0_3 := JsonR.good.nxt hb5 r_s0_3; have r_s1_4 := JsonR.good.nxt hb5 r_s1_4; have hw_w5 := nxt hw_w4 hb5))
  clear r_s0_3
  clear r_s1_4
  go_wp2_with fail
  refine (toJson hw_w5 H0 k0).mono ?_; rintro e w6 ⟨cs_x0, bs_x0, rfl, r_x0, f_x0, hb6⟩; have q0 := box_on q0 rfl hb6; have q1 := box_on q1 rfl hb6; have hw_w6 := nxt hw_w5 hb6; have r_x0_6 := r_x0; obtain ⟨x0v3, x0b3, x0v4, x0b4, rfl, rfl, _, x0r3, x0r4⟩ := r_x0.open; obtain ⟨x0A3, x0c3, rfl, _, _, _⟩ := x0r3.use; obtain ⟨x0A4, x0c4, rfl, _, _, _⟩ := x0r4.use
  have q0p := box_on q0 rfl ((Below.refl w6.heap.size w6).alloc (Nat.le_refl _) (.cells #[.int .i64 a0.kind, .int .i64 a0.n, .string a0.t, .slice x0A3 a0.keys.length x0c3, .slice x0A4 a0.items.length x0c4] 30))
  have q1p := box_on q1 rfl ((Below.refl w6.heap.size w6).alloc (Nat.le_refl _) (.cells #[.int .i64 a0.kind, .int .i64 a0.n, .string a0.t, .slice x0A3 a0.keys.length x0c3, .slice x0A4 a0.items.length x0c4] 30))
  go_wp2_with fail
  refine (toJson (hw_w6.alloc (hw_w6.size) (.cells #[.int .i64 a0.kind, .int .i64 a0.n, .string a0.t, .slice x0A3 a0.keys.length x0c3, .slice x0A4 a0.items.length x0c4] 30)) H1 k1).mono ?_; rintro e w7 ⟨cs_x1, bs_x1, rfl, r_x1, f_x1, hb7⟩; have st7 := nxt' ((Below.refl w6.heap.size w6).alloc (Nat.le_refl _) (.cells #[.int .i64 a0.kind, .int .i64 a0.n, .string a0.t, .slice x0A3 a0.keys.length x0c3, .slice x0A4 a0.items.length x0c4] 30)) hb7; have q0 := box_on q0 rfl st7; have q1 := box_on q1 rfl st7; have q2 := box_at hb7; have r_x0_6 := JsonR.good.nxt st7 r_x0_6; have hw_w7 := nxt hw_w6 st7; have r_x1_7 := r_x1; obtain ⟨x1v3, x1b3, x1v4, x1b4, rfl, rfl, _, x1r3, x1r4⟩ := r_x1.open; obtain ⟨x1A3, x1c3, rfl, _, _, _⟩ := x1r3.use; obtain ⟨x1A4, x1c4, rfl, _, _, _⟩ := x1r4.use
  have q0p := box_on q0 rfl ((Below.refl w7.heap.size w7).alloc (Nat.le_refl _) (.cells #[.int .i64 a1.kind, .int .i64 a1.n, .string a1.t, .slice x1A3 a1.keys.length x1c3, .slice x1A4 a1.items.length x1c4] 30))
  have q1p := box_on q1 rfl ((Below.refl w7.heap.size w7).alloc (Nat.le_refl _) (.cells #[.int .i64 a1.kind, .int .i64 a1.n, .string a1.t, .slice x1A3 a1.keys.length x1c3, .slice x1A4 a1.items.length x1c4] 30))
  have q2p := box_on q2 rfl ((Below.refl w7.heap.size w7).alloc (Nat.le_refl _) (.cells #[.int .i64 a1.kind, .int .i64 a1.n, .string a1.t, .slice x1A3 a1.keys.length x1c3, .slice x1A4 a1.items.length x1c4] 30))
  go_wp2_with fail
  refine (impl_SameJson (JsonR.good.nxt ((Below.refl w7.heap.size w7).alloc (Nat.le_refl _) (.cells #[.int .i64 a1.kind, .int .i64 a1.n, .string a1.t, .slice x1A3 a1.keys.length x1c3, .slice x1A4 a1.items.length x1c4] 30)) r_x0_6) (JsonR.good.nxt ((Below.refl w7.heap.size w7).alloc (Nat.le_refl _) (.cells #[.int .i64 a1.kind, .int .i64 a1.n, .string a1.t, .slice x1A3 a1.keys.length x1c3, .slice x1A4 a1.items.length x1c4] 30)) r_x1_7)).mono ?_; rw [HO.out]; rintro e w8 ⟨rfl, hb8⟩; have st8 := nxt' ((Below.refl w7.heap.size w7).alloc (Nat.le_refl _) (.cells #[.int .i64 a1.kind, .int .i64 a1.n, .string a1.t, .slice x1A3 a1.keys.length x1c3, .slice x1A4 a1.items.length x1c4] 30)) hb8; have q0 := box_on q0 rfl st8; have q1 := box_on q1 rfl st8; have q2 := box_on q2 rfl st8; have q3 := box_at hb8; have r_x0_6 := JsonR.good.nxt st8 r_x0_6; have r_x1_7 := JsonR.good.nxt st8 r_x1_7; have hw_w8 := nxt hw_w7 st8
  go_wp2_with fail
  go_region_held3 (fun w' => (w'.cell? ⟨W.heap.size, 0, none⟩ = some (.int .i64 a0.kind) ∧ w'.cell? ⟨W.heap.size, 1, none⟩ = some (.int .i64 a0.n) ∧ w'.cell? ⟨W.heap.size, 2, none⟩ = some (.string a0.t) ∧ w'.cell? ⟨W.heap.size, 3, none⟩ = some (p0v3) ∧ w'.cell? ⟨W.heap.size, 4, none⟩ = some (p0v4)) ∧ (w'.cell? ⟨w6.heap.size, 0, none⟩ = some (.int .i64 a0.kind) ∧ w'.cell? ⟨w6.heap.size, 1, none⟩ = some (.int .i64 a0.n) ∧ w'.cell? ⟨w6.heap.size, 2, none⟩ = some (.string a0.t) ∧ w'.cell? ⟨w6.heap.size, 3, none⟩ = some (.slice x0A3 a0.keys.length x0c3) ∧ w'.cell? ⟨w6.heap.size, 4, none⟩ = some (.slice x0A4 a0.items.length x0c4))) (exact ⟨⟨q0 0, q0 1, q0 2, q0 3, q0 4⟩, ⟨q2 0, q2 1, q2 2, q2 3, q2 4⟩⟩)
    (first | (go_at_call 13; (with_reducible refine (toJson hw_w8.drew H0 k0).mono ?_); rintro e w9 ⟨cs_y0, bs_y0, rfl, r_y0, f_y0, hb9⟩; have hd9 := nxt (Below.refl _ _).drew hb9; have q0 := box_on q0 rfl hd9; have q1 := box_on q1 rfl hd9; have q2 := box_on q2 rfl hd9; have q3 := box_on q3 rfl hd9; have r_x0_6 := JsonR.good.nxt hd9 r_x0_6; have r_x1_7 := JsonR.good.nxt hd9 r_x1_7; have hw_w9 := nxt hw_w8 hd9; have r_y0_9 := r_y0; obtain ⟨y0v3, y0b3, y0v4, y0b4, rfl, rfl, _, y0r3, y0r4⟩ := r_y0.open; obtain ⟨y0A3, y0c3, rfl, _, _, _⟩ := y0r3.use; obtain ⟨y0A4, y0c4, rfl, _, _, _⟩ := y0r4.use) | (go_at_call 15; (with_reducible refine (eqJson (Below.refl _ _) r_x0_6 r_y0_9).mono ?_); rintro e w10 ⟨rfl, hb10⟩; have q0 := box_on q0 rfl hb10; have q1 := box_on q1 rfl hb10; have q2 := box_on q2 rfl hb10; have q3 := box_on q3 rfl hb10; have r_x0_6 := JsonR.good.nxt hb10 r_x0_6; have r_x1_7 := JsonR.good.nxt hb10 r_x1_7; have r_y0_9 := JsonR.good.nxt hb10 r_y0_9; have hw_w10 := nxt hw_w9 hb10))
  clear r_y0_9
  go_wp2_with fail
  go_region_held3 (fun w' => (w'.cell? ⟨W.heap.size + 1, 0, none⟩ = some (.int .i64 a1.kind) ∧ w'.cell? ⟨W.heap.size + 1, 1, none⟩ = some (.int .i64 a1.n) ∧ w'.cell? ⟨W.heap.size + 1, 2, none⟩ = some (.string a1.t) ∧ w'.cell? ⟨W.heap.size + 1, 3, none⟩ = some (p1v3) ∧ w'.cell? ⟨W.heap.size + 1, 4, none⟩ = some (p1v4)) ∧ (w'.cell? ⟨w7.heap.size, 0, none⟩ = some (.int .i64 a1.kind) ∧ w'.cell? ⟨w7.heap.size, 1, none⟩ = some (.int .i64 a1.n) ∧ w'.cell? ⟨w7.heap.size, 2, none⟩ = some (.string a1.t) ∧ w'.cell? ⟨w7.heap.size, 3, none⟩ = some (.slice x1A3 a1.keys.length x1c3) ∧ w'.cell? ⟨w7.heap.size, 4, none⟩ = some (.slice x1A4 a1.items.length x1c4))) (exact ⟨⟨q1 0, q1 1, q1 2, q1 3, q1 4⟩, ⟨q3 0, q3 1, q3 2, q3 3, q3 4⟩⟩)
    (first | (go_at_call 13; (with_reducible refine (toJson hw_w10.drew H1 k1).mono ?_); rintro e w11 ⟨cs_y1, bs_y1, rfl, r_y1, f_y1, hb11⟩; have hd11 := nxt (Below.refl _ _).drew hb11; have q0 := box_on q0 rfl hd11; have q1 := box_on q1 rfl hd11; have q2 := box_on q2 rfl hd11; have q3 := box_on q3 rfl hd11; have r_x0_6 := JsonR.good.nxt hd11 r_x0_6; have r_x1_7 := JsonR.good.nxt hd11 r_x1_7; have hw_w11 := nxt hw_w10 hd11; have r_y1_11 := r_y1; obtain ⟨y1v3, y1b3, y1v4, y1b4, rfl, rfl, _, y1r3, y1r4⟩ := r_y1.open; obtain ⟨y1A3, y1c3, rfl, _, _, _⟩ := y1r3.use; obtain ⟨y1A4, y1c4, rfl, _, _, _⟩ := y1r4.use) | (go_at_call 15; (with_reducible refine (eqJson (Below.refl _ _) r_x1_7 r_y1_11).mono ?_); rintro e w12 ⟨rfl, hb12⟩; have q0 := box_on q0 rfl hb12; have q1 := box_on q1 rfl hb12; have q2 := box_on q2 rfl hb12; have q3 := box_on q3 rfl hb12; have r_x0_6 := JsonR.good.nxt hb12 r_x0_6; have r_x1_7 := JsonR.good.nxt hb12 r_x1_7; have r_y1_11 := JsonR.good.nxt hb12 r_y1_11; have hw_w12 := nxt hw_w11 hb12))
  clear r_y1_11
  go_wp2_with fail
  go_ret
  exact ⟨rfl, hw_w12⟩
end Go.Proofs.Ythglchopajdmhaa
