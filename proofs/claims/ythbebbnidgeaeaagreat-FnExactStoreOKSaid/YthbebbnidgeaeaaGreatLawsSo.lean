/- The walks of laws: StoreOK. No statement is proved here; no conditions. Written by a program (genlaw.py). -/
import Derived.Test.YthbebbnidgeaeaaGreatStoreI
import Derived.Test.YthbebbnidgeaeaaGreatStoreU
import Derived.Test.YthbebbnidgeaeaaGreatBox
import Derived.Test.YthbebbnidgeaeaaGreatSz
import Derived.Test.YthbebbnidgeaeaaGreatTo
import Derived.Test.YthbebbnidgeaeaaGreatEq
import Derived.Deep.RegionHeld3
namespace Go.Proofs.YthbebbnidgeaeaaGreat
open Go.ChangeShapes Go.WideShapes Go.ChangeAt Go.RowKit Go.Deep
set_option maxRecDepth 100000
set_option linter.unusedVariables false
set_option linter.unusedSimpArgs false

set_option maxHeartbeats 4000000 in
theorem lawStoreOK {W : World} {bs0 : List Nat} {cs0 : List Value} {a0 : Schema} {bs1 : List Nat} {cs1 : List Value} {a1 : Store} (h0 : SchemaR W bs0 cs0 a0) (h1 : StoreR W bs1 cs1 a1) :
    Calls Tryz.prog 5 #[.agg cs0.toArray, .agg cs1.toArray] W fun e w' => e = .returned (.bool true) ∧ Below W.heap.size W w' := by
  have H0 := h0
  have H1 := h1
  obtain ⟨p0v0, p0b0, rfl, rfl, hf0, p0r0⟩ := h0
  clear p0r0
  obtain ⟨p1v0, p1b0, rfl, rfl, hf1, p1r0⟩ := h1
  clear p1r0
  go_enter Tryz.func5, Tryz.ntmps5
  go_wp2_with fail
  by_cases n0 : (1048576 : Int) - (Schema.bulk a0 : Int) < 0
  · refine (szSchema (((Below.refl W.heap.size W).alloc (Nat.le_refl _) (.cells #[p0v0] 51)).alloc (by simp; try omega) (.cells #[p1v0, .int .i64 a1.next] 54)) H0 (by omega) (by omega)).mono ?_; rw [clip_neg (by omega)]; rintro e w' ⟨rfl, hb'⟩
    go_wp2_with fail
    go_ret
    exact ⟨rfl, nxt (((Below.refl W.heap.size W).alloc (Nat.le_refl _) (.cells #[p0v0] 51)).alloc (by simp; try omega) (.cells #[p1v0, .int .i64 a1.next] 54)) hb'⟩
  refine (szSchema (((Below.refl W.heap.size W).alloc (Nat.le_refl _) (.cells #[p0v0] 51)).alloc (by simp; try omega) (.cells #[p1v0, .int .i64 a1.next] 54)) H0 (by omega) (by omega)).mono ?_; rw [clip_pos (by omega)]; rintro e w1 ⟨rfl, hb1⟩; have st1 := nxt' (((Below.refl W.heap.size W).alloc (Nat.le_refl _) (.cells #[p0v0] 51)).alloc (by simp; try omega) (.cells #[p1v0, .int .i64 a1.next] 54)) hb1; obtain ⟨q0, q1⟩ := two_at hb1; have hw_w1 := nxt (Below.refl W.heap.size W) st1
  have k0 : Schema.bulk a0 ≤ 1048576 := by omega
  go_wp2_with fail
  by_cases n1 : (1048576 : Int) - (Schema.bulk a0 : Int) - (Store.bulk a1 : Int) < 0
  · refine (szStore hw_w1 H1 (by omega) (by omega)).mono ?_; rw [clip_neg (by omega)]; rintro e w' ⟨rfl, hb'⟩
    go_wp2_with fail
    go_ret
    exact ⟨rfl, nxt hw_w1 hb'⟩
  refine (szStore hw_w1 H1 (by omega) (by omega)).mono ?_; rw [clip_pos (by omega)]; rintro e w2 ⟨rfl, hb2⟩; have q0 := box_on q0 rfl hb2; have q1 := box_on q1 rfl hb2; have hw_w2 := nxt hw_w1 hb2
  have k1 : Store.bulk a1 ≤ 1048576 := by omega
  obtain ⟨ok, hok⟩ : ∃ ok, storeB a0 a1 = ok := ⟨_, rfl⟩
  have HO := hide hok
  have qq1 : (ok != ok) = false := by simp
  clear hok
  go_wp2_with fail
  go_region_held3 (fun w' => (w'.cell? ⟨W.heap.size, 0, none⟩ = some (p0v0)) ∧ (w'.cell? ⟨W.heap.size + 1, 0, none⟩ = some (p1v0) ∧ w'.cell? ⟨W.heap.size + 1, 1, none⟩ = some (.int .i64 a1.next))) (exact ⟨q0 0, ⟨q1 0, q1 1⟩⟩)
    (first | (go_at_call 21; (with_reducible refine (toSchema hw_w2.drew H0 k0).mono ?_); rintro e w3 ⟨cs_s0, bs_s0, rfl, r_s0, f_s0, hb3⟩; have hd3 := nxt (Below.refl _ _).drew hb3; have q0 := box_on q0 rfl hd3; have q1 := box_on q1 rfl hd3; have hw_w3 := nxt hw_w2 hd3; have r_s0_3 := r_s0; obtain ⟨s0v0, s0b0, rfl, rfl, _, s0r0⟩ := r_s0; obtain ⟨s0A0, s0c0, rfl, _, _, _⟩ := s0r0.use) | (go_at_call 22; (with_reducible refine (toStore hw_w3 H1 k1).mono ?_); rintro e w4 ⟨cs_s1, bs_s1, rfl, r_s1, f_s1, hb4⟩; have q0 := box_on q0 rfl hb4; have q1 := box_on q1 rfl hb4; have r_s0_3 := SchemaR.good.nxt hb4 r_s0_3; have hw_w4 := nxt hw_w3 hb4; have r_s1_4 := r_s1; obtain ⟨s1v0, s1b0, rfl, rfl, _, s1r0⟩ := r_s1; obtain ⟨s1A0, s1c0, rfl, _, _, _⟩ := s1r0.use) | (go_at_call 26; (with_reducible refine (spec_StoreOK r_s0_3 r_s1_4).mono ?_); rw [HO.out]; rintro e w5 ⟨rfl, hb5⟩; have q0 := box_on q0 rfl hb5; have q1 := box_on q1 rfl hb5; have r_s0_3 := SchemaR.good.nxt hb5 r_s0_3; have r_s1_4 := StoreR.good.nxt hb5 r_s1_4; have hw_w5 := nxt hw_w4 hb5))
  clear r_s0_3
  clear r_s1_4
  go_wp2_with fail
  refine (toSchema hw_w5 H0 k0).mono ?_; rintro e w6 ⟨cs_x0, bs_x0, rfl, r_x0, f_x0, hb6⟩; have q0 := box_on q0 rfl hb6; have q1 := box_on q1 rfl hb6; have hw_w6 := nxt hw_w5 hb6; have r_x0_6 := r_x0; obtain ⟨x0v0, x0b0, rfl, rfl, _, x0r0⟩ := r_x0; obtain ⟨x0A0, x0c0, rfl, _, _, _⟩ := x0r0.use
  have q0p := box_on q0 rfl ((Below.refl w6.heap.size w6).alloc (Nat.le_refl _) (.cells #[.slice x0A0 a0.tables.length x0c0] 61))
  have q1p := box_on q1 rfl ((Below.refl w6.heap.size w6).alloc (Nat.le_refl _) (.cells #[.slice x0A0 a0.tables.length x0c0] 61))
  go_wp2_with fail
  refine (toStore (hw_w6.alloc (hw_w6.size) (.cells #[.slice x0A0 a0.tables.length x0c0] 61)) H1 k1).mono ?_; rintro e w7 ⟨cs_x1, bs_x1, rfl, r_x1, f_x1, hb7⟩; have st7 := nxt' ((Below.refl w6.heap.size w6).alloc (Nat.le_refl _) (.cells #[.slice x0A0 a0.tables.length x0c0] 61)) hb7; have q0 := box_on q0 rfl st7; have q1 := box_on q1 rfl st7; have q2 := box_at hb7; have r_x0_6 := SchemaR.good.nxt st7 r_x0_6; have hw_w7 := nxt hw_w6 st7; have r_x1_7 := r_x1; obtain ⟨x1v0, x1b0, rfl, rfl, _, x1r0⟩ := r_x1; obtain ⟨x1A0, x1c0, rfl, _, _, _⟩ := x1r0.use
  have q0p := box_on q0 rfl ((Below.refl w7.heap.size w7).alloc (Nat.le_refl _) (.cells #[.slice x1A0 a1.tables.length x1c0, .int .i64 a1.next] 65))
  have q1p := box_on q1 rfl ((Below.refl w7.heap.size w7).alloc (Nat.le_refl _) (.cells #[.slice x1A0 a1.tables.length x1c0, .int .i64 a1.next] 65))
  have q2p := box_on q2 rfl ((Below.refl w7.heap.size w7).alloc (Nat.le_refl _) (.cells #[.slice x1A0 a1.tables.length x1c0, .int .i64 a1.next] 65))
  go_wp2_with fail
  refine (impl_StoreOK (SchemaR.good.nxt ((Below.refl w7.heap.size w7).alloc (Nat.le_refl _) (.cells #[.slice x1A0 a1.tables.length x1c0, .int .i64 a1.next] 65)) r_x0_6) (StoreR.good.nxt ((Below.refl w7.heap.size w7).alloc (Nat.le_refl _) (.cells #[.slice x1A0 a1.tables.length x1c0, .int .i64 a1.next] 65)) r_x1_7)).mono ?_; rw [HO.out]; rintro e w8 ⟨rfl, hb8⟩; have st8 := nxt' ((Below.refl w7.heap.size w7).alloc (Nat.le_refl _) (.cells #[.slice x1A0 a1.tables.length x1c0, .int .i64 a1.next] 65)) hb8; have q0 := box_on q0 rfl st8; have q1 := box_on q1 rfl st8; have q2 := box_on q2 rfl st8; have q3 := box_at hb8; have r_x0_6 := SchemaR.good.nxt st8 r_x0_6; have r_x1_7 := StoreR.good.nxt st8 r_x1_7; have hw_w8 := nxt hw_w7 st8
  go_wp2_with fail
  go_region_held3 (fun w' => (w'.cell? ⟨W.heap.size, 0, none⟩ = some (p0v0)) ∧ (w'.cell? ⟨w6.heap.size, 0, none⟩ = some (.slice x0A0 a0.tables.length x0c0))) (exact ⟨q0 0, q2 0⟩)
    (first | (go_at_call 21; (with_reducible refine (toSchema hw_w8.drew H0 k0).mono ?_); rintro e w9 ⟨cs_y0, bs_y0, rfl, r_y0, f_y0, hb9⟩; have hd9 := nxt (Below.refl _ _).drew hb9; have q0 := box_on q0 rfl hd9; have q1 := box_on q1 rfl hd9; have q2 := box_on q2 rfl hd9; have q3 := box_on q3 rfl hd9; have r_x0_6 := SchemaR.good.nxt hd9 r_x0_6; have r_x1_7 := StoreR.good.nxt hd9 r_x1_7; have hw_w9 := nxt hw_w8 hd9; have r_y0_9 := r_y0; obtain ⟨y0v0, y0b0, rfl, rfl, _, y0r0⟩ := r_y0; obtain ⟨y0A0, y0c0, rfl, _, _, _⟩ := y0r0.use) | (go_at_call 24; (with_reducible refine (eqSchema (Below.refl _ _) r_x0_6 r_y0_9).mono ?_); rintro e w10 ⟨rfl, hb10⟩; have q0 := box_on q0 rfl hb10; have q1 := box_on q1 rfl hb10; have q2 := box_on q2 rfl hb10; have q3 := box_on q3 rfl hb10; have r_x0_6 := SchemaR.good.nxt hb10 r_x0_6; have r_x1_7 := StoreR.good.nxt hb10 r_x1_7; have r_y0_9 := SchemaR.good.nxt hb10 r_y0_9; have hw_w10 := nxt hw_w9 hb10))
  clear r_y0_9
  go_wp2_with fail
  go_region_held3 (fun w' => (w'.cell? ⟨W.heap.size + 1, 0, none⟩ = some (p1v0) ∧ w'.cell? ⟨W.heap.size + 1, 1, none⟩ = some (.int .i64 a1.next)) ∧ (w'.cell? ⟨w7.heap.size, 0, none⟩ = some (.slice x1A0 a1.tables.length x1c0) ∧ w'.cell? ⟨w7.heap.size, 1, none⟩ = some (.int .i64 a1.next))) (exact ⟨⟨q1 0, q1 1⟩, ⟨q3 0, q3 1⟩⟩)
    (first | (go_at_call 22; (with_reducible refine (toStore hw_w10.drew H1 k1).mono ?_); rintro e w11 ⟨cs_y1, bs_y1, rfl, r_y1, f_y1, hb11⟩; have hd11 := nxt (Below.refl _ _).drew hb11; have q0 := box_on q0 rfl hd11; have q1 := box_on q1 rfl hd11; have q2 := box_on q2 rfl hd11; have q3 := box_on q3 rfl hd11; have r_x0_6 := SchemaR.good.nxt hd11 r_x0_6; have r_x1_7 := StoreR.good.nxt hd11 r_x1_7; have hw_w11 := nxt hw_w10 hd11; have r_y1_11 := r_y1; obtain ⟨y1v0, y1b0, rfl, rfl, _, y1r0⟩ := r_y1; obtain ⟨y1A0, y1c0, rfl, _, _, _⟩ := y1r0.use) | (go_at_call 25; (with_reducible refine (eqStore (Below.refl _ _) r_x1_7 r_y1_11).mono ?_); rintro e w12 ⟨rfl, hb12⟩; have q0 := box_on q0 rfl hb12; have q1 := box_on q1 rfl hb12; have q2 := box_on q2 rfl hb12; have q3 := box_on q3 rfl hb12; have r_x0_6 := SchemaR.good.nxt hb12 r_x0_6; have r_x1_7 := StoreR.good.nxt hb12 r_x1_7; have r_y1_11 := StoreR.good.nxt hb12 r_y1_11; have hw_w12 := nxt hw_w11 hb12))
  clear r_y1_11
  go_wp2_with fail
  go_ret
  exact ⟨rfl, hw_w12⟩
end Go.Proofs.YthbebbnidgeaeaaGreat
