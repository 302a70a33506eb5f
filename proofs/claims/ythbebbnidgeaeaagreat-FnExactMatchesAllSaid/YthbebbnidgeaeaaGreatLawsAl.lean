/- The walks of laws: MatchesAll. No statement is proved here; no conditions. Written by a program (genlaw.py). -/
import Derived.Test.YthbebbnidgeaeaaGreatAll
import Derived.Test.YthbebbnidgeaeaaGreatBox
import Derived.Test.YthbebbnidgeaeaaGreatSz
import Derived.Test.YthbebbnidgeaeaaGreatTo
import Derived.Test.YthbebbnidgeaeaaGreatEq
import Derived.Deep.RegionHeld3
namespace Go.Proofs.YthbebbnidgeaeaaGreat
open Go.ChangeShapes Go.WideShapes Go.ChangeAt Go.RowKit Go.Deep
set_option maxRecDepth 100000
set_option linter.unusedVariables false

set_option maxHeartbeats 4000000 in
theorem lawMatchesAll {W : World} {bs0 : List Nat} {cs0 : List Value} {a0 : Table} {bs1 : List Nat} {cs1 : List Value} {a1 : Row} {bs2 : List Nat} {v2 : Value} {a2 : List Cond} (h0 : TableR W bs0 cs0 a0) (h1 : RowR W bs1 cs1 a1) (h2 : CondSR W bs2 [v2] a2) :
    Calls Tryz.prog 3 #[.agg cs0.toArray, .agg cs1.toArray, v2] W fun e w' => e = .returned (.bool true) ∧ Below W.heap.size W w' := by
  have H0 := h0
  have H1 := h1
  have H2 := h2
  obtain ⟨p0v1, p0b1, p0v2, p0b2, rfl, rfl, hf0, p0r1, p0r2⟩ := h0
  clear p0r1
  clear p0r2
  obtain ⟨p1v1, p1b1, rfl, rfl, hf1, p1r1⟩ := h1
  clear p1r1
  obtain ⟨A2, c2, rfl, _, _, _⟩ := h2.use
  go_enter Tryz.func3, Tryz.ntmps3
  go_wp2_with fail
  by_cases n0 : (1048576 : Int) - (Table.bulk a0 : Int) < 0
  · refine (szTable (((Below.refl W.heap.size W).alloc (Nat.le_refl _) _).alloc (by simp; try omega) _) H0 (by omega) (by omega)).mono ?_; rw [clip_neg (by omega)]; rintro e w' ⟨rfl, hb'⟩
    go_wp2_with fail
    go_ret
    exact ⟨rfl, nxt (((Below.refl W.heap.size W).alloc (Nat.le_refl _) _).alloc (by simp; try omega) _) hb'⟩
  refine (szTable (((Below.refl W.heap.size W).alloc (Nat.le_refl _) _).alloc (by simp; try omega) _) H0 (by omega) (by omega)).mono ?_; rw [clip_pos (by omega)]; rintro e w1 ⟨rfl, hb1⟩; have st1 := nxt' (((Below.refl W.heap.size W).alloc (Nat.le_refl _) _).alloc (by simp; try omega) _) hb1; obtain ⟨q0, q1⟩ := two_at hb1; have hw_w1 := nxt (Below.refl W.heap.size W) st1
  have k0 : Table.bulk a0 ≤ 1048576 := by omega
  go_wp2_with fail
  by_cases n1 : (1048576 : Int) - (Table.bulk a0 : Int) - (Row.bulk a1 : Int) < 0
  · refine (szRow hw_w1 H1 (by omega) (by omega)).mono ?_; rw [clip_neg (by omega)]; rintro e w' ⟨rfl, hb'⟩
    go_wp2_with fail
    go_ret
    exact ⟨rfl, nxt hw_w1 hb'⟩
  refine (szRow hw_w1 H1 (by omega) (by omega)).mono ?_; rw [clip_pos (by omega)]; rintro e w2 ⟨rfl, hb2⟩; have q0 := box_on q0 rfl hb2; have q1 := box_on q1 rfl hb2; have hw_w2 := nxt hw_w1 hb2
  have k1 : Row.bulk a1 ≤ 1048576 := by omega
  go_wp2_with fail
  by_cases n2 : (1048576 : Int) - (Table.bulk a0 : Int) - (Row.bulk a1 : Int) - (CondS.bulk a2 : Int) < 0
  · refine (szCondS hw_w2 H2 (by omega) (by omega)).mono ?_; rw [clip_neg (by omega)]; rintro e w' ⟨rfl, hb'⟩
    go_wp2_with fail
    go_ret
    exact ⟨rfl, nxt hw_w2 hb'⟩
  refine (szCondS hw_w2 H2 (by omega) (by omega)).mono ?_; rw [clip_pos (by omega)]; rintro e w3 ⟨rfl, hb3⟩; have q0 := box_on q0 rfl hb3; have q1 := box_on q1 rfl hb3; have hw_w3 := nxt hw_w2 hb3
  have k2 : CondS.bulk a2 ≤ 1048576 := by omega
  obtain ⟨ok, co, hok⟩ : ∃ ok co, allAns a0 a1 a2 = (ok, co) := ⟨_, _, rfl⟩
  have HO := hide hok
  have qq1 : (ok != ok) = false := by simp
  have qq2 : (co != co) = false := by simp
  clear hok
  go_wp2_with fail
  go_region_held3 (fun w' => (w'.cell? ⟨W.heap.size, 0, none⟩ = some (.string a0.name) ∧ w'.cell? ⟨W.heap.size, 1, none⟩ = some (p0v1) ∧ w'.cell? ⟨W.heap.size, 2, none⟩ = some (p0v2) ∧ w'.cell? ⟨W.heap.size, 3, none⟩ = some (.bool a0.root)) ∧ (w'.cell? ⟨W.heap.size + 1, 0, none⟩ = some (.int .i64 a1.id) ∧ w'.cell? ⟨W.heap.size + 1, 1, none⟩ = some (p1v1))) (exact ⟨⟨q0 0, q0 1, q0 2, q0 3⟩, ⟨q1 0, q1 1⟩⟩)
    (first | (go_at_call 11; (with_reducible refine (toTable hw_w3.drew H0 k0).mono ?_); rintro e w4 ⟨cs_s0, bs_s0, rfl, r_s0, f_s0, hb4⟩; have hd4 := nxt (Below.refl _ _).drew hb4; have q0 := box_on q0 rfl hd4; have q1 := box_on q1 rfl hd4; have hw_w4 := nxt hw_w3 hd4; have r_s0_4 := r_s0; obtain ⟨s0v1, s0b1, s0v2, s0b2, rfl, rfl, _, s0r1, s0r2⟩ := r_s0; obtain ⟨s0A1, s0c1, rfl, _, _, _⟩ := s0r1.use; obtain ⟨s0A2, s0c2, rfl, _, _, _⟩ := s0r2.use) | (go_at_call 12; (with_reducible refine (toRow hw_w4 H1 k1).mono ?_); rintro e w5 ⟨cs_s1, bs_s1, rfl, r_s1, f_s1, hb5⟩; have q0 := box_on q0 rfl hb5; have q1 := box_on q1 rfl hb5; have r_s0_4 := TableR.good.nxt hb5 r_s0_4; have hw_w5 := nxt hw_w4 hb5; have r_s1_5 := r_s1; obtain ⟨s1v1, s1b1, rfl, rfl, _, s1r1⟩ := r_s1; obtain ⟨s1A1, s1c1, rfl, _, _, _⟩ := s1r1.use) | (go_at_call 13; (with_reducible refine (toCondS hw_w5 H2 k2).mono ?_); rintro e w6 ⟨v_s2, bs_s2, rfl, r_s2, f_s2, hb6⟩; have q0 := box_on q0 rfl hb6; have q1 := box_on q1 rfl hb6; have r_s0_4 := TableR.good.nxt hb6 r_s0_4; have r_s1_5 := RowR.good.nxt hb6 r_s1_5; have hw_w6 := nxt hw_w5 hb6; have r_s2_6 := r_s2; obtain ⟨A_s2, c_s2, rfl, _, _, _⟩ := r_s2.use) | (go_at_call 10; (with_reducible refine (spec_MatchesAll r_s0_4 r_s1_5 r_s2_6).mono ?_); rw [HO.out]; rintro e w7 ⟨rfl, hb7⟩; have q0 := box_on q0 rfl hb7; have q1 := box_on q1 rfl hb7; have r_s0_4 := TableR.good.nxt hb7 r_s0_4; have r_s1_5 := RowR.good.nxt hb7 r_s1_5; have r_s2_6 := CondSR.good.nxt hb7 r_s2_6; have hw_w7 := nxt hw_w6 hb7))
  clear r_s0_4
  clear r_s1_5
  clear r_s2_6
  go_wp2_with fail
  refine (toTable hw_w7 H0 k0).mono ?_; rintro e w8 ⟨cs_x0, bs_x0, rfl, r_x0, f_x0, hb8⟩; have q0 := box_on q0 rfl hb8; have q1 := box_on q1 rfl hb8; have hw_w8 := nxt hw_w7 hb8; have r_x0_8 := r_x0; obtain ⟨x0v1, x0b1, x0v2, x0b2, rfl, rfl, _, x0r1, x0r2⟩ := r_x0; obtain ⟨x0A1, x0c1, rfl, _, _, _⟩ := x0r1.use; obtain ⟨x0A2, x0c2, rfl, _, _, _⟩ := x0r2.use
  have q0p := box_on q0 rfl ((Below.refl w8.heap.size w8).alloc (Nat.le_refl _) (.cells #[.string a0.name, .slice x0A1 a0.columns.length x0c1, .slice x0A2 a0.unique.length x0c2, .bool a0.root] 37))
  have q1p := box_on q1 rfl ((Below.refl w8.heap.size w8).alloc (Nat.le_refl _) (.cells #[.string a0.name, .slice x0A1 a0.columns.length x0c1, .slice x0A2 a0.unique.length x0c2, .bool a0.root] 37))
  go_wp2_with fail
  refine (toRow (hw_w8.alloc (hw_w8.size) _) H1 k1).mono ?_; rintro e w9 ⟨cs_x1, bs_x1, rfl, r_x1, f_x1, hb9⟩; have st9 := nxt' ((Below.refl w8.heap.size w8).alloc (Nat.le_refl _) _) hb9; have q0 := box_on q0 rfl st9; have q1 := box_on q1 rfl st9; have q2 := box_at hb9; have r_x0_8 := TableR.good.nxt st9 r_x0_8; have hw_w9 := nxt hw_w8 st9; have r_x1_9 := r_x1; obtain ⟨x1v1, x1b1, rfl, rfl, _, x1r1⟩ := r_x1; obtain ⟨x1A1, x1c1, rfl, _, _, _⟩ := x1r1.use
  have q0p := box_on q0 rfl ((Below.refl w9.heap.size w9).alloc (Nat.le_refl _) (.cells #[.int .i64 a1.id, .slice x1A1 a1.cells.length x1c1] 41))
  have q1p := box_on q1 rfl ((Below.refl w9.heap.size w9).alloc (Nat.le_refl _) (.cells #[.int .i64 a1.id, .slice x1A1 a1.cells.length x1c1] 41))
  have q2p := box_on q2 rfl ((Below.refl w9.heap.size w9).alloc (Nat.le_refl _) (.cells #[.int .i64 a1.id, .slice x1A1 a1.cells.length x1c1] 41))
  go_wp2_with fail
  refine (toCondS (hw_w9.alloc (hw_w9.size) _) H2 k2).mono ?_; rintro e w10 ⟨v_x2, bs_x2, rfl, r_x2, f_x2, hb10⟩; have st10 := nxt' ((Below.refl w9.heap.size w9).alloc (Nat.le_refl _) _) hb10; have q0 := box_on q0 rfl st10; have q1 := box_on q1 rfl st10; have q2 := box_on q2 rfl st10; have q3 := box_at hb10; have r_x0_8 := TableR.good.nxt st10 r_x0_8; have r_x1_9 := RowR.good.nxt st10 r_x1_9; have hw_w10 := nxt hw_w9 st10; have r_x2_10 := r_x2; obtain ⟨A_x2, c_x2, rfl, _, _, _⟩ := r_x2.use
  go_wp2_with fail
  refine (impl_MatchesAll r_x0_8 r_x1_9 r_x2_10).mono ?_; rw [HO.out]; rintro e w11 ⟨rfl, hb11⟩; have q0 := box_on q0 rfl hb11; have q1 := box_on q1 rfl hb11; have q2 := box_on q2 rfl hb11; have q3 := box_on q3 rfl hb11; have r_x0_8 := TableR.good.nxt hb11 r_x0_8; have r_x1_9 := RowR.good.nxt hb11 r_x1_9; have r_x2_10 := CondSR.good.nxt hb11 r_x2_10; have hw_w11 := nxt hw_w10 hb11
  go_wp2_with fail
  go_region_held3 (fun w' => (w'.cell? ⟨W.heap.size, 0, none⟩ = some (.string a0.name) ∧ w'.cell? ⟨W.heap.size, 1, none⟩ = some (p0v1) ∧ w'.cell? ⟨W.heap.size, 2, none⟩ = some (p0v2) ∧ w'.cell? ⟨W.heap.size, 3, none⟩ = some (.bool a0.root)) ∧ (w'.cell? ⟨w8.heap.size, 0, none⟩ = some (.string a0.name) ∧ w'.cell? ⟨w8.heap.size, 1, none⟩ = some (.slice x0A1 a0.columns.length x0c1) ∧ w'.cell? ⟨w8.heap.size, 2, none⟩ = some (.slice x0A2 a0.unique.length x0c2) ∧ w'.cell? ⟨w8.heap.size, 3, none⟩ = some (.bool a0.root))) (exact ⟨⟨q0 0, q0 1, q0 2, q0 3⟩, ⟨q2 0, q2 1, q2 2, q2 3⟩⟩)
    (first | (go_at_call 11; (with_reducible refine (toTable hw_w11.drew H0 k0).mono ?_); rintro e w12 ⟨cs_y0, bs_y0, rfl, r_y0, f_y0, hb12⟩; have hd12 := nxt (Below.refl _ _).drew hb12; have q0 := box_on q0 rfl hd12; have q1 := box_on q1 rfl hd12; have q2 := box_on q2 rfl hd12; have q3 := box_on q3 rfl hd12; have r_x0_8 := TableR.good.nxt hd12 r_x0_8; have r_x1_9 := RowR.good.nxt hd12 r_x1_9; have r_x2_10 := CondSR.good.nxt hd12 r_x2_10; have hw_w12 := nxt hw_w11 hd12; have r_y0_12 := r_y0; obtain ⟨y0v1, y0b1, y0v2, y0b2, rfl, rfl, _, y0r1, y0r2⟩ := r_y0; obtain ⟨y0A1, y0c1, rfl, _, _, _⟩ := y0r1.use; obtain ⟨y0A2, y0c2, rfl, _, _, _⟩ := y0r2.use) | (go_at_call 15; (with_reducible refine (eqTable (Below.refl _ _) r_x0_8 r_y0_12).mono ?_); rintro e w13 ⟨rfl, hb13⟩; have q0 := box_on q0 rfl hb13; have q1 := box_on q1 rfl hb13; have q2 := box_on q2 rfl hb13; have q3 := box_on q3 rfl hb13; have r_x0_8 := TableR.good.nxt hb13 r_x0_8; have r_x1_9 := RowR.good.nxt hb13 r_x1_9; have r_x2_10 := CondSR.good.nxt hb13 r_x2_10; have r_y0_12 := TableR.good.nxt hb13 r_y0_12; have hw_w13 := nxt hw_w12 hb13))
  clear r_y0_12
  go_wp2_with fail
  go_region_held3 (fun w' => (w'.cell? ⟨W.heap.size + 1, 0, none⟩ = some (.int .i64 a1.id) ∧ w'.cell? ⟨W.heap.size + 1, 1, none⟩ = some (p1v1)) ∧ (w'.cell? ⟨w9.heap.size, 0, none⟩ = some (.int .i64 a1.id) ∧ w'.cell? ⟨w9.heap.size, 1, none⟩ = some (.slice x1A1 a1.cells.length x1c1))) (exact ⟨⟨q1 0, q1 1⟩, ⟨q3 0, q3 1⟩⟩)
    (first | (go_at_call 12; (with_reducible refine (toRow hw_w13.drew H1 k1).mono ?_); rintro e w14 ⟨cs_y1, bs_y1, rfl, r_y1, f_y1, hb14⟩; have hd14 := nxt (Below.refl _ _).drew hb14; have q0 := box_on q0 rfl hd14; have q1 := box_on q1 rfl hd14; have q2 := box_on q2 rfl hd14; have q3 := box_on q3 rfl hd14; have r_x0_8 := TableR.good.nxt hd14 r_x0_8; have r_x1_9 := RowR.good.nxt hd14 r_x1_9; have r_x2_10 := CondSR.good.nxt hd14 r_x2_10; have hw_w14 := nxt hw_w13 hd14; have r_y1_14 := r_y1; obtain ⟨y1v1, y1b1, rfl, rfl, _, y1r1⟩ := r_y1; obtain ⟨y1A1, y1c1, rfl, _, _, _⟩ := y1r1.use) | (go_at_call 16; (with_reducible refine (eqRow (Below.refl _ _) r_x1_9 r_y1_14).mono ?_); rintro e w15 ⟨rfl, hb15⟩; have q0 := box_on q0 rfl hb15; have q1 := box_on q1 rfl hb15; have q2 := box_on q2 rfl hb15; have q3 := box_on q3 rfl hb15; have r_x0_8 := TableR.good.nxt hb15 r_x0_8; have r_x1_9 := RowR.good.nxt hb15 r_x1_9; have r_x2_10 := CondSR.good.nxt hb15 r_x2_10; have r_y1_14 := RowR.good.nxt hb15 r_y1_14; have hw_w15 := nxt hw_w14 hb15))
  clear r_y1_14
  go_wp2_with fail
  refine (toCondS hw_w15 H2 k2).mono ?_; rintro e w16 ⟨v_y2, bs_y2, rfl, r_y2, f_y2, hb16⟩; have q0 := box_on q0 rfl hb16; have q1 := box_on q1 rfl hb16; have q2 := box_on q2 rfl hb16; have q3 := box_on q3 rfl hb16; have r_x0_8 := TableR.good.nxt hb16 r_x0_8; have r_x1_9 := RowR.good.nxt hb16 r_x1_9; have r_x2_10 := CondSR.good.nxt hb16 r_x2_10; have hw_w16 := nxt hw_w15 hb16; have r_y2_16 := r_y2; obtain ⟨A_y2, c_y2, rfl, _, _, _⟩ := r_y2.use
  go_wp2_with fail
  refine (eqCondS (Below.refl _ _) r_x2_10 r_y2_16).mono ?_; rintro e w17 ⟨rfl, hb17⟩; have q0 := box_on q0 rfl hb17; have q1 := box_on q1 rfl hb17; have q2 := box_on q2 rfl hb17; have q3 := box_on q3 rfl hb17; have r_x0_8 := TableR.good.nxt hb17 r_x0_8; have r_x1_9 := RowR.good.nxt hb17 r_x1_9; have r_x2_10 := CondSR.good.nxt hb17 r_x2_10; have r_y2_16 := CondSR.good.nxt hb17 r_y2_16; have hw_w17 := nxt hw_w16 hb17
  clear r_y2_16
  go_wp2_with fail
  go_ret
  exact ⟨rfl, hw_w17⟩
end Go.Proofs.YthbebbnidgeaeaaGreat
