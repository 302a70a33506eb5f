/- The walks of laws: CondCode. No statement is proved here; no conditions. Written by a program (genlaw.py). -/
import Derived.Test.YtpbaeloiefpgbaaConds
import Derived.Test.YtpbaeloiefpgbaaBox
import Derived.Test.YtpbaeloiefpgbaaSz
import Derived.Test.YtpbaeloiefpgbaaTo
import Derived.Test.YtpbaeloiefpgbaaEq
import Derived.Deep.RegionHeld3
namespace Go.Proofs.Ytpbaeloiefpgbaa
open Go.ChangeShapes Go.WideShapes Go.ChangeAt Go.RowKit Go.Deep
set_option maxRecDepth 100000
set_option linter.unusedVariables false

set_option maxHeartbeats 4000000 in
theorem lawCondCode {W : World} {bs0 : List Nat} {cs0 : List Value} {a0 : Table} {bs1 : List Nat} {cs1 : List Value} {a1 : Cond} (h0 : TableR W bs0 cs0 a0) (h1 : CondR W bs1 cs1 a1) :
    Calls Try.prog 13 #[.agg cs0.toArray, .agg cs1.toArray] W fun e w' => e = .returned (.bool true) ∧ Below W.heap.size W w' := by
  have H0 := h0
  have H1 := h1
  obtain ⟨p0v1, p0b1, p0v2, p0b2, rfl, rfl, hf0, p0r1, p0r2⟩ := h0
  clear p0r1
  clear p0r2
  obtain ⟨p1v2, p1b2, rfl, rfl, hf1, p1r2⟩ := h1
  clear p1r2
  go_enter Try.func13, Try.ntmps13
  go_wp2_with fail
  by_cases n0 : (1048576 : Int) - (Table.bulk a0 : Int) < 0
  · refine (szTable (((Below.refl W.heap.size W).alloc (Nat.le_refl _) _).alloc (by simp; try omega) _) H0 (by omega) (by omega)).mono ?_; rw [clip_neg (by omega)]; rintro e w' ⟨rfl, hb'⟩
    go_wp2_with fail
    go_ret
    exact ⟨rfl, nxt (((Below.refl W.heap.size W).alloc (Nat.le_refl _) _).alloc (by simp; try omega) _) hb'⟩
  refine (szTable (((Below.refl W.heap.size W).alloc (Nat.le_refl _) _).alloc (by simp; try omega) _) H0 (by omega) (by omega)).mono ?_; rw [clip_pos (by omega)]; rintro e w1 ⟨rfl, hb1⟩; have st1 := nxt' (((Below.refl W.heap.size W).alloc (Nat.le_refl _) _).alloc (by simp; try omega) _) hb1; obtain ⟨q0, q1⟩ := two_at hb1; have hw_w1 := nxt (Below.refl W.heap.size W) st1
  have k0 : Table.bulk a0 ≤ 1048576 := by omega
  go_wp2_with fail
  by_cases n1 : (1048576 : Int) - (Table.bulk a0 : Int) - (Cond.bulk a1 : Int) < 0
  · refine (szCond hw_w1 H1 (by omega) (by omega)).mono ?_; rw [clip_neg (by omega)]; rintro e w' ⟨rfl, hb'⟩
    go_wp2_with fail
    go_ret
    exact ⟨rfl, nxt hw_w1 hb'⟩
  refine (szCond hw_w1 H1 (by omega) (by omega)).mono ?_; rw [clip_pos (by omega)]; rintro e w2 ⟨rfl, hb2⟩; have q0 := box_on q0 rfl hb2; have q1 := box_on q1 rfl hb2; have hw_w2 := nxt hw_w1 hb2
  have k1 : Cond.bulk a1 ≤ 1048576 := by omega
  obtain ⟨ok, co, hok⟩ : ∃ ok co, condAns a0 a1 = (ok, co) := ⟨_, _, rfl⟩
  have HO := hide hok
  have qq1 : (ok != ok) = false := by simp
  have qq2 : (co != co) = false := by simp
  clear hok
  go_wp2_with fail
  go_region_held3 (fun w' => (w'.cell? ⟨W.heap.size, 0, none⟩ = some (.string a0.name) ∧ w'.cell? ⟨W.heap.size, 1, none⟩ = some (p0v1) ∧ w'.cell? ⟨W.heap.size, 2, none⟩ = some (p0v2) ∧ w'.cell? ⟨W.heap.size, 3, none⟩ = some (.bool a0.root)) ∧ (w'.cell? ⟨W.heap.size + 1, 0, none⟩ = some (.string a1.column) ∧ w'.cell? ⟨W.heap.size + 1, 1, none⟩ = some (.int .i64 a1.func) ∧ w'.cell? ⟨W.heap.size + 1, 2, none⟩ = some (p1v2))) (exact ⟨⟨q0 0, q0 1, q0 2, q0 3⟩, ⟨q1 0, q1 1, q1 2⟩⟩)
    (first | (go_at_call 23; (with_reducible refine (toTable hw_w2.drew H0 k0).mono ?_); rintro e w3 ⟨cs_s0, bs_s0, rfl, r_s0, f_s0, hb3⟩; have hd3 := nxt (Below.refl _ _).drew hb3; have q0 := box_on q0 rfl hd3; have q1 := box_on q1 rfl hd3; have hw_w3 := nxt hw_w2 hd3; have r_s0_3 := r_s0; obtain ⟨s0v1, s0b1, s0v2, s0b2, rfl, rfl, _, s0r1, s0r2⟩ := r_s0; obtain ⟨s0A1, s0c1, rfl, _, _, _⟩ := s0r1.use; obtain ⟨s0A2, s0c2, rfl, _, _, _⟩ := s0r2.use) | (go_at_call 59; (with_reducible refine (toCond hw_w3 H1 k1).mono ?_); rintro e w4 ⟨cs_s1, bs_s1, rfl, r_s1, f_s1, hb4⟩; have q0 := box_on q0 rfl hb4; have q1 := box_on q1 rfl hb4; have r_s0_3 := TableR.good.nxt hb4 r_s0_3; have hw_w4 := nxt hw_w3 hb4; have r_s1_4 := r_s1; obtain ⟨s1v2, s1b2, rfl, rfl, _, s1r2⟩ := r_s1; obtain ⟨s1A2, s1c2, rfl, _, _, _⟩ := s1r2.use) | (go_at_call 58; (with_reducible refine (spec_CondCode r_s0_3 r_s1_4).mono ?_); rw [HO.out]; rintro e w5 ⟨rfl, hb5⟩; have q0 := box_on q0 rfl hb5; have q1 := box_on q1 rfl hb5; have r_s0_3 := TableR.good.nxt hb5 r_s0_3; have r_s1_4 := CondR.good.nxt hb5 r_s1_4; have hw_w5 := nxt hw_w4 hb5))
  clear r_s0_3
  clear r_s1_4
  go_wp2_with fail
  refine (toTable hw_w5 H0 k0).mono ?_; rintro e w6 ⟨cs_x0, bs_x0, rfl, r_x0, f_x0, hb6⟩; have q0 := box_on q0 rfl hb6; have q1 := box_on q1 rfl hb6; have hw_w6 := nxt hw_w5 hb6; have r_x0_6 := r_x0; obtain ⟨x0v1, x0b1, x0v2, x0b2, rfl, rfl, _, x0r1, x0r2⟩ := r_x0; obtain ⟨x0A1, x0c1, rfl, _, _, _⟩ := x0r1.use; obtain ⟨x0A2, x0c2, rfl, _, _, _⟩ := x0r2.use
  have q0p := box_on q0 rfl ((Below.refl w6.heap.size w6).alloc (Nat.le_refl _) (.cells #[.string a0.name, .slice x0A1 a0.columns.length x0c1, .slice x0A2 a0.unique.length x0c2, .bool a0.root] 44))
  have q1p := box_on q1 rfl ((Below.refl w6.heap.size w6).alloc (Nat.le_refl _) (.cells #[.string a0.name, .slice x0A1 a0.columns.length x0c1, .slice x0A2 a0.unique.length x0c2, .bool a0.root] 44))
  go_wp2_with fail
  refine (toCond (hw_w6.alloc (hw_w6.size) _) H1 k1).mono ?_; rintro e w7 ⟨cs_x1, bs_x1, rfl, r_x1, f_x1, hb7⟩; have st7 := nxt' ((Below.refl w6.heap.size w6).alloc (Nat.le_refl _) _) hb7; have q0 := box_on q0 rfl st7; have q1 := box_on q1 rfl st7; have q2 := box_at hb7; have r_x0_6 := TableR.good.nxt st7 r_x0_6; have hw_w7 := nxt hw_w6 st7; have r_x1_7 := r_x1; obtain ⟨x1v2, x1b2, rfl, rfl, _, x1r2⟩ := r_x1; obtain ⟨x1A2, x1c2, rfl, _, _, _⟩ := x1r2.use
  have q0p := box_on q0 rfl ((Below.refl w7.heap.size w7).alloc (Nat.le_refl _) (.cells #[.string a1.column, .int .i64 a1.func, .slice x1A2 a1.value.length x1c2] 106))
  have q1p := box_on q1 rfl ((Below.refl w7.heap.size w7).alloc (Nat.le_refl _) (.cells #[.string a1.column, .int .i64 a1.func, .slice x1A2 a1.value.length x1c2] 106))
  have q2p := box_on q2 rfl ((Below.refl w7.heap.size w7).alloc (Nat.le_refl _) (.cells #[.string a1.column, .int .i64 a1.func, .slice x1A2 a1.value.length x1c2] 106))
  go_wp2_with fail
  refine (impl_CondCode (TableR.good.nxt ((Below.refl w7.heap.size w7).alloc (Nat.le_refl _) _) r_x0_6) (CondR.good.nxt ((Below.refl w7.heap.size w7).alloc (Nat.le_refl _) _) r_x1_7)).mono ?_; rw [HO.out]; rintro e w8 ⟨rfl, hb8⟩; have st8 := nxt' ((Below.refl w7.heap.size w7).alloc (Nat.le_refl _) _) hb8; have q0 := box_on q0 rfl st8; have q1 := box_on q1 rfl st8; have q2 := box_on q2 rfl st8; have q3 := box_at hb8; have r_x0_6 := TableR.good.nxt st8 r_x0_6; have r_x1_7 := CondR.good.nxt st8 r_x1_7; have hw_w8 := nxt hw_w7 st8
  go_wp2_with fail
  go_region_held3 (fun w' => (w'.cell? ⟨W.heap.size, 0, none⟩ = some (.string a0.name) ∧ w'.cell? ⟨W.heap.size, 1, none⟩ = some (p0v1) ∧ w'.cell? ⟨W.heap.size, 2, none⟩ = some (p0v2) ∧ w'.cell? ⟨W.heap.size, 3, none⟩ = some (.bool a0.root)) ∧ (w'.cell? ⟨w6.heap.size, 0, none⟩ = some (.string a0.name) ∧ w'.cell? ⟨w6.heap.size, 1, none⟩ = some (.slice x0A1 a0.columns.length x0c1) ∧ w'.cell? ⟨w6.heap.size, 2, none⟩ = some (.slice x0A2 a0.unique.length x0c2) ∧ w'.cell? ⟨w6.heap.size, 3, none⟩ = some (.bool a0.root))) (exact ⟨⟨q0 0, q0 1, q0 2, q0 3⟩, ⟨q2 0, q2 1, q2 2, q2 3⟩⟩)
    (first | (go_at_call 23; (with_reducible refine (toTable hw_w8.drew H0 k0).mono ?_); rintro e w9 ⟨cs_y0, bs_y0, rfl, r_y0, f_y0, hb9⟩; have hd9 := nxt (Below.refl _ _).drew hb9; have q0 := box_on q0 rfl hd9; have q1 := box_on q1 rfl hd9; have q2 := box_on q2 rfl hd9; have q3 := box_on q3 rfl hd9; have r_x0_6 := TableR.good.nxt hd9 r_x0_6; have r_x1_7 := CondR.good.nxt hd9 r_x1_7; have hw_w9 := nxt hw_w8 hd9; have r_y0_9 := r_y0; obtain ⟨y0v1, y0b1, y0v2, y0b2, rfl, rfl, _, y0r1, y0r2⟩ := r_y0; obtain ⟨y0A1, y0c1, rfl, _, _, _⟩ := y0r1.use; obtain ⟨y0A2, y0c2, rfl, _, _, _⟩ := y0r2.use) | (go_at_call 25; (with_reducible refine (eqTable (Below.refl _ _) r_x0_6 r_y0_9).mono ?_); rintro e w10 ⟨rfl, hb10⟩; have q0 := box_on q0 rfl hb10; have q1 := box_on q1 rfl hb10; have q2 := box_on q2 rfl hb10; have q3 := box_on q3 rfl hb10; have r_x0_6 := TableR.good.nxt hb10 r_x0_6; have r_x1_7 := CondR.good.nxt hb10 r_x1_7; have r_y0_9 := TableR.good.nxt hb10 r_y0_9; have hw_w10 := nxt hw_w9 hb10))
  clear r_y0_9
  go_wp2_with fail
  go_region_held3 (fun w' => (w'.cell? ⟨W.heap.size + 1, 0, none⟩ = some (.string a1.column) ∧ w'.cell? ⟨W.heap.size + 1, 1, none⟩ = some (.int .i64 a1.func) ∧ w'.cell? ⟨W.heap.size + 1, 2, none⟩ = some (p1v2)) ∧ (w'.cell? ⟨w7.heap.size, 0, none⟩ = some (.string a1.column) ∧ w'.cell? ⟨w7.heap.size, 1, none⟩ = some (.int .i64 a1.func) ∧ w'.cell? ⟨w7.heap.size, 2, none⟩ = some (.slice x1A2 a1.value.length x1c2))) (exact ⟨⟨q1 0, q1 1, q1 2⟩, ⟨q3 0, q3 1, q3 2⟩⟩)
    (first | (go_at_call 59; (with_reducible refine (toCond hw_w10.drew H1 k1).mono ?_); rintro e w11 ⟨cs_y1, bs_y1, rfl, r_y1, f_y1, hb11⟩; have hd11 := nxt (Below.refl _ _).drew hb11; have q0 := box_on q0 rfl hd11; have q1 := box_on q1 rfl hd11; have q2 := box_on q2 rfl hd11; have q3 := box_on q3 rfl hd11; have r_x0_6 := TableR.good.nxt hd11 r_x0_6; have r_x1_7 := CondR.good.nxt hd11 r_x1_7; have hw_w11 := nxt hw_w10 hd11; have r_y1_11 := r_y1; obtain ⟨y1v2, y1b2, rfl, rfl, _, y1r2⟩ := r_y1; obtain ⟨y1A2, y1c2, rfl, _, _, _⟩ := y1r2.use) | (go_at_call 61; (with_reducible refine (eqCond (Below.refl _ _) r_x1_7 r_y1_11).mono ?_); rintro e w12 ⟨rfl, hb12⟩; have q0 := box_on q0 rfl hb12; have q1 := box_on q1 rfl hb12; have q2 := box_on q2 rfl hb12; have q3 := box_on q3 rfl hb12; have r_x0_6 := TableR.good.nxt hb12 r_x0_6; have r_x1_7 := CondR.good.nxt hb12 r_x1_7; have r_y1_11 := CondR.good.nxt hb12 r_y1_11; have hw_w12 := nxt hw_w11 hb12))
  clear r_y1_11
  go_wp2_with fail
  go_ret
  exact ⟨rfl, hw_w12⟩
end Go.Proofs.Ytpbaeloiefpgbaa
