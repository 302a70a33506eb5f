/- The walks of laws: JsonDepth. No statement is proved here; no conditions. Written by a program (genlaw.py). -/
import Derived.Test.YthglchopajdmhaaJsonT
import Derived.Test.YthglchopajdmhaaBox
import Derived.Test.YthglchopajdmhaaSz
import Derived.Test.YthglchopajdmhaaTo
import Derived.Test.YthglchopajdmhaaEq
import Derived.Deep.RegionHeld3
namespace Go.Proofs.Ythglchopajdmhaa
open Go.ChangeShapes Go.WideShapes Go.ChangeAt Go.RowKit Go.Deep
set_option maxRecDepth 100000
set_option linter.unusedVariables false

set_option maxHeartbeats 4000000 in
theorem lawJsonDepth {W : World} {bs0 : List Nat} {cs0 : List Value} {a0 : Json} (h0 : JsonR W bs0 cs0 a0) :
    Calls Try.prog 5 #[.agg cs0.toArray] W fun e w' => e = .returned (.bool true) ∧ Below W.heap.size W w' := by
  have H0 := h0
  obtain ⟨p0v3, p0b3, p0v4, p0b4, rfl, rfl, hf0, p0r3, p0r4⟩ := h0.open
  clear p0r3
  clear p0r4
  go_enter Try.func5, Try.ntmps5
  go_wp2_with fail
  by_cases n0 : (1048576 : Int) - (Json.bulk a0 : Int) < 0
  · refine (szJson ((Below.refl W.heap.size W).alloc (Nat.le_refl _) (.cells #[.int .i64 a0.kind, .int .i64 a0.n, .string a0.t, p0v3, p0v4] 25)) H0 (by omega) (by omega)).mono ?_; rw [clip_neg (by omega)]; rintro e w' ⟨rfl, hb'⟩
    go_wp2_with fail
    go_ret
    exact ⟨rfl, nxt ((Below.refl W.heap.size W).alloc (Nat.le_refl _) (.cells #[.int .i64 a0.kind, .int .i64 a0.n, .string a0.t, p0v3, p0v4] 25)) hb'⟩
  refine (szJson ((Below.refl W.heap.size W).alloc (Nat.le_refl _) (.cells #[.int .i64 a0.kind, .int .i64 a0.n, .string a0.t, p0v3, p0v4] 25)) H0 (by omega) (by omega)).mono ?_; rw [clip_pos (by omega)]; rintro e w1 ⟨rfl, hb1⟩; have st1 := nxt' ((Below.refl W.heap.size W).alloc (Nat.le_refl _) (.cells #[.int .i64 a0.kind, .int .i64 a0.n, .string a0.t, p0v3, p0v4] 25)) hb1; have q0 := box_at hb1; have hw_w1 := nxt (Below.refl W.heap.size W) st1
  have k0 : Json.bulk a0 ≤ 1048576 := by omega
  obtain ⟨ok, co, hok⟩ : ∃ ok co, depAns a0 = (ok, co) := ⟨_, _, rfl⟩
  have HO := hide hok
  have qq1 : (ok != ok) = false := by simp
  have qq2 : (co != co) = false := by simp
  clear hok
  go_wp2_with fail
  refine (toJson hw_w1 H0 k0).mono ?_; rintro e w2 ⟨cs_s0, bs_s0, rfl, r_s0, f_s0, hb2⟩; have q0 := box_on q0 rfl hb2; have hw_w2 := nxt hw_w1 hb2; have r_s0_2 := r_s0; obtain ⟨s0v3, s0b3, s0v4, s0b4, rfl, rfl, _, s0r3, s0r4⟩ := r_s0.open; obtain ⟨s0A3, s0c3, rfl, _, _, _⟩ := s0r3.use; obtain ⟨s0A4, s0c4, rfl, _, _, _⟩ := s0r4.use
  go_wp2_with fail
  refine (spec_JsonDepth r_s0_2).mono ?_; rw [HO.out]; rintro e w3 ⟨rfl, hb3⟩; have q0 := box_on q0 rfl hb3; have r_s0_2 := JsonR.good.nxt hb3 r_s0_2; have hw_w3 := nxt hw_w2 hb3
  clear r_s0_2
  go_wp2_with fail
  refine (toJson hw_w3 H0 k0).mono ?_; rintro e w4 ⟨cs_x0, bs_x0, rfl, r_x0, f_x0, hb4⟩; have q0 := box_on q0 rfl hb4; have hw_w4 := nxt hw_w3 hb4; have r_x0_4 := r_x0; obtain ⟨x0v3, x0b3, x0v4, x0b4, rfl, rfl, _, x0r3, x0r4⟩ := r_x0.open; obtain ⟨x0A3, x0c3, rfl, _, _, _⟩ := x0r3.use; obtain ⟨x0A4, x0c4, rfl, _, _, _⟩ := x0r4.use
  have q0p := box_on q0 rfl ((Below.refl w4.heap.size w4).alloc (Nat.le_refl _) (.cells #[.int .i64 a0.kind, .int .i64 a0.n, .string a0.t, .slice x0A3 a0.keys.length x0c3, .slice x0A4 a0.items.length x0c4] 30))
  go_wp2_with fail
  refine (impl_JsonDepth (JsonR.good.nxt ((Below.refl w4.heap.size w4).alloc (Nat.le_refl _) (.cells #[.int .i64 a0.kind, .int .i64 a0.n, .string a0.t, .slice x0A3 a0.keys.length x0c3, .slice x0A4 a0.items.length x0c4] 30)) r_x0_4)).mono ?_; rw [HO.out]; rintro e w5 ⟨rfl, hb5⟩; have st5 := nxt' ((Below.refl w4.heap.size w4).alloc (Nat.le_refl _) (.cells #[.int .i64 a0.kind, .int .i64 a0.n, .string a0.t, .slice x0A3 a0.keys.length x0c3, .slice x0A4 a0.items.length x0c4] 30)) hb5; have q0 := box_on q0 rfl st5; have q1 := box_at hb5; have r_x0_4 := JsonR.good.nxt st5 r_x0_4; have hw_w5 := nxt hw_w4 st5
  go_wp2_with fail
  go_region_held3 (fun w' => (w'.cell? ⟨W.heap.size, 0, none⟩ = some (.int .i64 a0.kind) ∧ w'.cell? ⟨W.heap.size, 1, none⟩ = some (.int .i64 a0.n) ∧ w'.cell? ⟨W.heap.size, 2, none⟩ = some (.string a0.t) ∧ w'.cell? ⟨W.heap.size, 3, none⟩ = some (p0v3) ∧ w'.cell? ⟨W.heap.size, 4, none⟩ = some (p0v4)) ∧ (w'.cell? ⟨w4.heap.size, 0, none⟩ = some (.int .i64 a0.kind) ∧ w'.cell? ⟨w4.heap.size, 1, none⟩ = some (.int .i64 a0.n) ∧ w'.cell? ⟨w4.heap.size, 2, none⟩ = some (.string a0.t) ∧ w'.cell? ⟨w4.heap.size, 3, none⟩ = some (.slice x0A3 a0.keys.length x0c3) ∧ w'.cell? ⟨w4.heap.size, 4, none⟩ = some (.slice x0A4 a0.items.length x0c4))) (exact ⟨⟨q0 0, q0 1, q0 2, q0 3, q0 4⟩, ⟨q1 0, q1 1, q1 2, q1 3, q1 4⟩⟩)
    (first | (go_at_call 13; (with_reducible refine (toJson hw_w5.drew H0 k0).mono ?_); rintro e w6 ⟨cs_y0, bs_y0, rfl, r_y0, f_y0, hb6⟩; have hd6 := nxt (Below.refl _ _).drew hb6; have q0 := box_on q0 rfl hd6; have q1 := box_on q1 rfl hd6; have r_x0_4 := JsonR.good.nxt hd6 r_x0_4; have hw_w6 := nxt hw_w5 hd6; have r_y0_6 := r_y0; obtain ⟨y0v3, y0b3, y0v4, y0b4, rfl, rfl, _, y0r3, y0r4⟩ := r_y0.open; obtain ⟨y0A3, y0c3, rfl, _, _, _⟩ := y0r3.use; obtain ⟨y0A4, y0c4, rfl, _, _, _⟩ := y0r4.use) | (go_at_call 15; (with_reducible refine (eqJson (Below.refl _ _) r_x0_4 r_y0_6).mono ?_); rintro e w7 ⟨rfl, hb7⟩; have q0 := box_on q0 rfl hb7; have q1 := box_on q1 rfl hb7; have r_x0_4 := JsonR.good.nxt hb7 r_x0_4; have r_y0_6 := JsonR.good.nxt hb7 r_y0_6; have hw_w7 := nxt hw_w6 hb7))
  clear r_y0_6
  go_wp2_with fail
  go_ret
  exact ⟨rfl, hw_w7⟩
end Go.Proofs.Ythglchopajdmhaa
