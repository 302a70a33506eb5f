/- Reckoning. No statement is proved here; no conditions. Written by a program (gen45.py). -/
import Derived.Test.YthglchopajdmhaaGreatCodes
namespace Go.Proofs.YthglchopajdmhaaGreat
open Go.ChangeShapes Go.WideShapes Go.ChangeAt Go.RowKit Go.Deep
set_option maxRecDepth 100000
set_option linter.unusedVariables false
set_option linter.unusedSimpArgs false

def num (f a b : Int) : Int := if f = 1 then a + b else if f = 2 then a - b else if f = 3 then a * b else if f = 4 then a.tdiv b else a.tmod b
def numOK (f a b : Int) : Bool := !(decide (4 ≤ f) && (b == 0)) && inB (num f a b) (-1000000000) 1000000000
def recV (f a b : Int) : Int × Int := cond (numOK f a b) (num f a b, 0) (0, 4)
def numZ (f a b : Int) : Int := cond (decide (4 ≤ f) && (b == 0)) 0 (num f a b)
theorem numOK_z {f a b : Int} (h : numOK f a b = true) : numZ f a b = num f a b := by
  unfold numOK at h; unfold numZ; cases hc : (decide (4 ≤ f) && (b == 0))
  · rfl
  · rw [hc] at h; cases h
theorem numOK_in {f a b : Int} (h : numOK f a b = true) : -1000000000 ≤ num f a b ∧ num f a b ≤ 1000000000 := by
  unfold numOK at h; rw [Bool.and_eq_true] at h; exact inB_iff.1 h.2
theorem mul_bd {a b : Int} (ha : -1000000000 ≤ a ∧ a ≤ 1000000000) (hb : -1000000000 ≤ b ∧ b ≤ 1000000000) : -1000000000000000000 ≤ a * b ∧ a * b ≤ 1000000000000000000 := by
  have h1 : (a * b).natAbs ≤ 1000000000 * 1000000000 := by rw [Int.natAbs_mul]; exact Nat.mul_le_mul (by omega) (by omega)
  omega
theorem div_bd {a b : Int} (ha : -1000000000 ≤ a ∧ a ≤ 1000000000) : -1000000000 ≤ a.tdiv b ∧ a.tdiv b ≤ 1000000000 := by
  have h1 : (a.tdiv b).natAbs ≤ a.natAbs := by rw [Int.natAbs_tdiv]; exact Nat.div_le_self _ _
  omega
theorem mod_bd {a b : Int} (ha : -1000000000 ≤ a ∧ a ≤ 1000000000) : -1000000000 ≤ a.tmod b ∧ a.tmod b ≤ 1000000000 := by
  have h1 : (a.tmod b).natAbs ≤ a.natAbs := by rw [Int.natAbs_tmod]; exact Nat.mod_le _ _
  omega
theorem num_1 (a b : Int) : num 1 a b = a + b := rfl
theorem num_2 (a b : Int) : num 2 a b = a - b := rfl
theorem num_3 (a b : Int) : num 3 a b = a * b := rfl
theorem num_4 (a b : Int) : num 4 a b = a.tdiv b := rfl
theorem num_5 (a b : Int) : num 5 a b = a.tmod b := rfl
set_option maxHeartbeats 2000000 in
theorem impl_reckon_1 {w : World}  (a : Int) (b : Int) (ha : -1000000000 ≤ a ∧ a ≤ 1000000000) (hb : -1000000000 ≤ b ∧ b ≤ 1000000000) :
    Calls Tryz.prog 95 #[.int .i64 1, .int .i64 a, .int .i64 b] w (fun e w' => e = .returned (.tuple #[.int .i64 (recV 1 a b).1, .int .i64 (recV 1 a b).2]) ∧ w = w') := by
  cases h0 : (b == 0)
  · cases hq : inB (a + b) (-1000000000) 1000000000
    · have ho : Hid (numOK 1 a b = false) := by show _ = _; unfold numOK; rw [h0, num_1, hq]; rfl
      have hr : Hid (recV 1 a b = (0, 4)) := by show _ = _; unfold recV; rw [ho.out]; rfl
      have A := impl_isNumber (a + b) w; rw [hq] at A; clear hq
      have HA := hide A; clear A
      go_enter Tryz.func95, Tryz.ntmps95
      go_wp2_with fail
      refine HA.out.mono ?_; rintro e w1 ⟨rfl, rfl⟩
      go_wp2_with fail
      go_ret2
      exact ⟨by rw [hr.out]; rfl, rfl⟩
    · have ho : Hid (numOK 1 a b = true) := by show _ = _; unfold numOK; rw [h0, num_1, hq]; rfl
      have hr : Hid (recV 1 a b = (a + b, 0)) := by show _ = _; unfold recV; rw [ho.out]; rfl
      have A := impl_isNumber (a + b) w; rw [hq] at A; clear hq
      have HA := hide A; clear A
      go_enter Tryz.func95, Tryz.ntmps95
      go_wp2_with fail
      refine HA.out.mono ?_; rintro e w1 ⟨rfl, rfl⟩
      go_wp2_with fail
      go_ret2
      exact ⟨by rw [hr.out]; rfl, rfl⟩
  · cases hq : inB (a + b) (-1000000000) 1000000000
    · have ho : Hid (numOK 1 a b = false) := by show _ = _; unfold numOK; rw [h0, num_1, hq]; rfl
      have hr : Hid (recV 1 a b = (0, 4)) := by show _ = _; unfold recV; rw [ho.out]; rfl
      have A := impl_isNumber (a + b) w; rw [hq] at A; clear hq
      have HA := hide A; clear A
      go_enter Tryz.func95, Tryz.ntmps95
      go_wp2_with fail
      refine HA.out.mono ?_; rintro e w1 ⟨rfl, rfl⟩
      go_wp2_with fail
      go_ret2
      exact ⟨by rw [hr.out]; rfl, rfl⟩
    · have ho : Hid (numOK 1 a b = true) := by show _ = _; unfold numOK; rw [h0, num_1, hq]; rfl
      have hr : Hid (recV 1 a b = (a + b, 0)) := by show _ = _; unfold recV; rw [ho.out]; rfl
      have A := impl_isNumber (a + b) w; rw [hq] at A; clear hq
      have HA := hide A; clear A
      go_enter Tryz.func95, Tryz.ntmps95
      go_wp2_with fail
      refine HA.out.mono ?_; rintro e w1 ⟨rfl, rfl⟩
      go_wp2_with fail
      go_ret2
      exact ⟨by rw [hr.out]; rfl, rfl⟩
set_option maxHeartbeats 2000000 in
theorem impl_reckon_2 {w : World}  (a : Int) (b : Int) (ha : -1000000000 ≤ a ∧ a ≤ 1000000000) (hb : -1000000000 ≤ b ∧ b ≤ 1000000000) :
    Calls Tryz.prog 95 #[.int .i64 2, .int .i64 a, .int .i64 b] w (fun e w' => e = .returned (.tuple #[.int .i64 (recV 2 a b).1, .int .i64 (recV 2 a b).2]) ∧ w = w') := by
  cases h0 : (b == 0)
  · cases hq : inB (a - b) (-1000000000) 1000000000
    · have ho : Hid (numOK 2 a b = false) := by show _ = _; unfold numOK; rw [h0, num_2, hq]; rfl
      have hr : Hid (recV 2 a b = (0, 4)) := by show _ = _; unfold recV; rw [ho.out]; rfl
      have A := impl_isNumber (a - b) w; rw [hq] at A; clear hq
      have HA := hide A; clear A
      go_enter Tryz.func95, Tryz.ntmps95
      go_wp2_with fail
      refine HA.out.mono ?_; rintro e w1 ⟨rfl, rfl⟩
      go_wp2_with fail
      go_ret2
      exact ⟨by rw [hr.out]; rfl, rfl⟩
    · have ho : Hid (numOK 2 a b = true) := by show _ = _; unfold numOK; rw [h0, num_2, hq]; rfl
      have hr : Hid (recV 2 a b = (a - b, 0)) := by show _ = _; unfold recV; rw [ho.out]; rfl
      have A := impl_isNumber (a - b) w; rw [hq] at A; clear hq
      have HA := hide A; clear A
      go_enter Tryz.func95, Tryz.ntmps95
      go_wp2_with fail
      refine HA.out.mono ?_; rintro e w1 ⟨rfl, rfl⟩
      go_wp2_with fail
      go_ret2
      exact ⟨by rw [hr.out]; rfl, rfl⟩
  · cases hq : inB (a - b) (-1000000000) 1000000000
    · have ho : Hid (numOK 2 a b = false) := by show _ = _; unfold numOK; rw [h0, num_2, hq]; rfl
      have hr : Hid (recV 2 a b = (0, 4)) := by show _ = _; unfold recV; rw [ho.out]; rfl
      have A := impl_isNumber (a - b) w; rw [hq] at A; clear hq
      have HA := hide A; clear A
      go_enter Tryz.func95, Tryz.ntmps95
      go_wp2_with fail
      refine HA.out.mono ?_; rintro e w1 ⟨rfl, rfl⟩
      go_wp2_with fail
      go_ret2
      exact ⟨by rw [hr.out]; rfl, rfl⟩
    · have ho : Hid (numOK 2 a b = true) := by show _ = _; unfold numOK; rw [h0, num_2, hq]; rfl
      have hr : Hid (recV 2 a b = (a - b, 0)) := by show _ = _; unfold recV; rw [ho.out]; rfl
      have A := impl_isNumber (a - b) w; rw [hq] at A; clear hq
      have HA := hide A; clear A
      go_enter Tryz.func95, Tryz.ntmps95
      go_wp2_with fail
      refine HA.out.mono ?_; rintro e w1 ⟨rfl, rfl⟩
      go_wp2_with fail
      go_ret2
      exact ⟨by rw [hr.out]; rfl, rfl⟩
set_option maxHeartbeats 2000000 in
theorem impl_reckon_3 {w : World}  (a : Int) (b : Int) (ha : -1000000000 ≤ a ∧ a ≤ 1000000000) (hb : -1000000000 ≤ b ∧ b ≤ 1000000000) :
    Calls Tryz.prog 95 #[.int .i64 3, .int .i64 a, .int .i64 b] w (fun e w' => e = .returned (.tuple #[.int .i64 (recV 3 a b).1, .int .i64 (recV 3 a b).2]) ∧ w = w') := by
  have hm := mul_bd ha hb
  cases h0 : (b == 0)
  · cases hq : inB (a * b) (-1000000000) 1000000000
    · have ho : Hid (numOK 3 a b = false) := by show _ = _; unfold numOK; rw [h0, num_3, hq]; rfl
      have hr : Hid (recV 3 a b = (0, 4)) := by show _ = _; unfold recV; rw [ho.out]; rfl
      have A := impl_isNumber (a * b) w; rw [hq] at A; clear hq
      have HA := hide A; clear A
      go_enter Tryz.func95, Tryz.ntmps95
      go_wp2_with fail
      refine HA.out.mono ?_; rintro e w1 ⟨rfl, rfl⟩
      go_wp2_with fail
      go_ret2
      exact ⟨by rw [hr.out]; rfl, rfl⟩
    · have ho : Hid (numOK 3 a b = true) := by show _ = _; unfold numOK; rw [h0, num_3, hq]; rfl
      have hr : Hid (recV 3 a b = (a * b, 0)) := by show _ = _; unfold recV; rw [ho.out]; rfl
      have A := impl_isNumber (a * b) w; rw [hq] at A; clear hq
      have HA := hide A; clear A
      go_enter Tryz.func95, Tryz.ntmps95
      go_wp2_with fail
      refine HA.out.mono ?_; rintro e w1 ⟨rfl, rfl⟩
      go_wp2_with fail
      go_ret2
      exact ⟨by rw [hr.out]; rfl, rfl⟩
  · cases hq : inB (a * b) (-1000000000) 1000000000
    · have ho : Hid (numOK 3 a b = false) := by show _ = _; unfold numOK; rw [h0, num_3, hq]; rfl
      have hr : Hid (recV 3 a b = (0, 4)) := by show _ = _; unfold recV; rw [ho.out]; rfl
      have A := impl_isNumber (a * b) w; rw [hq] at A; clear hq
      have HA := hide A; clear A
      go_enter Tryz.func95, Tryz.ntmps95
      go_wp2_with fail
      refine HA.out.mono ?_; rintro e w1 ⟨rfl, rfl⟩
      go_wp2_with fail
      go_ret2
      exact ⟨by rw [hr.out]; rfl, rfl⟩
    · have ho : Hid (numOK 3 a b = true) := by show _ = _; unfold numOK; rw [h0, num_3, hq]; rfl
      have hr : Hid (recV 3 a b = (a * b, 0)) := by show _ = _; unfold recV; rw [ho.out]; rfl
      have A := impl_isNumber (a * b) w; rw [hq] at A; clear hq
      have HA := hide A; clear A
      go_enter Tryz.func95, Tryz.ntmps95
      go_wp2_with fail
      refine HA.out.mono ?_; rintro e w1 ⟨rfl, rfl⟩
      go_wp2_with fail
      go_ret2
      exact ⟨by rw [hr.out]; rfl, rfl⟩
set_option maxHeartbeats 2000000 in
theorem impl_reckon_4 {w : World}  (a : Int) (b : Int) (ha : -1000000000 ≤ a ∧ a ≤ 1000000000) (hb : -1000000000 ≤ b ∧ b ≤ 1000000000) :
    Calls Tryz.prog 95 #[.int .i64 4, .int .i64 a, .int .i64 b] w (fun e w' => e = .returned (.tuple #[.int .i64 (recV 4 a b).1, .int .i64 (recV 4 a b).2]) ∧ w = w') := by
  have hm := div_bd (b := b) ha
  cases h0 : (b == 0)
  · have hbn : ¬ b = 0 := by simpa using h0
    cases hq : inB (a.tdiv b) (-1000000000) 1000000000
    · have ho : Hid (numOK 4 a b = false) := by show _ = _; unfold numOK; rw [h0, num_4, hq]; rfl
      have hr : Hid (recV 4 a b = (0, 4)) := by show _ = _; unfold recV; rw [ho.out]; rfl
      have A := impl_isNumber (a.tdiv b) w; rw [hq] at A; clear hq
      have HA := hide A; clear A
      go_enter Tryz.func95, Tryz.ntmps95
      go_wp2_with fail
      refine HA.out.mono ?_; rintro e w1 ⟨rfl, rfl⟩
      go_wp2_with fail
      go_ret2
      exact ⟨by rw [hr.out]; rfl, rfl⟩
    · have ho : Hid (numOK 4 a b = true) := by show _ = _; unfold numOK; rw [h0, num_4, hq]; rfl
      have hr : Hid (recV 4 a b = (a.tdiv b, 0)) := by show _ = _; unfold recV; rw [ho.out]; rfl
      have A := impl_isNumber (a.tdiv b) w; rw [hq] at A; clear hq
      have HA := hide A; clear A
      go_enter Tryz.func95, Tryz.ntmps95
      go_wp2_with fail
      refine HA.out.mono ?_; rintro e w1 ⟨rfl, rfl⟩
      go_wp2_with fail
      go_ret2
      exact ⟨by rw [hr.out]; rfl, rfl⟩
  · have ho : Hid (numOK 4 a b = false) := by show _ = _; unfold numOK; rw [h0]; rfl
    have hr : Hid (recV 4 a b = (0, 4)) := by show _ = _; unfold recV; rw [ho.out]; rfl
    have hbz : b = 0 := by simpa using h0
    clear hbz
    go_enter Tryz.func95, Tryz.ntmps95
    go_wp2_with fail
    go_ret2
    exact ⟨by rw [hr.out]; rfl, rfl⟩
set_option maxHeartbeats 2000000 in
theorem impl_reckon_5 {w : World}  (a : Int) (b : Int) (ha : -1000000000 ≤ a ∧ a ≤ 1000000000) (hb : -1000000000 ≤ b ∧ b ≤ 1000000000) :
    Calls Tryz.prog 95 #[.int .i64 5, .int .i64 a, .int .i64 b] w (fun e w' => e = .returned (.tuple #[.int .i64 (recV 5 a b).1, .int .i64 (recV 5 a b).2]) ∧ w = w') := by
  have hm := mod_bd (b := b) ha; have hm4 := div_bd (b := b) ha
  cases h0 : (b == 0)
  · have hbn : ¬ b = 0 := by simpa using h0
    cases hq : inB (a.tmod b) (-1000000000) 1000000000
    · have ho : Hid (numOK 5 a b = false) := by show _ = _; unfold numOK; rw [h0, num_5, hq]; rfl
      have hr : Hid (recV 5 a b = (0, 4)) := by show _ = _; unfold recV; rw [ho.out]; rfl
      have A := impl_isNumber (a.tmod b) w; rw [hq] at A; clear hq
      have HA := hide A; clear A
      go_enter Tryz.func95, Tryz.ntmps95
      go_wp2_with fail
      refine HA.out.mono ?_; rintro e w1 ⟨rfl, rfl⟩
      go_wp2_with fail
      go_ret2
      exact ⟨by rw [hr.out]; rfl, rfl⟩
    · have ho : Hid (numOK 5 a b = true) := by show _ = _; unfold numOK; rw [h0, num_5, hq]; rfl
      have hr : Hid (recV 5 a b = (a.tmod b, 0)) := by show _ = _; unfold recV; rw [ho.out]; rfl
      have A := impl_isNumber (a.tmod b) w; rw [hq] at A; clear hq
      have HA := hide A; clear A
      go_enter Tryz.func95, Tryz.ntmps95
      go_wp2_with fail
      refine HA.out.mono ?_; rintro e w1 ⟨rfl, rfl⟩
      go_wp2_with fail
      go_ret2
      exact ⟨by rw [hr.out]; rfl, rfl⟩
  · have ho : Hid (numOK 5 a b = false) := by show _ = _; unfold numOK; rw [h0]; rfl
    have hr : Hid (recV 5 a b = (0, 4)) := by show _ = _; unfold recV; rw [ho.out]; rfl
    have hbz : b = 0 := by simpa using h0
    clear hbz
    go_enter Tryz.func95, Tryz.ntmps95
    go_wp2_with fail
    go_ret2
    exact ⟨by rw [hr.out]; rfl, rfl⟩
theorem impl_reckon {f a b : Int} (hf : 1 ≤ f ∧ f ≤ 5) (ha : -1000000000 ≤ a ∧ a ≤ 1000000000) (hb : -1000000000 ≤ b ∧ b ≤ 1000000000) (w : World) : Calls Tryz.prog 95 #[.int .i64 f, .int .i64 a, .int .i64 b] w fun e w' => e = .returned (.tuple #[.int .i64 (recV f a b).1, .int .i64 (recV f a b).2]) ∧ w = w' := by
  have h : f = 1 ∨ f = 2 ∨ f = 3 ∨ f = 4 ∨ f = 5 := by omega
  rcases h with rfl | rfl | rfl | rfl | rfl
  · exact impl_reckon_1 (w := w) a b ha hb
  · exact impl_reckon_2 (w := w) a b ha hb
  · exact impl_reckon_3 (w := w) a b ha hb
  · exact impl_reckon_4 (w := w) a b ha hb
  · exact impl_reckon_5 (w := w) a b ha hb
set_option maxHeartbeats 2000000 in
theorem spec_l07Number_1 {w : World}  (a : Int) (b : Int) (ha : -1000000000 ≤ a ∧ a ≤ 1000000000) (hb : -1000000000 ≤ b ∧ b ≤ 1000000000) :
    Calls Tryz.prog 78 #[.int .i64 1, .int .i64 a, .int .i64 b] w (fun e w' => e = .returned (.tuple #[.int .i64 (numZ 1 a b), .bool (numOK 1 a b)]) ∧ w = w') := by
  obtain ⟨z0, h0⟩ : ∃ z0, (b == 0) = z0 := ⟨_, rfl⟩
  cases hq : inB (a + b) (-1000000000) 1000000000
  · have ho : Hid (numOK 1 a b = false) := by show _ = _; unfold numOK; rw [h0, num_1, hq]; rfl
    have hz : Hid (numZ 1 a b = a + b) := by show _ = _; unfold numZ; rw [h0]; rfl
    have A := spec_l01In (a + b) (-1000000000) 1000000000 w; rw [hq] at A; clear hq
    have HA := hide A; clear A
    go_enter Tryz.func78, Tryz.ntmps78
    go_wp2_with fail
    refine HA.out.mono ?_; rintro e w1 ⟨rfl, rfl⟩
    go_wp2_with fail
    go_ret2
    exact ⟨by rw [hz.out, ho.out]; rfl, rfl⟩
  · have ho : Hid (numOK 1 a b = true) := by show _ = _; unfold numOK; rw [h0, num_1, hq]; rfl
    have hz : Hid (numZ 1 a b = a + b) := by show _ = _; unfold numZ; rw [h0]; rfl
    have A := spec_l01In (a + b) (-1000000000) 1000000000 w; rw [hq] at A; clear hq
    have HA := hide A; clear A
    go_enter Tryz.func78, Tryz.ntmps78
    go_wp2_with fail
    refine HA.out.mono ?_; rintro e w1 ⟨rfl, rfl⟩
    go_wp2_with fail
    go_ret2
    exact ⟨by rw [hz.out, ho.out]; rfl, rfl⟩
set_option maxHeartbeats 2000000 in
theorem spec_l07Number_2 {w : World}  (a : Int) (b : Int) (ha : -1000000000 ≤ a ∧ a ≤ 1000000000) (hb : -1000000000 ≤ b ∧ b ≤ 1000000000) :
    Calls Tryz.prog 78 #[.int .i64 2, .int .i64 a, .int .i64 b] w (fun e w' => e = .returned (.tuple #[.int .i64 (numZ 2 a b), .bool (numOK 2 a b)]) ∧ w = w') := by
  obtain ⟨z0, h0⟩ : ∃ z0, (b == 0) = z0 := ⟨_, rfl⟩
  cases hq : inB (a - b) (-1000000000) 1000000000
  · have ho : Hid (numOK 2 a b = false) := by show _ = _; unfold numOK; rw [h0, num_2, hq]; rfl
    have hz : Hid (numZ 2 a b = a - b) := by show _ = _; unfold numZ; rw [h0]; rfl
    have A := spec_l01In (a - b) (-1000000000) 1000000000 w; rw [hq] at A; clear hq
    have HA := hide A; clear A
    go_enter Tryz.func78, Tryz.ntmps78
    go_wp2_with fail
    refine HA.out.mono ?_; rintro e w1 ⟨rfl, rfl⟩
    go_wp2_with fail
    go_ret2
    exact ⟨by rw [hz.out, ho.out]; rfl, rfl⟩
  · have ho : Hid (numOK 2 a b = true) := by show _ = _; unfold numOK; rw [h0, num_2, hq]; rfl
    have hz : Hid (numZ 2 a b = a - b) := by show _ = _; unfold numZ; rw [h0]; rfl
    have A := spec_l01In (a - b) (-1000000000) 1000000000 w; rw [hq] at A; clear hq
    have HA := hide A; clear A
    go_enter Tryz.func78, Tryz.ntmps78
    go_wp2_with fail
    refine HA.out.mono ?_; rintro e w1 ⟨rfl, rfl⟩
    go_wp2_with fail
    go_ret2
    exact ⟨by rw [hz.out, ho.out]; rfl, rfl⟩
set_option maxHeartbeats 2000000 in
theorem spec_l07Number_3 {w : World}  (a : Int) (b : Int) (ha : -1000000000 ≤ a ∧ a ≤ 1000000000) (hb : -1000000000 ≤ b ∧ b ≤ 1000000000) :
    Calls Tryz.prog 78 #[.int .i64 3, .int .i64 a, .int .i64 b] w (fun e w' => e = .returned (.tuple #[.int .i64 (numZ 3 a b), .bool (numOK 3 a b)]) ∧ w = w') := by
  have hm := mul_bd ha hb
  obtain ⟨z0, h0⟩ : ∃ z0, (b == 0) = z0 := ⟨_, rfl⟩
  cases hq : inB (a * b) (-1000000000) 1000000000
  · have ho : Hid (numOK 3 a b = false) := by show _ = _; unfold numOK; rw [h0, num_3, hq]; rfl
    have hz : Hid (numZ 3 a b = a * b) := by show _ = _; unfold numZ; rw [h0]; rfl
    have A := spec_l01In (a * b) (-1000000000) 1000000000 w; rw [hq] at A; clear hq
    have HA := hide A; clear A
    go_enter Tryz.func78, Tryz.ntmps78
    go_wp2_with fail
    refine HA.out.mono ?_; rintro e w1 ⟨rfl, rfl⟩
    go_wp2_with fail
    go_ret2
    exact ⟨by rw [hz.out, ho.out]; rfl, rfl⟩
  · have ho : Hid (numOK 3 a b = true) := by show _ = _; unfold numOK; rw [h0, num_3, hq]; rfl
    have hz : Hid (numZ 3 a b = a * b) := by show _ = _; unfold numZ; rw [h0]; rfl
    have A := spec_l01In (a * b) (-1000000000) 1000000000 w; rw [hq] at A; clear hq
    have HA := hide A; clear A
    go_enter Tryz.func78, Tryz.ntmps78
    go_wp2_with fail
    refine HA.out.mono ?_; rintro e w1 ⟨rfl, rfl⟩
    go_wp2_with fail
    go_ret2
    exact ⟨by rw [hz.out, ho.out]; rfl, rfl⟩
set_option maxHeartbeats 2000000 in
theorem spec_l07Number_4 {w : World}  (a : Int) (b : Int) (ha : -1000000000 ≤ a ∧ a ≤ 1000000000) (hb : -1000000000 ≤ b ∧ b ≤ 1000000000) :
    Calls Tryz.prog 78 #[.int .i64 4, .int .i64 a, .int .i64 b] w (fun e w' => e = .returned (.tuple #[.int .i64 (numZ 4 a b), .bool (numOK 4 a b)]) ∧ w = w') := by
  have hm := div_bd (b := b) ha
  cases h0 : (b == 0)
  · have hbn : ¬ b = 0 := by simpa using h0
    cases hq : inB (a.tdiv b) (-1000000000) 1000000000
    · have ho : Hid (numOK 4 a b = false) := by show _ = _; unfold numOK; rw [h0, num_4, hq]; rfl
      have hz : Hid (numZ 4 a b = a.tdiv b) := by show _ = _; unfold numZ; rw [h0]; rfl
      have A := spec_l01In (a.tdiv b) (-1000000000) 1000000000 w; rw [hq] at A; clear hq
      have HA := hide A; clear A
      go_enter Tryz.func78, Tryz.ntmps78
      go_wp2_with fail
      refine HA.out.mono ?_; rintro e w1 ⟨rfl, rfl⟩
      go_wp2_with fail
      go_ret2
      exact ⟨by rw [hz.out, ho.out]; rfl, rfl⟩
    · have ho : Hid (numOK 4 a b = true) := by show _ = _; unfold numOK; rw [h0, num_4, hq]; rfl
      have hz : Hid (numZ 4 a b = a.tdiv b) := by show _ = _; unfold numZ; rw [h0]; rfl
      have A := spec_l01In (a.tdiv b) (-1000000000) 1000000000 w; rw [hq] at A; clear hq
      have HA := hide A; clear A
      go_enter Tryz.func78, Tryz.ntmps78
      go_wp2_with fail
      refine HA.out.mono ?_; rintro e w1 ⟨rfl, rfl⟩
      go_wp2_with fail
      go_ret2
      exact ⟨by rw [hz.out, ho.out]; rfl, rfl⟩
  · have ho : Hid (numOK 4 a b = false) := by show _ = _; unfold numOK; rw [h0]; rfl
    have hz : Hid (numZ 4 a b = 0) := by show _ = _; unfold numZ; rw [h0]; rfl
    have hbz : b = 0 := by simpa using h0
    clear hbz
    go_enter Tryz.func78, Tryz.ntmps78
    go_wp2_with fail
    go_ret2
    exact ⟨by rw [hz.out, ho.out]; rfl, rfl⟩
set_option maxHeartbeats 2000000 in
theorem spec_l07Number_5 {w : World}  (a : Int) (b : Int) (ha : -1000000000 ≤ a ∧ a ≤ 1000000000) (hb : -1000000000 ≤ b ∧ b ≤ 1000000000) :
    Calls Tryz.prog 78 #[.int .i64 5, .int .i64 a, .int .i64 b] w (fun e w' => e = .returned (.tuple #[.int .i64 (numZ 5 a b), .bool (numOK 5 a b)]) ∧ w = w') := by
  have hm := mod_bd (b := b) ha; have hm4 := div_bd (b := b) ha
  cases h0 : (b == 0)
  · have hbn : ¬ b = 0 := by simpa using h0
    cases hq : inB (a.tmod b) (-1000000000) 1000000000
    · have ho : Hid (numOK 5 a b = false) := by show _ = _; unfold numOK; rw [h0, num_5, hq]; rfl
      have hz : Hid (numZ 5 a b = a.tmod b) := by show _ = _; unfold numZ; rw [h0]; rfl
      have A := spec_l01In (a.tmod b) (-1000000000) 1000000000 w; rw [hq] at A; clear hq
      have HA := hide A; clear A
      go_enter Tryz.func78, Tryz.ntmps78
      go_wp2_with fail
      refine HA.out.mono ?_; rintro e w1 ⟨rfl, rfl⟩
      go_wp2_with fail
      go_ret2
      exact ⟨by rw [hz.out, ho.out]; rfl, rfl⟩
    · have ho : Hid (numOK 5 a b = true) := by show _ = _; unfold numOK; rw [h0, num_5, hq]; rfl
      have hz : Hid (numZ 5 a b = a.tmod b) := by show _ = _; unfold numZ; rw [h0]; rfl
      have A := spec_l01In (a.tmod b) (-1000000000) 1000000000 w; rw [hq] at A; clear hq
      have HA := hide A; clear A
      go_enter Tryz.func78, Tryz.ntmps78
      go_wp2_with fail
      refine HA.out.mono ?_; rintro e w1 ⟨rfl, rfl⟩
      go_wp2_with fail
      go_ret2
      exact ⟨by rw [hz.out, ho.out]; rfl, rfl⟩
  · have ho : Hid (numOK 5 a b = false) := by show _ = _; unfold numOK; rw [h0]; rfl
    have hz : Hid (numZ 5 a b = 0) := by show _ = _; unfold numZ; rw [h0]; rfl
    have hbz : b = 0 := by simpa using h0
    clear hbz
    go_enter Tryz.func78, Tryz.ntmps78
    go_wp2_with fail
    go_ret2
    exact ⟨by rw [hz.out, ho.out]; rfl, rfl⟩
theorem spec_l07Number {f a b : Int} (hf : 1 ≤ f ∧ f ≤ 5) (ha : -1000000000 ≤ a ∧ a ≤ 1000000000) (hb : -1000000000 ≤ b ∧ b ≤ 1000000000) (w : World) : Calls Tryz.prog 78 #[.int .i64 f, .int .i64 a, .int .i64 b] w fun e w' => e = .returned (.tuple #[.int .i64 (numZ f a b), .bool (numOK f a b)]) ∧ w = w' := by
  have h : f = 1 ∨ f = 2 ∨ f = 3 ∨ f = 4 ∨ f = 5 := by omega
  rcases h with rfl | rfl | rfl | rfl | rfl
  · exact spec_l07Number_1 (w := w) a b ha hb
  · exact spec_l07Number_2 (w := w) a b ha hb
  · exact spec_l07Number_3 (w := w) a b ha hb
  · exact spec_l07Number_4 (w := w) a b ha hb
  · exact spec_l07Number_5 (w := w) a b ha hb
end Go.Proofs.YthglchopajdmhaaGreat
