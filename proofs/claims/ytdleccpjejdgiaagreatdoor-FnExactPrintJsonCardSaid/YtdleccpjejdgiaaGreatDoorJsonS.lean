/- l01OK. No statement is proved here; no conditions. Written by a program (gen40.py). -/
import Derived.Test.YtdleccpjejdgiaaGreatDoorJsonOK
import Derived.Test.YtdleccpjejdgiaaGreatDoorTables
namespace Go.Proofs.YtdleccpjejdgiaaGreatDoor
open Go.ChangeShapes Go.WideShapes Go.ChangeAt Go.RowKit Go.Deep
set_option maxRecDepth 100000
set_option linter.unusedVariables false
set_option linter.unusedSimpArgs false

def SPost (d : Nat) (a : Json) (e : Ending) : Prop := ∃ z : Int, e = .returned (.tuple #[.int .i64 z, .bool (fitsJ d a 400)]) ∧ (fitsJ d a 400 = true → z = cnt d a) ∧ 0 ≤ z ∧ z ≤ 400
abbrev SP (d : Nat) : Prop := ∀ {w : World} {bs : List Nat} {cs : List Value} {a : Json} {dv : Int} (H : JsonR w bs cs a) (hd : dv = (d : Int)) (h12 : d ≤ 12),
    Calls Tryz.prog 19 #[.agg cs.toArray, .int .i64 dv] w fun e w' => SPost d a e ∧ Below w.heap.size w w'
theorem fits_no {d : Nat} {a : Json} (h : partOK a = false) : fitsJ (d + 1) a 400 = false := by rw [fitsJ_succ, h]; rfl
theorem fits_leaf {d : Nat} {a : Json} (h : a.items.length = 0) : fitsJ (d + 1) a 400 = partOK a := by
  rw [fitsJ_succ]; have : a.items = [] := List.eq_nil_of_length_eq_zero h
  rw [this]; cases partOK a <;> rfl
theorem cnt_leaf {d : Nat} {a : Json} (h : a.items.length = 0) : cnt (d + 1) a = 1 := by
  have : a.items = [] := List.eq_nil_of_length_eq_zero h
  show 1 + (a.items.map (cnt d)).sum = 1; rw [this]; rfl
theorem part_len {a : Json} (h : partOK a = true) (hk : a.kind < 4) : a.items.length = 0 := by
  unfold partOK at h
  by_cases e0 : a.kind = 0
  · rw [e0] at h; simp at h; simp [h.2.2.2]
  · by_cases e1 : a.kind = 1
    · rw [e1] at h; simp at h; simp [h.2.2.2]
    · by_cases e2 : a.kind = 2
      · rw [e2] at h; simp at h; simp [h.2.2.2]
      · by_cases e3 : a.kind = 3
        · rw [e3] at h; simp at h; simp [h.2.2.2]
        · have e4 : ¬ a.kind = 4 := by omega
          have e5 : ¬ a.kind = 5 := by omega
          simp [e0, e1, e2, e3, e4, e5] at h
theorem leaf_post {d : Nat} {a : Json} (hk : a.kind < 4) : SPost (d + 1) a (.returned (.tuple #[.int .i64 1, .bool (partOK a)])) := by
  cases h : partOK a
  · exact ⟨1, by rw [fits_no h], fun h' => (by rw [fits_no h] at h'; cases h'), by decide, by decide⟩
  · have hl := part_len h hk
    exact ⟨1, by rw [fits_leaf hl, h], fun _ => (by rw [cnt_leaf hl]; rfl), by decide, by decide⟩
theorem one_no {d : Nat} {a : Json} {r : Int} (h : fitsJ d a 400 = false) (hr : r ≤ 400) : oneFit (goodJ d) (cnt d) a r = false := by
  unfold oneFit; unfold fitsJ at h
  cases hg : goodJ d a with
  | false => rfl
  | true => rw [hg, Bool.true_and] at h; have := of_decide_eq_false h; rw [decide_eq_false (by omega)]; rfl
def NPost (e : Ending) : Prop := ∃ z : Int, e = .returned (.tuple #[.int .i64 z, .bool false]) ∧ 0 ≤ z ∧ z ≤ 400
def YPost (z : Int) (e : Ending) : Prop := e = .returned (.tuple #[.int .i64 z, .bool true])
theorem SPost.no {d : Nat} {a : Json} {e : Ending} (h : SPost d a e) (hq : fitsJ d a 400 = false) : NPost e := by
  obtain ⟨z, h1, _, h3, h4⟩ := h; rw [hq] at h1; exact ⟨z, h1, h3, h4⟩
theorem SPost.yes {d : Nat} {a : Json} {e : Ending} (h : SPost d a e) (hq : fitsJ d a 400 = true) : YPost (cnt d a) e := by
  obtain ⟨z, h1, h2, _, _⟩ := h; rw [hq] at h1; rw [← h2 hq]; exact h1
theorem bad_post {d : Nat} {a : Json} (h : fitsJ (d + 1) a 400 = false) : SPost (d + 1) a (.returned (.tuple #[.int .i64 0, .bool false])) := ⟨0, by rw [h], fun h' => (by rw [h] at h'; cases h'), by decide, by decide⟩
set_option maxHeartbeats 8000000 in
theorem spec_l01OK_k0 {w : World}  {bs_a : List Nat} {cs_a : List Value} {a : Json} (H_a : JsonR w bs_a cs_a a) (dv : Int) (hk : a.kind = 0) (hd0 : (dv == 0) = false) :
    Calls Tryz.prog 19 #[.agg cs_a.toArray, .int .i64 dv] w (fun e w' => e = .returned (.tuple #[.int .i64 1, .bool (partOK a)]) ∧ Below w.heap.size w w') := by
  have H0_a := H_a
  obtain ⟨a_v3, a_b3, a_v4, a_b4, rfl, rfl, hf_a, a_r3, a_r4⟩ := H_a.open
  obtain ⟨A_a3, c_a3, rfl, hlc_a3, hcm_a3, hel_a3⟩ := a_r3.use
  obtain ⟨A_a4, c_a4, rfl, hlc_a4, hcm_a4, hel_a4⟩ := a_r4.use
  have hbx := ((Below.refl w.heap.size w).alloc (Nat.le_refl _) (.cells #[.int .i64 a.kind, .int .i64 a.n, .string a.t, .slice A_a3 a.keys.length c_a3, .slice A_a4 a.items.length c_a4] 31))
  have q_a := blk_cells (blk_new w #[.int .i64 a.kind, .int .i64 a.n, .string a.t, .slice A_a3 a.keys.length c_a3, .slice A_a4 a.items.length c_a4] 31)
  have hsz : a.t.size ≤ 9223372036854775807 := hf_a.2.2; clear hf_a hel_a3 hel_a4
  have hpu : Hid (partOK a = ((a.n == 0) && (a.t.toList.isEmpty && (((a.keys.length : Int) == 0) && ((a.items.length : Int) == 0))))) := by
    show _ = _; unfold partOK; rw [hk]; rfl
  have k0 : (a.kind == 0) = true := by rw [hk]; rfl
  clear hk
  cases h0 : ((a.keys.length : Int) == 0)
  · have hr : Hid (partOK a = false) := by show _ = _; rw [hpu.out, h0]; simp
    go_enter Tryz.func19, Tryz.ntmps19
    go_wp2_with fail
    have q_aF0 := Fw.cell (box_cell q_a 0 rfl)
    have q_aF1 := Fw.cell (box_cell q_a 1 rfl)
    have q_aF2 := Fw.cell (box_cell q_a 2 rfl)
    have q_aF3 := Fw.cell (box_cell q_a 3 rfl)
    have q_aF4 := Fw.cell (box_cell q_a 4 rfl)
    refine region_quiet (by kernel_rfl) (by kernel_rfl) ?_
    repeat (go_big_quiet_step (fail))
    refine wpQuiet_nil ?_; intro w1 hb1; replace q_a := box_on q_a rfl hb1; have hw1 := nxt hbx hb1; clear q_aF0 q_aF1 q_aF2 q_aF3 q_aF4
    go_wp2_with fail
    go_ret2
    exact ⟨by rw [hr.out]; rfl, hw1⟩
  cases h1 : ((a.items.length : Int) == 0)
  · have hr : Hid (partOK a = false) := by show _ = _; rw [hpu.out, h1, h0]; simp
    go_enter Tryz.func19, Tryz.ntmps19
    go_wp2_with fail
    have q_aF0 := Fw.cell (box_cell q_a 0 rfl)
    have q_aF1 := Fw.cell (box_cell q_a 1 rfl)
    have q_aF2 := Fw.cell (box_cell q_a 2 rfl)
    have q_aF3 := Fw.cell (box_cell q_a 3 rfl)
    have q_aF4 := Fw.cell (box_cell q_a 4 rfl)
    refine region_quiet (by kernel_rfl) (by kernel_rfl) ?_
    repeat (go_big_quiet_step (fail))
    refine wpQuiet_nil ?_; intro w1 hb1; replace q_a := box_on q_a rfl hb1; have hw1 := nxt hbx hb1; clear q_aF0 q_aF1 q_aF2 q_aF3 q_aF4
    go_wp2_with fail
    go_ret2
    exact ⟨by rw [hr.out]; rfl, hw1⟩
  cases h2 : (a.n == 0)
  · have hr : Hid (partOK a = false) := by show _ = _; rw [hpu.out, h2, h1, h0]; simp
    go_enter Tryz.func19, Tryz.ntmps19
    go_wp2_with fail
    have q_aF0 := Fw.cell (box_cell q_a 0 rfl)
    have q_aF1 := Fw.cell (box_cell q_a 1 rfl)
    have q_aF2 := Fw.cell (box_cell q_a 2 rfl)
    have q_aF3 := Fw.cell (box_cell q_a 3 rfl)
    have q_aF4 := Fw.cell (box_cell q_a 4 rfl)
    refine region_quiet (by kernel_rfl) (by kernel_rfl) ?_
    repeat (go_big_quiet_step (fail))
    refine wpQuiet_nil ?_; intro w1 hb1; replace q_a := box_on q_a rfl hb1; have hw1 := nxt hbx hb1; clear q_aF0 q_aF1 q_aF2 q_aF3 q_aF4
    go_wp2_with fail
    go_ret2
    exact ⟨by rw [hr.out]; rfl, hw1⟩
  cases h3 : (a.t.toList.isEmpty)
  · have hr : Hid (partOK a = false) := by show _ = _; rw [hpu.out, h3, h2, h1, h0]; simp
    go_enter Tryz.func19, Tryz.ntmps19
    go_wp2_with fail
    have q_aF0 := Fw.cell (box_cell q_a 0 rfl)
    have q_aF1 := Fw.cell (box_cell q_a 1 rfl)
    have q_aF2 := Fw.cell (box_cell q_a 2 rfl)
    have q_aF3 := Fw.cell (box_cell q_a 3 rfl)
    have q_aF4 := Fw.cell (box_cell q_a 4 rfl)
    refine region_quiet (by kernel_rfl) (by kernel_rfl) ?_
    repeat (go_big_quiet_step (fail))
    refine wpQuiet_nil ?_; intro w1 hb1; replace q_a := box_on q_a rfl hb1; have hw1 := nxt hbx hb1; clear q_aF0 q_aF1 q_aF2 q_aF3 q_aF4
    go_wp2_with fail
    go_ret2
    exact ⟨by rw [hr.out]; rfl, hw1⟩
  have hr : Hid (partOK a = true) := by show _ = _; rw [hpu.out, h3, h2, h1, h0]; rfl
  go_enter Tryz.func19, Tryz.ntmps19
  go_wp2_with fail
  have q_aF0 := Fw.cell (box_cell q_a 0 rfl)
  have q_aF1 := Fw.cell (box_cell q_a 1 rfl)
  have q_aF2 := Fw.cell (box_cell q_a 2 rfl)
  have q_aF3 := Fw.cell (box_cell q_a 3 rfl)
  have q_aF4 := Fw.cell (box_cell q_a 4 rfl)
  refine region_quiet (by kernel_rfl) (by kernel_rfl) ?_
  repeat (go_big_quiet_step (fail))
  refine wpQuiet_nil ?_; intro w1 hb1; replace q_a := box_on q_a rfl hb1; have hw1 := nxt hbx hb1; clear q_aF0 q_aF1 q_aF2 q_aF3 q_aF4
  go_wp2_with fail
  go_ret2
  exact ⟨by rw [hr.out]; rfl, hw1⟩
set_option maxHeartbeats 8000000 in
theorem spec_l01OK_k1 {w : World}  {bs_a : List Nat} {cs_a : List Value} {a : Json} (H_a : JsonR w bs_a cs_a a) (dv : Int) (hk : a.kind = 1) (hd0 : (dv == 0) = false) :
    Calls Tryz.prog 19 #[.agg cs_a.toArray, .int .i64 dv] w (fun e w' => e = .returned (.tuple #[.int .i64 1, .bool (partOK a)]) ∧ Below w.heap.size w w') := by
  have H0_a := H_a
  obtain ⟨a_v3, a_b3, a_v4, a_b4, rfl, rfl, hf_a, a_r3, a_r4⟩ := H_a.open
  obtain ⟨A_a3, c_a3, rfl, hlc_a3, hcm_a3, hel_a3⟩ := a_r3.use
  obtain ⟨A_a4, c_a4, rfl, hlc_a4, hcm_a4, hel_a4⟩ := a_r4.use
  have hbx := ((Below.refl w.heap.size w).alloc (Nat.le_refl _) (.cells #[.int .i64 a.kind, .int .i64 a.n, .string a.t, .slice A_a3 a.keys.length c_a3, .slice A_a4 a.items.length c_a4] 31))
  have q_a := blk_cells (blk_new w #[.int .i64 a.kind, .int .i64 a.n, .string a.t, .slice A_a3 a.keys.length c_a3, .slice A_a4 a.items.length c_a4] 31)
  have hsz : a.t.size ≤ 9223372036854775807 := hf_a.2.2; clear hf_a hel_a3 hel_a4
  have hpu : Hid (partOK a = (inB a.n 0 1 && (a.t.toList.isEmpty && (((a.keys.length : Int) == 0) && ((a.items.length : Int) == 0))))) := by
    show _ = _; unfold partOK; rw [hk]; rfl
  have k0 : (a.kind == 0) = false := by rw [hk]; rfl
  have k1 : (a.kind == 1) = true := by rw [hk]; rfl
  clear hk
  cases h0 : ((a.keys.length : Int) == 0)
  · have hr : Hid (partOK a = false) := by show _ = _; rw [hpu.out, h0]; simp
    go_enter Tryz.func19, Tryz.ntmps19
    go_wp2_with fail
    have A0 := hide (fun (i : Fw (w.alloc (.cells #[.int .i64 a.kind, .int .i64 a.n, .string a.t, .slice A_a3 a.keys.length c_a3, .slice A_a4 a.items.length c_a4] 31))) => spec_l01In a.n 0 1 i.W)
    have q_aF0 := Fw.cell (box_cell q_a 0 rfl)
    have q_aF1 := Fw.cell (box_cell q_a 1 rfl)
    have q_aF2 := Fw.cell (box_cell q_a 2 rfl)
    have q_aF3 := Fw.cell (box_cell q_a 3 rfl)
    have q_aF4 := Fw.cell (box_cell q_a 4 rfl)
    refine region_quiet (by kernel_rfl) (by kernel_rfl) ?_
    repeat (go_big_quiet_step ((first | (go_at_call 26; exact quiet_of_eq (A0.out _)))))
    refine wpQuiet_nil ?_; intro w1 hb1; replace q_a := box_on q_a rfl hb1; have hw1 := nxt hbx hb1; clear q_aF0 q_aF1 q_aF2 q_aF3 q_aF4
    go_wp2_with fail
    go_ret2
    exact ⟨by rw [hr.out]; rfl, hw1⟩
  cases h1 : ((a.items.length : Int) == 0)
  · have hr : Hid (partOK a = false) := by show _ = _; rw [hpu.out, h1, h0]; simp
    go_enter Tryz.func19, Tryz.ntmps19
    go_wp2_with fail
    have A0 := hide (fun (i : Fw (w.alloc (.cells #[.int .i64 a.kind, .int .i64 a.n, .string a.t, .slice A_a3 a.keys.length c_a3, .slice A_a4 a.items.length c_a4] 31))) => spec_l01In a.n 0 1 i.W)
    have q_aF0 := Fw.cell (box_cell q_a 0 rfl)
    have q_aF1 := Fw.cell (box_cell q_a 1 rfl)
    have q_aF2 := Fw.cell (box_cell q_a 2 rfl)
    have q_aF3 := Fw.cell (box_cell q_a 3 rfl)
    have q_aF4 := Fw.cell (box_cell q_a 4 rfl)
    refine region_quiet (by kernel_rfl) (by kernel_rfl) ?_
    repeat (go_big_quiet_step ((first | (go_at_call 26; exact quiet_of_eq (A0.out _)))))
    refine wpQuiet_nil ?_; intro w1 hb1; replace q_a := box_on q_a rfl hb1; have hw1 := nxt hbx hb1; clear q_aF0 q_aF1 q_aF2 q_aF3 q_aF4
    go_wp2_with fail
    go_ret2
    exact ⟨by rw [hr.out]; rfl, hw1⟩
  cases h2 : (inB a.n 0 1)
  · have hr : Hid (partOK a = false) := by show _ = _; rw [hpu.out, h2, h1, h0]; simp
    go_enter Tryz.func19, Tryz.ntmps19
    go_wp2_with fail
    have A0 := hide (fun (i : Fw (w.alloc (.cells #[.int .i64 a.kind, .int .i64 a.n, .string a.t, .slice A_a3 a.keys.length c_a3, .slice A_a4 a.items.length c_a4] 31))) => spec_l01In a.n 0 1 i.W)
    rw [h2] at A0
    have q_aF0 := Fw.cell (box_cell q_a 0 rfl)
    have q_aF1 := Fw.cell (box_cell q_a 1 rfl)
    have q_aF2 := Fw.cell (box_cell q_a 2 rfl)
    have q_aF3 := Fw.cell (box_cell q_a 3 rfl)
    have q_aF4 := Fw.cell (box_cell q_a 4 rfl)
    refine region_quiet (by kernel_rfl) (by kernel_rfl) ?_
    repeat (go_big_quiet_step ((first | (go_at_call 26; exact quiet_of_eq (A0.out _)))))
    refine wpQuiet_nil ?_; intro w1 hb1; replace q_a := box_on q_a rfl hb1; have hw1 := nxt hbx hb1; clear q_aF0 q_aF1 q_aF2 q_aF3 q_aF4
    go_wp2_with fail
    go_ret2
    exact ⟨by rw [hr.out]; rfl, hw1⟩
  cases h3 : (a.t.toList.isEmpty)
  · have hr : Hid (partOK a = false) := by show _ = _; rw [hpu.out, h3, h2, h1, h0]; simp
    go_enter Tryz.func19, Tryz.ntmps19
    go_wp2_with fail
    have A0 := hide (fun (i : Fw (w.alloc (.cells #[.int .i64 a.kind, .int .i64 a.n, .string a.t, .slice A_a3 a.keys.length c_a3, .slice A_a4 a.items.length c_a4] 31))) => spec_l01In a.n 0 1 i.W)
    rw [h2] at A0
    have q_aF0 := Fw.cell (box_cell q_a 0 rfl)
    have q_aF1 := Fw.cell (box_cell q_a 1 rfl)
    have q_aF2 := Fw.cell (box_cell q_a 2 rfl)
    have q_aF3 := Fw.cell (box_cell q_a 3 rfl)
    have q_aF4 := Fw.cell (box_cell q_a 4 rfl)
    refine region_quiet (by kernel_rfl) (by kernel_rfl) ?_
    repeat (go_big_quiet_step ((first | (go_at_call 26; exact quiet_of_eq (A0.out _)))))
    refine wpQuiet_nil ?_; intro w1 hb1; replace q_a := box_on q_a rfl hb1; have hw1 := nxt hbx hb1; clear q_aF0 q_aF1 q_aF2 q_aF3 q_aF4
    go_wp2_with fail
    go_ret2
    exact ⟨by rw [hr.out]; rfl, hw1⟩
  have hr : Hid (partOK a = true) := by show _ = _; rw [hpu.out, h3, h2, h1, h0]; rfl
  go_enter Tryz.func19, Tryz.ntmps19
  go_wp2_with fail
  have A0 := hide (fun (i : Fw (w.alloc (.cells #[.int .i64 a.kind, .int .i64 a.n, .string a.t, .slice A_a3 a.keys.length c_a3, .slice A_a4 a.items.length c_a4] 31))) => spec_l01In a.n 0 1 i.W)
  rw [h2] at A0
  have q_aF0 := Fw.cell (box_cell q_a 0 rfl)
  have q_aF1 := Fw.cell (box_cell q_a 1 rfl)
  have q_aF2 := Fw.cell (box_cell q_a 2 rfl)
  have q_aF3 := Fw.cell (box_cell q_a 3 rfl)
  have q_aF4 := Fw.cell (box_cell q_a 4 rfl)
  refine region_quiet (by kernel_rfl) (by kernel_rfl) ?_
  repeat (go_big_quiet_step ((first | (go_at_call 26; exact quiet_of_eq (A0.out _)))))
  refine wpQuiet_nil ?_; intro w1 hb1; replace q_a := box_on q_a rfl hb1; have hw1 := nxt hbx hb1; clear q_aF0 q_aF1 q_aF2 q_aF3 q_aF4
  go_wp2_with fail
  go_ret2
  exact ⟨by rw [hr.out]; rfl, hw1⟩
set_option maxHeartbeats 8000000 in
theorem spec_l01OK_k2 {w : World}  {bs_a : List Nat} {cs_a : List Value} {a : Json} (H_a : JsonR w bs_a cs_a a) (dv : Int) (hk : a.kind = 2) (hd0 : (dv == 0) = false) :
    Calls Tryz.prog 19 #[.agg cs_a.toArray, .int .i64 dv] w (fun e w' => e = .returned (.tuple #[.int .i64 1, .bool (partOK a)]) ∧ Below w.heap.size w w') := by
  have H0_a := H_a
  obtain ⟨a_v3, a_b3, a_v4, a_b4, rfl, rfl, hf_a, a_r3, a_r4⟩ := H_a.open
  obtain ⟨A_a3, c_a3, rfl, hlc_a3, hcm_a3, hel_a3⟩ := a_r3.use
  obtain ⟨A_a4, c_a4, rfl, hlc_a4, hcm_a4, hel_a4⟩ := a_r4.use
  have hbx := ((Below.refl w.heap.size w).alloc (Nat.le_refl _) (.cells #[.int .i64 a.kind, .int .i64 a.n, .string a.t, .slice A_a3 a.keys.length c_a3, .slice A_a4 a.items.length c_a4] 31))
  have q_a := blk_cells (blk_new w #[.int .i64 a.kind, .int .i64 a.n, .string a.t, .slice A_a3 a.keys.length c_a3, .slice A_a4 a.items.length c_a4] 31)
  have hsz : a.t.size ≤ 9223372036854775807 := hf_a.2.2; clear hf_a hel_a3 hel_a4
  have hpu : Hid (partOK a = (inB a.n (-1000000000) 1000000000 && (a.t.toList.isEmpty && (((a.keys.length : Int) == 0) && ((a.items.length : Int) == 0))))) := by
    show _ = _; unfold partOK; rw [hk]; rfl
  have k0 : (a.kind == 0) = false := by rw [hk]; rfl
  have k1 : (a.kind == 1) = false := by rw [hk]; rfl
  have k2 : (a.kind == 2) = true := by rw [hk]; rfl
  clear hk
  cases h0 : ((a.keys.length : Int) == 0)
  · have hr : Hid (partOK a = false) := by show _ = _; rw [hpu.out, h0]; simp
    go_enter Tryz.func19, Tryz.ntmps19
    go_wp2_with fail
    have A0 := hide (fun (i : Fw (w.alloc (.cells #[.int .i64 a.kind, .int .i64 a.n, .string a.t, .slice A_a3 a.keys.length c_a3, .slice A_a4 a.items.length c_a4] 31))) => spec_l01In a.n (-1000000000) 1000000000 i.W)
    have q_aF0 := Fw.cell (box_cell q_a 0 rfl)
    have q_aF1 := Fw.cell (box_cell q_a 1 rfl)
    have q_aF2 := Fw.cell (box_cell q_a 2 rfl)
    have q_aF3 := Fw.cell (box_cell q_a 3 rfl)
    have q_aF4 := Fw.cell (box_cell q_a 4 rfl)
    refine region_quiet (by kernel_rfl) (by kernel_rfl) ?_
    repeat (go_big_quiet_step ((first | (go_at_call 26; exact quiet_of_eq (A0.out _)))))
    refine wpQuiet_nil ?_; intro w1 hb1; replace q_a := box_on q_a rfl hb1; have hw1 := nxt hbx hb1; clear q_aF0 q_aF1 q_aF2 q_aF3 q_aF4
    go_wp2_with fail
    go_ret2
    exact ⟨by rw [hr.out]; rfl, hw1⟩
  cases h1 : ((a.items.length : Int) == 0)
  · have hr : Hid (partOK a = false) := by show _ = _; rw [hpu.out, h1, h0]; simp
    go_enter Tryz.func19, Tryz.ntmps19
    go_wp2_with fail
    have A0 := hide (fun (i : Fw (w.alloc (.cells #[.int .i64 a.kind, .int .i64 a.n, .string a.t, .slice A_a3 a.keys.length c_a3, .slice A_a4 a.items.length c_a4] 31))) => spec_l01In a.n (-1000000000) 1000000000 i.W)
    have q_aF0 := Fw.cell (box_cell q_a 0 rfl)
    have q_aF1 := Fw.cell (box_cell q_a 1 rfl)
    have q_aF2 := Fw.cell (box_cell q_a 2 rfl)
    have q_aF3 := Fw.cell (box_cell q_a 3 rfl)
    have q_aF4 := Fw.cell (box_cell q_a 4 rfl)
    refine region_quiet (by kernel_rfl) (by kernel_rfl) ?_
    repeat (go_big_quiet_step ((first | (go_at_call 26; exact quiet_of_eq (A0.out _)))))
    refine wpQuiet_nil ?_; intro w1 hb1; replace q_a := box_on q_a rfl hb1; have hw1 := nxt hbx hb1; clear q_aF0 q_aF1 q_aF2 q_aF3 q_aF4
    go_wp2_with fail
    go_ret2
    exact ⟨by rw [hr.out]; rfl, hw1⟩
  cases h2 : (inB a.n (-1000000000) 1000000000)
  · have hr : Hid (partOK a = false) := by show _ = _; rw [hpu.out, h2, h1, h0]; simp
    go_enter Tryz.func19, Tryz.ntmps19
    go_wp2_with fail
    have A0 := hide (fun (i : Fw (w.alloc (.cells #[.int .i64 a.kind, .int .i64 a.n, .string a.t, .slice A_a3 a.keys.length c_a3, .slice A_a4 a.items.length c_a4] 31))) => spec_l01In a.n (-1000000000) 1000000000 i.W)
    rw [h2] at A0
    have q_aF0 := Fw.cell (box_cell q_a 0 rfl)
    have q_aF1 := Fw.cell (box_cell q_a 1 rfl)
    have q_aF2 := Fw.cell (box_cell q_a 2 rfl)
    have q_aF3 := Fw.cell (box_cell q_a 3 rfl)
    have q_aF4 := Fw.cell (box_cell q_a 4 rfl)
    refine region_quiet (by kernel_rfl) (by kernel_rfl) ?_
    repeat (go_big_quiet_step ((first | (go_at_call 26; exact quiet_of_eq (A0.out _)))))
    refine wpQuiet_nil ?_; intro w1 hb1; replace q_a := box_on q_a rfl hb1; have hw1 := nxt hbx hb1; clear q_aF0 q_aF1 q_aF2 q_aF3 q_aF4
    go_wp2_with fail
    go_ret2
    exact ⟨by rw [hr.out]; rfl, hw1⟩
  cases h3 : (a.t.toList.isEmpty)
  · have hr : Hid (partOK a = false) := by show _ = _; rw [hpu.out, h3, h2, h1, h0]; simp
    go_enter Tryz.func19, Tryz.ntmps19
    go_wp2_with fail
    have A0 := hide (fun (i : Fw (w.alloc (.cells #[.int .i64 a.kind, .int .i64 a.n, .string a.t, .slice A_a3 a.keys.length c_a3, .slice A_a4 a.items.length c_a4] 31))) => spec_l01In a.n (-1000000000) 1000000000 i.W)
    rw [h2] at A0
    have q_aF0 := Fw.cell (box_cell q_a 0 rfl)
    have q_aF1 := Fw.cell (box_cell q_a 1 rfl)
    have q_aF2 := Fw.cell (box_cell q_a 2 rfl)
    have q_aF3 := Fw.cell (box_cell q_a 3 rfl)
    have q_aF4 := Fw.cell (box_cell q_a 4 rfl)
    refine region_quiet (by kernel_rfl) (by kernel_rfl) ?_
    repeat (go_big_quiet_step ((first | (go_at_call 26; exact quiet_of_eq (A0.out _)))))
    refine wpQuiet_nil ?_; intro w1 hb1; replace q_a := box_on q_a rfl hb1; have hw1 := nxt hbx hb1; clear q_aF0 q_aF1 q_aF2 q_aF3 q_aF4
    go_wp2_with fail
    go_ret2
    exact ⟨by rw [hr.out]; rfl, hw1⟩
  have hr : Hid (partOK a = true) := by show _ = _; rw [hpu.out, h3, h2, h1, h0]; rfl
  go_enter Tryz.func19, Tryz.ntmps19
  go_wp2_with fail
  have A0 := hide (fun (i : Fw (w.alloc (.cells #[.int .i64 a.kind, .int .i64 a.n, .string a.t, .slice A_a3 a.keys.length c_a3, .slice A_a4 a.items.length c_a4] 31))) => spec_l01In a.n (-1000000000) 1000000000 i.W)
  rw [h2] at A0
  have q_aF0 := Fw.cell (box_cell q_a 0 rfl)
  have q_aF1 := Fw.cell (box_cell q_a 1 rfl)
  have q_aF2 := Fw.cell (box_cell q_a 2 rfl)
  have q_aF3 := Fw.cell (box_cell q_a 3 rfl)
  have q_aF4 := Fw.cell (box_cell q_a 4 rfl)
  refine region_quiet (by kernel_rfl) (by kernel_rfl) ?_
  repeat (go_big_quiet_step ((first | (go_at_call 26; exact quiet_of_eq (A0.out _)))))
  refine wpQuiet_nil ?_; intro w1 hb1; replace q_a := box_on q_a rfl hb1; have hw1 := nxt hbx hb1; clear q_aF0 q_aF1 q_aF2 q_aF3 q_aF4
  go_wp2_with fail
  go_ret2
  exact ⟨by rw [hr.out]; rfl, hw1⟩
set_option maxHeartbeats 8000000 in
theorem spec_l01OK_k3 {w : World}  {bs_a : List Nat} {cs_a : List Value} {a : Json} (H_a : JsonR w bs_a cs_a a) (dv : Int) (hk : a.kind = 3) (hd0 : (dv == 0) = false) :
    Calls Tryz.prog 19 #[.agg cs_a.toArray, .int .i64 dv] w (fun e w' => e = .returned (.tuple #[.int .i64 1, .bool (partOK a)]) ∧ Below w.heap.size w w') := by
  have H0_a := H_a
  obtain ⟨a_v3, a_b3, a_v4, a_b4, rfl, rfl, hf_a, a_r3, a_r4⟩ := H_a.open
  obtain ⟨A_a3, c_a3, rfl, hlc_a3, hcm_a3, hel_a3⟩ := a_r3.use
  obtain ⟨A_a4, c_a4, rfl, hlc_a4, hcm_a4, hel_a4⟩ := a_r4.use
  have hbx := ((Below.refl w.heap.size w).alloc (Nat.le_refl _) (.cells #[.int .i64 a.kind, .int .i64 a.n, .string a.t, .slice A_a3 a.keys.length c_a3, .slice A_a4 a.items.length c_a4] 31))
  have q_a := blk_cells (blk_new w #[.int .i64 a.kind, .int .i64 a.n, .string a.t, .slice A_a3 a.keys.length c_a3, .slice A_a4 a.items.length c_a4] 31)
  have hsz : a.t.size ≤ 9223372036854775807 := hf_a.2.2; clear hf_a hel_a3 hel_a4
  have hpu : Hid (partOK a = ((a.n == 0) && (plainB a.t && (((a.keys.length : Int) == 0) && ((a.items.length : Int) == 0))))) := by
    show _ = _; unfold partOK; rw [hk]; rfl
  have k0 : (a.kind == 0) = false := by rw [hk]; rfl
  have k1 : (a.kind == 1) = false := by rw [hk]; rfl
  have k2 : (a.kind == 2) = false := by rw [hk]; rfl
  have k3 : (a.kind == 3) = true := by rw [hk]; rfl
  clear hk
  cases h0 : ((a.keys.length : Int) == 0)
  · have hr : Hid (partOK a = false) := by show _ = _; rw [hpu.out, h0]; simp
    go_enter Tryz.func19, Tryz.ntmps19
    go_wp2_with fail
    go_ret2
    exact ⟨by rw [hr.out]; rfl, hbx⟩
  cases h1 : ((a.items.length : Int) == 0)
  · have hr : Hid (partOK a = false) := by show _ = _; rw [hpu.out, h1, h0]; simp
    go_enter Tryz.func19, Tryz.ntmps19
    go_wp2_with fail
    go_ret2
    exact ⟨by rw [hr.out]; rfl, hbx⟩
  cases h2 : (a.n == 0)
  · have hr : Hid (partOK a = false) := by show _ = _; rw [hpu.out, h2, h1, h0]; simp
    go_enter Tryz.func19, Tryz.ntmps19
    go_wp2_with fail
    go_ret2
    exact ⟨by rw [hr.out]; rfl, hbx⟩
  cases h3 : (plainB a.t)
  · have hr : Hid (partOK a = false) := by show _ = _; rw [hpu.out, h3, h2, h1, h0]; simp
    go_enter Tryz.func19, Tryz.ntmps19
    go_wp2_with fail
    refine (spec_l01Text _ _ hsz).mono ?_; rintro e w9 ⟨rfl, rfl⟩
    go_wp2_with fail
    go_ret2
    exact ⟨by rw [hr.out]; rfl, hbx⟩
  have hr : Hid (partOK a = true) := by show _ = _; rw [hpu.out, h3, h2, h1, h0]; rfl
  go_enter Tryz.func19, Tryz.ntmps19
  go_wp2_with fail
  refine (spec_l01Text _ _ hsz).mono ?_; rintro e w9 ⟨rfl, rfl⟩
  go_wp2_with fail
  go_ret2
  exact ⟨by rw [hr.out]; rfl, hbx⟩
set_option maxHeartbeats 8000000 in
theorem spec_l01OK_x {w : World}  {bs_a : List Nat} {cs_a : List Value} {a : Json} (H_a : JsonR w bs_a cs_a a) (dv : Int) (hk : a.kind < 0 ∨ 5 < a.kind) (hd0 : (dv == 0) = false) :
    Calls Tryz.prog 19 #[.agg cs_a.toArray, .int .i64 dv] w (fun e w' => e = .returned (.tuple #[.int .i64 0, .bool false]) ∧ Below w.heap.size w w') := by
  have H0_a := H_a
  obtain ⟨a_v3, a_b3, a_v4, a_b4, rfl, rfl, hf_a, a_r3, a_r4⟩ := H_a.open
  obtain ⟨A_a3, c_a3, rfl, hlc_a3, hcm_a3, hel_a3⟩ := a_r3.use
  obtain ⟨A_a4, c_a4, rfl, hlc_a4, hcm_a4, hel_a4⟩ := a_r4.use
  have hbx := ((Below.refl w.heap.size w).alloc (Nat.le_refl _) (.cells #[.int .i64 a.kind, .int .i64 a.n, .string a.t, .slice A_a3 a.keys.length c_a3, .slice A_a4 a.items.length c_a4] 31))
  have q_a := blk_cells (blk_new w #[.int .i64 a.kind, .int .i64 a.n, .string a.t, .slice A_a3 a.keys.length c_a3, .slice A_a4 a.items.length c_a4] 31)
  clear hf_a hel_a3 hel_a4
  have k0 : (a.kind == 0) = false := by simp; omega
  have k1 : (a.kind == 1) = false := by simp; omega
  have k2 : (a.kind == 2) = false := by simp; omega
  have k3 : (a.kind == 3) = false := by simp; omega
  have k4 : (a.kind != 4) = true := by simp; omega
  have k5 : (a.kind != 5) = true := by simp; omega
  clear hk
  cases kz : ((a.keys.length : Int) == 0)
  · go_enter Tryz.func19, Tryz.ntmps19
    go_wp2_with fail
    go_ret2
    exact ⟨rfl, hbx⟩
  · go_enter Tryz.func19, Tryz.ntmps19
    go_wp2_with fail
    go_ret2
    exact ⟨rfl, hbx⟩
set_option maxHeartbeats 8000000 in
theorem spec_l01OK_n {w : World}  {bs_a : List Nat} {cs_a : List Value} {a : Json} (H_a : JsonR w bs_a cs_a a) (dv : Int) (hk : a.kind = 4 ∨ a.kind = 5) (hb : (a.n != 0) = true) (hd0 : (dv == 0) = false) :
    Calls Tryz.prog 19 #[.agg cs_a.toArray, .int .i64 dv] w (fun e w' => e = .returned (.tuple #[.int .i64 0, .bool false]) ∧ Below w.heap.size w w') := by
  have H0_a := H_a
  obtain ⟨a_v3, a_b3, a_v4, a_b4, rfl, rfl, hf_a, a_r3, a_r4⟩ := H_a.open
  obtain ⟨A_a3, c_a3, rfl, hlc_a3, hcm_a3, hel_a3⟩ := a_r3.use
  obtain ⟨A_a4, c_a4, rfl, hlc_a4, hcm_a4, hel_a4⟩ := a_r4.use
  have hbx := ((Below.refl w.heap.size w).alloc (Nat.le_refl _) (.cells #[.int .i64 a.kind, .int .i64 a.n, .string a.t, .slice A_a3 a.keys.length c_a3, .slice A_a4 a.items.length c_a4] 31))
  have q_a := blk_cells (blk_new w #[.int .i64 a.kind, .int .i64 a.n, .string a.t, .slice A_a3 a.keys.length c_a3, .slice A_a4 a.items.length c_a4] 31)
  clear hf_a hel_a3 hel_a4
  have k0 : (a.kind == 0) = false := by simp; omega
  have k1 : (a.kind == 1) = false := by simp; omega
  have k2 : (a.kind == 2) = false := by simp; omega
  have k3 : (a.kind == 3) = false := by simp; omega
  rcases hk with hk | hk
  · have k4 : (a.kind != 4) = false := by rw [hk]; rfl
    clear hk
    cases kz : ((a.keys.length : Int) == 0)
    · go_enter Tryz.func19, Tryz.ntmps19
      go_wp2_with fail
      go_ret2
      exact ⟨rfl, hbx⟩
    · go_enter Tryz.func19, Tryz.ntmps19
      go_wp2_with fail
      go_ret2
      exact ⟨rfl, hbx⟩
  · have k4 : (a.kind != 4) = true := by rw [hk]; rfl
    have k5 : (a.kind != 5) = false := by rw [hk]; rfl
    clear hk
    cases kz : ((a.keys.length : Int) == 0)
    · go_enter Tryz.func19, Tryz.ntmps19
      go_wp2_with fail
      go_ret2
      exact ⟨rfl, hbx⟩
    · go_enter Tryz.func19, Tryz.ntmps19
      go_wp2_with fail
      go_ret2
      exact ⟨rfl, hbx⟩
set_option maxHeartbeats 8000000 in
theorem spec_l01OK_t {w : World}  {bs_a : List Nat} {cs_a : List Value} {a : Json} (H_a : JsonR w bs_a cs_a a) (dv : Int) (hk : a.kind = 4 ∨ a.kind = 5) (hn : (a.n != 0) = false) (hb : a.t.toList.isEmpty = false) (hd0 : (dv == 0) = false) :
    Calls Tryz.prog 19 #[.agg cs_a.toArray, .int .i64 dv] w (fun e w' => e = .returned (.tuple #[.int .i64 0, .bool false]) ∧ Below w.heap.size w w') := by
  have H0_a := H_a
  obtain ⟨a_v3, a_b3, a_v4, a_b4, rfl, rfl, hf_a, a_r3, a_r4⟩ := H_a.open
  obtain ⟨A_a3, c_a3, rfl, hlc_a3, hcm_a3, hel_a3⟩ := a_r3.use
  obtain ⟨A_a4, c_a4, rfl, hlc_a4, hcm_a4, hel_a4⟩ := a_r4.use
  have hbx := ((Below.refl w.heap.size w).alloc (Nat.le_refl _) (.cells #[.int .i64 a.kind, .int .i64 a.n, .string a.t, .slice A_a3 a.keys.length c_a3, .slice A_a4 a.items.length c_a4] 31))
  have q_a := blk_cells (blk_new w #[.int .i64 a.kind, .int .i64 a.n, .string a.t, .slice A_a3 a.keys.length c_a3, .slice A_a4 a.items.length c_a4] 31)
  clear hf_a hel_a3 hel_a4
  have k0 : (a.kind == 0) = false := by simp; omega
  have k1 : (a.kind == 1) = false := by simp; omega
  have k2 : (a.kind == 2) = false := by simp; omega
  have k3 : (a.kind == 3) = false := by simp; omega
  rcases hk with hk | hk
  · have k4 : (a.kind != 4) = false := by rw [hk]; rfl
    clear hk
    cases kz : ((a.keys.length : Int) == 0)
    · go_enter Tryz.func19, Tryz.ntmps19
      go_wp2_with fail
      go_ret2
      exact ⟨rfl, hbx⟩
    · go_enter Tryz.func19, Tryz.ntmps19
      go_wp2_with fail
      go_ret2
      exact ⟨rfl, hbx⟩
  · have k4 : (a.kind != 4) = true := by rw [hk]; rfl
    have k5 : (a.kind != 5) = false := by rw [hk]; rfl
    clear hk
    cases kz : ((a.keys.length : Int) == 0)
    · go_enter Tryz.func19, Tryz.ntmps19
      go_wp2_with fail
      go_ret2
      exact ⟨rfl, hbx⟩
    · go_enter Tryz.func19, Tryz.ntmps19
      go_wp2_with fail
      go_ret2
      exact ⟨rfl, hbx⟩
set_option maxHeartbeats 8000000 in
theorem spec_l01OK_k {w : World}  {bs_a : List Nat} {cs_a : List Value} {a : Json} (H_a : JsonR w bs_a cs_a a) (dv : Int) (hk : a.kind = 4) (hn : (a.n != 0) = false) (ht : a.t.toList.isEmpty = true) (hb : (a.keys.length : Int) ≠ 0) (hd0 : (dv == 0) = false) :
    Calls Tryz.prog 19 #[.agg cs_a.toArray, .int .i64 dv] w (fun e w' => e = .returned (.tuple #[.int .i64 0, .bool false]) ∧ Below w.heap.size w w') := by
  have H0_a := H_a
  obtain ⟨a_v3, a_b3, a_v4, a_b4, rfl, rfl, hf_a, a_r3, a_r4⟩ := H_a.open
  obtain ⟨A_a3, c_a3, rfl, hlc_a3, hcm_a3, hel_a3⟩ := a_r3.use
  obtain ⟨A_a4, c_a4, rfl, hlc_a4, hcm_a4, hel_a4⟩ := a_r4.use
  have hbx := ((Below.refl w.heap.size w).alloc (Nat.le_refl _) (.cells #[.int .i64 a.kind, .int .i64 a.n, .string a.t, .slice A_a3 a.keys.length c_a3, .slice A_a4 a.items.length c_a4] 31))
  have q_a := blk_cells (blk_new w #[.int .i64 a.kind, .int .i64 a.n, .string a.t, .slice A_a3 a.keys.length c_a3, .slice A_a4 a.items.length c_a4] 31)
  clear hf_a hel_a3 hel_a4
  have k0 : (a.kind == 0) = false := by simp; omega
  have k1 : (a.kind == 1) = false := by simp; omega
  have k2 : (a.kind == 2) = false := by simp; omega
  have k3 : (a.kind == 3) = false := by simp; omega
  have k4 : (a.kind != 4) = false := by rw [hk]; rfl
  have e4 : (a.kind == 4) = true := by rw [hk]; rfl
  have hq : decide ((0 : Int) < (a.keys.length : Int)) = true := decide_eq_true (by omega)
  have hq2 : decide (0 < a.keys.length) = true := decide_eq_true (by omega)
  have kz : ((a.keys.length : Int) == 0) = false := by simpa using hb
  clear hk hb
  go_enter Tryz.func19, Tryz.ntmps19
  go_wp2_with fail
  go_ret2
  exact ⟨rfl, hbx⟩
set_option maxHeartbeats 8000000 in
theorem spec_l01OK_l {w : World}  {bs_a : List Nat} {cs_a : List Value} {a : Json} (H_a : JsonR w bs_a cs_a a) (dv : Int) (hk : a.kind = 5) (hn : (a.n != 0) = false) (ht : a.t.toList.isEmpty = true) (hb : (a.keys.length : Int) ≠ a.items.length) (hd0 : (dv == 0) = false) :
    Calls Tryz.prog 19 #[.agg cs_a.toArray, .int .i64 dv] w (fun e w' => e = .returned (.tuple #[.int .i64 0, .bool false]) ∧ Below w.heap.size w w') := by
  have H0_a := H_a
  obtain ⟨a_v3, a_b3, a_v4, a_b4, rfl, rfl, hf_a, a_r3, a_r4⟩ := H_a.open
  obtain ⟨A_a3, c_a3, rfl, hlc_a3, hcm_a3, hel_a3⟩ := a_r3.use
  obtain ⟨A_a4, c_a4, rfl, hlc_a4, hcm_a4, hel_a4⟩ := a_r4.use
  have hbx := ((Below.refl w.heap.size w).alloc (Nat.le_refl _) (.cells #[.int .i64 a.kind, .int .i64 a.n, .string a.t, .slice A_a3 a.keys.length c_a3, .slice A_a4 a.items.length c_a4] 31))
  have q_a := blk_cells (blk_new w #[.int .i64 a.kind, .int .i64 a.n, .string a.t, .slice A_a3 a.keys.length c_a3, .slice A_a4 a.items.length c_a4] 31)
  clear hf_a hel_a3 hel_a4
  have k0 : (a.kind == 0) = false := by simp; omega
  have k1 : (a.kind == 1) = false := by simp; omega
  have k2 : (a.kind == 2) = false := by simp; omega
  have k3 : (a.kind == 3) = false := by simp; omega
  have k4 : (a.kind != 4) = true := by rw [hk]; rfl
  have k5 : (a.kind != 5) = false := by rw [hk]; rfl
  have e4 : (a.kind == 4) = false := by rw [hk]; rfl
  have e5 : (a.kind == 5) = true := by rw [hk]; rfl
  have hq : ((a.keys.length : Int) != (a.items.length : Int)) = true := by simpa using hb
  clear hk hb
  cases kz : ((a.keys.length : Int) == 0)
  · go_enter Tryz.func19, Tryz.ntmps19
    go_wp2_with fail
    go_ret2
    exact ⟨rfl, hbx⟩
  · go_enter Tryz.func19, Tryz.ntmps19
    go_wp2_with fail
    go_ret2
    exact ⟨rfl, hbx⟩
set_option maxHeartbeats 16000000 in
theorem spec_l01OK_l4 {w : World} {d : Nat} (IH : SP d) {bs_a : List Nat} {cs_a : List Value} {a : Json} (H_a : JsonR w bs_a cs_a a) (dv : Int) (hk : a.kind = 4) (hn : (a.n == 0) = true) (ht : a.t.toList.isEmpty = true) (hb : (a.keys.length : Int) = 0) (hd : dv = ((d + 1 : Nat) : Int)) (h12 : d + 1 ≤ 12) :
    Calls Tryz.prog 19 #[.agg cs_a.toArray, .int .i64 dv] w (fun e w' => SPost (d + 1) a e ∧ Below w.heap.size w w') := by
  have H0_a := H_a
  obtain ⟨a_v3, a_b3, a_v4, a_b4, rfl, rfl, hf_a, a_r3, a_r4⟩ := H_a.open
  obtain ⟨A_a3, c_a3, rfl, hlc_a3, hcm_a3, hel_a3⟩ := a_r3.use
  obtain ⟨A_a4, c_a4, rfl, hlc_a4, hcm_a4, hel_a4⟩ := a_r4.use
  have hbx := ((Below.refl w.heap.size w).alloc (Nat.le_refl _) (.cells #[.int .i64 a.kind, .int .i64 a.n, .string a.t, .slice A_a3 a.keys.length c_a3, .slice A_a4 a.items.length c_a4] 31))
  have q_a := blk_cells (blk_new w #[.int .i64 a.kind, .int .i64 a.n, .string a.t, .slice A_a3 a.keys.length c_a3, .slice A_a4 a.items.length c_a4] 31)
  have hsu := hide (fitsJ_succ d a 400); have hcs := hide (show cnt (d + 1) a = 1 + (a.items.map (cnt d)).sum from rfl)
  have hn0 : (a.n != 0) = false := by simpa using hn
  have k0 : (a.kind == 0) = false := by rw [hk]; rfl
  have k1 : (a.kind == 1) = false := by rw [hk]; rfl
  have k2 : (a.kind == 2) = false := by rw [hk]; rfl
  have k3 : (a.kind == 3) = false := by rw [hk]; rfl
  have hd0 : (dv == 0) = false := by simp; omega
  have hdv := hide (show dv - 1 = (d : Int) by omega); have hdb : 1 ≤ dv ∧ dv ≤ 13 := (by omega)
  have hd12 := hide (show d ≤ 12 by omega)
  have hpu : Hid (partOK a = true) := by show _ = _; unfold partOK; rw [hk, hn, ht, hb]; rfl
  have k4 : (a.kind != 4) = false := by rw [hk]; rfl
  have e4 : (a.kind == 4) = true := by rw [hk]; rfl
  have e5 : (a.kind == 5) = false := by rw [hk]; rfl
  have hq : decide ((0 : Int) < (a.keys.length : Int)) = false := decide_eq_false (by omega)
  have hq2 : decide (0 < a.keys.length) = false := decide_eq_false (by omega)
  have kz : ((a.keys.length : Int) == 0) = true := by rw [hb]; rfl
  clear hk hb hd h12 hn hf_a
  go_enter Tryz.func19, Tryz.ntmps19
  go_wp2_with fail
  go_loopw [7, 8] (fun o i wr => ∃ k : Nat, k ≤ a.items.length ∧ i = .int .i64 k ∧ o = .int .i64 (1 + (psum (cnt d) a.items k : Nat)) ∧ Hid ((∀ j (hj : j < a.items.length), j < k → goodJ d a.items[j] = true) ∧ ((psum (cnt d) a.items k : Nat) : Int) ≤ 399) ∧ Below (World.heap ((w.alloc (.cells #[.int .i64 a.kind, .int .i64 a.n, .string a.t, .slice A_a3 a.keys.length c_a3, .slice A_a4 a.items.length c_a4] 31)))).size ((w.alloc (.cells #[.int .i64 a.kind, .int .i64 a.n, .string a.t, .slice A_a3 a.keys.length c_a3, .slice A_a4 a.items.length c_a4] 31))) wr) (fun _ i _ => a.items.length - (intOf i).toNat)
  case atStart => exact ⟨0, Nat.zero_le _, rfl, by rw [psum_zero]; rfl, ⟨all_zero, by rw [psum_zero]; decide⟩, Below.refl _ _⟩
  case round =>
    obtain ⟨k1, hk1, rfl, rfl, hn1_, hb1001⟩ := hrel
    obtain ⟨wl1, rfl⟩ : ∃ w' : World, w' = wr := ⟨_, rfl⟩
    replace q_a := box_on q_a rfl hb1001
    have hwl1 := nxt hbx hb1001
    by_cases hlt1 : k1 < a.items.length
    · go_wp2_with fail
      have q_aF0 := Fw.cell (box_cell q_a 0 rfl)
      have q_aF1 := Fw.cell (box_cell q_a 1 rfl)
      have q_aF2 := Fw.cell (box_cell q_a 2 rfl)
      have q_aF3 := Fw.cell (box_cell q_a 3 rfl)
      have q_aF4 := Fw.cell (box_cell q_a 4 rfl)
      refine region_quiet (by kernel_rfl) (by kernel_rfl) ?_
      repeat (go_big_quiet_step (fail))
      refine wpQuiet_nil ?_; intro w1 hb1; replace q_a := box_on q_a rfl hb1; have hw1 := nxt hwl1 hb1; have hl0_1 := nxt hb1001 hb1; clear q_aF0 q_aF1 q_aF2 q_aF3 q_aF4
      go_wp2_with fail
      obtain ⟨gb, go, gbk, ges, rfl, ghbl, ghcl, ghcell, gR, ghbk⟩ := hel_a4 k1 hlt1
      have gR0 := gR
      obtain ⟨gv3, gb3, gv4, gb4, _, ghes, ghf, gr3, gr4⟩ := gR.open
      subst ghes
      obtain ⟨gA3, gc3, rfl, ghlc3, ghcm3, ghel3⟩ := gr3.use
      obtain ⟨gA4, gc4, rfl, ghlc4, ghcm4, ghel4⟩ := gr4.use
      have g_0 := (hw1.cell (p := ⟨gb, _, none⟩) ghbl).trans (ghcell 0 _ rfl)
      have g_1 := (hw1.cell (p := ⟨gb, _, none⟩) ghbl).trans (ghcell 1 _ rfl)
      have g_2 := (hw1.cell (p := ⟨gb, _, none⟩) ghbl).trans (ghcell 2 _ rfl)
      have g_3 := (hw1.cell (p := ⟨gb, _, none⟩) ghbl).trans (ghcell 3 _ rfl)
      have g_4 := (hw1.cell (p := ⟨gb, _, none⟩) ghbl).trans (ghcell 4 _ rfl)
      simp only [Nat.add_zero] at g_0 g_1 g_2 g_3 g_4
      clear ghcell ghcl
      clear hel_a4
      have hinv := hide hn1_.out; have hps := hide (psum_succ (cnt d) a.items k1 hlt1)
      have hpb : 0 ≤ ((psum (cnt d) a.items k1 : Nat) : Int) ∧ ((psum (cnt d) a.items k1 : Nat) : Int) ≤ 399 := ⟨by omega, hn1_.out.2⟩
      have hcall := IH (dv := dv - 1) (JsonR.good.nxt hw1 gR0) hdv.out hd12.out
      cases hq1 : fitsJ d a.items[k1] 400
      · have hof : Hid (allFit (goodJ d) (cnt d) a.items 399 = false) := by show _ = _; exact allFit_no hlt1 (one_no hq1 (by omega))
        have HC := hide (hcall.mono fun e w' ⟨h, hb⟩ => (⟨h.no hq1, hb⟩ : NPost e ∧ _)); clear hq1 hcall
        go_wp2_with fail
        (first | (refine HC.out.mono ?_) | (go_simp; go_wp2_with fail; refine HC.out.mono ?_)); rintro e w9 ⟨⟨z, rfl, hz0, hz1⟩, hb9⟩; clear HC; replace q_a := box_on q_a rfl hb9; have hw9 := nxt hw1 hb9
        go_wp2_with fail
        go_ret2
        exact ⟨bad_post (by rw [hsu.out]; show (_ && allFit (goodJ d) (cnt d) a.items 399) = false; rw [hof.out, Bool.and_false]), hw9⟩
      have hgc : goodJ d a.items[k1] = true ∧ ((cnt d a.items[k1] : Nat) : Int) ≤ 400 := by unfold fitsJ at hq1; rw [Bool.and_eq_true] at hq1; exact ⟨hq1.1, of_decide_eq_true hq1.2⟩
      have HC := hide (hcall.mono fun e w' ⟨h, hb⟩ => (⟨h.yes hq1, hb⟩ : YPost _ e ∧ _)); clear hq1 hcall; have hgd := hide hgc.1; have hcb := hgc.2; clear hgc; have hcb0 : 0 ≤ ((cnt d a.items[k1] : Nat) : Int) := by omega
      by_cases hmn : (400 : Int) < 1 + ((psum (cnt d) a.items k1 : Nat) : Int) + ((cnt d a.items[k1] : Nat) : Int)
      · have hof : Hid (allFit (goodJ d) (cnt d) a.items 399 = false) := by show _ = _; exact allFit_no hlt1 (by unfold oneFit; rw [decide_eq_false (by omega)]; simp)
        have hmd : decide ((400 : Int) < 1 + ((psum (cnt d) a.items k1 : Nat) : Int) + ((cnt d a.items[k1] : Nat) : Int)) = true := decide_eq_true hmn
        go_wp2_with fail
        (first | (refine HC.out.mono ?_) | (go_simp; go_wp2_with fail; refine HC.out.mono ?_)); rintro e w9 ⟨rfl, hb9⟩; clear HC; replace q_a := box_on q_a rfl hb9; have hw9 := nxt hw1 hb9
        go_wp2_with fail
        go_ret2
        exact ⟨bad_post (by rw [hsu.out]; show (_ && allFit (goodJ d) (cnt d) a.items 399) = false; rw [hof.out, Bool.and_false]), hw9⟩
      have hmd : decide ((400 : Int) < 1 + ((psum (cnt d) a.items k1 : Nat) : Int) + ((cnt d a.items[k1] : Nat) : Int)) = false := decide_eq_false hmn
      have hn2 := hide (show (∀ j (hj : j < a.items.length), j < k1 + 1 → goodJ d a.items[j] = true) ∧ ((psum (cnt d) a.items (k1 + 1) : Nat) : Int) ≤ 399 from ⟨all_step (p := goodJ d) hlt1 hinv.out.1 hgd.out, by rw [hps.out]; omega⟩); clear hmn
      go_wp2_with fail
      (first | (refine HC.out.mono ?_) | (go_simp; go_wp2_with fail; refine HC.out.mono ?_)); rintro e w9 ⟨rfl, hb9⟩; clear HC; replace q_a := box_on q_a rfl hb9; have hw9 := nxt hw1 hb9; have hc9 := nxt hl0_1 hb9
      go_wp2_with fail
      go_roundw
      case rel => exact ⟨k1 + 1, hlt1, by go_num, by rw [hps.out]; go_num, hn2, hc9⟩
      case measure => simp [intOf]; omega
    · obtain rfl : k1 = a.items.length := by omega
      have hsp := psum_all (cnt d) a.items
      have hin := hn1_.out; have hpb := hin.2
      have hkey := hpu
      have hfit : Hid (fitsJ (d + 1) a 400 = true) := by show _ = _; rw [hsu.out, hkey.out]; exact allFit_yes hin.1 hpb
      have hpb0 : 0 ≤ ((psum (cnt d) a.items a.items.length : Nat) : Int) := by omega
      have HSP := hide hsp; clear hsp hin hel_a3 hel_a4
      go_wp2
      go_ret2
      exact ⟨⟨_, by rw [hfit.out]; rfl, fun _ => (by rw [hcs.out, ← HSP.out]; omega), by omega, by omega⟩, hwl1⟩
set_option maxHeartbeats 16000000 in
theorem spec_l01OK_l5 {w : World} {d : Nat} (IH : SP d) {bs_a : List Nat} {cs_a : List Value} {a : Json} (H_a : JsonR w bs_a cs_a a) (dv : Int) (hk : a.kind = 5) (hn : (a.n == 0) = true) (ht : a.t.toList.isEmpty = true) (hb : (a.keys.length : Int) = a.items.length) (hd : dv = ((d + 1 : Nat) : Int)) (h12 : d + 1 ≤ 12) :
    Calls Tryz.prog 19 #[.agg cs_a.toArray, .int .i64 dv] w (fun e w' => SPost (d + 1) a e ∧ Below w.heap.size w w') := by
  have H0_a := H_a
  obtain ⟨a_v3, a_b3, a_v4, a_b4, rfl, rfl, hf_a, a_r3, a_r4⟩ := H_a.open
  obtain ⟨A_a3, c_a3, rfl, hlc_a3, hcm_a3, hel_a3⟩ := a_r3.use
  obtain ⟨A_a4, c_a4, rfl, hlc_a4, hcm_a4, hel_a4⟩ := a_r4.use
  have hbx := ((Below.refl w.heap.size w).alloc (Nat.le_refl _) (.cells #[.int .i64 a.kind, .int .i64 a.n, .string a.t, .slice A_a3 a.keys.length c_a3, .slice A_a4 a.items.length c_a4] 31))
  have q_a := blk_cells (blk_new w #[.int .i64 a.kind, .int .i64 a.n, .string a.t, .slice A_a3 a.keys.length c_a3, .slice A_a4 a.items.length c_a4] 31)
  have hsu := hide (fitsJ_succ d a 400); have hcs := hide (show cnt (d + 1) a = 1 + (a.items.map (cnt d)).sum from rfl)
  have hn0 : (a.n != 0) = false := by simpa using hn
  have k0 : (a.kind == 0) = false := by rw [hk]; rfl
  have k1 : (a.kind == 1) = false := by rw [hk]; rfl
  have k2 : (a.kind == 2) = false := by rw [hk]; rfl
  have k3 : (a.kind == 3) = false := by rw [hk]; rfl
  have hd0 : (dv == 0) = false := by simp; omega
  have hdv := hide (show dv - 1 = (d : Int) by omega); have hdb : 1 ≤ dv ∧ dv ≤ 13 := (by omega)
  have hd12 := hide (show d ≤ 12 by omega)
  have hpu : Hid (partOK a = keysOK a.keys) := by show _ = _; unfold partOK; rw [hk, hn, ht, hb]; simp
  have k4 : (a.kind != 4) = true := by rw [hk]; rfl
  have k5 : (a.kind != 5) = false := by rw [hk]; rfl
  have e4 : (a.kind == 4) = false := by rw [hk]; rfl
  have e5 : (a.kind == 5) = true := by rw [hk]; rfl
  have hq : ((a.keys.length : Int) != (a.items.length : Int)) = false := by simpa using hb
  have HL := hide (show a.keys.length = a.items.length by omega)
  clear hk hb hd h12 hn hf_a
  cases kz : ((a.keys.length : Int) == 0)
  · go_enter Tryz.func19, Tryz.ntmps19
    go_wp2_with fail
    go_loopw [7, 8] (fun o i wr => ∃ k : Nat, k ≤ a.items.length ∧ i = .int .i64 k ∧ o = .int .i64 (1 + (psum (cnt d) a.items k : Nat)) ∧ Hid ((∀ j (hj : j < a.items.length), j < k → goodJ d a.items[j] = true) ∧ ((psum (cnt d) a.items k : Nat) : Int) ≤ 399 ∧ upTo (keyStep a.keys) k = true) ∧ Below (World.heap ((w.alloc (.cells #[.int .i64 a.kind, .int .i64 a.n, .string a.t, .slice A_a3 a.keys.length c_a3, .slice A_a4 a.items.length c_a4] 31)))).size ((w.alloc (.cells #[.int .i64 a.kind, .int .i64 a.n, .string a.t, .slice A_a3 a.keys.length c_a3, .slice A_a4 a.items.length c_a4] 31))) wr) (fun _ i _ => a.items.length - (intOf i).toNat)
    case atStart => exact ⟨0, Nat.zero_le _, rfl, by rw [psum_zero]; rfl, ⟨all_zero, by rw [psum_zero]; decide, upTo_zero _⟩, Below.refl _ _⟩
    case round =>
      obtain ⟨k1, hk1, rfl, rfl, hn1_, hb1001⟩ := hrel
      obtain ⟨wl1, rfl⟩ : ∃ w' : World, w' = wr := ⟨_, rfl⟩
      replace q_a := box_on q_a rfl hb1001
      have hwl1 := nxt hbx hb1001
      by_cases hlt1 : k1 < a.items.length
      · have hkl : k1 < a.keys.length := by have := HL.out; omega
        have hks := hide (keyStep_at hkl); have hkc := hide hn1_.out.2.2
        go_wp2_with fail
        obtain ⟨sb, so, sbk, ses, rfl, shbl, shcl, shcell, sR, shbk⟩ := hel_a3 k1 hkl
        obtain ⟨_, shes, ssz⟩ := sR; subst shes
        have s_0 := Fw.cell ((hwl1.cell (p := ⟨sb, _, none⟩) shbl).trans (shcell 0 _ rfl))
        simp only [Nat.add_zero, Nat.mul_one] at s_0
        clear shcell shcl
        have A0 := hide (fun (i : Fw wl1) => spec_l01Text a.keys[k1] i.W ssz)
        cases h5 : plainB a.keys[k1]
        · have hr : Hid (partOK a = false) := by show _ = _; rw [hpu.out]; exact upTo_bad hkl (hks.out.trans (by rw [h5]; rfl))
          rw [h5] at A0; clear h5 hel_a3 hel_a4
          have q_aF0 := Fw.cell (box_cell q_a 0 rfl)
          have q_aF1 := Fw.cell (box_cell q_a 1 rfl)
          have q_aF2 := Fw.cell (box_cell q_a 2 rfl)
          have q_aF3 := Fw.cell (box_cell q_a 3 rfl)
          have q_aF4 := Fw.cell (box_cell q_a 4 rfl)
          refine region_quiet (by kernel_rfl) (by kernel_rfl) ?_
          repeat (go_big_quiet_step ((first | (go_at_call 27; exact quiet_of_eq (A0.out _)))))
          refine wpQuiet_nil ?_; intro w1 hb1; replace q_a := box_on q_a rfl hb1; have hw1 := nxt hwl1 hb1; have hl0_1 := nxt hb1001 hb1; clear q_aF0 q_aF1 q_aF2 q_aF3 q_aF4 s_0
          go_wp2_with fail
          go_ret2
          exact ⟨bad_post (fits_no hr.out), hw1⟩
        by_cases hj0 : k1 = 0
        · have hz : decide (k1 = 0) = true := decide_eq_true hj0; have hd1 : decide (0 < k1) = false := decide_eq_false (by omega)
          have hku : Hid (upTo (keyStep a.keys) (k1 + 1) = true) := by show _ = _; rw [upTo_succ, hkc.out, hks.out, h5, hz]; rfl
          rw [h5] at A0; clear hz h5 hj0
          have q_aF0 := Fw.cell (box_cell q_a 0 rfl)
          have q_aF1 := Fw.cell (box_cell q_a 1 rfl)
          have q_aF2 := Fw.cell (box_cell q_a 2 rfl)
          have q_aF3 := Fw.cell (box_cell q_a 3 rfl)
          have q_aF4 := Fw.cell (box_cell q_a 4 rfl)
          refine region_quiet (by kernel_rfl) (by kernel_rfl) ?_
          repeat (go_big_quiet_step ((first | (go_at_call 27; exact quiet_of_eq (A0.out _)))))
          refine wpQuiet_nil ?_; intro w2 hb2; replace q_a := box_on q_a rfl hb2; have hw2 := nxt hwl1 hb2; have hl0_2 := nxt hb1001 hb2; clear q_aF0 q_aF1 q_aF2 q_aF3 q_aF4 s_0
          go_wp2_with fail
          obtain ⟨gb, go, gbk, ges, rfl, ghbl, ghcl, ghcell, gR, ghbk⟩ := hel_a4 k1 hlt1
          have gR0 := gR
          obtain ⟨gv3, gb3, gv4, gb4, _, ghes, ghf, gr3, gr4⟩ := gR.open
          subst ghes
          obtain ⟨gA3, gc3, rfl, ghlc3, ghcm3, ghel3⟩ := gr3.use
          obtain ⟨gA4, gc4, rfl, ghlc4, ghcm4, ghel4⟩ := gr4.use
          have g_0 := (hw2.cell (p := ⟨gb, _, none⟩) ghbl).trans (ghcell 0 _ rfl)
          have g_1 := (hw2.cell (p := ⟨gb, _, none⟩) ghbl).trans (ghcell 1 _ rfl)
          have g_2 := (hw2.cell (p := ⟨gb, _, none⟩) ghbl).trans (ghcell 2 _ rfl)
          have g_3 := (hw2.cell (p := ⟨gb, _, none⟩) ghbl).trans (ghcell 3 _ rfl)
          have g_4 := (hw2.cell (p := ⟨gb, _, none⟩) ghbl).trans (ghcell 4 _ rfl)
          simp only [Nat.add_zero] at g_0 g_1 g_2 g_3 g_4
          clear ghcell ghcl
          clear hel_a4 hel_a3
          have hinv := hide hn1_.out; have hps := hide (psum_succ (cnt d) a.items k1 hlt1)
          have hpb : 0 ≤ ((psum (cnt d) a.items k1 : Nat) : Int) ∧ ((psum (cnt d) a.items k1 : Nat) : Int) ≤ 399 := ⟨by omega, hn1_.out.2.1⟩
          have hcall := IH (dv := dv - 1) (JsonR.good.nxt hw2 gR0) hdv.out hd12.out
          cases hq1 : fitsJ d a.items[k1] 400
          · have hof : Hid (allFit (goodJ d) (cnt d) a.items 399 = false) := by show _ = _; exact allFit_no hlt1 (one_no hq1 (by omega))
            have HC := hide (hcall.mono fun e w' ⟨h, hb⟩ => (⟨h.no hq1, hb⟩ : NPost e ∧ _)); clear hq1 hcall
            go_wp2_with fail
            (first | (refine HC.out.mono ?_) | (go_simp; go_wp2_with fail; refine HC.out.mono ?_)); rintro e w9 ⟨⟨z, rfl, hz0, hz1⟩, hb9⟩; clear HC; replace q_a := box_on q_a rfl hb9; have hw9 := nxt hw2 hb9
            go_wp2_with fail
            go_ret2
            exact ⟨bad_post (by rw [hsu.out]; show (_ && allFit (goodJ d) (cnt d) a.items 399) = false; rw [hof.out, Bool.and_false]), hw9⟩
          have hgc : goodJ d a.items[k1] = true ∧ ((cnt d a.items[k1] : Nat) : Int) ≤ 400 := by unfold fitsJ at hq1; rw [Bool.and_eq_true] at hq1; exact ⟨hq1.1, of_decide_eq_true hq1.2⟩
          have HC := hide (hcall.mono fun e w' ⟨h, hb⟩ => (⟨h.yes hq1, hb⟩ : YPost _ e ∧ _)); clear hq1 hcall; have hgd := hide hgc.1; have hcb := hgc.2; clear hgc; have hcb0 : 0 ≤ ((cnt d a.items[k1] : Nat) : Int) := by omega
          by_cases hmn : (400 : Int) < 1 + ((psum (cnt d) a.items k1 : Nat) : Int) + ((cnt d a.items[k1] : Nat) : Int)
          · have hof : Hid (allFit (goodJ d) (cnt d) a.items 399 = false) := by show _ = _; exact allFit_no hlt1 (by unfold oneFit; rw [decide_eq_false (by omega)]; simp)
            have hmd : decide ((400 : Int) < 1 + ((psum (cnt d) a.items k1 : Nat) : Int) + ((cnt d a.items[k1] : Nat) : Int)) = true := decide_eq_true hmn
            go_wp2_with fail
            (first | (refine HC.out.mono ?_) | (go_simp; go_wp2_with fail; refine HC.out.mono ?_)); rintro e w9 ⟨rfl, hb9⟩; clear HC; replace q_a := box_on q_a rfl hb9; have hw9 := nxt hw2 hb9
            go_wp2_with fail
            go_ret2
            exact ⟨bad_post (by rw [hsu.out]; show (_ && allFit (goodJ d) (cnt d) a.items 399) = false; rw [hof.out, Bool.and_false]), hw9⟩
          have hmd : decide ((400 : Int) < 1 + ((psum (cnt d) a.items k1 : Nat) : Int) + ((cnt d a.items[k1] : Nat) : Int)) = false := decide_eq_false hmn
          have hn2 := hide (show (∀ j (hj : j < a.items.length), j < k1 + 1 → goodJ d a.items[j] = true) ∧ ((psum (cnt d) a.items (k1 + 1) : Nat) : Int) ≤ 399 ∧ upTo (keyStep a.keys) (k1 + 1) = true from ⟨all_step (p := goodJ d) hlt1 hinv.out.1 hgd.out, by rw [hps.out]; omega, hku.out⟩); clear hmn
          go_wp2_with fail
          (first | (refine HC.out.mono ?_) | (go_simp; go_wp2_with fail; refine HC.out.mono ?_)); rintro e w9 ⟨rfl, hb9⟩; clear HC; replace q_a := box_on q_a rfl hb9; have hw9 := nxt hw2 hb9; have hc9 := nxt hl0_2 hb9
          go_wp2_with fail
          go_roundw
          case rel => exact ⟨k1 + 1, hlt1, by go_num, by rw [hps.out]; go_num, hn2, hc9⟩
          case measure => simp [intOf]; omega
        have hz : decide (k1 = 0) = false := decide_eq_false hj0; have hd1 : decide (0 < k1) = true := decide_eq_true (by omega)
        have hjm : k1 - 1 < a.keys.length := (by omega); have hj1 : 1 ≤ k1 := (by omega)
        have hpr : a.keys.getD (k1 - 1) default = a.keys[k1 - 1] := get_at _ _ hjm
        obtain ⟨pb, po, pbk, pes, phA, pbl, pcl, pcell, pR, pbk2⟩ := hel_a3 (k1 - 1) hjm
        cases phA; obtain ⟨_, phes, psz⟩ := pR; subst phes
        have p_0 := Fw.cell ((hwl1.cell (p := ⟨sb, _, none⟩) pbl).trans (pcell 0 _ rfl)); simp only [Nat.add_zero, Nat.mul_one] at p_0; clear pcell
        cases h7 : Op.bytesLess a.keys[k1 - 1].toList a.keys[k1].toList
        · have hr : Hid (partOK a = false) := by show _ = _; rw [hpu.out]; exact upTo_bad hkl (hks.out.trans (by rw [h5, hz, hpr, h7]; rfl))
          have h8 : (!Op.bytesLess a.keys[k1 - 1].toList a.keys[k1].toList) = true := by rw [h7]; rfl
          rw [h5] at A0; clear h5 hz hpr h7 hel_a3 hel_a4
          have q_aF0 := Fw.cell (box_cell q_a 0 rfl)
          have q_aF1 := Fw.cell (box_cell q_a 1 rfl)
          have q_aF2 := Fw.cell (box_cell q_a 2 rfl)
          have q_aF3 := Fw.cell (box_cell q_a 3 rfl)
          have q_aF4 := Fw.cell (box_cell q_a 4 rfl)
          refine region_quiet (by kernel_rfl) (by kernel_rfl) ?_
          repeat (go_big_quiet_step ((first | (go_at_call 27; exact quiet_of_eq (A0.out _)))))
          refine wpQuiet_nil ?_; intro w3 hb3; replace q_a := box_on q_a rfl hb3; have hw3 := nxt hwl1 hb3; have hl0_3 := nxt hb1001 hb3; clear q_aF0 q_aF1 q_aF2 q_aF3 q_aF4 s_0 p_0
          go_wp2_with fail
          go_ret2
          exact ⟨bad_post (fits_no hr.out), hw3⟩
        have hku : Hid (upTo (keyStep a.keys) (k1 + 1) = true) := by show _ = _; rw [upTo_succ, hkc.out, hks.out, h5, hz, hpr, h7]; rfl
        have h8 : (!Op.bytesLess a.keys[k1 - 1].toList a.keys[k1].toList) = false := by rw [h7]; rfl
        rw [h5] at A0; clear h5 hz hpr h7 hj0
        have q_aF0 := Fw.cell (box_cell q_a 0 rfl)
        have q_aF1 := Fw.cell (box_cell q_a 1 rfl)
        have q_aF2 := Fw.cell (box_cell q_a 2 rfl)
        have q_aF3 := Fw.cell (box_cell q_a 3 rfl)
        have q_aF4 := Fw.cell (box_cell q_a 4 rfl)
        refine region_quiet (by kernel_rfl) (by kernel_rfl) ?_
        repeat (go_big_quiet_step ((first | (go_at_call 27; exact quiet_of_eq (A0.out _)))))
        refine wpQuiet_nil ?_; intro w4 hb4; replace q_a := box_on q_a rfl hb4; have hw4 := nxt hwl1 hb4; have hl0_4 := nxt hb1001 hb4; clear q_aF0 q_aF1 q_aF2 q_aF3 q_aF4 s_0 p_0
        go_wp2_with fail
        obtain ⟨gb, go, gbk, ges, rfl, ghbl, ghcl, ghcell, gR, ghbk⟩ := hel_a4 k1 hlt1
        have gR0 := gR
        obtain ⟨gv3, gb3, gv4, gb4, _, ghes, ghf, gr3, gr4⟩ := gR.open
        subst ghes
        obtain ⟨gA3, gc3, rfl, ghlc3, ghcm3, ghel3⟩ := gr3.use
        obtain ⟨gA4, gc4, rfl, ghlc4, ghcm4, ghel4⟩ := gr4.use
        have g_0 := (hw4.cell (p := ⟨gb, _, none⟩) ghbl).trans (ghcell 0 _ rfl)
        have g_1 := (hw4.cell (p := ⟨gb, _, none⟩) ghbl).trans (ghcell 1 _ rfl)
        have g_2 := (hw4.cell (p := ⟨gb, _, none⟩) ghbl).trans (ghcell 2 _ rfl)
        have g_3 := (hw4.cell (p := ⟨gb, _, none⟩) ghbl).trans (ghcell 3 _ rfl)
        have g_4 := (hw4.cell (p := ⟨gb, _, none⟩) ghbl).trans (ghcell 4 _ rfl)
        simp only [Nat.add_zero] at g_0 g_1 g_2 g_3 g_4
        clear ghcell ghcl
        clear hel_a4 hel_a3
        have hinv := hide hn1_.out; have hps := hide (psum_succ (cnt d) a.items k1 hlt1)
        have hpb : 0 ≤ ((psum (cnt d) a.items k1 : Nat) : Int) ∧ ((psum (cnt d) a.items k1 : Nat) : Int) ≤ 399 := ⟨by omega, hn1_.out.2.1⟩
        have hcall := IH (dv := dv - 1) (JsonR.good.nxt hw4 gR0) hdv.out hd12.out
        cases hq1 : fitsJ d a.items[k1] 400
        · have hof : Hid (allFit (goodJ d) (cnt d) a.items 399 = false) := by show _ = _; exact allFit_no hlt1 (one_no hq1 (by omega))
          have HC := hide (hcall.mono fun e w' ⟨h, hb⟩ => (⟨h.no hq1, hb⟩ : NPost e ∧ _)); clear hq1 hcall
          go_wp2_with fail
          (first | (refine HC.out.mono ?_) | (go_simp; go_wp2_with fail; refine HC.out.mono ?_)); rintro e w9 ⟨⟨z, rfl, hz0, hz1⟩, hb9⟩; clear HC; replace q_a := box_on q_a rfl hb9; have hw9 := nxt hw4 hb9
          go_wp2_with fail
          go_ret2
          exact ⟨bad_post (by rw [hsu.out]; show (_ && allFit (goodJ d) (cnt d) a.items 399) = false; rw [hof.out, Bool.and_false]), hw9⟩
        have hgc : goodJ d a.items[k1] = true ∧ ((cnt d a.items[k1] : Nat) : Int) ≤ 400 := by unfold fitsJ at hq1; rw [Bool.and_eq_true] at hq1; exact ⟨hq1.1, of_decide_eq_true hq1.2⟩
        have HC := hide (hcall.mono fun e w' ⟨h, hb⟩ => (⟨h.yes hq1, hb⟩ : YPost _ e ∧ _)); clear hq1 hcall; have hgd := hide hgc.1; have hcb := hgc.2; clear hgc; have hcb0 : 0 ≤ ((cnt d a.items[k1] : Nat) : Int) := by omega
        by_cases hmn : (400 : Int) < 1 + ((psum (cnt d) a.items k1 : Nat) : Int) + ((cnt d a.items[k1] : Nat) : Int)
        · have hof : Hid (allFit (goodJ d) (cnt d) a.items 399 = false) := by show _ = _; exact allFit_no hlt1 (by unfold oneFit; rw [decide_eq_false (by omega)]; simp)
          have hmd : decide ((400 : Int) < 1 + ((psum (cnt d) a.items k1 : Nat) : Int) + ((cnt d a.items[k1] : Nat) : Int)) = true := decide_eq_true hmn
          go_wp2_with fail
          (first | (refine HC.out.mono ?_) | (go_simp; go_wp2_with fail; refine HC.out.mono ?_)); rintro e w9 ⟨rfl, hb9⟩; clear HC; replace q_a := box_on q_a rfl hb9; have hw9 := nxt hw4 hb9
          go_wp2_with fail
          go_ret2
          exact ⟨bad_post (by rw [hsu.out]; show (_ && allFit (goodJ d) (cnt d) a.items 399) = false; rw [hof.out, Bool.and_false]), hw9⟩
        have hmd : decide ((400 : Int) < 1 + ((psum (cnt d) a.items k1 : Nat) : Int) + ((cnt d a.items[k1] : Nat) : Int)) = false := decide_eq_false hmn
        have hn2 := hide (show (∀ j (hj : j < a.items.length), j < k1 + 1 → goodJ d a.items[j] = true) ∧ ((psum (cnt d) a.items (k1 + 1) : Nat) : Int) ≤ 399 ∧ upTo (keyStep a.keys) (k1 + 1) = true from ⟨all_step (p := goodJ d) hlt1 hinv.out.1 hgd.out, by rw [hps.out]; omega, hku.out⟩); clear hmn
        go_wp2_with fail
        (first | (refine HC.out.mono ?_) | (go_simp; go_wp2_with fail; refine HC.out.mono ?_)); rintro e w9 ⟨rfl, hb9⟩; clear HC; replace q_a := box_on q_a rfl hb9; have hw9 := nxt hw4 hb9; have hc9 := nxt hl0_4 hb9
        go_wp2_with fail
        go_roundw
        case rel => exact ⟨k1 + 1, hlt1, by go_num, by rw [hps.out]; go_num, hn2, hc9⟩
        case measure => simp [intOf]; omega
      · obtain rfl : k1 = a.items.length := by omega
        have hsp := psum_all (cnt d) a.items
        have hin := hn1_.out; have hpb := hin.2.1
        have hkey : Hid (partOK a = true) := by show _ = _; rw [hpu.out]; unfold keysOK; rw [HL.out]; exact hin.2.2
        have hfit : Hid (fitsJ (d + 1) a 400 = true) := by show _ = _; rw [hsu.out, hkey.out]; exact allFit_yes hin.1 hpb
        have hpb0 : 0 ≤ ((psum (cnt d) a.items a.items.length : Nat) : Int) := by omega
        have HSP := hide hsp; clear hsp hin hel_a3 hel_a4
        go_wp2
        go_ret2
        exact ⟨⟨_, by rw [hfit.out]; rfl, fun _ => (by rw [hcs.out, ← HSP.out]; omega), by omega, by omega⟩, hwl1⟩
  · go_enter Tryz.func19, Tryz.ntmps19
    go_wp2_with fail
    go_loopw [7, 8] (fun o i wr => ∃ k : Nat, k ≤ a.items.length ∧ i = .int .i64 k ∧ o = .int .i64 (1 + (psum (cnt d) a.items k : Nat)) ∧ Hid ((∀ j (hj : j < a.items.length), j < k → goodJ d a.items[j] = true) ∧ ((psum (cnt d) a.items k : Nat) : Int) ≤ 399 ∧ upTo (keyStep a.keys) k = true) ∧ Below (World.heap ((w.alloc (.cells #[.int .i64 a.kind, .int .i64 a.n, .string a.t, .slice A_a3 a.keys.length c_a3, .slice A_a4 a.items.length c_a4] 31)))).size ((w.alloc (.cells #[.int .i64 a.kind, .int .i64 a.n, .string a.t, .slice A_a3 a.keys.length c_a3, .slice A_a4 a.items.length c_a4] 31))) wr) (fun _ i _ => a.items.length - (intOf i).toNat)
    case atStart => exact ⟨0, Nat.zero_le _, rfl, by rw [psum_zero]; rfl, ⟨all_zero, by rw [psum_zero]; decide, upTo_zero _⟩, Below.refl _ _⟩
    case round =>
      obtain ⟨k1, hk1, rfl, rfl, hn1_, hb1001⟩ := hrel
      obtain ⟨wl1, rfl⟩ : ∃ w' : World, w' = wr := ⟨_, rfl⟩
      replace q_a := box_on q_a rfl hb1001
      have hwl1 := nxt hbx hb1001
      by_cases hlt1 : k1 < a.items.length
      · have hkl : k1 < a.keys.length := by have := HL.out; omega
        have hks := hide (keyStep_at hkl); have hkc := hide hn1_.out.2.2
        go_wp2_with fail
        obtain ⟨sb, so, sbk, ses, rfl, shbl, shcl, shcell, sR, shbk⟩ := hel_a3 k1 hkl
        obtain ⟨_, shes, ssz⟩ := sR; subst shes
        have s_0 := Fw.cell ((hwl1.cell (p := ⟨sb, _, none⟩) shbl).trans (shcell 0 _ rfl))
        simp only [Nat.add_zero, Nat.mul_one] at s_0
        clear shcell shcl
        have A0 := hide (fun (i : Fw wl1) => spec_l01Text a.keys[k1] i.W ssz)
        cases h5 : plainB a.keys[k1]
        · have hr : Hid (partOK a = false) := by show _ = _; rw [hpu.out]; exact upTo_bad hkl (hks.out.trans (by rw [h5]; rfl))
          rw [h5] at A0; clear h5 hel_a3 hel_a4
          have q_aF0 := Fw.cell (box_cell q_a 0 rfl)
          have q_aF1 := Fw.cell (box_cell q_a 1 rfl)
          have q_aF2 := Fw.cell (box_cell q_a 2 rfl)
          have q_aF3 := Fw.cell (box_cell q_a 3 rfl)
          have q_aF4 := Fw.cell (box_cell q_a 4 rfl)
          refine region_quiet (by kernel_rfl) (by kernel_rfl) ?_
          repeat (go_big_quiet_step ((first | (go_at_call 27; exact quiet_of_eq (A0.out _)))))
          refine wpQuiet_nil ?_; intro w5 hb5; replace q_a := box_on q_a rfl hb5; have hw5 := nxt hwl1 hb5; have hl0_5 := nxt hb1001 hb5; clear q_aF0 q_aF1 q_aF2 q_aF3 q_aF4 s_0
          go_wp2_with fail
          go_ret2
          exact ⟨bad_post (fits_no hr.out), hw5⟩
        by_cases hj0 : k1 = 0
        · have hz : decide (k1 = 0) = true := decide_eq_true hj0; have hd1 : decide (0 < k1) = false := decide_eq_false (by omega)
          have hku : Hid (upTo (keyStep a.keys) (k1 + 1) = true) := by show _ = _; rw [upTo_succ, hkc.out, hks.out, h5, hz]; rfl
          rw [h5] at A0; clear hz h5 hj0
          have q_aF0 := Fw.cell (box_cell q_a 0 rfl)
          have q_aF1 := Fw.cell (box_cell q_a 1 rfl)
          have q_aF2 := Fw.cell (box_cell q_a 2 rfl)
          have q_aF3 := Fw.cell (box_cell q_a 3 rfl)
          have q_aF4 := Fw.cell (box_cell q_a 4 rfl)
          refine region_quiet (by kernel_rfl) (by kernel_rfl) ?_
          repeat (go_big_quiet_step ((first | (go_at_call 27; exact quiet_of_eq (A0.out _)))))
          refine wpQuiet_nil ?_; intro w6 hb6; replace q_a := box_on q_a rfl hb6; have hw6 := nxt hwl1 hb6; have hl0_6 := nxt hb1001 hb6; clear q_aF0 q_aF1 q_aF2 q_aF3 q_aF4 s_0
          go_wp2_with fail
          obtain ⟨gb, go, gbk, ges, rfl, ghbl, ghcl, ghcell, gR, ghbk⟩ := hel_a4 k1 hlt1
          have gR0 := gR
          obtain ⟨gv3, gb3, gv4, gb4, _, ghes, ghf, gr3, gr4⟩ := gR.open
          subst ghes
          obtain ⟨gA3, gc3, rfl, ghlc3, ghcm3, ghel3⟩ := gr3.use
          obtain ⟨gA4, gc4, rfl, ghlc4, ghcm4, ghel4⟩ := gr4.use
          have g_0 := (hw6.cell (p := ⟨gb, _, none⟩) ghbl).trans (ghcell 0 _ rfl)
          have g_1 := (hw6.cell (p := ⟨gb, _, none⟩) ghbl).trans (ghcell 1 _ rfl)
          have g_2 := (hw6.cell (p := ⟨gb, _, none⟩) ghbl).trans (ghcell 2 _ rfl)
          have g_3 := (hw6.cell (p := ⟨gb, _, none⟩) ghbl).trans (ghcell 3 _ rfl)
          have g_4 := (hw6.cell (p := ⟨gb, _, none⟩) ghbl).trans (ghcell 4 _ rfl)
          simp only [Nat.add_zero] at g_0 g_1 g_2 g_3 g_4
          clear ghcell ghcl
          clear hel_a4 hel_a3
          have hinv := hide hn1_.out; have hps := hide (psum_succ (cnt d) a.items k1 hlt1)
          have hpb : 0 ≤ ((psum (cnt d) a.items k1 : Nat) : Int) ∧ ((psum (cnt d) a.items k1 : Nat) : Int) ≤ 399 := ⟨by omega, hn1_.out.2.1⟩
          have hcall := IH (dv := dv - 1) (JsonR.good.nxt hw6 gR0) hdv.out hd12.out
          cases hq1 : fitsJ d a.items[k1] 400
          · have hof : Hid (allFit (goodJ d) (cnt d) a.items 399 = false) := by show _ = _; exact allFit_no hlt1 (one_no hq1 (by omega))
            have HC := hide (hcall.mono fun e w' ⟨h, hb⟩ => (⟨h.no hq1, hb⟩ : NPost e ∧ _)); clear hq1 hcall
            go_wp2_with fail
            (first | (refine HC.out.mono ?_) | (go_simp; go_wp2_with fail; refine HC.out.mono ?_)); rintro e w9 ⟨⟨z, rfl, hz0, hz1⟩, hb9⟩; clear HC; replace q_a := box_on q_a rfl hb9; have hw9 := nxt hw6 hb9
            go_wp2_with fail
            go_ret2
            exact ⟨bad_post (by rw [hsu.out]; show (_ && allFit (goodJ d) (cnt d) a.items 399) = false; rw [hof.out, Bool.and_false]), hw9⟩
          have hgc : goodJ d a.items[k1] = true ∧ ((cnt d a.items[k1] : Nat) : Int) ≤ 400 := by unfold fitsJ at hq1; rw [Bool.and_eq_true] at hq1; exact ⟨hq1.1, of_decide_eq_true hq1.2⟩
          have HC := hide (hcall.mono fun e w' ⟨h, hb⟩ => (⟨h.yes hq1, hb⟩ : YPost _ e ∧ _)); clear hq1 hcall; have hgd := hide hgc.1; have hcb := hgc.2; clear hgc; have hcb0 : 0 ≤ ((cnt d a.items[k1] : Nat) : Int) := by omega
          by_cases hmn : (400 : Int) < 1 + ((psum (cnt d) a.items k1 : Nat) : Int) + ((cnt d a.items[k1] : Nat) : Int)
          · have hof : Hid (allFit (goodJ d) (cnt d) a.items 399 = false) := by show _ = _; exact allFit_no hlt1 (by unfold oneFit; rw [decide_eq_false (by omega)]; simp)
            have hmd : decide ((400 : Int) < 1 + ((psum (cnt d) a.items k1 : Nat) : Int) + ((cnt d a.items[k1] : Nat) : Int)) = true := decide_eq_true hmn
            go_wp2_with fail
            (first | (refine HC.out.mono ?_) | (go_simp; go_wp2_with fail; refine HC.out.mono ?_)); rintro e w9 ⟨rfl, hb9⟩; clear HC; replace q_a := box_on q_a rfl hb9; have hw9 := nxt hw6 hb9
            go_wp2_with fail
            go_ret2
            exact ⟨bad_post (by rw [hsu.out]; show (_ && allFit (goodJ d) (cnt d) a.items 399) = false; rw [hof.out, Bool.and_false]), hw9⟩
          have hmd : decide ((400 : Int) < 1 + ((psum (cnt d) a.items k1 : Nat) : Int) + ((cnt d a.items[k1] : Nat) : Int)) = false := decide_eq_false hmn
          have hn2 := hide (show (∀ j (hj : j < a.items.length), j < k1 + 1 → goodJ d a.items[j] = true) ∧ ((psum (cnt d) a.items (k1 + 1) : Nat) : Int) ≤ 399 ∧ upTo (keyStep a.keys) (k1 + 1) = true from ⟨all_step (p := goodJ d) hlt1 hinv.out.1 hgd.out, by rw [hps.out]; omega, hku.out⟩); clear hmn
          go_wp2_with fail
          (first | (refine HC.out.mono ?_) | (go_simp; go_wp2_with fail; refine HC.out.mono ?_)); rintro e w9 ⟨rfl, hb9⟩; clear HC; replace q_a := box_on q_a rfl hb9; have hw9 := nxt hw6 hb9; have hc9 := nxt hl0_6 hb9
          go_wp2_with fail
          go_roundw
          case rel => exact ⟨k1 + 1, hlt1, by go_num, by rw [hps.out]; go_num, hn2, hc9⟩
          case measure => simp [intOf]; omega
        have hz : decide (k1 = 0) = false := decide_eq_false hj0; have hd1 : decide (0 < k1) = true := decide_eq_true (by omega)
        have hjm : k1 - 1 < a.keys.length := (by omega); have hj1 : 1 ≤ k1 := (by omega)
        have hpr : a.keys.getD (k1 - 1) default = a.keys[k1 - 1] := get_at _ _ hjm
        obtain ⟨pb, po, pbk, pes, phA, pbl, pcl, pcell, pR, pbk2⟩ := hel_a3 (k1 - 1) hjm
        cases phA; obtain ⟨_, phes, psz⟩ := pR; subst phes
        have p_0 := Fw.cell ((hwl1.cell (p := ⟨sb, _, none⟩) pbl).trans (pcell 0 _ rfl)); simp only [Nat.add_zero, Nat.mul_one] at p_0; clear pcell
        cases h7 : Op.bytesLess a.keys[k1 - 1].toList a.keys[k1].toList
        · have hr : Hid (partOK a = false) := by show _ = _; rw [hpu.out]; exact upTo_bad hkl (hks.out.trans (by rw [h5, hz, hpr, h7]; rfl))
          have h8 : (!Op.bytesLess a.keys[k1 - 1].toList a.keys[k1].toList) = true := by rw [h7]; rfl
          rw [h5] at A0; clear h5 hz hpr h7 hel_a3 hel_a4
          have q_aF0 := Fw.cell (box_cell q_a 0 rfl)
          have q_aF1 := Fw.cell (box_cell q_a 1 rfl)
          have q_aF2 := Fw.cell (box_cell q_a 2 rfl)
          have q_aF3 := Fw.cell (box_cell q_a 3 rfl)
          have q_aF4 := Fw.cell (box_cell q_a 4 rfl)
          refine region_quiet (by kernel_rfl) (by kernel_rfl) ?_
          repeat (go_big_quiet_step ((first | (go_at_call 27; exact quiet_of_eq (A0.out _)))))
          refine wpQuiet_nil ?_; intro w7 hb7; replace q_a := box_on q_a rfl hb7; have hw7 := nxt hwl1 hb7; have hl0_7 := nxt hb1001 hb7; clear q_aF0 q_aF1 q_aF2 q_aF3 q_aF4 s_0 p_0
          go_wp2_with fail
          go_ret2
          exact ⟨bad_post (fits_no hr.out), hw7⟩
        have hku : Hid (upTo (keyStep a.keys) (k1 + 1) = true) := by show _ = _; rw [upTo_succ, hkc.out, hks.out, h5, hz, hpr, h7]; rfl
        have h8 : (!Op.bytesLess a.keys[k1 - 1].toList a.keys[k1].toList) = false := by rw [h7]; rfl
        rw [h5] at A0; clear h5 hz hpr h7 hj0
        have q_aF0 := Fw.cell (box_cell q_a 0 rfl)
        have q_aF1 := Fw.cell (box_cell q_a 1 rfl)
        have q_aF2 := Fw.cell (box_cell q_a 2 rfl)
        have q_aF3 := Fw.cell (box_cell q_a 3 rfl)
        have q_aF4 := Fw.cell (box_cell q_a 4 rfl)
        refine region_quiet (by kernel_rfl) (by kernel_rfl) ?_
        repeat (go_big_quiet_step ((first | (go_at_call 27; exact quiet_of_eq (A0.out _)))))
        refine wpQuiet_nil ?_; intro w8 hb8; replace q_a := box_on q_a rfl hb8; have hw8 := nxt hwl1 hb8; have hl0_8 := nxt hb1001 hb8; clear q_aF0 q_aF1 q_aF2 q_aF3 q_aF4 s_0 p_0
        go_wp2_with fail
        obtain ⟨gb, go, gbk, ges, rfl, ghbl, ghcl, ghcell, gR, ghbk⟩ := hel_a4 k1 hlt1
        have gR0 := gR
        obtain ⟨gv3, gb3, gv4, gb4, _, ghes, ghf, gr3, gr4⟩ := gR.open
        subst ghes
        obtain ⟨gA3, gc3, rfl, ghlc3, ghcm3, ghel3⟩ := gr3.use
        obtain ⟨gA4, gc4, rfl, ghlc4, ghcm4, ghel4⟩ := gr4.use
        have g_0 := (hw8.cell (p := ⟨gb, _, none⟩) ghbl).trans (ghcell 0 _ rfl)
        have g_1 := (hw8.cell (p := ⟨gb, _, none⟩) ghbl).trans (ghcell 1 _ rfl)
        have g_2 := (hw8.cell (p := ⟨gb, _, none⟩) ghbl).trans (ghcell 2 _ rfl)
        have g_3 := (hw8.cell (p := ⟨gb, _, none⟩) ghbl).trans (ghcell 3 _ rfl)
        have g_4 := (hw8.cell (p := ⟨gb, _, none⟩) ghbl).trans (ghcell 4 _ rfl)
        simp only [Nat.add_zero] at g_0 g_1 g_2 g_3 g_4
        clear ghcell ghcl
        clear hel_a4 hel_a3
        have hinv := hide hn1_.out; have hps := hide (psum_succ (cnt d) a.items k1 hlt1)
        have hpb : 0 ≤ ((psum (cnt d) a.items k1 : Nat) : Int) ∧ ((psum (cnt d) a.items k1 : Nat) : Int) ≤ 399 := ⟨by omega, hn1_.out.2.1⟩
        have hcall := IH (dv := dv - 1) (JsonR.good.nxt hw8 gR0) hdv.out hd12.out
        cases hq1 : fitsJ d a.items[k1] 400
        · have hof : Hid (allFit (goodJ d) (cnt d) a.items 399 = false) := by show _ = _; exact allFit_no hlt1 (one_no hq1 (by omega))
          have HC := hide (hcall.mono fun e w' ⟨h, hb⟩ => (⟨h.no hq1, hb⟩ : NPost e ∧ _)); clear hq1 hcall
          go_wp2_with fail
          (first | (refine HC.out.mono ?_) | (go_simp; go_wp2_with fail; refine HC.out.mono ?_)); rintro e w9 ⟨⟨z, rfl, hz0, hz1⟩, hb9⟩; clear HC; replace q_a := box_on q_a rfl hb9; have hw9 := nxt hw8 hb9
          go_wp2_with fail
          go_ret2
          exact ⟨bad_post (by rw [hsu.out]; show (_ && allFit (goodJ d) (cnt d) a.items 399) = false; rw [hof.out, Bool.and_false]), hw9⟩
        have hgc : goodJ d a.items[k1] = true ∧ ((cnt d a.items[k1] : Nat) : Int) ≤ 400 := by unfold fitsJ at hq1; rw [Bool.and_eq_true] at hq1; exact ⟨hq1.1, of_decide_eq_true hq1.2⟩
        have HC := hide (hcall.mono fun e w' ⟨h, hb⟩ => (⟨h.yes hq1, hb⟩ : YPost _ e ∧ _)); clear hq1 hcall; have hgd := hide hgc.1; have hcb := hgc.2; clear hgc; have hcb0 : 0 ≤ ((cnt d a.items[k1] : Nat) : Int) := by omega
        by_cases hmn : (400 : Int) < 1 + ((psum (cnt d) a.items k1 : Nat) : Int) + ((cnt d a.items[k1] : Nat) : Int)
        · have hof : Hid (allFit (goodJ d) (cnt d) a.items 399 = false) := by show _ = _; exact allFit_no hlt1 (by unfold oneFit; rw [decide_eq_false (by omega)]; simp)
          have hmd : decide ((400 : Int) < 1 + ((psum (cnt d) a.items k1 : Nat) : Int) + ((cnt d a.items[k1] : Nat) : Int)) = true := decide_eq_true hmn
          go_wp2_with fail
          (first | (refine HC.out.mono ?_) | (go_simp; go_wp2_with fail; refine HC.out.mono ?_)); rintro e w9 ⟨rfl, hb9⟩; clear HC; replace q_a := box_on q_a rfl hb9; have hw9 := nxt hw8 hb9
          go_wp2_with fail
          go_ret2
          exact ⟨bad_post (by rw [hsu.out]; show (_ && allFit (goodJ d) (cnt d) a.items 399) = false; rw [hof.out, Bool.and_false]), hw9⟩
        have hmd : decide ((400 : Int) < 1 + ((psum (cnt d) a.items k1 : Nat) : Int) + ((cnt d a.items[k1] : Nat) : Int)) = false := decide_eq_false hmn
        have hn2 := hide (show (∀ j (hj : j < a.items.length), j < k1 + 1 → goodJ d a.items[j] = true) ∧ ((psum (cnt d) a.items (k1 + 1) : Nat) : Int) ≤ 399 ∧ upTo (keyStep a.keys) (k1 + 1) = true from ⟨all_step (p := goodJ d) hlt1 hinv.out.1 hgd.out, by rw [hps.out]; omega, hku.out⟩); clear hmn
        go_wp2_with fail
        (first | (refine HC.out.mono ?_) | (go_simp; go_wp2_with fail; refine HC.out.mono ?_)); rintro e w9 ⟨rfl, hb9⟩; clear HC; replace q_a := box_on q_a rfl hb9; have hw9 := nxt hw8 hb9; have hc9 := nxt hl0_8 hb9
        go_wp2_with fail
        go_roundw
        case rel => exact ⟨k1 + 1, hlt1, by go_num, by rw [hps.out]; go_num, hn2, hc9⟩
        case measure => simp [intOf]; omega
      · obtain rfl : k1 = a.items.length := by omega
        have hsp := psum_all (cnt d) a.items
        have hin := hn1_.out; have hpb := hin.2.1
        have hkey : Hid (partOK a = true) := by show _ = _; rw [hpu.out]; unfold keysOK; rw [HL.out]; exact hin.2.2
        have hfit : Hid (fitsJ (d + 1) a 400 = true) := by show _ = _; rw [hsu.out, hkey.out]; exact allFit_yes hin.1 hpb
        have hpb0 : 0 ≤ ((psum (cnt d) a.items a.items.length : Nat) : Int) := by omega
        have HSP := hide hsp; clear hsp hin hel_a3 hel_a4
        go_wp2
        go_ret2
        exact ⟨⟨_, by rw [hfit.out]; rfl, fun _ => (by rw [hcs.out, ← HSP.out]; omega), by omega, by omega⟩, hwl1⟩
theorem spec_l01OK_zero : SP 0 := by
  intro w bs cs a dv H hd _
  obtain ⟨v3, b3, v4, b4, rfl, rfl, hf, r3, r4⟩ := H.open
  obtain ⟨A3, c3, rfl, _, _, _⟩ := r3.use; obtain ⟨A4, c4, rfl, _, _, _⟩ := r4.use
  obtain rfl : dv = 0 := hd
  go_enter Tryz.func19, Tryz.ntmps19
  go_wp2_with fail
  go_ret2
  exact ⟨⟨0, rfl, fun h => (by cases h), by decide, by decide⟩, (Below.refl w.heap.size w).alloc (Nat.le_refl _) _⟩
theorem spec_l01OK_step {d : Nat} (IH : SP d) : SP (d + 1) := by
  intro w bs cs a dv H hd h12
  have hd0 : (dv == 0) = false := by simp; omega
  by_cases e0 : a.kind = 0
  · exact (spec_l01OK_k0 H dv e0 hd0).mono fun e w' ⟨h, hb⟩ => ⟨by rw [h]; exact leaf_post (by omega), hb⟩
  by_cases e1 : a.kind = 1
  · exact (spec_l01OK_k1 H dv e1 hd0).mono fun e w' ⟨h, hb⟩ => ⟨by rw [h]; exact leaf_post (by omega), hb⟩
  by_cases e2 : a.kind = 2
  · exact (spec_l01OK_k2 H dv e2 hd0).mono fun e w' ⟨h, hb⟩ => ⟨by rw [h]; exact leaf_post (by omega), hb⟩
  by_cases e3 : a.kind = 3
  · exact (spec_l01OK_k3 H dv e3 hd0).mono fun e w' ⟨h, hb⟩ => ⟨by rw [h]; exact leaf_post (by omega), hb⟩
  by_cases e45 : a.kind = 4 ∨ a.kind = 5
  · have hk2 : a.kind < 4 ∨ 4 ≤ a.kind := by omega
    cases hn : (a.n == 0)
    · have hp : partOK a = false := by unfold partOK; rcases e45 with e | e <;> rw [e, hn] <;> rfl
      exact (spec_l01OK_n H dv e45 (by simpa using hn) hd0).mono fun e w' ⟨h, hb⟩ => ⟨by rw [h]; exact bad_post (fits_no hp), hb⟩
    have hn0 : (a.n != 0) = false := by simpa using hn
    cases ht : a.t.toList.isEmpty
    · have hp : partOK a = false := by unfold partOK; rcases e45 with e | e <;> rw [e, ht] <;> simp
      exact (spec_l01OK_t H dv e45 hn0 ht hd0).mono fun e w' ⟨h, hb⟩ => ⟨by rw [h]; exact bad_post (fits_no hp), hb⟩
    rcases e45 with e | e
    · by_cases hb : (a.keys.length : Int) = 0
      · exact spec_l01OK_l4 IH H dv e hn ht hb hd h12
      · have hp : partOK a = false := by unfold partOK; rw [e]; simp; intro _ _ h; rw [h] at hb; exact hb rfl
        exact (spec_l01OK_k H dv e hn0 ht hb hd0).mono fun e w' ⟨h, hb⟩ => ⟨by rw [h]; exact bad_post (fits_no hp), hb⟩
    · by_cases hb : (a.keys.length : Int) = a.items.length
      · exact spec_l01OK_l5 IH H dv e hn ht hb hd h12
      · have hp : partOK a = false := by unfold partOK; rw [e]; simp; intro _ _ h; exact absurd (by rw [h]) hb
        exact (spec_l01OK_l H dv e hn0 ht hb hd0).mono fun e w' ⟨h, hb⟩ => ⟨by rw [h]; exact bad_post (fits_no hp), hb⟩
  · have hp : partOK a = false := by
      have e4 : ¬ a.kind = 4 := fun h => e45 (Or.inl h)
      have e5 : ¬ a.kind = 5 := fun h => e45 (Or.inr h)
      unfold partOK; simp [e0, e1, e2, e3, e4, e5]
    exact (spec_l01OK_x H dv (by omega) hd0).mono fun e w' ⟨h, hb⟩ => ⟨by rw [h]; exact bad_post (fits_no hp), hb⟩
theorem spec_l01OK : ∀ d, SP d
  | 0 => spec_l01OK_zero
  | d + 1 => spec_l01OK_step (spec_l01OK d)
end Go.Proofs.YtdleccpjejdgiaaGreatDoor
