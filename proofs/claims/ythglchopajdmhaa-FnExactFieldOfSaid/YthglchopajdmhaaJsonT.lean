/- JsonOK, JsonNodes, JsonDepth. No statement is proved here; no conditions. Written by a program (gen41.py). -/
import Derived.Test.YthglchopajdmhaaJsonS
import Derived.Test.YthglchopajdmhaaJsonN
namespace Go.Proofs.Ythglchopajdmhaa
open Go.ChangeShapes Go.WideShapes Go.ChangeAt Go.RowKit Go.Deep
set_option maxRecDepth 100000
set_option linter.unusedVariables false
set_option linter.unusedSimpArgs false

def nodeAns (a : Json) : Int × Int := cond (okJ a) (((cnt 12 a : Nat) : Int), 0) (0, 1)
def depAns (a : Json) : Int × Int := cond (okJ a) (((dep 12 a : Nat) : Int), 0) (0, 1)
theorem okJ_good {a : Json} (h : okJ a = true) : goodJ 12 a = true ∧ cnt 12 a ≤ 400 := by
  unfold okJ fitsJ at h; rw [Bool.and_eq_true] at h; exact ⟨h.1, by have := of_decide_eq_true h.2; omega⟩
theorem SP12 {w : World} {bs : List Nat} {cs : List Value} {a : Json} (H : JsonR w bs cs a) : Calls Try.prog 45 #[.agg cs.toArray, .int .i64 12] w fun e w' => (∃ z : Int, e = .returned (.tuple #[.int .i64 z, .bool (okJ a)]) ∧ (okJ a = true → z = cnt 12 a)) ∧ Below w.heap.size w w' :=
  (spec_l01OK 12 H (dv := 12) rfl (by decide)).mono fun e w' ⟨⟨z, h1, h2, _, _⟩, hb⟩ => ⟨⟨z, h1, h2⟩, hb⟩
theorem spec_JsonOK {w : World} {bs : List Nat} {cs : List Value} {a : Json} (H : JsonR w bs cs a) :
    Calls Try.prog 12 #[.agg cs.toArray] w fun e w' => e = .returned (.bool (okJ a)) ∧ Below w.heap.size w w' := by
  have H0 := H
  obtain ⟨v3, b3, v4, b4, rfl, rfl, hf, r3, r4⟩ := H.open
  obtain ⟨A3, c3, rfl, _, _, _⟩ := r3.use; obtain ⟨A4, c4, rfl, _, _, _⟩ := r4.use
  have hbx := (Below.refl w.heap.size w).alloc (Nat.le_refl _) (.cells #[.int .i64 a.kind, .int .i64 a.n, .string a.t, .slice A3 a.keys.length c3, .slice A4 a.items.length c4] 30)
  go_enter Try.func12, Try.ntmps12
  go_wp2_with fail
  refine (SP12 (JsonR.good.nxt hbx H0)).mono ?_; rintro e w1 ⟨⟨z, rfl, _⟩, hb1⟩; have hw1 := nxt hbx hb1
  go_wp2_with fail
  go_ret
  exact ⟨rfl, hw1⟩
set_option maxHeartbeats 2000000 in
theorem impl_JsonNodes {w : World}  {bs_a : List Nat} {cs_a : List Value} {a : Json} (H_a : JsonR w bs_a cs_a a)  :
    Calls Try.prog 17 #[.agg cs_a.toArray] w (fun e w' => e = .returned (.tuple #[.int .i64 (nodeAns a).1, .int .i64 (nodeAns a).2]) ∧ Below w.heap.size w w') := by
  have H0_a := H_a
  obtain ⟨a_v3, a_b3, a_v4, a_b4, rfl, rfl, hf_a, a_r3, a_r4⟩ := H_a.open
  obtain ⟨A_a3, c_a3, rfl, hlc_a3, hcm_a3, hel_a3⟩ := a_r3.use
  obtain ⟨A_a4, c_a4, rfl, hlc_a4, hcm_a4, hel_a4⟩ := a_r4.use
  have hbx := ((Below.refl w.heap.size w).alloc (Nat.le_refl _) (.cells #[.int .i64 a.kind, .int .i64 a.n, .string a.t, .slice A_a3 a.keys.length c_a3, .slice A_a4 a.items.length c_a4] 30))
  have q_a := blk_cells (blk_new w #[.int .i64 a.kind, .int .i64 a.n, .string a.t, .slice A_a3 a.keys.length c_a3, .slice A_a4 a.items.length c_a4] 30)
  clear hf_a hel_a3 hel_a4
  go_enter Try.func17, Try.ntmps17
  go_wp2_with fail
  refine (impl_JsonOK (JsonR.good.nxt hbx H0_a)).mono ?_; rintro e w1 ⟨rfl, hb1⟩; replace q_a := box_on q_a rfl hb1; have hw1 := nxt hbx hb1
  cases h1 : okJ a
  · have hr : Hid (nodeAns a = (0, 1)) := by show _ = _; unfold nodeAns; rw [h1]; rfl
    clear h1
    go_wp2_with fail
    go_ret2
    exact ⟨by rw [hr.out]; rfl, hw1⟩
  have hg := okJ_good h1
  have hr : Hid (nodeAns a = (((cnt 12 a : Nat) : Int), 0)) := by show _ = _; unfold nodeAns; rw [h1]; rfl
  clear h1
  have HG := hide hg; clear hg
  go_wp2_with fail
  refine (impl_nodes 12 (JsonR.good.nxt hw1 H0_a) HG.out.1 HG.out.2).mono ?_; rintro e w2 ⟨rfl, hb2⟩; replace q_a := box_on q_a rfl hb2; have hw2 := nxt hw1 hb2
  go_wp2_with fail
  go_ret2
  exact ⟨by rw [hr.out]; rfl, hw2⟩
set_option maxHeartbeats 2000000 in
theorem impl_JsonDepth {w : World}  {bs_a : List Nat} {cs_a : List Value} {a : Json} (H_a : JsonR w bs_a cs_a a)  :
    Calls Try.prog 19 #[.agg cs_a.toArray] w (fun e w' => e = .returned (.tuple #[.int .i64 (depAns a).1, .int .i64 (depAns a).2]) ∧ Below w.heap.size w w') := by
  have H0_a := H_a
  obtain ⟨a_v3, a_b3, a_v4, a_b4, rfl, rfl, hf_a, a_r3, a_r4⟩ := H_a.open
  obtain ⟨A_a3, c_a3, rfl, hlc_a3, hcm_a3, hel_a3⟩ := a_r3.use
  obtain ⟨A_a4, c_a4, rfl, hlc_a4, hcm_a4, hel_a4⟩ := a_r4.use
  have hbx := ((Below.refl w.heap.size w).alloc (Nat.le_refl _) (.cells #[.int .i64 a.kind, .int .i64 a.n, .string a.t, .slice A_a3 a.keys.length c_a3, .slice A_a4 a.items.length c_a4] 30))
  have q_a := blk_cells (blk_new w #[.int .i64 a.kind, .int .i64 a.n, .string a.t, .slice A_a3 a.keys.length c_a3, .slice A_a4 a.items.length c_a4] 30)
  clear hf_a hel_a3 hel_a4
  go_enter Try.func19, Try.ntmps19
  go_wp2_with fail
  refine (impl_JsonOK (JsonR.good.nxt hbx H0_a)).mono ?_; rintro e w1 ⟨rfl, hb1⟩; replace q_a := box_on q_a rfl hb1; have hw1 := nxt hbx hb1
  cases h1 : okJ a
  · have hr : Hid (depAns a = (0, 1)) := by show _ = _; unfold depAns; rw [h1]; rfl
    clear h1
    go_wp2_with fail
    go_ret2
    exact ⟨by rw [hr.out]; rfl, hw1⟩
  have hg := okJ_good h1
  have hr : Hid (depAns a = (((dep 12 a : Nat) : Int), 0)) := by show _ = _; unfold depAns; rw [h1]; rfl
  clear h1
  have HG := hide hg; clear hg
  go_wp2_with fail
  refine (impl_depth 12 (JsonR.good.nxt hw1 H0_a) HG.out.1 (by decide)).mono ?_; rintro e w2 ⟨rfl, hb2⟩; replace q_a := box_on q_a rfl hb2; have hw2 := nxt hw1 hb2
  go_wp2_with fail
  go_ret2
  exact ⟨by rw [hr.out]; rfl, hw2⟩
set_option maxHeartbeats 2000000 in
theorem spec_JsonDepth {w : World}  {bs_a : List Nat} {cs_a : List Value} {a : Json} (H_a : JsonR w bs_a cs_a a)  :
    Calls Try.prog 18 #[.agg cs_a.toArray] w (fun e w' => e = .returned (.tuple #[.int .i64 (depAns a).1, .int .i64 (depAns a).2]) ∧ Below w.heap.size w w') := by
  have H0_a := H_a
  obtain ⟨a_v3, a_b3, a_v4, a_b4, rfl, rfl, hf_a, a_r3, a_r4⟩ := H_a.open
  obtain ⟨A_a3, c_a3, rfl, hlc_a3, hcm_a3, hel_a3⟩ := a_r3.use
  obtain ⟨A_a4, c_a4, rfl, hlc_a4, hcm_a4, hel_a4⟩ := a_r4.use
  have hbx := ((Below.refl w.heap.size w).alloc (Nat.le_refl _) (.cells #[.int .i64 a.kind, .int .i64 a.n, .string a.t, .slice A_a3 a.keys.length c_a3, .slice A_a4 a.items.length c_a4] 30))
  have q_a := blk_cells (blk_new w #[.int .i64 a.kind, .int .i64 a.n, .string a.t, .slice A_a3 a.keys.length c_a3, .slice A_a4 a.items.length c_a4] 30)
  clear hf_a hel_a3 hel_a4
  go_enter Try.func18, Try.ntmps18
  go_wp2_with fail
  refine (spec_JsonOK (JsonR.good.nxt hbx H0_a)).mono ?_; rintro e w1 ⟨rfl, hb1⟩; replace q_a := box_on q_a rfl hb1; have hw1 := nxt hbx hb1
  cases h1 : okJ a
  · have hr : Hid (depAns a = (0, 1)) := by show _ = _; unfold depAns; rw [h1]; rfl
    clear h1
    go_wp2_with fail
    go_ret2
    exact ⟨by rw [hr.out]; rfl, hw1⟩
  have hg := okJ_good h1
  have hr : Hid (depAns a = (((dep 12 a : Nat) : Int), 0)) := by show _ = _; unfold depAns; rw [h1]; rfl
  clear h1
  have HG := hide hg; clear hg
  go_wp2_with fail
  refine (spec_l01Depth 12 (JsonR.good.nxt hw1 H0_a) HG.out.1 (by decide)).mono ?_; rintro e w2 ⟨rfl, hb2⟩; replace q_a := box_on q_a rfl hb2; have hw2 := nxt hw1 hb2
  go_wp2_with fail
  go_ret2
  exact ⟨by rw [hr.out]; rfl, hw2⟩
theorem spec_JsonNodes {w : World} {bs : List Nat} {cs : List Value} {a : Json} (H : JsonR w bs cs a) :
    Calls Try.prog 16 #[.agg cs.toArray] w fun e w' => e = .returned (.tuple #[.int .i64 (nodeAns a).1, .int .i64 (nodeAns a).2]) ∧ Below w.heap.size w w' := by
  have H0 := H
  obtain ⟨v3, b3, v4, b4, rfl, rfl, hf, r3, r4⟩ := H.open
  obtain ⟨A3, c3, rfl, _, _, _⟩ := r3.use; obtain ⟨A4, c4, rfl, _, _, _⟩ := r4.use
  have hbx := (Below.refl w.heap.size w).alloc (Nat.le_refl _) (.cells #[.int .i64 a.kind, .int .i64 a.n, .string a.t, .slice A3 a.keys.length c3, .slice A4 a.items.length c4] 30)
  have hc := SP12 (JsonR.good.nxt hbx H0)
  cases h1 : okJ a
  · have hr : Hid (nodeAns a = (0, 1)) := by show _ = _; unfold nodeAns; rw [h1]; rfl
    have HC := hide (hc.mono fun e w' ⟨h, hb⟩ => (⟨by rw [h1] at h; obtain ⟨z, h, _⟩ := h; exact ⟨z, h⟩, hb⟩ : (∃ z : Int, e = Ending.returned (.tuple #[.int .i64 z, .bool false])) ∧ Below _ _ w')); clear hc h1
    go_enter Try.func16, Try.ntmps16
    go_wp2_with fail
    refine HC.out.mono ?_; rintro e w1 ⟨⟨z, rfl⟩, hb1⟩; have hw1 := nxt hbx hb1; clear HC
    go_wp2_with fail
    go_ret2
    exact ⟨by rw [hr.out]; rfl, hw1⟩
  · have hr : Hid (nodeAns a = (((cnt 12 a : Nat) : Int), 0)) := by show _ = _; unfold nodeAns; rw [h1]; rfl
    have HC := hide (hc.mono fun e w' ⟨h, hb⟩ => (⟨by obtain ⟨z, h, h2⟩ := h; rw [h2 h1, h1] at h; exact h, hb⟩ : (e = Ending.returned (.tuple #[.int .i64 ((cnt 12 a : Nat) : Int), .bool true])) ∧ Below _ _ w')); clear hc h1
    go_enter Try.func16, Try.ntmps16
    go_wp2_with fail
    refine HC.out.mono ?_; rintro e w1 ⟨rfl, hb1⟩; have hw1 := nxt hbx hb1; clear HC
    go_wp2_with fail
    go_ret2
    exact ⟨by rw [hr.out]; rfl, hw1⟩
end Go.Proofs.Ythglchopajdmhaa
