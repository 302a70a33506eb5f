/- Lists of conditions on a row. No statement is proved here; no conditions. Written by a program (gen20.py). -/
import Derived.Test.YthbebbnidgeaeaaGreatMatch
import Derived.Test.YthbebbnidgeaeaaGreatResult
import Derived.Test.YthbebbnidgeaeaaGreatFunc
import Derived.Deep.RegionHeld3
namespace Go.Proofs.YthbebbnidgeaeaaGreat
open Go.ChangeShapes Go.WideShapes Go.ChangeAt Go.RowKit Go.Deep
set_option maxRecDepth 100000
set_option linter.unusedVariables false
set_option linter.unusedSimpArgs false

def firstC {α : Type} (f : α → Int) : List α → Int | [] => 0 | c :: l => if f c = 0 then firstC f l else f c
theorem firstC_zero {α : Type} {f : α → Int} {xs : List α} (h : ∀ j (hj : j < xs.length), j < xs.length → f xs[j] = 0) : firstC f xs = 0 := by
  induction xs with
  | nil => rfl
  | cons c l ih =>
    have h0 := h 0 (by simp) (by simp)
    simp only [List.getElem_cons_zero] at h0
    unfold firstC; rw [if_pos h0]
    exact ih fun j hj _ => by have := h (j + 1) (by simp; omega) (by simp; omega); simpa using this
theorem firstC_at {α : Type} {f : α → Int} : ∀ {xs : List α} {k : Nat} (hk : k < xs.length), (∀ j (hj : j < xs.length), j < k → f xs[j] = 0) → ¬ f xs[k] = 0 → firstC f xs = f xs[k]
  | c :: l, 0, _, _, hn => by unfold firstC; rw [if_neg (by simpa using hn)]; rfl
  | c :: l, k + 1, hk, h, hn => by
    have h0 := h 0 (by simp) (by omega)
    simp only [List.getElem_cons_zero] at h0
    unfold firstC; rw [if_pos h0]
    simp only [List.getElem_cons_succ] at hn ⊢
    exact firstC_at (by simpa using hk) (fun j hj hjk => by have := h (j + 1) (by simp; omega) (by omega); simpa using this) hn
theorem firstC_all {α : Type} {f : α → Int} : ∀ {xs : List α}, firstC f xs = 0 → ∀ c ∈ xs, f c = 0
  | [], _, c, hc => by cases hc
  | d :: l, h, c, hc => by
    unfold firstC at h
    split at h
    · rename_i h0
      rcases List.mem_cons.1 hc with rfl | hc
      · exact h0
      · exact firstC_all h c hc
    · rename_i h0; exact absurd h h0
theorem zero_step {α : Type} {f : α → Int} {xs : List α} {k : Nat} (hk : k < xs.length) (h : ∀ j (hj : j < xs.length), j < k → f xs[j] = 0) (h1 : f xs[k] = 0) : ∀ j (hj : j < xs.length), j < k + 1 → f xs[j] = 0 := by
  intro j hj hjk
  by_cases hjk' : j = k
  · subst hjk'; exact h1
  · exact h j hj (by omega)
def condsOK (l : List Cond) : Bool := decide ((l.length : Int) ≤ 8) && l.all condOK
theorem condsOK_at {l : List Cond} (h : condsOK l = true) : l.length ≤ 8 ∧ ∀ c ∈ l, condOK c = true := by
  unfold condsOK at h; rw [Bool.and_eq_true] at h
  exact ⟨by have := of_decide_eq_true h.1; omega, fun c hc => List.all_eq_true.1 h.2 c hc⟩
def allAns (t : Table) (r : Row) (l : List Cond) : Bool × Int := if 4096 < l.length then (false, 2) else if (condsOK l && rowOK t r) = true then (if firstC (condCode t) l = 0 then (l.all (matchesB t r), 0) else (false, firstC (condCode t) l)) else (false, 1)
theorem condOK_len {c : Cond} (h2 : condOK c = true) : c.value.length ≤ 1048576 := by unfold condOK at h2; rw [Bool.and_eq_true, Bool.and_eq_true] at h2; have := datumOK_len h2.2.1; omega
/-- What is asked of each condition ahead of 'matches'. -/
def Ask (t : Table) (r : Row) (c : Cond) : Prop := c.value.length ≤ 1048576 ∧ ((c.func == 1) = false → (c.func == 2) = false → (c.func == 7) = false → (c.func == 8) = false → 0 < c.value.length ∧ compB c.func (cellOf t r c.column) c.value = compN c.func (cellOf t r c.column) c.value)
theorem ask_all {t : Table} {r : Row} {l : List Cond} (h1 : rowOK t r = true) (h2 : condsOK l = true) (h3 : firstC (condCode t) l = 0) : ∀ c ∈ l, Ask t r c := fun c hc => ⟨condOK_len ((condsOK_at h2).2 c hc), comp_eq h1 ((condsOK_at h2).2 c hc) (firstC_all h3 c hc)⟩
theorem clo_condsOK {w : World} {bs : List Nat} {cs : List Value} {c : Cond} (H : CondR w bs cs c) :
    Calls Tryz.prog 95 #[.agg cs.toArray] w fun e w' => e = .returned (.bool (!condOK c)) ∧ Below w.heap.size w w' := by
  have H0 := H
  obtain ⟨v2, b2, rfl, rfl, hf, r2⟩ := H
  obtain ⟨A2, c2, rfl, _, _, _⟩ := r2.use
  have hbx := (Below.refl w.heap.size w).alloc (Nat.le_refl _) (.cells #[.string c.column, .int .i64 c.func, .slice A2 c.value.length c2] 95)
  go_enter Tryz.func95, Tryz.ntmps95
  go_wp2_with fail
  refine (impl_condOK (CondR.good.nxt hbx H0)).mono ?_; rintro e w1 ⟨rfl, hb1⟩
  go_wp2_with fail
  go_ret
  exact ⟨rfl, nxt hbx hb1⟩
theorem impl_condsOK {w : World}  {bs_l : List Nat} {v_l : Value} {l : List Cond} (H_l : CondSR w bs_l [v_l] l)  :
    Calls Tryz.prog 49 #[v_l] w (fun e w' => e = .returned (.bool (condsOK l)) ∧ Below w.heap.size w w') := by
  have H0_l := H_l
  obtain ⟨A_l, c_l, rfl, hlc_l, hcm_l, hel_l⟩ := H_l.use
  clear hel_l
  by_cases h8 : 8 < l.length
  · have h9 : decide ((l.length : Int) ≤ 8) = false := decide_eq_false (by omega)
    go_enter Tryz.func49, Tryz.ntmps49
    go_wp2_with fail
    go_ret
    exact ⟨ret_bool (by unfold condsOK; rw [h9]; rfl), (Below.refl w.heap.size w)⟩
  have h9 : decide ((l.length : Int) ≤ 8) = true := decide_eq_true (by omega)
  clear h8
  go_enter Tryz.func49, Tryz.ntmps49
  go_wp2_with fail
  refine (slices_ContainsFuncCondS (CondSR.good.nxt (Below.refl w.heap.size w) H0_l) (fun c => !condOK c) 95 #[] (enters_of Tryz.func95 (by kernel_rfl) rfl) (fun k hk bk es hR W hW => clo_condsOK (CondR.good.nxt hW hR))).mono ?_; rw [any_not]; rintro e w1 ⟨rfl, hb1⟩; have hw1 := nxt (Below.refl w.heap.size w) hb1
  go_wp2_with fail
  go_ret
  exact ⟨ret_bool (by unfold condsOK; rw [h9]; first | rfl | simp), hw1⟩
set_option maxHeartbeats 2000000 in
theorem spec_l06List {w : World}  {bs_l : List Nat} {v_l : Value} {l : List Cond} (H_l : CondSR w bs_l [v_l] l)  :
    Calls Tryz.prog 41 #[v_l] w (fun e w' => e = .returned (.bool (condsOK l)) ∧ Below w.heap.size w w') := by
  have H0_l := H_l
  obtain ⟨A_l, c_l, rfl, hlc_l, hcm_l, hel_l⟩ := H_l.use
  go_enter Tryz.func41, Tryz.ntmps41
  go_wp2_with fail
  go_loopw [3] (fun i wr => ∃ k : Nat, k ≤ l.length ∧ i = .int .i64 k ∧ Hid (∀ j (hj : j < l.length), j < k → condOK l[j] = true) ∧ Below (World.heap (w)).size (w) wr) (fun i _ => l.length - (intOf i).toNat)
  case atStart => exact ⟨0, Nat.zero_le _, rfl, all_zero, Below.refl _ _⟩
  case round =>
    obtain ⟨k1, hk1, rfl, hn1_, hb1001⟩ := hrel
    obtain ⟨wl1, rfl⟩ : ∃ w' : World, w' = wr := ⟨_, rfl⟩
    have hwl1 := nxt (Below.refl w.heap.size w) hb1001
    by_cases hlt1 : k1 < l.length
    · obtain ⟨gb, go, gbk, ges, rfl, ghbl, ghcl, ghcell, gR, ghbk⟩ := hel_l k1 hlt1
      have gR0 := gR
      obtain ⟨gv2, gb2, _, ghes, ghf, gr2⟩ := gR
      subst ghes
      obtain ⟨gA2, gc2, rfl, ghlc2, ghcm2, ghel2⟩ := gr2.use
      have g_0 := (hwl1.cell (p := ⟨gb, _, none⟩) ghbl).trans (ghcell 0 _ rfl)
      have g_1 := (hwl1.cell (p := ⟨gb, _, none⟩) ghbl).trans (ghcell 1 _ rfl)
      have g_2 := (hwl1.cell (p := ⟨gb, _, none⟩) ghbl).trans (ghcell 2 _ rfl)
      simp only [Nat.add_zero] at g_0 g_1 g_2
      clear ghcell ghcl
      go_wp2_with fail
      refine (spec_l06OK (CondR.good.nxt hwl1 gR0)).mono ?_; rintro e w1 ⟨rfl, hb1⟩; have hw1 := nxt hwl1 hb1; have hl0_1 := nxt hb1001 hb1
      cases h5 : condOK l[k1]
      · go_wp2_with fail
        go_ret
        exact ⟨ret_bool (by unfold condsOK; rw [all_false hlt1 h5, Bool.and_false]), hw1⟩
      have hn2 := hide (all_step hlt1 hn1_.out h5); clear h5
      go_wp2_with fail
      go_roundw
      case rel => exact ⟨k1 + 1, hlt1, by go_num, hn2, hl0_1⟩
      case measure => simp [intOf]; omega
    · obtain rfl : k1 = l.length := by omega
      have H5 := hide (all_true hn1_.out); clear hel_l
      go_wp2
      go_ret
      exact ⟨ret_bool (by unfold condsOK; rw [H5.out, Bool.and_true]), hwl1⟩
set_option maxHeartbeats 2000000 in
theorem impl_condsCode {w : World}  {bs_t : List Nat} {cs_t : List Value} {t : Table} (H_t : TableR w bs_t cs_t t) {bs_l : List Nat} {v_l : Value} {l : List Cond} (H_l : CondSR w bs_l [v_l] l)  :
    Calls Tryz.prog 51 #[.agg cs_t.toArray, v_l] w (fun e w' => e = .returned (.int .i64 (firstC (condCode t) l)) ∧ Below w.heap.size w w') := by
  have H0_l := H_l
  obtain ⟨A_l, c_l, rfl, hlc_l, hcm_l, hel_l⟩ := H_l.use
  have H0_t := H_t
  obtain ⟨t_v1, t_b1, t_v2, t_b2, rfl, rfl, hf_t, t_r1, t_r2⟩ := H_t
  obtain ⟨A_t1, c_t1, rfl, hlc_t1, hcm_t1, hel_t1⟩ := t_r1.use
  obtain ⟨A_t2, c_t2, rfl, hlc_t2, hcm_t2, hel_t2⟩ := t_r2.use
  have hbx := ((Below.refl w.heap.size w).alloc (Nat.le_refl _) (.cells #[.string t.name, .slice A_t1 t.columns.length c_t1, .slice A_t2 t.unique.length c_t2, .bool t.root] 37))
  have q_t := blk_cells (blk_new w #[.string t.name, .slice A_t1 t.columns.length c_t1, .slice A_t2 t.unique.length c_t2, .bool t.root] 37)
  clear hel_t1 hel_t2
  go_enter Tryz.func51, Tryz.ntmps51
  go_wp2_with fail
  go_loopw [10] (fun i wr => ∃ k : Nat, k ≤ l.length ∧ i = .int .i64 k ∧ Hid (∀ j (hj : j < l.length), j < k → condCode t l[j] = 0) ∧ Below (World.heap ((w.alloc (.cells #[.string t.name, .slice A_t1 t.columns.length c_t1, .slice A_t2 t.unique.length c_t2, .bool t.root] 37)))).size ((w.alloc (.cells #[.string t.name, .slice A_t1 t.columns.length c_t1, .slice A_t2 t.unique.length c_t2, .bool t.root] 37))) wr) (fun i _ => l.length - (intOf i).toNat)
  case atStart => exact ⟨0, Nat.zero_le _, rfl, fun _ _ h => absurd h (Nat.not_lt_zero _), Below.refl _ _⟩
  case round =>
    obtain ⟨k1, hk1, rfl, hn1_, hb1001⟩ := hrel
    obtain ⟨wl1, rfl⟩ : ∃ w' : World, w' = wr := ⟨_, rfl⟩
    replace q_t := box_on q_t rfl hb1001
    have hwl1 := nxt hbx hb1001
    by_cases hlt1 : k1 < l.length
    · obtain ⟨gb, go, gbk, ges, rfl, ghbl, ghcl, ghcell, gR, ghbk⟩ := hel_l k1 hlt1
      have gR0 := gR
      obtain ⟨gv2, gb2, _, ghes, ghf, gr2⟩ := gR
      subst ghes
      obtain ⟨gA2, gc2, rfl, ghlc2, ghcm2, ghel2⟩ := gr2.use
      have g_0 := (hwl1.cell (p := ⟨gb, _, none⟩) ghbl).trans (ghcell 0 _ rfl)
      have g_1 := (hwl1.cell (p := ⟨gb, _, none⟩) ghbl).trans (ghcell 1 _ rfl)
      have g_2 := (hwl1.cell (p := ⟨gb, _, none⟩) ghbl).trans (ghcell 2 _ rfl)
      simp only [Nat.add_zero] at g_0 g_1 g_2
      clear ghcell ghcl
      replace q_t := box_on q_t rfl ((Below.refl (World.heap (wl1)).size (wl1)).alloc (Nat.le_refl _) (.cells #[.string l[k1].column, .int .i64 l[k1].func, .slice gA2 l[k1].value.length gc2] 95))
      have q_v1 := blk_cells (blk_new (wl1) #[.string l[k1].column, .int .i64 l[k1].func, .slice gA2 l[k1].value.length gc2] 95)
      have hn1 := (hwl1).alloc (hwl1).size (.cells #[.string l[k1].column, .int .i64 l[k1].func, .slice gA2 l[k1].value.length gc2] 95)
      have hc1_0 := (hb1001).alloc (hb1001).size (.cells #[.string l[k1].column, .int .i64 l[k1].func, .slice gA2 l[k1].value.length gc2] 95)
      go_wp2_with fail
      refine (impl_condCode (TableR.good.nxt hn1 H0_t) (CondR.good.nxt hn1 gR0)).mono ?_; rintro e w1 ⟨rfl, hb1⟩; replace q_t := box_on q_t rfl hb1; replace q_v1 := box_on q_v1 rfl hb1; have hw1 := nxt hn1 hb1; have hl0_1 := nxt hc1_0 hb1
      by_cases hc : ¬ condCode t l[k1] = 0
      · have hc2 : (condCode t l[k1] != 0) = true := by simp [hc]
        have hr := hide (firstC_at (f := condCode t) hlt1 hn1_.out hc); clear hc
        go_wp2_with fail
        go_ret
        exact ⟨ret_int (by rw [hr.out]), hw1⟩
      have hc := Decidable.not_not.1 hc
      have hc2 : (condCode t l[k1] != 0) = false := by simp [hc]
      have hn2 := hide (zero_step (f := condCode t) hlt1 hn1_.out hc); clear hc
      go_wp2_with fail
      go_roundw
      case rel => exact ⟨k1 + 1, hlt1, by go_num, hn2, hl0_1⟩
      case measure => simp [intOf]; omega
    · obtain rfl : k1 = l.length := by omega
      have hr := hide (firstC_zero (f := condCode t) hn1_.out); clear hel_l
      go_wp2
      go_ret
      exact ⟨ret_int (by rw [hr.out]), hwl1⟩
set_option maxHeartbeats 2000000 in
theorem spec_l06Conds {w : World}  {bs_t : List Nat} {cs_t : List Value} {t : Table} (H_t : TableR w bs_t cs_t t) {bs_l : List Nat} {v_l : Value} {l : List Cond} (H_l : CondSR w bs_l [v_l] l)  :
    Calls Tryz.prog 42 #[.agg cs_t.toArray, v_l] w (fun e w' => e = .returned (.int .i64 (firstC (condCode t) l)) ∧ Below w.heap.size w w') := by
  have H0_l := H_l
  obtain ⟨A_l, c_l, rfl, hlc_l, hcm_l, hel_l⟩ := H_l.use
  have H0_t := H_t
  obtain ⟨t_v1, t_b1, t_v2, t_b2, rfl, rfl, hf_t, t_r1, t_r2⟩ := H_t
  obtain ⟨A_t1, c_t1, rfl, hlc_t1, hcm_t1, hel_t1⟩ := t_r1.use
  obtain ⟨A_t2, c_t2, rfl, hlc_t2, hcm_t2, hel_t2⟩ := t_r2.use
  have hbx := ((Below.refl w.heap.size w).alloc (Nat.le_refl _) (.cells #[.string t.name, .slice A_t1 t.columns.length c_t1, .slice A_t2 t.unique.length c_t2, .bool t.root] 37))
  have q_t := blk_cells (blk_new w #[.string t.name, .slice A_t1 t.columns.length c_t1, .slice A_t2 t.unique.length c_t2, .bool t.root] 37)
  clear hel_t1 hel_t2
  go_enter Tryz.func42, Tryz.ntmps42
  go_wp2_with fail
  go_loopw [5] (fun i wr => ∃ k : Nat, k ≤ l.length ∧ i = .int .i64 k ∧ Hid (∀ j (hj : j < l.length), j < k → condCode t l[j] = 0) ∧ Below (World.heap ((w.alloc (.cells #[.string t.name, .slice A_t1 t.columns.length c_t1, .slice A_t2 t.unique.length c_t2, .bool t.root] 37)))).size ((w.alloc (.cells #[.string t.name, .slice A_t1 t.columns.length c_t1, .slice A_t2 t.unique.length c_t2, .bool t.root] 37))) wr) (fun i _ => l.length - (intOf i).toNat)
  case atStart => exact ⟨0, Nat.zero_le _, rfl, fun _ _ h => absurd h (Nat.not_lt_zero _), Below.refl _ _⟩
  case round =>
    obtain ⟨k1, hk1, rfl, hn1_, hb1001⟩ := hrel
    obtain ⟨wl1, rfl⟩ : ∃ w' : World, w' = wr := ⟨_, rfl⟩
    replace q_t := box_on q_t rfl hb1001
    have hwl1 := nxt hbx hb1001
    by_cases hlt1 : k1 < l.length
    · obtain ⟨gb, go, gbk, ges, rfl, ghbl, ghcl, ghcell, gR, ghbk⟩ := hel_l k1 hlt1
      have gR0 := gR
      obtain ⟨gv2, gb2, _, ghes, ghf, gr2⟩ := gR
      subst ghes
      obtain ⟨gA2, gc2, rfl, ghlc2, ghcm2, ghel2⟩ := gr2.use
      have g_0 := Fw.cell ((hwl1.cell (p := ⟨gb, _, none⟩) ghbl).trans (ghcell 0 _ rfl))
      have g_1 := Fw.cell ((hwl1.cell (p := ⟨gb, _, none⟩) ghbl).trans (ghcell 1 _ rfl))
      have g_2 := Fw.cell ((hwl1.cell (p := ⟨gb, _, none⟩) ghbl).trans (ghcell 2 _ rfl))
      simp only [Nat.add_zero] at g_0 g_1 g_2
      have A1 := hide (fun (i : Fw wl1) => spec_l06Code (TableR.good.nxt (nxt hwl1 i.h) H0_t) (CondR.good.nxt (nxt hwl1 i.h) gR0))
      go_wp2_with fail
      have q_tF0 := Fw.cell (box_cell q_t 0 rfl)
      have q_tF1 := Fw.cell (box_cell q_t 1 rfl)
      have q_tF2 := Fw.cell (box_cell q_t 2 rfl)
      have q_tF3 := Fw.cell (box_cell q_t 3 rfl)
      refine region_quiet (by kernel_rfl) (by kernel_rfl) ?_
      repeat (go_big_quiet_step ((first | (go_at_call 90; exact quiet_of (A1.out _)))))
      refine wpQuiet_nil ?_; intro w1 hb1; replace q_t := box_on q_t rfl hb1; have hw1 := nxt hwl1 hb1; have hl0_1 := nxt hb1001 hb1; clear q_tF0 q_tF1 q_tF2 q_tF3 g_0 g_1 g_2
      by_cases hc : ¬ condCode t l[k1] = 0
      · have hc2 : (condCode t l[k1] != 0) = true := by simp [hc]
        have hr := hide (firstC_at (f := condCode t) hlt1 hn1_.out hc); clear hc
        go_wp2_with fail
        go_ret
        exact ⟨ret_int (by rw [hr.out]), hw1⟩
      have hc := Decidable.not_not.1 hc
      have hc2 : (condCode t l[k1] != 0) = false := by simp [hc]
      have hn2 := hide (zero_step (f := condCode t) hlt1 hn1_.out hc); clear hc
      go_wp2_with fail
      go_roundw
      case rel => exact ⟨k1 + 1, hlt1, by go_num, hn2, hl0_1⟩
      case measure => simp [intOf]; omega
    · obtain rfl : k1 = l.length := by omega
      have hr := hide (firstC_zero (f := condCode t) hn1_.out); clear hel_l
      go_wp2
      go_ret
      exact ⟨ret_int (by rw [hr.out]), hwl1⟩
set_option maxHeartbeats 2000000 in
theorem clo_matchesAll {w : World} {m_t : Nat} {bs_t : List Nat} {cs_t : List Value} {t : Table} {m_r : Nat} {bs_r : List Nat} {cs_r : List Value} {r : Row} {bs_c : List Nat} {cs_c : List Value} {c : Cond} (H_c : CondR w bs_c cs_c c) (H_t : TableR w bs_t cs_t t) (q_t : ∀ j, w.cell? ⟨m_t, j, none⟩ = cs_t.toArray[j]?) (H_r : RowR w bs_r cs_r r) (q_r : ∀ j, w.cell? ⟨m_r, j, none⟩ = cs_r.toArray[j]?) (hl : r.cells.length = t.columns.length) (ha : Ask t r c) :
    Calls Tryz.prog 101 #[.agg cs_c.toArray, .pointer (some ⟨m_t, 0, none⟩), .pointer (some ⟨m_r, 0, none⟩)] w (fun e w' => e = .returned (.bool (!matchesB t r c)) ∧ Below w.heap.size w w') := by
  have H0_c := H_c
  obtain ⟨c_v2, c_b2, rfl, rfl, hf_c, c_r2⟩ := H_c
  obtain ⟨A_c2, c_c2, rfl, hlc_c2, hcm_c2, hel_c2⟩ := c_r2.use
  have hbx := ((Below.refl w.heap.size w).alloc (Nat.le_refl _) (.cells #[.string c.column, .int .i64 c.func, .slice A_c2 c.value.length c_c2] 95))
  have q_c := blk_cells (blk_new w #[.string c.column, .int .i64 c.func, .slice A_c2 c.value.length c_c2] 95)
  have H0_t := H_t
  obtain ⟨t_v1, t_b1, t_v2, t_b2, rfl, rfl, hf_t, t_r1, t_r2⟩ := H_t
  obtain ⟨A_t1, c_t1, rfl, _, _, _⟩ := t_r1.use
  obtain ⟨A_t2, c_t2, rfl, _, _, _⟩ := t_r2.use
  replace q_t := box_on q_t rfl hbx
  have H0_r := H_r
  obtain ⟨r_v1, r_b1, rfl, rfl, hf_r, r_r1⟩ := H_r
  obtain ⟨A_r1, c_r1, rfl, _, _, _⟩ := r_r1.use
  replace q_r := box_on q_r rfl hbx
  clear hel_c2; have HL := hide hl; have HA := hide ha; clear hl ha
  go_enter Tryz.func101, Tryz.ntmps101
  go_wp2_with fail
  refine (impl_matches (TableR.good.nxt hbx H0_t) (RowR.good.nxt hbx H0_r) (CondR.good.nxt hbx H0_c) HL.out HA.out.1 HA.out.2).mono ?_; rintro e w1 ⟨rfl, hb1⟩; replace q_c := box_on q_c rfl hb1; replace q_t := box_on q_t rfl hb1; replace q_r := box_on q_r rfl hb1; have hw1 := nxt hbx hb1
  go_wp2_with fail
  go_ret
  exact ⟨rfl, hw1⟩
set_option maxHeartbeats 2000000 in
theorem impl_matchesAll {w : World}  {bs_t : List Nat} {cs_t : List Value} {t : Table} (H_t : TableR w bs_t cs_t t) {bs_r : List Nat} {cs_r : List Value} {r : Row} (H_r : RowR w bs_r cs_r r) {bs_l : List Nat} {v_l : Value} {l : List Cond} (H_l : CondSR w bs_l [v_l] l) (hl : r.cells.length = t.columns.length) (ha : ∀ c ∈ l, Ask t r c) :
    Calls Tryz.prog 52 #[.agg cs_t.toArray, .agg cs_r.toArray, v_l] w (fun e w' => e = .returned (.bool (l.all (matchesB t r))) ∧ Below w.heap.size w w') := by
  have H0_l := H_l
  obtain ⟨A_l, c_l, rfl, hlc_l, hcm_l, hel_l⟩ := H_l.use
  have H0_t := H_t
  obtain ⟨t_v1, t_b1, t_v2, t_b2, rfl, rfl, hf_t, t_r1, t_r2⟩ := H_t
  obtain ⟨A_t1, c_t1, rfl, hlc_t1, hcm_t1, hel_t1⟩ := t_r1.use
  obtain ⟨A_t2, c_t2, rfl, hlc_t2, hcm_t2, hel_t2⟩ := t_r2.use
  have H0_r := H_r
  obtain ⟨r_v1, r_b1, rfl, rfl, hf_r, r_r1⟩ := H_r
  obtain ⟨A_r1, c_r1, rfl, hlc_r1, hcm_r1, hel_r1⟩ := r_r1.use
  have hbx := (((Below.refl w.heap.size w).alloc (Nat.le_refl _) (.cells #[.string t.name, .slice A_t1 t.columns.length c_t1, .slice A_t2 t.unique.length c_t2, .bool t.root] 37)).alloc (by simp; try omega) (.cells #[.int .i64 r.id, .slice A_r1 r.cells.length c_r1] 41))
  obtain ⟨q_t, q_r⟩ := two_at (Below.refl ((w.alloc (.cells #[.string t.name, .slice A_t1 t.columns.length c_t1, .slice A_t2 t.unique.length c_t2, .bool t.root] 37)).alloc (.cells #[.int .i64 r.id, .slice A_r1 r.cells.length c_r1] 41)).heap.size _)
  clear hel_t1 hel_t2 hel_r1 hel_l; have HL := hide hl; have HA := hide ha; clear hl ha
  go_enter Tryz.func52, Tryz.ntmps52
  go_wp2_with fail
  refine (slices_ContainsFuncCondS (CondSR.good.nxt hbx H0_l) (fun c => !matchesB t r c) 101 #[.pointer (some ⟨w.heap.size, 0, none⟩), .pointer (some ⟨w.heap.size + 1, 0, none⟩)] (enters_of Tryz.func101 (by kernel_rfl) rfl) (fun k hk bk es hR W hW => clo_matchesAll (CondR.good.nxt hW hR) (TableR.good.nxt (nxt hbx hW) H0_t) (box_on q_t rfl hW) (RowR.good.nxt (nxt hbx hW) H0_r) (box_on q_r rfl hW) HL.out (HA.out _ (List.getElem_mem hk)))).mono ?_; rw [any_not]; rintro e w1 ⟨rfl, hb1⟩; replace q_t := box_on q_t rfl hb1; replace q_r := box_on q_r rfl hb1; have hw1 := nxt hbx hb1
  go_wp2_with fail
  go_ret
  exact ⟨ret_bool (by first | rfl | simp), hw1⟩
set_option maxHeartbeats 4000000 in
theorem spec_l06All {w : World}  {bs_t : List Nat} {cs_t : List Value} {t : Table} (H_t : TableR w bs_t cs_t t) {bs_r : List Nat} {cs_r : List Value} {r : Row} (H_r : RowR w bs_r cs_r r) {bs_l : List Nat} {v_l : Value} {l : List Cond} (H_l : CondSR w bs_l [v_l] l) (hl : r.cells.length = t.columns.length) (ha : ∀ c ∈ l, Ask t r c) :
    Calls Tryz.prog 43 #[.agg cs_t.toArray, .agg cs_r.toArray, v_l] w (fun e w' => e = .returned (.bool (l.all (matchesB t r))) ∧ Below w.heap.size w w') := by
  have H0_l := H_l
  obtain ⟨A_l, c_l, rfl, hlc_l, hcm_l, hel_l⟩ := H_l.use
  have H0_t := H_t
  obtain ⟨t_v1, t_b1, t_v2, t_b2, rfl, rfl, hf_t, t_r1, t_r2⟩ := H_t
  obtain ⟨A_t1, c_t1, rfl, hlc_t1, hcm_t1, hel_t1⟩ := t_r1.use
  obtain ⟨A_t2, c_t2, rfl, hlc_t2, hcm_t2, hel_t2⟩ := t_r2.use
  have H0_r := H_r
  obtain ⟨r_v1, r_b1, rfl, rfl, hf_r, r_r1⟩ := H_r
  obtain ⟨A_r1, c_r1, rfl, hlc_r1, hcm_r1, hel_r1⟩ := r_r1.use
  have hbx := (((Below.refl w.heap.size w).alloc (Nat.le_refl _) (.cells #[.string t.name, .slice A_t1 t.columns.length c_t1, .slice A_t2 t.unique.length c_t2, .bool t.root] 37)).alloc (by simp; try omega) (.cells #[.int .i64 r.id, .slice A_r1 r.cells.length c_r1] 41))
  obtain ⟨q_t, q_r⟩ := two_at (Below.refl ((w.alloc (.cells #[.string t.name, .slice A_t1 t.columns.length c_t1, .slice A_t2 t.unique.length c_t2, .bool t.root] 37)).alloc (.cells #[.int .i64 r.id, .slice A_r1 r.cells.length c_r1] 41)).heap.size _)
  clear hel_t1 hel_t2 hel_r1; have HL := hide hl; have HA := hide ha; clear hl ha
  go_enter Tryz.func43, Tryz.ntmps43
  go_wp2_with fail
  go_loopw [7] (fun i wr => ∃ k : Nat, k ≤ l.length ∧ i = .int .i64 k ∧ Hid (∀ j (hj : j < l.length), j < k → matchesB t r l[j] = true) ∧ Below (World.heap (((w.alloc (.cells #[.string t.name, .slice A_t1 t.columns.length c_t1, .slice A_t2 t.unique.length c_t2, .bool t.root] 37)).alloc (.cells #[.int .i64 r.id, .slice A_r1 r.cells.length c_r1] 41)))).size (((w.alloc (.cells #[.string t.name, .slice A_t1 t.columns.length c_t1, .slice A_t2 t.unique.length c_t2, .bool t.root] 37)).alloc (.cells #[.int .i64 r.id, .slice A_r1 r.cells.length c_r1] 41))) wr) (fun i _ => l.length - (intOf i).toNat)
  case atStart => exact ⟨0, Nat.zero_le _, rfl, all_zero, Below.refl _ _⟩
  case round =>
    obtain ⟨k1, hk1, rfl, hn1_, hb1001⟩ := hrel
    obtain ⟨wl1, rfl⟩ : ∃ w' : World, w' = wr := ⟨_, rfl⟩
    replace q_t := box_on q_t rfl hb1001
    replace q_r := box_on q_r rfl hb1001
    have hwl1 := nxt hbx hb1001
    by_cases hlt1 : k1 < l.length
    · obtain ⟨gb, go, gbk, ges, rfl, ghbl, ghcl, ghcell, gR, ghbk⟩ := hel_l k1 hlt1
      have gR0 := gR
      obtain ⟨gv2, gb2, _, ghes, ghf, gr2⟩ := gR
      subst ghes
      obtain ⟨gA2, gc2, rfl, ghlc2, ghcm2, ghel2⟩ := gr2.use
      have g_0 := Fw.cell ((hwl1.cell (p := ⟨gb, _, none⟩) ghbl).trans (ghcell 0 _ rfl))
      have g_1 := Fw.cell ((hwl1.cell (p := ⟨gb, _, none⟩) ghbl).trans (ghcell 1 _ rfl))
      have g_2 := Fw.cell ((hwl1.cell (p := ⟨gb, _, none⟩) ghbl).trans (ghcell 2 _ rfl))
      simp only [Nat.add_zero] at g_0 g_1 g_2
      have hA := HA.out _ (List.getElem_mem hlt1)
      have A1 := hide (fun (i : Fw wl1) => spec_l06Matches (TableR.good.nxt (nxt hwl1 i.h) H0_t) (RowR.good.nxt (nxt hwl1 i.h) H0_r) (CondR.good.nxt (nxt hwl1 i.h) gR0) HL.out hA.1 hA.2); clear hA
      go_wp2_with fail
      have q_tF0 := Fw.cell (box_cell q_t 0 rfl)
      have q_tF1 := Fw.cell (box_cell q_t 1 rfl)
      have q_tF2 := Fw.cell (box_cell q_t 2 rfl)
      have q_tF3 := Fw.cell (box_cell q_t 3 rfl)
      have q_rF0 := Fw.cell (box_cell q_r 0 rfl)
      have q_rF1 := Fw.cell (box_cell q_r 1 rfl)
      refine region_quiet (by kernel_rfl) (by kernel_rfl) ?_
      repeat (go_big_quiet_step ((first | (go_at_call 91; exact quiet_of (A1.out _)))))
      refine wpQuiet_nil ?_; intro w1 hb1; replace q_t := box_on q_t rfl hb1; replace q_r := box_on q_r rfl hb1; have hw1 := nxt hwl1 hb1; have hl0_1 := nxt hb1001 hb1; clear q_tF0 q_tF1 q_tF2 q_tF3 q_rF0 q_rF1 g_0 g_1 g_2
      cases h5 : matchesB t r l[k1]
      · go_wp2_with fail
        go_ret
        exact ⟨ret_bool (by rw [all_false hlt1 h5]), hw1⟩
      have hn2 := hide (all_step hlt1 hn1_.out h5); clear h5
      go_wp2_with fail
      go_roundw
      case rel => exact ⟨k1 + 1, hlt1, by go_num, hn2, hl0_1⟩
      case measure => simp [intOf]; omega
    · obtain rfl : k1 = l.length := by omega
      have hr := hide (all_true hn1_.out); clear hel_l
      go_wp2
      go_ret
      exact ⟨ret_bool (by rw [hr.out]), hwl1⟩
theorem impl_isListC {w : World} {bs : List Nat} {v : Value} {d : List Cond} (hd : CondSR w bs [v] d) :
    Calls Tryz.prog 48 #[v] w fun e w' => e = .returned (.bool (decide ((d.length : Int) ≤ 4096))) ∧ w = w' := by
  obtain ⟨A, c, rfl, _, _, _⟩ := hd.use
  go_enter Tryz.func48, Tryz.ntmps48
  go_wp2
  go_ret
  exact ⟨rfl, rfl⟩
set_option maxHeartbeats 4000000 in
theorem impl_MatchesAll {w : World}  {bs_t : List Nat} {cs_t : List Value} {t : Table} (H_t : TableR w bs_t cs_t t) {bs_r : List Nat} {cs_r : List Value} {r : Row} (H_r : RowR w bs_r cs_r r) {bs_l : List Nat} {v_l : Value} {l : List Cond} (H_l : CondSR w bs_l [v_l] l)  :
    Calls Tryz.prog 14 #[.agg cs_t.toArray, .agg cs_r.toArray, v_l] w (fun e w' => e = .returned (.tuple #[.bool (allAns t r l).1, .int .i64 (allAns t r l).2]) ∧ Below w.heap.size w w') := by
  have H0_l := H_l
  obtain ⟨A_l, c_l, rfl, hlc_l, hcm_l, hel_l⟩ := H_l.use
  have H0_t := H_t
  obtain ⟨t_v1, t_b1, t_v2, t_b2, rfl, rfl, hf_t, t_r1, t_r2⟩ := H_t
  obtain ⟨A_t1, c_t1, rfl, hlc_t1, hcm_t1, hel_t1⟩ := t_r1.use
  obtain ⟨A_t2, c_t2, rfl, hlc_t2, hcm_t2, hel_t2⟩ := t_r2.use
  have H0_r := H_r
  obtain ⟨r_v1, r_b1, rfl, rfl, hf_r, r_r1⟩ := H_r
  obtain ⟨A_r1, c_r1, rfl, hlc_r1, hcm_r1, hel_r1⟩ := r_r1.use
  have hbx := (((Below.refl w.heap.size w).alloc (Nat.le_refl _) (.cells #[.string t.name, .slice A_t1 t.columns.length c_t1, .slice A_t2 t.unique.length c_t2, .bool t.root] 37)).alloc (by simp; try omega) (.cells #[.int .i64 r.id, .slice A_r1 r.cells.length c_r1] 41))
  obtain ⟨q_t, q_r⟩ := two_at (Below.refl ((w.alloc (.cells #[.string t.name, .slice A_t1 t.columns.length c_t1, .slice A_t2 t.unique.length c_t2, .bool t.root] 37)).alloc (.cells #[.int .i64 r.id, .slice A_r1 r.cells.length c_r1] 41)).heap.size _)
  clear hel_t1 hel_t2 hel_r1 hel_l
  by_cases h4 : 4096 < l.length
  · have hs : Hid (allAns t r l = (false, 2)) := by show _ = _; unfold allAns; rw [if_pos h4]
    have h9 : decide ((l.length : Int) ≤ 4096) = false := decide_eq_false (by omega)
    go_enter Tryz.func14, Tryz.ntmps14
    go_wp2_with fail
    refine (impl_isListC (CondSR.good.nxt hbx H0_l)).mono ?_; rintro e w1 ⟨rfl, rfl⟩
    go_wp2_with fail
    go_ret2
    exact ⟨by rw [hs.out]; rfl, hbx⟩
  have hs0 : Hid (allAns t r l = if (condsOK l && rowOK t r) = true then (if firstC (condCode t) l = 0 then (l.all (matchesB t r), 0) else (false, firstC (condCode t) l)) else (false, 1)) := by show _ = _; unfold allAns; rw [if_neg h4]
  have h9 : decide ((l.length : Int) ≤ 4096) = true := decide_eq_true (by omega)
  clear h4
  go_enter Tryz.func14, Tryz.ntmps14
  go_wp2_with fail
  refine (impl_isListC (CondSR.good.nxt hbx H0_l)).mono ?_; rintro e w2 ⟨rfl, rfl⟩
  go_wp2_with fail
  refine (impl_condsOK (CondSR.good.nxt hbx H0_l)).mono ?_; rintro e w3 ⟨rfl, hb3⟩; replace q_t := box_on q_t rfl hb3; replace q_r := box_on q_r rfl hb3; have hw3 := nxt hbx hb3
  cases h2 : condsOK l
  · go_wp2_with fail
    go_ret2
    exact ⟨by rw [hs0.out, h2]; first | rfl | simp, hw3⟩
  go_wp2_with fail
  refine (impl_RowOK (TableR.good.nxt hw3 H0_t) (RowR.good.nxt hw3 H0_r)).mono ?_; rintro e w4 ⟨rfl, hb4⟩; replace q_t := box_on q_t rfl hb4; replace q_r := box_on q_r rfl hb4; have hw4 := nxt hw3 hb4
  cases h1 : rowOK t r
  · go_wp2_with fail
    go_ret2
    exact ⟨by rw [hs0.out, h1, h2]; rfl, hw4⟩
  go_wp2_with fail
  refine (impl_condsCode (TableR.good.nxt hw4 H0_t) (CondSR.good.nxt hw4 H0_l)).mono ?_; rintro e w5 ⟨rfl, hb5⟩; replace q_t := box_on q_t rfl hb5; replace q_r := box_on q_r rfl hb5; have hw5 := nxt hw4 hb5
  by_cases hc : ¬ firstC (condCode t) l = 0
  · have hs : Hid (allAns t r l = (false, firstC (condCode t) l)) := by show _ = _; rw [hs0.out, h1, h2]; show (if _ then _ else _) = _; rw [if_pos (show (true && true) = true from rfl), if_neg hc]
    have hc2 : (firstC (condCode t) l != 0) = true := by simp [hc]
    clear hc
    go_wp2_with fail
    go_ret2
    exact ⟨by rw [hs.out]; rfl, hw5⟩
  have hc := Decidable.not_not.1 hc
  have HA := hide (ask_all h1 h2 hc)
  have hs : Hid (allAns t r l = (l.all (matchesB t r), 0)) := by show _ = _; rw [hs0.out, h1, h2]; show (if _ then _ else _) = _; rw [if_pos (show (true && true) = true from rfl), if_pos hc]
  have hc2 : (firstC (condCode t) l != 0) = false := by simp [hc]
  have HL := hide (row_len h1); clear hc
  go_wp2_with fail
  refine (impl_matchesAll (TableR.good.nxt hw5 H0_t) (RowR.good.nxt hw5 H0_r) (CondSR.good.nxt hw5 H0_l) HL.out HA.out).mono ?_; rintro e w6 ⟨rfl, hb6⟩; replace q_t := box_on q_t rfl hb6; replace q_r := box_on q_r rfl hb6; have hw6 := nxt hw5 hb6
  go_wp2_with fail
  go_ret2
  exact ⟨by rw [hs.out]; rfl, hw6⟩
set_option maxHeartbeats 4000000 in
theorem spec_MatchesAll {w : World}  {bs_t : List Nat} {cs_t : List Value} {t : Table} (H_t : TableR w bs_t cs_t t) {bs_r : List Nat} {cs_r : List Value} {r : Row} (H_r : RowR w bs_r cs_r r) {bs_l : List Nat} {v_l : Value} {l : List Cond} (H_l : CondSR w bs_l [v_l] l)  :
    Calls Tryz.prog 10 #[.agg cs_t.toArray, .agg cs_r.toArray, v_l] w (fun e w' => e = .returned (.tuple #[.bool (allAns t r l).1, .int .i64 (allAns t r l).2]) ∧ Below w.heap.size w w') := by
  have H0_l := H_l
  obtain ⟨A_l, c_l, rfl, hlc_l, hcm_l, hel_l⟩ := H_l.use
  have H0_t := H_t
  obtain ⟨t_v1, t_b1, t_v2, t_b2, rfl, rfl, hf_t, t_r1, t_r2⟩ := H_t
  obtain ⟨A_t1, c_t1, rfl, hlc_t1, hcm_t1, hel_t1⟩ := t_r1.use
  obtain ⟨A_t2, c_t2, rfl, hlc_t2, hcm_t2, hel_t2⟩ := t_r2.use
  have H0_r := H_r
  obtain ⟨r_v1, r_b1, rfl, rfl, hf_r, r_r1⟩ := H_r
  obtain ⟨A_r1, c_r1, rfl, hlc_r1, hcm_r1, hel_r1⟩ := r_r1.use
  have hbx := (((Below.refl w.heap.size w).alloc (Nat.le_refl _) (.cells #[.string t.name, .slice A_t1 t.columns.length c_t1, .slice A_t2 t.unique.length c_t2, .bool t.root] 37)).alloc (by simp; try omega) (.cells #[.int .i64 r.id, .slice A_r1 r.cells.length c_r1] 41))
  obtain ⟨q_t, q_r⟩ := two_at (Below.refl ((w.alloc (.cells #[.string t.name, .slice A_t1 t.columns.length c_t1, .slice A_t2 t.unique.length c_t2, .bool t.root] 37)).alloc (.cells #[.int .i64 r.id, .slice A_r1 r.cells.length c_r1] 41)).heap.size _)
  clear hel_t1 hel_t2 hel_r1 hel_l
  by_cases h4 : 4096 < l.length
  · have hs : Hid (allAns t r l = (false, 2)) := by show _ = _; unfold allAns; rw [if_pos h4]
    have h9 : decide ((4096 : Int) < l.length) = true := decide_eq_true (by omega)
    go_enter Tryz.func10, Tryz.ntmps10
    go_wp2_with fail
    go_ret2
    exact ⟨by rw [hs.out]; rfl, hbx⟩
  have hs0 : Hid (allAns t r l = if (condsOK l && rowOK t r) = true then (if firstC (condCode t) l = 0 then (l.all (matchesB t r), 0) else (false, firstC (condCode t) l)) else (false, 1)) := by show _ = _; unfold allAns; rw [if_neg h4]
  have h9 : decide ((4096 : Int) < l.length) = false := decide_eq_false (by omega)
  clear h4
  go_enter Tryz.func10, Tryz.ntmps10
  go_wp2_with fail
  refine (spec_RowOK (TableR.good.nxt hbx H0_t) (RowR.good.nxt hbx H0_r)).mono ?_; rintro e w1 ⟨rfl, hb1⟩; replace q_t := box_on q_t rfl hb1; replace q_r := box_on q_r rfl hb1; have hw1 := nxt hbx hb1
  cases h1 : rowOK t r
  · go_wp2_with fail
    go_ret2
    exact ⟨by rw [hs0.out, h1]; first | rfl | simp, hw1⟩
  go_wp2_with fail
  refine (spec_l06List (CondSR.good.nxt hw1 H0_l)).mono ?_; rintro e w2 ⟨rfl, hb2⟩; replace q_t := box_on q_t rfl hb2; replace q_r := box_on q_r rfl hb2; have hw2 := nxt hw1 hb2
  cases h2 : condsOK l
  · go_wp2_with fail
    go_ret2
    exact ⟨by rw [hs0.out, h1, h2]; rfl, hw2⟩
  go_wp2_with fail
  refine (spec_l06Conds (TableR.good.nxt hw2 H0_t) (CondSR.good.nxt hw2 H0_l)).mono ?_; rintro e w3 ⟨rfl, hb3⟩; replace q_t := box_on q_t rfl hb3; replace q_r := box_on q_r rfl hb3; have hw3 := nxt hw2 hb3
  by_cases hc : ¬ firstC (condCode t) l = 0
  · have hs : Hid (allAns t r l = (false, firstC (condCode t) l)) := by show _ = _; rw [hs0.out, h1, h2]; show (if _ then _ else _) = _; rw [if_pos (show (true && true) = true from rfl), if_neg hc]
    have hc2 : (firstC (condCode t) l != 0) = true := by simp [hc]
    clear hc
    go_wp2_with fail
    go_ret2
    exact ⟨by rw [hs.out]; rfl, hw3⟩
  have hc := Decidable.not_not.1 hc
  have HA := hide (ask_all h1 h2 hc)
  have hs : Hid (allAns t r l = (l.all (matchesB t r), 0)) := by show _ = _; rw [hs0.out, h1, h2]; show (if _ then _ else _) = _; rw [if_pos (show (true && true) = true from rfl), if_pos hc]
  have hc2 : (firstC (condCode t) l != 0) = false := by simp [hc]
  have HL := hide (row_len h1); clear hc
  go_wp2_with fail
  refine (spec_l06All (TableR.good.nxt hw3 H0_t) (RowR.good.nxt hw3 H0_r) (CondSR.good.nxt hw3 H0_l) HL.out HA.out).mono ?_; rintro e w4 ⟨rfl, hb4⟩; replace q_t := box_on q_t rfl hb4; replace q_r := box_on q_r rfl hb4; have hw4 := nxt hw3 hb4
  go_wp2_with fail
  go_ret2
  exact ⟨by rw [hs.out]; rfl, hw4⟩
end Go.Proofs.YthbebbnidgeaeaaGreat
