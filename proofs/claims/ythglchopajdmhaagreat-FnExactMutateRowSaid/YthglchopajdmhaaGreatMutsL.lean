/- Lists of mutations. No statement is proved here; no conditions. Written by a program (gen49.py). -/
import Derived.Test.YthglchopajdmhaaGreatMuRP
import Derived.Test.YthglchopajdmhaaGreatFunc
import Derived.Test.YthglchopajdmhaaGreatMuts
namespace Go.Proofs.YthglchopajdmhaaGreat
open Go.ChangeShapes Go.WideShapes Go.ChangeAt Go.RowKit Go.Deep
set_option maxRecDepth 100000
set_option linter.unusedVariables false
set_option linter.unusedSimpArgs false

theorem any_notM (l : List Mut) : (l.any fun c => !mutOK c) = !l.all mutOK := by
  induction l with
  | nil => rfl
  | cons c l ih => simp only [List.any_cons, List.all_cons, ih]; cases mutOK c <;> simp
theorem codesL_stop' {t : Table} {l : List Mut} {n : Nat} (hn : n < l.length) (h0 : codesL t l n = 0) (h : ¬ mutCode t l[n] = 0) : codesL t l l.length = mutCode t l[n] := codesL_stop hn h0 h
theorem clo_mutsOK {w : World} {bs : List Nat} {cs : List Value} {c : Mut} (H : MutR w bs cs c) :
    Calls Tryz.prog 58 #[.agg cs.toArray] w fun e w' => e = .returned (.bool (!mutOK c)) ∧ Below w.heap.size w w' := by
  have H0 := H
  obtain ⟨v2, b2, rfl, rfl, hf, r2⟩ := H
  obtain ⟨A2, c2, rfl, _, _, _⟩ := r2.use
  have hbx := (Below.refl w.heap.size w).alloc (Nat.le_refl _) (.cells #[.string c.column, .int .i64 c.func, .slice A2 c.value.length c2] 67)
  go_enter Tryz.func58, Tryz.ntmps58
  go_wp2_with fail
  refine (impl_mutOK (MutR.good.nxt hbx H0)).mono ?_; rintro e w1 ⟨rfl, hb1⟩
  go_wp2_with fail
  go_ret
  exact ⟨rfl, nxt hbx hb1⟩
theorem impl_mutsOK {w : World}  {bs_l : List Nat} {v_l : Value} {l : List Mut} (H_l : MutSR w bs_l [v_l] l)  :
    Calls Tryz.prog 32 #[v_l] w (fun e w' => e = .returned (.bool (mutsOKB l)) ∧ Below w.heap.size w w') := by
  have H0_l := H_l
  obtain ⟨A_l, c_l, rfl, hlc_l, hcm_l, hel_l⟩ := H_l.use
  clear hel_l
  by_cases h8 : 8 < l.length
  · have h9 : decide ((l.length : Int) ≤ 8) = false := decide_eq_false (by omega)
    have hr : Hid (mutsOKB l = false) := by show _ = _; unfold mutsOKB; rw [decide_eq_false (by omega)]; rfl
    clear h8
    go_enter Tryz.func32, Tryz.ntmps32
    go_wp2_with fail
    go_ret
    exact ⟨ret_bool (by rw [hr.out]), (Below.refl w.heap.size w)⟩
  have h9 : decide ((l.length : Int) ≤ 8) = true := decide_eq_true (by omega)
  have hr : Hid (mutsOKB l = l.all mutOK) := by show _ = _; unfold mutsOKB; rw [decide_eq_true (by omega)]; rfl
  clear h8
  go_enter Tryz.func32, Tryz.ntmps32
  go_wp2_with fail
  refine (slices_ContainsFuncMutS (MutSR.good.nxt (Below.refl w.heap.size w) H0_l) (fun c => !mutOK c) 58 #[] (enters_of Tryz.func58 (by kernel_rfl) rfl) (fun k hk bk es hR W hW => clo_mutsOK (MutR.good.nxt hW hR))).mono ?_; rw [any_notM]; rintro e w1 ⟨rfl, hb1⟩; have hw1 := nxt (Below.refl w.heap.size w) hb1
  go_wp2_with fail
  go_ret
  exact ⟨ret_bool (by rw [hr.out] <;> (first | rfl | simp)), hw1⟩
set_option maxHeartbeats 2000000 in
theorem spec_l07List {w : World}  {bs_l : List Nat} {v_l : Value} {l : List Mut} (H_l : MutSR w bs_l [v_l] l)  :
    Calls Tryz.prog 24 #[v_l] w (fun e w' => e = .returned (.bool (mutsOKB l)) ∧ Below w.heap.size w w') := by
  have H0_l := H_l
  obtain ⟨A_l, c_l, rfl, hlc_l, hcm_l, hel_l⟩ := H_l.use
  go_enter Tryz.func24, Tryz.ntmps24
  go_wp2_with fail
  go_loopw [3] (fun i wr => ∃ k : Nat, k ≤ l.length ∧ i = .int .i64 k ∧ Hid (∀ j (hj : j < l.length), j < k → mutOK l[j] = true) ∧ Below (World.heap (w)).size (w) wr) (fun i _ => l.length - (intOf i).toNat)
  case atStart => exact ⟨0, Nat.zero_le _, rfl, all_zero, Below.refl _ _⟩
  case round =>
    obtain ⟨k1, hk1, rfl, hn1_, hb1001⟩ := hrel
    obtain ⟨wl1, rfl⟩ : ∃ w' : World, w' = wr := ⟨_, rfl⟩
    have hwl1 := nxt (Below.refl w.heap.size w) hb1001
    by_cases hlt1 : k1 < l.length
    · obtain ⟨gb, go, gbk, ges, rfl, ghbl, ghcl, ghcell, gR, ghbk⟩ := hel_l k1 hlt1
      have gR0 := gR
      obtain ⟨gv2, gb2, _, ghes, ghf, gr2⟩ := gR
      subst ghes
      obtain ⟨gA2, gc2, rfl, ghlc2, ghcm2, ghel2⟩ := gr2.use
      have g_0 := (hwl1.cell (p := ⟨gb, _, none⟩) ghbl).trans (ghcell 0 _ rfl)
      have g_1 := (hwl1.cell (p := ⟨gb, _, none⟩) ghbl).trans (ghcell 1 _ rfl)
      have g_2 := (hwl1.cell (p := ⟨gb, _, none⟩) ghbl).trans (ghcell 2 _ rfl)
      simp only [Nat.add_zero] at g_0 g_1 g_2
      clear ghcell ghcl
      go_wp2_with fail
      refine (spec_l07OK (MutR.good.nxt hwl1 gR0)).mono ?_; rintro e w1 ⟨rfl, hb1⟩; have hw1 := nxt hwl1 hb1; have hl0_1 := nxt hb1001 hb1
      cases h5 : mutOK l[k1]
      · go_wp2_with fail
        go_ret
        exact ⟨ret_bool (by unfold mutsOKB; rw [all_false hlt1 h5, Bool.and_false]), hw1⟩
      have hn2 := hide (all_step hlt1 hn1_.out h5); clear h5
      go_wp2_with fail
      go_roundw
      case rel => exact ⟨k1 + 1, hlt1, by go_num, hn2, hl0_1⟩
      case measure => simp [intOf]; omega
    · obtain rfl : k1 = l.length := by omega
      have H5 := hide (all_true hn1_.out); clear hel_l
      have hdc : decide ((l.length : Int) ≤ 8) = decide (l.length ≤ 8) := decide_eq_decide.2 (by omega)
      have HDC := hide hdc; clear hdc
      go_wp2
      go_ret
      exact ⟨ret_bool (by unfold mutsOKB; rw [H5.out, Bool.and_true, ← HDC.out]), hwl1⟩
set_option maxHeartbeats 2000000 in
theorem impl_mutsCode {w : World}  {bs_t : List Nat} {cs_t : List Value} {t : Table} (H_t : TableR w bs_t cs_t t) {bs_l : List Nat} {v_l : Value} {l : List Mut} (H_l : MutSR w bs_l [v_l] l)  :
    Calls Tryz.prog 34 #[.agg cs_t.toArray, v_l] w (fun e w' => e = .returned (.int .i64 (codesL t l l.length)) ∧ Below w.heap.size w w') := by
  have H0_l := H_l
  obtain ⟨A_l, c_l, rfl, hlc_l, hcm_l, hel_l⟩ := H_l.use
  have H0_t := H_t
  obtain ⟨t_v1, t_b1, t_v2, t_b2, rfl, rfl, hf_t, t_r1, t_r2⟩ := H_t
  obtain ⟨A_t1, c_t1, rfl, hlc_t1, hcm_t1, hel_t1⟩ := t_r1.use
  obtain ⟨A_t2, c_t2, rfl, hlc_t2, hcm_t2, hel_t2⟩ := t_r2.use
  have hbx := ((Below.refl w.heap.size w).alloc (Nat.le_refl _) (.cells #[.string t.name, .slice A_t1 t.columns.length c_t1, .slice A_t2 t.unique.length c_t2, .bool t.root] 40))
  have q_t := blk_cells (blk_new w #[.string t.name, .slice A_t1 t.columns.length c_t1, .slice A_t2 t.unique.length c_t2, .bool t.root] 40)
  clear hel_t1 hel_t2
  go_enter Tryz.func34, Tryz.ntmps34
  go_wp2_with fail
  go_loopw [10] (fun i wr => ∃ k : Nat, k ≤ l.length ∧ i = .int .i64 k ∧ Hid (codesL t l k = 0) ∧ Below (World.heap ((w.alloc (.cells #[.string t.name, .slice A_t1 t.columns.length c_t1, .slice A_t2 t.unique.length c_t2, .bool t.root] 40)))).size ((w.alloc (.cells #[.string t.name, .slice A_t1 t.columns.length c_t1, .slice A_t2 t.unique.length c_t2, .bool t.root] 40))) wr) (fun i _ => l.length - (intOf i).toNat)
  case atStart => exact ⟨0, Nat.zero_le _, rfl, rfl, Below.refl _ _⟩
  case round =>
    obtain ⟨k1, hk1, rfl, hn1_, hb1001⟩ := hrel
    obtain ⟨wl1, rfl⟩ : ∃ w' : World, w' = wr := ⟨_, rfl⟩
    replace q_t := box_on q_t rfl hb1001
    have hwl1 := nxt hbx hb1001
    by_cases hlt1 : k1 < l.length
    · obtain ⟨gb, go, gbk, ges, rfl, ghbl, ghcl, ghcell, gR, ghbk⟩ := hel_l k1 hlt1
      have gR0 := gR
      obtain ⟨gv2, gb2, _, ghes, ghf, gr2⟩ := gR
      subst ghes
      obtain ⟨gA2, gc2, rfl, ghlc2, ghcm2, ghel2⟩ := gr2.use
      have g_0 := (hwl1.cell (p := ⟨gb, _, none⟩) ghbl).trans (ghcell 0 _ rfl)
      have g_1 := (hwl1.cell (p := ⟨gb, _, none⟩) ghbl).trans (ghcell 1 _ rfl)
      have g_2 := (hwl1.cell (p := ⟨gb, _, none⟩) ghbl).trans (ghcell 2 _ rfl)
      simp only [Nat.add_zero] at g_0 g_1 g_2
      clear ghcell ghcl
      replace q_t := box_on q_t rfl ((Below.refl (World.heap (wl1)).size (wl1)).alloc (Nat.le_refl _) (.cells #[.string l[k1].column, .int .i64 l[k1].func, .slice gA2 l[k1].value.length gc2] 67))
      have q_v1 := blk_cells (blk_new (wl1) #[.string l[k1].column, .int .i64 l[k1].func, .slice gA2 l[k1].value.length gc2] 67)
      have hn1 := (hwl1).alloc (hwl1).size (.cells #[.string l[k1].column, .int .i64 l[k1].func, .slice gA2 l[k1].value.length gc2] 67)
      have hc1_0 := (hb1001).alloc (hb1001).size (.cells #[.string l[k1].column, .int .i64 l[k1].func, .slice gA2 l[k1].value.length gc2] 67)
      go_wp2_with fail
      refine (impl_mutCode (TableR.good.nxt hn1 H0_t) (MutR.good.nxt hn1 gR0)).mono ?_; rintro e w1 ⟨rfl, hb1⟩; replace q_t := box_on q_t rfl hb1; replace q_v1 := box_on q_v1 rfl hb1; have hw1 := nxt hn1 hb1; have hl0_1 := nxt hc1_0 hb1
      by_cases hc : ¬ mutCode t l[k1] = 0
      · have hc2 : (mutCode t l[k1] != 0) = true := by simp [hc]
        have hr := hide (codesL_stop' hlt1 hn1_.out hc); clear hc
        go_wp2_with fail
        go_ret
        exact ⟨ret_int (by rw [hr.out]), hw1⟩
      have hc := Decidable.not_not.1 hc
      have hc2 : (mutCode t l[k1] != 0) = false := by simp [hc]
      have hn2 := hide ((codesL_next hlt1 hn1_.out).trans hc); clear hc
      go_wp2_with fail
      go_roundw
      case rel => exact ⟨k1 + 1, hlt1, by go_num, hn2, hl0_1⟩
      case measure => simp [intOf]; omega
    · obtain rfl : k1 = l.length := by omega
      have hr := hide hn1_.out; clear hel_l
      go_wp2
      go_ret
      exact ⟨ret_int (by rw [hr.out]), hwl1⟩
set_option maxHeartbeats 2000000 in
theorem spec_l07Codes {w : World}  {bs_t : List Nat} {cs_t : List Value} {t : Table} (H_t : TableR w bs_t cs_t t) {bs_l : List Nat} {v_l : Value} {l : List Mut} (H_l : MutSR w bs_l [v_l] l)  :
    Calls Tryz.prog 25 #[.agg cs_t.toArray, v_l] w (fun e w' => e = .returned (.int .i64 (codesL t l l.length)) ∧ Below w.heap.size w w') := by
  have H0_l := H_l
  obtain ⟨A_l, c_l, rfl, hlc_l, hcm_l, hel_l⟩ := H_l.use
  have H0_t := H_t
  obtain ⟨t_v1, t_b1, t_v2, t_b2, rfl, rfl, hf_t, t_r1, t_r2⟩ := H_t
  obtain ⟨A_t1, c_t1, rfl, hlc_t1, hcm_t1, hel_t1⟩ := t_r1.use
  obtain ⟨A_t2, c_t2, rfl, hlc_t2, hcm_t2, hel_t2⟩ := t_r2.use
  have hbx := ((Below.refl w.heap.size w).alloc (Nat.le_refl _) (.cells #[.string t.name, .slice A_t1 t.columns.length c_t1, .slice A_t2 t.unique.length c_t2, .bool t.root] 40))
  have q_t := blk_cells (blk_new w #[.string t.name, .slice A_t1 t.columns.length c_t1, .slice A_t2 t.unique.length c_t2, .bool t.root] 40)
  clear hel_t1 hel_t2
  go_enter Tryz.func25, Tryz.ntmps25
  go_wp2_with fail
  go_loopw [5] (fun i wr => ∃ k : Nat, k ≤ l.length ∧ i = .int .i64 k ∧ Hid (codesL t l k = 0) ∧ Below (World.heap ((w.alloc (.cells #[.string t.name, .slice A_t1 t.columns.length c_t1, .slice A_t2 t.unique.length c_t2, .bool t.root] 40)))).size ((w.alloc (.cells #[.string t.name, .slice A_t1 t.columns.length c_t1, .slice A_t2 t.unique.length c_t2, .bool t.root] 40))) wr) (fun i _ => l.length - (intOf i).toNat)
  case atStart => exact ⟨0, Nat.zero_le _, rfl, rfl, Below.refl _ _⟩
  case round =>
    obtain ⟨k1, hk1, rfl, hn1_, hb1001⟩ := hrel
    obtain ⟨wl1, rfl⟩ : ∃ w' : World, w' = wr := ⟨_, rfl⟩
    replace q_t := box_on q_t rfl hb1001
    have hwl1 := nxt hbx hb1001
    by_cases hlt1 : k1 < l.length
    · obtain ⟨gb, go, gbk, ges, rfl, ghbl, ghcl, ghcell, gR, ghbk⟩ := hel_l k1 hlt1
      have gR0 := gR
      obtain ⟨gv2, gb2, _, ghes, ghf, gr2⟩ := gR
      subst ghes
      obtain ⟨gA2, gc2, rfl, ghlc2, ghcm2, ghel2⟩ := gr2.use
      have g_0 := Fw.cell ((hwl1.cell (p := ⟨gb, _, none⟩) ghbl).trans (ghcell 0 _ rfl))
      have g_1 := Fw.cell ((hwl1.cell (p := ⟨gb, _, none⟩) ghbl).trans (ghcell 1 _ rfl))
      have g_2 := Fw.cell ((hwl1.cell (p := ⟨gb, _, none⟩) ghbl).trans (ghcell 2 _ rfl))
      simp only [Nat.add_zero] at g_0 g_1 g_2
      have A1 := hide (fun (i : Fw wl1) => spec_l07Code (TableR.good.nxt (nxt hwl1 i.h) H0_t) (MutR.good.nxt (nxt hwl1 i.h) gR0))
      go_wp2_with fail
      have q_tF0 := Fw.cell (box_cell q_t 0 rfl)
      have q_tF1 := Fw.cell (box_cell q_t 1 rfl)
      have q_tF2 := Fw.cell (box_cell q_t 2 rfl)
      have q_tF3 := Fw.cell (box_cell q_t 3 rfl)
      refine region_quiet (by kernel_rfl) (by kernel_rfl) ?_
      repeat (go_big_quiet_step ((first | (go_at_call 51; exact quiet_of (A1.out _)))))
      refine wpQuiet_nil ?_; intro w1 hb1; replace q_t := box_on q_t rfl hb1; have hw1 := nxt hwl1 hb1; have hl0_1 := nxt hb1001 hb1; clear q_tF0 q_tF1 q_tF2 q_tF3 g_0 g_1 g_2
      by_cases hc : ¬ mutCode t l[k1] = 0
      · have hc2 : (mutCode t l[k1] != 0) = true := by simp [hc]
        have hr := hide (codesL_stop' hlt1 hn1_.out hc); clear hc
        go_wp2_with fail
        go_ret
        exact ⟨ret_int (by rw [hr.out]), hw1⟩
      have hc := Decidable.not_not.1 hc
      have hc2 : (mutCode t l[k1] != 0) = false := by simp [hc]
      have hn2 := hide ((codesL_next hlt1 hn1_.out).trans hc); clear hc
      go_wp2_with fail
      go_roundw
      case rel => exact ⟨k1 + 1, hlt1, by go_num, hn2, hl0_1⟩
      case measure => simp [intOf]; omega
    · obtain rfl : k1 = l.length := by omega
      have hr := hide hn1_.out; clear hel_l
      go_wp2
      go_ret
      exact ⟨ret_int (by rw [hr.out]), hwl1⟩
end Go.Proofs.YthglchopajdmhaaGreat
