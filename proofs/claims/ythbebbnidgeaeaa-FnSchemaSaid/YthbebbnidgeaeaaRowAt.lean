/- RowAt, in the program and in the reference. No statement is proved here; no conditions. Written by a program (gen23.py). -/
import Derived.Test.YthbebbnidgeaeaaRise
import Derived.Test.YthbebbnidgeaeaaCopy
import Derived.Test.YthbebbnidgeaeaaMarkT
namespace Go.Proofs.Ythbebbnidgeaeaa
open Go.ChangeShapes Go.WideShapes Go.ChangeAt Go.RowKit Go.Deep
set_option maxRecDepth 100000
set_option linter.unusedVariables false
set_option linter.unusedSimpArgs false

set_option maxHeartbeats 8000000 in
theorem spec_l05Plain {w : World}  {bs_x : List Nat} {cs_x : List Value} {x : Store} (H_x : StoreR w bs_x cs_x x)  :
    Calls Try.prog 88 #[.agg cs_x.toArray] w (fun e w' => e = .returned (.bool (x.tables.all rising)) ∧ Below w.heap.size w w') := by
  have H0_x := H_x
  obtain ⟨x_v0, x_b0, rfl, rfl, hf_x, x_r0⟩ := H_x
  obtain ⟨A_x0, c_x0, rfl, hlc_x0, hcm_x0, hel_x0⟩ := x_r0.use
  have hbx := ((Below.refl w.heap.size w).alloc (Nat.le_refl _) (.cells #[.slice A_x0 x.tables.length c_x0, .int .i64 x.next] 49))
  have q_x := blk_cells (blk_new w #[.slice A_x0 x.tables.length c_x0, .int .i64 x.next] 49)
  go_enter Try.func88, Try.ntmps88
  go_wp2_with fail
  go_loopw [3] (fun i wr => ∃ k : Nat, k ≤ x.tables.length ∧ i = .int .i64 k ∧ Hid (∀ j (hj : j < x.tables.length), j < k → rising x.tables[j] = true) ∧ Below (World.heap ((w.alloc (.cells #[.slice A_x0 x.tables.length c_x0, .int .i64 x.next] 49)))).size ((w.alloc (.cells #[.slice A_x0 x.tables.length c_x0, .int .i64 x.next] 49))) wr) (fun i _ => x.tables.length - (intOf i).toNat)
  case atStart => exact ⟨0, Nat.zero_le _, rfl, all_zero, Below.refl _ _⟩
  case round =>
    obtain ⟨k1, hk1, rfl, hn1_, hb1001⟩ := hrel
    obtain ⟨wl1, rfl⟩ : ∃ w' : World, w' = wr := ⟨_, rfl⟩
    replace q_x := box_on q_x rfl hb1001
    have hwl1 := nxt hbx hb1001
    by_cases hlt1 : k1 < x.tables.length
    · obtain ⟨pb, po, pbk, pes, rfl, phbl, phcl, phcell, pR, phbk⟩ := hel_x0 k1 hlt1
      obtain ⟨pA, pc, phlc, rfl⟩ : ∃ A0 c0, x.tables[k1].length ≤ c0 ∧ pes = [.slice A0 x.tables[k1].length c0] := by obtain ⟨A0, c0, h, h2, _⟩ := pR; exact ⟨A0, c0, h2, h⟩
      have p_0 := (hwl1.cell (p := ⟨pb, _, none⟩) phbl).trans (phcell 0 _ rfl)
      simp only [Nat.add_zero, Nat.mul_one] at p_0
      obtain ⟨pA', pc', hpv, _, _, pel⟩ := pR.use; injection hpv with e1 e2 e3; subst e1; clear e2 e3 hel_x0
      go_wp2_with fail
      clear p_0
      go_loopw [4] (fun i wr => ∃ k : Nat, k ≤ x.tables[k1].length ∧ i = .int .i64 k ∧ Hid (upTo (stepUp x.tables[k1]) k = true) ∧ Below (World.heap (wl1)).size (wl1) wr) (fun i _ => x.tables[k1].length - (intOf i).toNat)
      case atStart => exact ⟨0, Nat.zero_le _, rfl, upTo_zero _, Below.refl _ _⟩
      case round =>
        obtain ⟨k2, hk2, rfl, hn2_, hb1002⟩ := hrel
        obtain ⟨wl2, rfl⟩ : ∃ w' : World, w' = wr := ⟨_, rfl⟩
        replace q_x := box_on q_x rfl hb1002
        have hwl2 := nxt hwl1 hb1002
        have hl0_1002 := nxt hb1001 hb1002
        by_cases hlt2 : k2 < x.tables[k1].length
        · have p_0 := (hwl2.cell (p := ⟨pb, _, none⟩) phbl).trans (phcell 0 _ rfl)
          simp only [Nat.add_zero, Nat.mul_one] at p_0
          go_wp2_with fail
          clear p_0
          by_cases hj0 : k2 = 0
          · have hn3 : Hid (upTo (stepUp x.tables[k1]) (k2 + 1) = true) := by show _ = _; rw [upTo_succ, hn2_.out]; unfold stepUp; rw [decide_eq_true hj0]; rfl
            subst hj0; clear pel
            have q_xF0 := Fw.cell (box_cell q_x 0 rfl)
            have q_xF1 := Fw.cell (box_cell q_x 1 rfl)
            refine region_quiet (by kernel_rfl) (by kernel_rfl) ?_
            repeat (go_big_quiet_step (fail))
            refine wpQuiet_nil ?_; intro w1 hb1; replace q_x := box_on q_x rfl hb1; have hw1 := nxt hwl2 hb1; have hl0_1 := nxt hl0_1002 hb1; have hl1_1 := nxt hb1002 hb1; clear q_xF0 q_xF1
            go_wp2_with fail
            go_roundw
            case rel => exact ⟨1, by omega, rfl, hn3, hl1_1⟩
            case measure => simp [intOf]; omega
          have hj1 : 1 ≤ k2 := by omega
          have hst : stepUp x.tables[k1] k2 = decide (x.tables[k1][k2 - 1].id < x.tables[k1][k2].id) := by obtain ⟨q, rfl⟩ : ∃ q, k2 = q + 1 := ⟨k2 - 1, by omega⟩; exact stepUp_at hlt2
          have hk2 : decide (0 < k2) = true := decide_eq_true (by omega)
          have p_0 := Fw.cell ((hwl2.cell (p := ⟨pb, _, none⟩) phbl).trans (phcell 0 _ rfl))
          simp only [Nat.add_zero, Nat.mul_one] at p_0
          have hjm : k2 - 1 < x.tables[k1].length := by omega
          obtain ⟨sb, so, sbk, ses, rfl, shbl, shcl, shcell, sR, shbk⟩ := pel (k2 - 1) hjm
          have sR0 := sR
          obtain ⟨sv1, sb1, _, shes, shf, sr1⟩ := sR
          subst shes
          obtain ⟨sA1, sc1, rfl, shlc1, shcm1, shel1⟩ := sr1.use
          have s_0 := Fw.cell ((hwl2.cell (p := ⟨sb, _, none⟩) shbl).trans (shcell 0 _ rfl))
          have s_1 := Fw.cell ((hwl2.cell (p := ⟨sb, _, none⟩) shbl).trans (shcell 1 _ rfl))
          simp only [Nat.add_zero] at s_0 s_1
          clear shcell shcl
          obtain ⟨tb, to, tbk, tes, thA, thbl, thcl, thcell, tR, thbk⟩ := pel k2 hlt2
          cases thA
          have tR0 := tR
          obtain ⟨tv1, tb1, _, thes, thf, tr1⟩ := tR
          subst thes
          obtain ⟨tA1, tc1, rfl, thlc1, thcm1, thel1⟩ := tr1.use
          have t_0 := Fw.cell ((hwl2.cell (p := ⟨sb, _, none⟩) thbl).trans (thcell 0 _ rfl))
          have t_1 := Fw.cell ((hwl2.cell (p := ⟨sb, _, none⟩) thbl).trans (thcell 1 _ rfl))
          simp only [Nat.add_zero] at t_0 t_1
          clear thcell thcl
          clear pel hj0
          cases hq : decide (x.tables[k1][k2 - 1].id < x.tables[k1][k2].id)
          · have hd : decide (x.tables[k1][k2].id ≤ x.tables[k1][k2 - 1].id) = true := decide_eq_true (by have := of_decide_eq_false hq; omega)
            have hr : Hid (x.tables.all rising = false) := by show _ = _; exact all_false hlt1 (upTo_bad hlt2 (hst.trans hq))
            clear hq hst
            have q_xF0 := Fw.cell (box_cell q_x 0 rfl)
            have q_xF1 := Fw.cell (box_cell q_x 1 rfl)
            refine region_quiet (by kernel_rfl) (by kernel_rfl) ?_
            repeat (go_big_quiet_step (fail))
            refine wpQuiet_nil ?_; intro w2 hb2; replace q_x := box_on q_x rfl hb2; have hw2 := nxt hwl2 hb2; have hl0_2 := nxt hl0_1002 hb2; have hl1_2 := nxt hb1002 hb2; clear q_xF0 q_xF1 p_0 s_0 s_1 t_0 t_1
            go_wp2_with fail
            go_ret
            exact ⟨ret_bool (by rw [hr.out]), hw2⟩
          have hd : decide (x.tables[k1][k2].id ≤ x.tables[k1][k2 - 1].id) = false := decide_eq_false (by have := of_decide_eq_true hq; omega)
          have hn3 : Hid (upTo (stepUp x.tables[k1]) (k2 + 1) = true) := by show _ = _; rw [upTo_succ, hn2_.out, hst, hq]; rfl
          clear hq hst
          have q_xF0 := Fw.cell (box_cell q_x 0 rfl)
          have q_xF1 := Fw.cell (box_cell q_x 1 rfl)
          refine region_quiet (by kernel_rfl) (by kernel_rfl) ?_
          repeat (go_big_quiet_step (fail))
          refine wpQuiet_nil ?_; intro w3 hb3; replace q_x := box_on q_x rfl hb3; have hw3 := nxt hwl2 hb3; have hl0_3 := nxt hl0_1002 hb3; have hl1_3 := nxt hb1002 hb3; clear q_xF0 q_xF1 p_0 s_0 s_1 t_0 t_1
          go_wp2_with fail
          go_roundw
          case rel => exact ⟨k2 + 1, hlt2, by go_num, hn3, hl1_3⟩
          case measure => simp [intOf]; omega
        · obtain rfl : k2 = x.tables[k1].length := by omega
          have p_0 := (hwl2.cell (p := ⟨pb, _, none⟩) phbl).trans (phcell 0 _ rfl)
          simp only [Nat.add_zero, Nat.mul_one] at p_0
          have hn4 := hide (all_step (p := rising) hlt1 hn1_.out hn2_.out); clear pel
          go_wp2_with fail
          go_roundw
          case rel => exact ⟨k1 + 1, hlt1, by go_num, hn4, hl0_1002⟩
          case measure => simp [intOf]; omega
    · obtain rfl : k1 = x.tables.length := by omega
      have hr := hide (all_true hn1_.out); clear hel_x0
      go_wp2
      go_ret
      exact ⟨ret_bool (by rw [hr.out]), hwl1⟩
def tabOf (x : Store) (n : Int) : List Row := x.tables.getD n.toNat []
def rowAns (x : Store) (n id : Int) : Row × Int := if tblCode x n = 0 then cond (hasId (tabOf x n) id) ((tabOf x n).getD (rowIdx (tabOf x n) id).toNat default, 0) (⟨0, []⟩, 5) else (⟨0, []⟩, tblCode x n)
theorem tblCode_zero {x : Store} {n : Int} (h : tblCode x n = 0) : ∃ m : Nat, n = m ∧ ∃ hm : m < x.tables.length, tabOf x n = x.tables[m] ∧ (∀ l ∈ x.tables, rising l = true) := by
  unfold tblCode at h
  cases h1 : x.tables.all rising
  · rw [h1] at h; cases h
  cases h2 : inB n 0 ((x.tables.length : Int) - 1)
  · rw [h1, h2] at h; cases h
  have h3 := inB_iff.1 h2
  refine ⟨n.toNat, by omega, by omega, ?_, fun l hl => List.all_eq_true.1 h1 l hl⟩
  unfold tabOf; simp [List.getD, (by omega : n.toNat < x.tables.length)]
theorem zeroRow {w : World} : RowR w [] [.int .i64 0, .slice none 0 0] ⟨0, []⟩ := ⟨_, [], rfl, rfl, (rfl : (Lit.int .i64 0).wf = true), nil_row (by omega)⟩
theorem Store.tab_le {x : Store} {n : Nat} (h : x.bulk ≤ n) {m : Nat} (hm : m < x.tables.length) : RowS.bulk x.tables[m] ≤ n := bulkL_at RowS.bulk hm h
theorem RowS.len_le {l : List Row} {n : Nat} (h : RowS.bulk l ≤ n) : l.length ≤ n := Nat.le_trans (bulkL_len _ _) h
set_option maxHeartbeats 8000000 in
theorem impl_RowAt {w : World}  {bs_x : List Nat} {cs_x : List Value} {x : Store} (H_x : StoreR w bs_x cs_x x) (n : Int) (id : Int) (hk : x.bulk ≤ 1048576) :
    Calls Try.prog 40 #[.agg cs_x.toArray, .int .i64 n, .int .i64 id] w (OutP RowR w (rowAns x n id).1 (rowAns x n id).2) := by
  have H0_x := H_x
  obtain ⟨x_v0, x_b0, rfl, rfl, hf_x, x_r0⟩ := H_x
  obtain ⟨A_x0, c_x0, rfl, hlc_x0, hcm_x0, hel_x0⟩ := x_r0.use
  have hbx := (((Below.refl w.heap.size w).alloc (Nat.le_refl _) (.cells #[.slice A_x0 x.tables.length c_x0, .int .i64 x.next] 49)).alloc (by simp; try omega) (.cells #[.int .i64 0, .slice none 0 0] 62))
  obtain ⟨q_x, q_res⟩ := two_at (Below.refl ((w.alloc (.cells #[.slice A_x0 x.tables.length c_x0, .int .i64 x.next] 49)).alloc (.cells #[.int .i64 0, .slice none 0 0] 62)).heap.size _)
  have R_res : World.heap ((w.alloc (.cells #[.slice A_x0 x.tables.length c_x0, .int .i64 x.next] 49)).alloc (.cells #[.int .i64 0, .slice none 0 0] 62)) = World.heap ((w.alloc (.cells #[.slice A_x0 x.tables.length c_x0, .int .i64 x.next] 49)).alloc (.cells #[.int .i64 0, .slice none 0 0] 62)) := rfl
  clear R_res
  have R_res : (World.heap ((w.alloc (.cells #[.slice A_x0 x.tables.length c_x0, .int .i64 x.next] 49)).alloc (.cells #[.int .i64 0, .slice none 0 0] 62)))[w.heap.size + 1]? = some (.cells #[.int .i64 0, .slice none 0 0] 62 (0, 0)) := by simpa using blk_new ((w.alloc (.cells #[.slice A_x0 x.tables.length c_x0, .int .i64 x.next] 49))) #[.int .i64 0, .slice none 0 0] 62
  have R_free := blk_free R_res
  have HK := hide hk; clear hk
  go_enter Try.func40, Try.ntmps40
  go_wp2_with fail
  refine (impl_tableCode (StoreR.good.nxt hbx H0_x) n).mono ?_; rintro e w1 ⟨rfl, hb1⟩; replace q_x := box_on q_x rfl hb1; replace q_res := box_on q_res rfl hb1; have hw1 := nxt hbx hb1; replace R_res := blk_on R_res hb1; replace R_free := blk_free R_res
  by_cases h1 : ¬ tblCode x n = 0
  · have hs : Hid (rowAns x n id = (⟨0, []⟩, tblCode x n)) := by show _ = _; unfold rowAns; rw [if_neg h1]
    have hc : (tblCode x n != 0) = true := by simp [h1]
    clear h1 hel_x0
    go_wp2_with fail
    have fin : _ = some (Obj.cells #[.int .i64 0, .slice none 0 0] 62 (0, 0)) := (blk_set (blk_set R_res 0 (.int .i64 0)) 1 (.slice none 0 0))
    have fc := blk_cells fin
    have HU := (((Upd.refl [w.heap.size + 1] w1).set (p := ⟨w.heap.size + 1, 0, none⟩) (by simp) rfl (.int .i64 0)).set (p := ⟨w.heap.size + 1, 1, none⟩) (by simp) rfl (.slice none 0 0))
    refine bodyPost_ret (v := .tuple #[.agg #[.int .i64 0, .slice none 0 0], .int .i64 (tblCode x n)]) (by simp [results, Try.results40, go_sem, fc]) rfl ?_
    rw [hs.out]
    exact ⟨[.int .i64 0, .slice none 0 0], [], rfl, zeroRow, Fr.nil _ _, ((hw1.setCell (p := ⟨w.heap.size + 1, 0, none⟩) (by simp) (.int .i64 0)).setCell (p := ⟨w.heap.size + 1, 1, none⟩) (by simp) (.slice none 0 0))⟩
  have h1 := Decidable.not_not.1 h1
  have hc : (tblCode x n != 0) = false := by simp [h1]
  obtain ⟨m, rfl, hm, ht, hr⟩ := tblCode_zero h1
  have hrm := hr _ (List.getElem_mem hm)
  have hs0 : Hid (rowAns x m id = cond (hasId x.tables[m] id) (x.tables[m].getD (rowIdx x.tables[m] id).toNat default, 0) (⟨0, []⟩, 5)) := by show _ = _; unfold rowAns; rw [if_pos h1, ht]
  have HT := Store.tab_le HK.out hm; have HTL := RowS.len_le HT
  clear h1 ht hr
  obtain ⟨gb, go, gbk, ges, rfl, ghbl, ghcl, ghcell, gR, ghbk⟩ := hel_x0 m hm
  obtain ⟨gA, gc, ghlc, rfl⟩ : ∃ A0 c0, x.tables[m].length ≤ c0 ∧ ges = [.slice A0 x.tables[m].length c0] := by obtain ⟨A0, c0, h, h2, _⟩ := gR; exact ⟨A0, c0, h2, h⟩
  have g_0 := (hw1.cell (p := ⟨gb, _, none⟩) ghbl).trans (ghcell 0 _ rfl)
  simp only [Nat.add_zero, Nat.mul_one] at g_0
  clear hel_x0
  obtain ⟨gA', gc', hpv, _, _, gel⟩ := gR.use; injection hpv with e1 e2 e3; subst e1; clear e2 e3
  go_wp2_with fail
  refine (impl_rowAt (RowSR.good.nxt hw1 gR) id hrm HTL).mono ?_; rintro e wz ⟨rfl, hbz⟩
  replace q_x := box_on q_x rfl hbz; replace q_res := box_on q_res rfl hbz; have hwz := nxt hw1 hbz; replace R_res := blk_on R_res hbz; replace R_free := blk_free R_res
  clear g_0
  have g_0 := (hwz.cell (p := ⟨gb, _, none⟩) ghbl).trans (ghcell 0 _ rfl)
  simp only [Nat.add_zero, Nat.mul_one] at g_0
  cases h5 : hasId x.tables[m] id
  · have hs : Hid (rowAns x m id = (⟨0, []⟩, 5)) := by show _ = _; rw [hs0.out, h5]; rfl
    clear gel
    go_wp2_with fail
    have fin : _ = some (Obj.cells #[.int .i64 0, .slice none 0 0] 62 (0, 0)) := (blk_set (blk_set R_res 0 (.int .i64 0)) 1 (.slice none 0 0))
    have fc := blk_cells fin
    have HU := (((Upd.refl [w.heap.size + 1] wz).set (p := ⟨w.heap.size + 1, 0, none⟩) (by simp) rfl (.int .i64 0)).set (p := ⟨w.heap.size + 1, 1, none⟩) (by simp) rfl (.slice none 0 0))
    refine bodyPost_ret (v := .tuple #[.agg #[.int .i64 0, .slice none 0 0], .int .i64 (5)]) (by simp [results, Try.results40, go_sem, fc]) rfl ?_
    rw [hs.out]
    exact ⟨[.int .i64 0, .slice none 0 0], [], rfl, zeroRow, Fr.nil _ _, ((hwz.setCell (p := ⟨w.heap.size + 1, 0, none⟩) (by simp) (.int .i64 0)).setCell (p := ⟨w.heap.size + 1, 1, none⟩) (by simp) (.slice none 0 0))⟩
  obtain ⟨hix, hlb⟩ := rowIdx_lb hrm h5
  have hs : Hid (rowAns x m id = (x.tables[m][lbOf x.tables[m] id], 0)) := by show _ = _; rw [hs0.out, h5, hix, Int.toNat_natCast]; simp [List.getD, hlb]
  generalize lbOf x.tables[m] id = q at hix hlb hs ⊢
  clear hix
  obtain ⟨eb, eo, ebk, ees, rfl, ehbl, ehcl, ehcell, eR, ehbk⟩ := gel q hlb
  have eR0 := eR
  obtain ⟨ev1, eb1, _, ehes, ehf, er1⟩ := eR
  subst ehes
  obtain ⟨eA1, ec1, rfl, ehlc1, ehcm1, ehel1⟩ := er1.use
  have e_0 := (hwz.cell (p := ⟨eb, _, none⟩) ehbl).trans (ehcell 0 _ rfl)
  have e_1 := (hwz.cell (p := ⟨eb, _, none⟩) ehbl).trans (ehcell 1 _ rfl)
  simp only [Nat.add_zero] at e_0 e_1
  clear ehcell ehcl
  clear gel
  have HB := bulkL_at Row.bulk hlb HT
  have hres := hide (lt_of_cells R_res)
  go_wp2_with fail
  refine (impl_copyRow (RowR.good.nxt hwz eR0) HB).mono ?_; rintro e w2 ⟨cs2, bs2, rfl, r2, f2, hb2⟩; replace q_x := box_on q_x rfl hb2; replace q_res := box_on q_res rfl hb2; have hw2 := nxt hwz hb2; replace R_res := blk_on R_res hb2; replace R_free := blk_free R_res
  have r20 := r2; obtain ⟨w2v, w2b, _, rfl, _, w2r⟩ := r2; obtain ⟨A2, c2, rfl, _, _, _⟩ := w2r.use
  have hsz := hwz.size
  go_wp2_with fail
  have fin : _ = some (Obj.cells #[.int .i64 x.tables[m][q].id, .slice A2 x.tables[m][q].cells.length c2] 62 (0, 0)) := (blk_set (blk_set R_res 0 (.int .i64 x.tables[m][q].id)) 1 (.slice A2 x.tables[m][q].cells.length c2))
  have fc := blk_cells fin
  have HU := (((Upd.refl [w.heap.size + 1] w2).set (p := ⟨w.heap.size + 1, 0, none⟩) (by simp) rfl (.int .i64 x.tables[m][q].id)).set (p := ⟨w.heap.size + 1, 1, none⟩) (by simp) rfl (.slice A2 x.tables[m][q].cells.length c2))
  refine bodyPost_ret (v := .tuple #[.agg #[.int .i64 x.tables[m][q].id, .slice A2 x.tables[m][q].cells.length c2], .int .i64 0]) (by simp [results, Try.results40, go_sem, fc]) rfl ?_
  rw [hs.out]
  have hn : ∀ b ∈ bs2, b ∉ [w.heap.size + 1] := fun b hb hm => by have := (f2.2 b hb).1; have := hres.out; simp at hm; omega
  exact ⟨[.int .i64 x.tables[m][q].id, .slice A2 x.tables[m][q].cells.length c2], bs2, rfl, RowR.good.upd r20 HU hn, (f2.upd HU).mono (by have := hres.out; omega), ((hw2.setCell (p := ⟨w.heap.size + 1, 0, none⟩) (by simp) (.int .i64 x.tables[m][q].id)).setCell (p := ⟨w.heap.size + 1, 1, none⟩) (by simp) (.slice A2 x.tables[m][q].cells.length c2))⟩
set_option maxHeartbeats 8000000 in
theorem spec_RowAt {w : World}  {bs_x : List Nat} {cs_x : List Value} {x : Store} (H_x : StoreR w bs_x cs_x x) (n : Int) (id : Int) (hk : x.bulk ≤ 1048576) :
    Calls Try.prog 38 #[.agg cs_x.toArray, .int .i64 n, .int .i64 id] w (SeeP RowR w (rowAns x n id).1 (rowAns x n id).2) := by
  have H0_x := H_x
  obtain ⟨x_v0, x_b0, rfl, rfl, hf_x, x_r0⟩ := H_x
  obtain ⟨A_x0, c_x0, rfl, hlc_x0, hcm_x0, hel_x0⟩ := x_r0.use
  have hbx := (((Below.refl w.heap.size w).alloc (Nat.le_refl _) (.cells #[.slice A_x0 x.tables.length c_x0, .int .i64 x.next] 49)).alloc (by simp; try omega) (.cells #[.int .i64 0, .slice none 0 0] 62))
  obtain ⟨q_x, q_res⟩ := two_at (Below.refl ((w.alloc (.cells #[.slice A_x0 x.tables.length c_x0, .int .i64 x.next] 49)).alloc (.cells #[.int .i64 0, .slice none 0 0] 62)).heap.size _)
  have R_res : World.heap ((w.alloc (.cells #[.slice A_x0 x.tables.length c_x0, .int .i64 x.next] 49)).alloc (.cells #[.int .i64 0, .slice none 0 0] 62)) = World.heap ((w.alloc (.cells #[.slice A_x0 x.tables.length c_x0, .int .i64 x.next] 49)).alloc (.cells #[.int .i64 0, .slice none 0 0] 62)) := rfl
  clear R_res
  have R_res : (World.heap ((w.alloc (.cells #[.slice A_x0 x.tables.length c_x0, .int .i64 x.next] 49)).alloc (.cells #[.int .i64 0, .slice none 0 0] 62)))[w.heap.size + 1]? = some (.cells #[.int .i64 0, .slice none 0 0] 62 (0, 0)) := by simpa using blk_new ((w.alloc (.cells #[.slice A_x0 x.tables.length c_x0, .int .i64 x.next] 49))) #[.int .i64 0, .slice none 0 0] 62
  have R_free := blk_free R_res
  have HK := hide hk; clear hk
  go_enter Try.func38, Try.ntmps38
  go_wp2_with fail
  refine (spec_l05Plain (StoreR.good.nxt hbx H0_x)).mono ?_; rintro e w1 ⟨rfl, hb1⟩; replace q_x := box_on q_x rfl hb1; replace q_res := box_on q_res rfl hb1; have hw1 := nxt hbx hb1; replace R_res := blk_on R_res hb1; replace R_free := blk_free R_res
  cases h2 : x.tables.all rising
  · have hs : Hid (rowAns x n id = (⟨0, []⟩, 1)) := by show _ = _; unfold rowAns tblCode; rw [h2]; rfl
    clear hel_x0
    go_wp2_with fail
    have fin : _ = some (Obj.cells #[.int .i64 0, .slice none 0 0] 62 (0, 0)) := (blk_set (blk_set R_res 0 (.int .i64 0)) 1 (.slice none 0 0))
    have fc := blk_cells fin
    have HU := (((Upd.refl [w.heap.size + 1] w1).set (p := ⟨w.heap.size + 1, 0, none⟩) (by simp) rfl (.int .i64 0)).set (p := ⟨w.heap.size + 1, 1, none⟩) (by simp) rfl (.slice none 0 0))
    refine bodyPost_ret (v := .tuple #[.agg #[.int .i64 0, .slice none 0 0], .int .i64 (1)]) (by simp [results, Try.results38, go_sem, fc]) rfl ?_
    rw [hs.out]
    exact ⟨[.int .i64 0, .slice none 0 0], [], rfl, zeroRow, ((hw1.setCell (p := ⟨w.heap.size + 1, 0, none⟩) (by simp) (.int .i64 0)).setCell (p := ⟨w.heap.size + 1, 1, none⟩) (by simp) (.slice none 0 0))⟩
  go_wp2_with fail
  refine (spec_l01In _ _ _ _).mono ?_; rintro e w2 ⟨rfl, rfl⟩
  cases h3 : inB n 0 ((x.tables.length : Int) - 1)
  · have hs : Hid (rowAns x n id = (⟨0, []⟩, 10)) := by show _ = _; unfold rowAns tblCode; rw [h2, h3]; rfl
    clear hel_x0
    go_wp2_with fail
    have fin : _ = some (Obj.cells #[.int .i64 0, .slice none 0 0] 62 (0, 0)) := (blk_set (blk_set R_res 0 (.int .i64 0)) 1 (.slice none 0 0))
    have fc := blk_cells fin
    have HU := (((Upd.refl [w.heap.size + 1] w1).set (p := ⟨w.heap.size + 1, 0, none⟩) (by simp) rfl (.int .i64 0)).set (p := ⟨w.heap.size + 1, 1, none⟩) (by simp) rfl (.slice none 0 0))
    refine bodyPost_ret (v := .tuple #[.agg #[.int .i64 0, .slice none 0 0], .int .i64 (10)]) (by simp [results, Try.results38, go_sem, fc]) rfl ?_
    rw [hs.out]
    exact ⟨[.int .i64 0, .slice none 0 0], [], rfl, zeroRow, ((hw1.setCell (p := ⟨w.heap.size + 1, 0, none⟩) (by simp) (.int .i64 0)).setCell (p := ⟨w.heap.size + 1, 1, none⟩) (by simp) (.slice none 0 0))⟩
  have h1 : tblCode x n = 0 := by unfold tblCode; rw [h2, h3]; rfl
  clear h2 h3
  obtain ⟨m, rfl, hm, ht, hr⟩ := tblCode_zero h1
  have hrm := hr _ (List.getElem_mem hm)
  have hs0 : Hid (rowAns x m id = cond (hasId x.tables[m] id) (x.tables[m].getD (rowIdx x.tables[m] id).toNat default, 0) (⟨0, []⟩, 5)) := by show _ = _; unfold rowAns; rw [if_pos h1, ht]
  have HT := Store.tab_le HK.out hm; have HTL := RowS.len_le HT
  clear h1 ht hr
  obtain ⟨gb, go, gbk, ges, rfl, ghbl, ghcl, ghcell, gR, ghbk⟩ := hel_x0 m hm
  obtain ⟨gA, gc, ghlc, rfl⟩ : ∃ A0 c0, x.tables[m].length ≤ c0 ∧ ges = [.slice A0 x.tables[m].length c0] := by obtain ⟨A0, c0, h, h2, _⟩ := gR; exact ⟨A0, c0, h2, h⟩
  have g_0 := (hw1.cell (p := ⟨gb, _, none⟩) ghbl).trans (ghcell 0 _ rfl)
  simp only [Nat.add_zero, Nat.mul_one] at g_0
  clear hel_x0
  obtain ⟨gA', gc', hpv, _, _, gel⟩ := gR.use; injection hpv with e1 e2 e3; subst e1; clear e2 e3
  go_wp2_with fail
  refine (spec_l05Place (RowSR.good.nxt hw1 gR) id).mono ?_; rintro e w3 ⟨rfl, hb3⟩; replace q_x := box_on q_x rfl hb3; replace q_res := box_on q_res rfl hb3; have hw3 := nxt hw1 hb3; replace R_res := blk_on R_res hb3; replace R_free := blk_free R_res
  clear g_0
  have g_0 := (hw3.cell (p := ⟨gb, _, none⟩) ghbl).trans (ghcell 0 _ rfl)
  simp only [Nat.add_zero, Nat.mul_one] at g_0
  cases h5 : hasId x.tables[m] id
  · have hs : Hid (rowAns x m id = (⟨0, []⟩, 5)) := by show _ = _; rw [hs0.out, h5]; rfl
    have hi := hide (rowIdx_none h5)
    have hd : decide (rowIdx x.tables[m] id < 0) = true := decide_eq_true (by rw [hi.out]; omega)
    clear hi
    clear gel
    go_wp2_with fail
    have fin : _ = some (Obj.cells #[.int .i64 0, .slice none 0 0] 62 (0, 0)) := (blk_set (blk_set R_res 0 (.int .i64 0)) 1 (.slice none 0 0))
    have fc := blk_cells fin
    have HU := (((Upd.refl [w.heap.size + 1] w3).set (p := ⟨w.heap.size + 1, 0, none⟩) (by simp) rfl (.int .i64 0)).set (p := ⟨w.heap.size + 1, 1, none⟩) (by simp) rfl (.slice none 0 0))
    refine bodyPost_ret (v := .tuple #[.agg #[.int .i64 0, .slice none 0 0], .int .i64 (5)]) (by simp [results, Try.results38, go_sem, fc]) rfl ?_
    rw [hs.out]
    exact ⟨[.int .i64 0, .slice none 0 0], [], rfl, zeroRow, ((hw3.setCell (p := ⟨w.heap.size + 1, 0, none⟩) (by simp) (.int .i64 0)).setCell (p := ⟨w.heap.size + 1, 1, none⟩) (by simp) (.slice none 0 0))⟩
  obtain ⟨hix, hlb⟩ := rowIdx_lb hrm h5
  have hs : Hid (rowAns x m id = (x.tables[m][lbOf x.tables[m] id], 0)) := by show _ = _; rw [hs0.out, h5, hix, Int.toNat_natCast]; simp [List.getD, hlb]
  generalize lbOf x.tables[m] id = q at hix hlb hs
  rw [hix]
  have hd : decide ((q : Int) < 0) = false := decide_eq_false (by omega)
  clear hix
  obtain ⟨eb, eo, ebk, ees, rfl, ehbl, ehcl, ehcell, eR, ehbk⟩ := gel q hlb
  have eR0 := eR
  obtain ⟨ev1, eb1, _, ehes, ehf, er1⟩ := eR
  subst ehes
  obtain ⟨eA1, ec1, rfl, ehlc1, ehcm1, ehel1⟩ := er1.use
  have e_0 := (hw3.cell (p := ⟨eb, _, none⟩) ehbl).trans (ehcell 0 _ rfl)
  have e_1 := (hw3.cell (p := ⟨eb, _, none⟩) ehbl).trans (ehcell 1 _ rfl)
  simp only [Nat.add_zero] at e_0 e_1
  clear ehcell ehcl
  clear gel
  have HB := bulkL_at Row.bulk hlb HT
  have hres := hide (lt_of_cells R_res)
  go_wp2_with fail
  refine (spec_l05OwnRow (RowR.good.nxt hw3 eR0) HB).mono ?_; rintro e w4 ⟨cs2, bs2, rfl, r2, f2, hb4⟩; replace q_x := box_on q_x rfl hb4; replace q_res := box_on q_res rfl hb4; have hw4 := nxt hw3 hb4; replace R_res := blk_on R_res hb4; replace R_free := blk_free R_res
  have r20 := r2; obtain ⟨w2v, w2b, _, rfl, _, w2r⟩ := r2; obtain ⟨A2, c2, rfl, _, _, _⟩ := w2r.use
  have hsz := hw4.size
  go_wp2_with fail
  have fin : _ = some (Obj.cells #[.int .i64 x.tables[m][q].id, .slice A2 x.tables[m][q].cells.length c2] 62 (0, 0)) := (blk_set (blk_set R_res 0 (.int .i64 x.tables[m][q].id)) 1 (.slice A2 x.tables[m][q].cells.length c2))
  have fc := blk_cells fin
  have HU := (((Upd.refl [w.heap.size + 1] w4).set (p := ⟨w.heap.size + 1, 0, none⟩) (by simp) rfl (.int .i64 x.tables[m][q].id)).set (p := ⟨w.heap.size + 1, 1, none⟩) (by simp) rfl (.slice A2 x.tables[m][q].cells.length c2))
  refine bodyPost_ret (v := .tuple #[.agg #[.int .i64 x.tables[m][q].id, .slice A2 x.tables[m][q].cells.length c2], .int .i64 0]) (by simp [results, Try.results38, go_sem, fc]) rfl ?_
  rw [hs.out]
  have hn : ∀ b ∈ bs2, b ∉ [w.heap.size + 1] := fun b hb hm => by have := (f2.2 b hb).1; have := hres.out; simp at hm; omega
  exact ⟨[.int .i64 x.tables[m][q].id, .slice A2 x.tables[m][q].cells.length c2], bs2, rfl, RowR.good.upd r20 HU hn, ((hw4.setCell (p := ⟨w.heap.size + 1, 0, none⟩) (by simp) (.int .i64 x.tables[m][q].id)).setCell (p := ⟨w.heap.size + 1, 1, none⟩) (by simp) (.slice A2 x.tables[m][q].cells.length c2))⟩
theorem rowAns_wt {x : Store} (h : x.bulk ≤ 1048576) (n id : Int) : Row.wtV (rowAns x n id).1 ≤ 8388608 := by
  unfold rowAns
  split
  · rename_i h1
    obtain ⟨m, rfl, hm, ht, hr⟩ := tblCode_zero h1
    rw [ht]
    cases h5 : hasId x.tables[m] id
    · simp [Row.wtV, AtomSS.wt]
    · obtain ⟨hix, hlb⟩ := rowIdx_lb (hr _ (List.getElem_mem hm)) h5
      rw [hix, Int.toNat_natCast]
      have h2 : x.tables[m].getD (lbOf x.tables[m] id) default = x.tables[m][lbOf x.tables[m] id] := by simp [List.getD, hlb]
      show Row.wtV (x.tables[m].getD (lbOf x.tables[m] id) default) ≤ _
      rw [h2]
      have := Row.wtV_le x.tables[m][lbOf x.tables[m] id]
      have := bulkL_at Row.bulk hlb (Store.tab_le h hm)
      omega
  · simp [Row.wtV, AtomSS.wt]
end Go.Proofs.Ythbebbnidgeaeaa
