/- StoreOK of the reference, part 2. No statement is proved here; no conditions. Written by a program (gen63.py). -/
import Derived.Test.YthbebbnidgeaeaaGreatStoreS
import Derived.Shelf.Abstract
import Derived.StillTail
namespace Go.Proofs.YthbebbnidgeaeaaGreat
open Go.ChangeShapes Go.WideShapes Go.ChangeAt Go.RowKit Go.Deep
set_option maxRecDepth 100000
set_option linter.unusedVariables false
set_option linter.unusedSimpArgs false

def simN (t : Table) (a b : Row) (n : Nat) : Bool := decide (cellsN a (t.unique.getD n 0) = cellsN b (t.unique.getD n 0))
theorem simN_eq (t : Table) (a b : Row) : upTo (simN t a b) t.unique.length = alike t a b := by
  rw [Bool.eq_iff_iff, upTo_iff]; unfold alike simN
  rw [List.all_eq_true]
  constructor
  · intro h k hk
    obtain ⟨n, hn, rfl⟩ := List.mem_iff_getElem.1 hk
    have := h n hn
    rw [get_at0 _ n hn] at this; exact this
  · intro h n hn
    rw [get_at0 _ n hn]; exact h _ (List.getElem_mem hn)
theorem uniqT_nil {t : Table} {l : List Row} (h : t.unique.length = 0) : uniqT t l = true := by unfold uniqT; rw [List.isEmpty_iff.2 (List.eq_nil_of_length_eq_zero h)]; rfl
theorem uniqT_some {t : Table} {l : List Row} (h : ¬ t.unique.length = 0) : uniqT t l = upTo (uniqRow t l) l.length := by
  unfold uniqT; rw [show t.unique.isEmpty = false from by cases h2 : t.unique with | nil => rw [h2] at h; exact absurd rfl h | cons _ _ => rfl]; rfl
theorem fit_uniS {s : Schema} {x : Store} (h : storeFit s x = true) {i : Nat} (hs : i < s.tables.length) (hx : i < x.tables.length) : ∀ j (hj : j < x.tables[i].length) k (hk : k < s.tables[i].unique.length), 0 ≤ s.tables[i].unique[k] ∧ s.tables[i].unique[k] < x.tables[i][j].cells.length := by
  intro j hj k hk
  have h1 := uni_at (sch_tbl (storeFit_sch h) hs) hk
  have h2 := cellsIn_len (fitRow_cells (fitRows_row (storeIn_at (storeFit_in h) hs hx) hj))
  omega
theorem uniqAt_atS {s : Schema} {x : Store} {i : Nat} (hs : i < s.tables.length) (hx : i < x.tables.length) : uniqAt s x i = uniqT s.tables[i] x.tables[i] := by unfold uniqAt; rw [tabAt_at hs, rowsAt_at hx]
set_option maxHeartbeats 32000000 in
theorem spec_l05Unique {w : World}  {bs_s : List Nat} {cs_s : List Value} {s : Schema} (H_s : SchemaR w bs_s cs_s s) {bs_x : List Nat} {cs_x : List Value} {x : Store} (H_x : StoreR w bs_x cs_x x) (hok : storeFit s x = true) :
    Calls Tryz.prog 73 #[.agg cs_s.toArray, .agg cs_x.toArray] w (fun e w' => e = .returned (.bool (uniqB s x)) ∧ Below w.heap.size w w') := by
  have H0_s := H_s
  obtain ⟨s_v0, s_b0, rfl, rfl, hf_s, s_r0⟩ := H_s
  obtain ⟨A_s0, c_s0, rfl, hlc_s0, hcm_s0, hel_s0⟩ := s_r0.use
  have H0_x := H_x
  obtain ⟨x_v0, x_b0, rfl, rfl, hf_x, x_r0⟩ := H_x
  obtain ⟨A_x0, c_x0, rfl, hlc_x0, hcm_x0, hel_x0⟩ := x_r0.use
  have hbx := (((Below.refl w.heap.size w).alloc (Nat.le_refl _) (.cells #[.slice A_s0 s.tables.length c_s0] 61)).alloc (by simp; try omega) (.cells #[.slice A_x0 x.tables.length c_x0, .int .i64 x.next] 65))
  obtain ⟨q_s, q_x⟩ := two_at (Below.refl ((w.alloc (.cells #[.slice A_s0 s.tables.length c_s0] 61)).alloc (.cells #[.slice A_x0 x.tables.length c_x0, .int .i64 x.next] 65)).heap.size _)
  have HO := hide hok; clear hok; have HL := hide (storeIn_len (storeFit_in HO.out))
  go_enter Tryz.func73, Tryz.ntmps73
  go_wp2_with fail
  go_loopw [5] (fun i wr => ∃ k : Nat, k ≤ x.tables.length ∧ i = .int .i64 k ∧ Hid (upTo (uniqAt s x) k = true) ∧ Below (World.heap (((w.alloc (.cells #[.slice A_s0 s.tables.length c_s0] 61)).alloc (.cells #[.slice A_x0 x.tables.length c_x0, .int .i64 x.next] 65)))).size (((w.alloc (.cells #[.slice A_s0 s.tables.length c_s0] 61)).alloc (.cells #[.slice A_x0 x.tables.length c_x0, .int .i64 x.next] 65))) wr) (fun i _ => x.tables.length - (intOf i).toNat)
  case atStart => exact ⟨0, Nat.zero_le _, rfl, upTo_zero _, Below.refl _ _⟩
  case round =>
    obtain ⟨k1, hk1, rfl, hn1_, hb1001⟩ := hrel
    obtain ⟨wl1, rfl⟩ : ∃ w' : World, w' = wr := ⟨_, rfl⟩
    replace q_s := box_on q_s rfl hb1001
    replace q_x := box_on q_x rfl hb1001
    have hwl1 := nxt hbx hb1001
    by_cases hlt1 : k1 < x.tables.length
    · have hks : k1 < s.tables.length := by have := HL.out; omega
      have hfu := hide (fit_uniS HO.out hks hlt1); have hua := hide (uniqAt_atS hks hlt1)
      obtain ⟨tb, to, tbk, tes, rfl, thbl, thcl, thcell, tR, thbk⟩ := hel_s0 k1 hks
      have tR0 := tR
      obtain ⟨tv1, tb1, tv2, tb2, _, thes, thf, tr1, tr2⟩ := tR
      subst thes
      obtain ⟨tA1, tc1, rfl, thlc1, thcm1, thel1⟩ := tr1.use
      obtain ⟨tA2, tc2, rfl, thlc2, thcm2, thel2⟩ := tr2.use
      have t_0 := (hwl1.cell (p := ⟨tb, _, none⟩) thbl).trans (thcell 0 _ rfl)
      have t_1 := (hwl1.cell (p := ⟨tb, _, none⟩) thbl).trans (thcell 1 _ rfl)
      have t_2 := (hwl1.cell (p := ⟨tb, _, none⟩) thbl).trans (thcell 2 _ rfl)
      have t_3 := (hwl1.cell (p := ⟨tb, _, none⟩) thbl).trans (thcell 3 _ rfl)
      simp only [Nat.add_zero] at t_0 t_1 t_2 t_3
      clear thel1
      obtain ⟨pb, po, pbk, pes, rfl, phbl, phcl, phcell, pR, phbk⟩ := hel_x0 k1 hlt1
      obtain ⟨pA, pc, phlc, rfl⟩ : ∃ A0 c0, x.tables[k1].length ≤ c0 ∧ pes = [.slice A0 x.tables[k1].length c0] := by obtain ⟨A0, c0, h, h2, _⟩ := pR; exact ⟨A0, c0, h2, h⟩
      have p_0 := (hwl1.cell (p := ⟨pb, _, none⟩) phbl).trans (phcell 0 _ rfl)
      simp only [Nat.add_zero, Nat.mul_one] at p_0
      have pR2 := pR; obtain ⟨pA', pc', hpv, _, _, pel⟩ := pR.use; injection hpv with e1 e2 e3; subst e1; clear e2 e3
      go_wp2_with fail
      clear t_0 t_1 t_2 t_3 p_0
      by_cases hu0 : s.tables[k1].unique.length = 0
      · have hdu : decide ((0 : Int) < (s.tables[k1].unique.length : Int)) = false := decide_eq_false (by omega)
        go_loopw [7] (fun i wr => ∃ k : Nat, k ≤ 0 ∧ i = .int .i64 k ∧ Hid (True) ∧ Below (World.heap (wl1)).size (wl1) wr) (fun i _ => 0 - (intOf i).toNat)
        case atStart => exact ⟨0, Nat.zero_le _, rfl, trivial, Below.refl _ _⟩
        case round =>
          obtain ⟨k2, hk2, rfl, hn2_, hb1002⟩ := hrel
          obtain ⟨wl2, rfl⟩ : ∃ w' : World, w' = wr := ⟨_, rfl⟩
          replace q_s := box_on q_s rfl hb1002
          replace q_x := box_on q_x rfl hb1002
          have hwl2 := nxt hwl1 hb1002
          have hl0_1002 := nxt hb1001 hb1002
          have p_0 := (hwl2.cell (p := ⟨pb, _, none⟩) phbl).trans (phcell 0 _ rfl)
          simp only [Nat.add_zero, Nat.mul_one] at p_0
          by_cases hlt2 : k2 < 0
          · exact absurd hlt2 (by omega)
          · obtain rfl : k2 = 0 := by omega
            have hn12 : Hid (upTo (uniqAt s x) (k1 + 1) = true) := by show _ = _; rw [upTo_succ, hn1_.out, hua.out, uniqT_nil hu0]; rfl
            clear pel hel_x0 hel_s0
            by_cases hl0 : 0 < x.tables[k1].length
            · go_wp2_with fail
              go_roundw
              case rel => exact ⟨k1 + 1, hlt1, by go_num, hn12, hl0_1002⟩
              case measure => simp [intOf]; omega
            · go_wp2_with fail
              go_roundw
              case rel => exact ⟨k1 + 1, hlt1, by go_num, hn12, hl0_1002⟩
              case measure => simp [intOf]; omega
      · have hdu : decide ((0 : Int) < (s.tables[k1].unique.length : Int)) = true := decide_eq_true (by omega)
        have hue := hide (uniqT_some (l := x.tables[k1]) hu0)
        go_loopw [7] (fun i wr => ∃ k : Nat, k ≤ x.tables[k1].length ∧ i = .int .i64 k ∧ Hid (upTo (uniqRow s.tables[k1] x.tables[k1]) k = true) ∧ Below (World.heap (wl1)).size (wl1) wr) (fun i _ => x.tables[k1].length - (intOf i).toNat)
        case atStart => exact ⟨0, Nat.zero_le _, rfl, upTo_zero _, Below.refl _ _⟩
        case round =>
          obtain ⟨k3, hk3, rfl, hn3_, hb1003⟩ := hrel
          obtain ⟨wl3, rfl⟩ : ∃ w' : World, w' = wr := ⟨_, rfl⟩
          replace q_s := box_on q_s rfl hb1003
          replace q_x := box_on q_x rfl hb1003
          have hwl3 := nxt hwl1 hb1003
          have hl0_1003 := nxt hb1001 hb1003
          have p_0 := (hwl3.cell (p := ⟨pb, _, none⟩) phbl).trans (phcell 0 _ rfl)
          simp only [Nat.add_zero, Nat.mul_one] at p_0
          by_cases hlt3 : k3 < x.tables[k1].length
          · go_wp2_with fail
            go_loopw [8] (fun i wr => ∃ k : Nat, k ≤ k3 ∧ i = .int .i64 k ∧ Hid (upTo (fun j => !alike s.tables[k1] (x.tables[k1].getD k3 default) (x.tables[k1].getD j default)) k = true) ∧ Below (World.heap (wl3)).size (wl3) wr) (fun i _ => k3 - (intOf i).toNat)
            case atStart => exact ⟨0, Nat.zero_le _, rfl, upTo_zero _, Below.refl _ _⟩
            case round =>
              obtain ⟨k4, hk4, rfl, hn4_, hb1004⟩ := hrel
              obtain ⟨wl4, rfl⟩ : ∃ w' : World, w' = wr := ⟨_, rfl⟩
              replace q_s := box_on q_s rfl hb1004
              replace q_x := box_on q_x rfl hb1004
              have hwl4 := nxt hwl3 hb1004
              have hl0_1004 := nxt hl0_1003 hb1004; have hl1_1004 := nxt hb1003 hb1004
              by_cases hlt4 : k4 < k3
              · have hk4x : k4 < x.tables[k1].length := by omega
                go_wp2_with fail
                go_loopw [9, 10] (fun o i wr => ∃ k : Nat, k ≤ s.tables[k1].unique.length ∧ i = .int .i64 k ∧ o = .bool (upTo (simN s.tables[k1] x.tables[k1][k3] x.tables[k1][k4]) k) ∧ Hid (True) ∧ Below (World.heap (wl4)).size (wl4) wr) (fun _ i _ => s.tables[k1].unique.length - (intOf i).toNat)
                case atStart => exact ⟨0, Nat.zero_le _, rfl, rfl, trivial, Below.refl _ _⟩
                case round =>
                  obtain ⟨k5, hk5, rfl, rfl, hn5_, hb1005⟩ := hrel
                  obtain ⟨wl5, rfl⟩ : ∃ w' : World, w' = wr := ⟨_, rfl⟩
                  replace q_s := box_on q_s rfl hb1005
                  replace q_x := box_on q_x rfl hb1005
                  have hwl5 := nxt hwl4 hb1005
                  have hl0_1005 := nxt hl0_1004 hb1005; have hl1_1005 := nxt hl1_1004 hb1005; have hl2_1005 := nxt hb1004 hb1005
                  by_cases hlt5 : k5 < s.tables[k1].unique.length
                  · have hun := hfu.out k3 hlt3 k5 hlt5; have hun4 := hfu.out k4 hk4x k5 hlt5; obtain ⟨un, hue5⟩ : ∃ un : Nat, s.tables[k1].unique[k5] = un := ⟨s.tables[k1].unique[k5].toNat, by omega⟩; have hna : un < x.tables[k1][k3].cells.length := by omega
                    have hnb : un < x.tables[k1][k4].cells.length := by omega
                    have hsn : Hid (simN s.tables[k1] x.tables[k1][k3] x.tables[k1][k4] k5 = decide (x.tables[k1][k3].cells[un] = x.tables[k1][k4].cells[un])) := by show _ = _; unfold simN cellsN; rw [get_at0 _ k5 hlt5, hue5, Int.toNat_natCast, get_at _ un hna, get_at _ un hnb]
                    cases hv : upTo (simN s.tables[k1] x.tables[k1][k3] x.tables[k1][k4]) k5
                    · have hv2 : Hid (upTo (simN s.tables[k1] x.tables[k1][k3] x.tables[k1][k4]) (k5 + 1) = false) := by show _ = _; rw [upTo_succ, hv]; rfl
                      clear pel hel_x0 hel_s0 thel2 hv hue5
                      go_wp2_with fail
                      have q_sF0 := Fw.cell (box_cell q_s 0 rfl)
                      have q_xF0 := Fw.cell (box_cell q_x 0 rfl)
                      have q_xF1 := Fw.cell (box_cell q_x 1 rfl)
                      refine region_quiet (by kernel_rfl) (by kernel_rfl) ?_
                      repeat (go_big_quiet_step (fail))
                      refine wpQuiet_nil ?_; intro w1 hb1; replace q_s := box_on q_s rfl hb1; replace q_x := box_on q_x rfl hb1; have hw1 := nxt hwl5 hb1; have hl0_1 := nxt hl0_1005 hb1; have hl1_1 := nxt hl1_1005 hb1; have hl2_1 := nxt hl2_1005 hb1; have hl3_1 := nxt hb1005 hb1; clear q_sF0 q_xF0 q_xF1
                      go_wp2_with fail
                      go_roundw
                      case rel => exact ⟨k5 + 1, hlt5, by go_num, by rw [hv2.out], trivial, hl3_1⟩
                      case measure => simp [intOf]; omega
                    · have hv2 : Hid (upTo (simN s.tables[k1] x.tables[k1][k3] x.tables[k1][k4]) (k5 + 1) = decide (x.tables[k1][k3].cells[un] = x.tables[k1][k4].cells[un])) := by show _ = _; rw [upTo_succ, hv, hsn.out]; rfl
                      clear hv
                      have p_0 := Fw.cell ((hwl5.cell (p := ⟨pb, _, none⟩) phbl).trans (phcell 0 _ rfl))
                      simp only [Nat.add_zero, Nat.mul_one] at p_0
                      obtain ⟨ub, uo, ubk, ues, rfl, uhbl, uhcl, uhcell, uR, uhbk⟩ := thel2 k5 hlt5
                      obtain ⟨_, uhes, usz⟩ := uR; subst uhes
                      have u_0 := Fw.cell ((hwl5.cell (p := ⟨ub, _, none⟩) uhbl).trans (uhcell 0 _ rfl))
                      simp only [Nat.add_zero, Nat.mul_one] at u_0
                      rw [hue5] at u_0
                      obtain ⟨gb, go, gbk, ges, rfl, ghbl, ghcl, ghcell, gR, ghbk⟩ := pel k3 hlt3
                      have gR0 := gR
                      obtain ⟨gv1, gb1, _, ghes, ghf, gr1⟩ := gR
                      subst ghes
                      obtain ⟨gA1, gc1, rfl, ghlc1, ghcm1, ghel1⟩ := gr1.use
                      have g_0 := Fw.cell ((hwl5.cell (p := ⟨gb, _, none⟩) ghbl).trans (ghcell 0 _ rfl))
                      have g_1 := Fw.cell ((hwl5.cell (p := ⟨gb, _, none⟩) ghbl).trans (ghcell 1 _ rfl))
                      simp only [Nat.add_zero] at g_0 g_1
                      obtain ⟨eb, eo, ebk, ees, ehA, ehbl, ehcl, ehcell, eR, ehbk⟩ := pel k4 hk4x
                      cases ehA
                      have eR0 := eR
                      obtain ⟨ev1, eb1, _, ehes, ehf, er1⟩ := eR
                      subst ehes
                      obtain ⟨eA1, ec1, rfl, ehlc1, ehcm1, ehel1⟩ := er1.use
                      have e_0 := Fw.cell ((hwl5.cell (p := ⟨gb, _, none⟩) ehbl).trans (ehcell 0 _ rfl))
                      have e_1 := Fw.cell ((hwl5.cell (p := ⟨gb, _, none⟩) ehbl).trans (ehcell 1 _ rfl))
                      simp only [Nat.add_zero] at e_0 e_1
                      obtain ⟨yb, yo, ybk, yes, rfl, yhbl, yhcl, yhcell, yR, yhbk⟩ := ghel1 un hna
                      obtain ⟨yA, yc, yhlc, rfl⟩ : ∃ A0 c0, x.tables[k1][k3].cells[un].length ≤ c0 ∧ yes = [.slice A0 x.tables[k1][k3].cells[un].length c0] := by obtain ⟨A0, c0, h, h2, _⟩ := yR; exact ⟨A0, c0, h2, h⟩
                      have y_0 := Fw.cell ((hwl5.cell (p := ⟨yb, _, none⟩) yhbl).trans (yhcell 0 _ rfl))
                      simp only [Nat.add_zero, Nat.mul_one] at y_0
                      obtain ⟨zb, zo, zbk, zes, rfl, zhbl, zhcl, zhcell, zR, zhbk⟩ := ehel1 un hnb
                      obtain ⟨zA, zc, zhlc, rfl⟩ : ∃ A0 c0, x.tables[k1][k4].cells[un].length ≤ c0 ∧ zes = [.slice A0 x.tables[k1][k4].cells[un].length c0] := by obtain ⟨A0, c0, h, h2, _⟩ := zR; exact ⟨A0, c0, h2, h⟩
                      have z_0 := Fw.cell ((hwl5.cell (p := ⟨zb, _, none⟩) zhbl).trans (zhcell 0 _ rfl))
                      simp only [Nat.add_zero, Nat.mul_one] at z_0
                      have A1 := hide (fun (i : Fw wl5) => spec_l03Same (AtomSR.good.nxt (nxt hwl5 i.h) yR) (AtomSR.good.nxt (nxt hwl5 i.h) zR)); clear hue5
                      go_wp2_with fail
                      have q_sF0 := Fw.cell (box_cell q_s 0 rfl)
                      have q_xF0 := Fw.cell (box_cell q_x 0 rfl)
                      have q_xF1 := Fw.cell (box_cell q_x 1 rfl)
                      refine region_quiet (by kernel_rfl) (by kernel_rfl) ?_
                      repeat (go_big_quiet_step ((first | (go_at_call 117; exact quiet_of (A1.out _)))))
                      refine wpQuiet_nil ?_; intro w2 hb2; replace q_s := box_on q_s rfl hb2; replace q_x := box_on q_x rfl hb2; have hw2 := nxt hwl5 hb2; have hl0_2 := nxt hl0_1005 hb2; have hl1_2 := nxt hl1_1005 hb2; have hl2_2 := nxt hl2_1005 hb2; have hl3_2 := nxt hb1005 hb2; clear q_sF0 q_xF0 q_xF1 p_0 u_0 g_0 g_1 e_0 e_1 y_0 z_0
                      clear A1
                      go_wp2_with fail
                      go_roundw
                      case rel => exact ⟨k5 + 1, hlt5, by go_num, by rw [hv2.out], trivial, hl3_2⟩
                      case measure => simp [intOf]; omega
                  · obtain rfl : k5 = s.tables[k1].unique.length := by omega
                    have hal : Hid (upTo (simN s.tables[k1] x.tables[k1][k3] x.tables[k1][k4]) s.tables[k1].unique.length = alike s.tables[k1] x.tables[k1][k3] x.tables[k1][k4]) := simN_eq _ _ _
                    rw [hal.out]
                    cases h5 : alike s.tables[k1] x.tables[k1][k3] x.tables[k1][k4]
                    · have hn42 : Hid (upTo (fun j => !alike s.tables[k1] (x.tables[k1].getD k3 default) (x.tables[k1].getD j default)) (k4 + 1) = true) := by show _ = _; rw [upTo_succ, hn4_.out, get_at _ k3 hlt3, get_at _ k4 hk4x, h5]; rfl
                      clear h5
                      go_wp2_with fail
                      go_roundw
                      case rel => exact ⟨k4 + 1, hlt4, by go_num, hn42, hl2_1005⟩
                      case measure => simp [intOf]; omega
                    · have hbad : Hid (uniqB s x = false) := by show _ = _; unfold uniqB; refine upTo_bad hlt1 ?_; rw [hua.out, hue.out]; refine upTo_bad hlt3 ?_; unfold uniqRow; exact upTo_bad hlt4 (by rw [get_at _ k3 hlt3, get_at _ k4 hk4x, h5]; rfl)
                      clear h5 pel hel_x0 hel_s0 thel2
                      go_wp2_with fail
                      go_ret
                      exact ⟨ret_bool (by rw [hbad.out]), hwl5⟩
              · obtain rfl : k3 = k4 := by omega
                have hn32 : Hid (upTo (uniqRow s.tables[k1] x.tables[k1]) (k3 + 1) = true) := by show _ = _; rw [upTo_succ, hn3_.out, Bool.true_and]; exact hn4_.out
                go_wp2_with fail
                go_roundw
                case rel => exact ⟨k3 + 1, hlt3, by go_num, hn32, hl1_1004⟩
                case measure => simp [intOf]; omega
          · obtain rfl : k3 = x.tables[k1].length := by omega
            have hn12 : Hid (upTo (uniqAt s x) (k1 + 1) = true) := by show _ = _; rw [upTo_succ, hn1_.out, hua.out, hue.out, hn3_.out]; rfl
            go_wp2_with fail
            go_roundw
            case rel => exact ⟨k1 + 1, hlt1, by go_num, hn12, hl0_1003⟩
            case measure => simp [intOf]; omega
    · obtain rfl : k1 = x.tables.length := by omega
      have hok : Hid (uniqB s x = true) := hn1_; clear hel_x0 hel_s0
      go_wp2
      go_ret
      exact ⟨ret_bool (by rw [hok.out]), hwl1⟩
set_option maxHeartbeats 8000000 in
theorem spec_StoreOK {w : World}  {bs_s : List Nat} {cs_s : List Value} {s : Schema} (H_s : SchemaR w bs_s cs_s s) {bs_x : List Nat} {cs_x : List Value} {x : Store} (H_x : StoreR w bs_x cs_x x)  :
    Calls Tryz.prog 26 #[.agg cs_s.toArray, .agg cs_x.toArray] w (fun e w' => e = .returned (.bool (storeB s x)) ∧ Below w.heap.size w w') := by
  have H0_s := H_s
  obtain ⟨s_v0, s_b0, rfl, rfl, hf_s, s_r0⟩ := H_s
  obtain ⟨A_s0, c_s0, rfl, hlc_s0, hcm_s0, hel_s0⟩ := s_r0.use
  have H0_x := H_x
  obtain ⟨x_v0, x_b0, rfl, rfl, hf_x, x_r0⟩ := H_x
  obtain ⟨A_x0, c_x0, rfl, hlc_x0, hcm_x0, hel_x0⟩ := x_r0.use
  have hbx := (((Below.refl w.heap.size w).alloc (Nat.le_refl _) (.cells #[.slice A_s0 s.tables.length c_s0] 61)).alloc (by simp; try omega) (.cells #[.slice A_x0 x.tables.length c_x0, .int .i64 x.next] 65))
  obtain ⟨q_s, q_x⟩ := two_at (Below.refl ((w.alloc (.cells #[.slice A_s0 s.tables.length c_s0] 61)).alloc (.cells #[.slice A_x0 x.tables.length c_x0, .int .i64 x.next] 65)).heap.size _)
  clear hel_s0 hel_x0
  go_enter Tryz.func26, Tryz.ntmps26
  go_wp2_with fail
  refine (spec_SchemaOK (SchemaR.good.nxt hbx H0_s)).mono ?_; rw [schOKs_eq]; rintro e w1 ⟨rfl, hb1⟩; replace q_s := box_on q_s rfl hb1; replace q_x := box_on q_x rfl hb1; have hw1 := nxt hbx hb1
  cases h1 : schOK s
  · have hr : Hid (storeB s x = false) := by show _ = _; unfold storeB storeFit; rw [h1, Bool.false_and, Bool.false_and]
    go_wp2_with fail
    go_ret
    exact ⟨ret_bool (by rw [hr.out] <;> rfl), hw1⟩
  go_wp2_with fail
  refine (spec_l05Form (SchemaR.good.nxt hw1 H0_s) (StoreR.good.nxt hw1 H0_x)).mono ?_; rw [formIn_eq]; rintro e w2 ⟨rfl, hb2⟩; replace q_s := box_on q_s rfl hb2; replace q_x := box_on q_x rfl hb2; have hw2 := nxt hw1 hb2
  cases h2 : storeIn s x
  · have hr : Hid (storeB s x = false) := by show _ = _; unfold storeB storeFit; rw [h2, Bool.and_false, Bool.false_and]
    go_wp2_with fail
    go_ret
    exact ⟨ret_bool (by rw [hr.out] <;> rfl), hw2⟩
  have HO : Hid (storeFit s x = true) := by show _ = _; unfold storeFit; rw [h1, h2]; rfl
  have hr : Hid (storeB s x = (onceB x && (refsS s x && (uniqB s x && heldB s x)))) := by show _ = _; unfold storeB; rw [HO.out]; rfl
  clear h1 h2
  go_wp2_with fail
  refine (spec_l05Once (StoreR.good.nxt hw2 H0_x)).mono ?_; rintro e w3 ⟨rfl, hb3⟩; replace q_s := box_on q_s rfl hb3; replace q_x := box_on q_x rfl hb3; have hw3 := nxt hw2 hb3
  cases h3 : onceB x
  · have hr2 : Hid (storeB s x = false) := by show _ = _; rw [hr.out, h3, Bool.false_and]
    go_wp2_with fail
    go_ret
    exact ⟨ret_bool (by rw [hr2.out] <;> rfl), hw3⟩
  go_wp2_with fail
  refine (spec_l05Refs (SchemaR.good.nxt hw3 H0_s) (StoreR.good.nxt hw3 H0_x) HO.out).mono ?_; rintro e w4 ⟨rfl, hb4⟩; replace q_s := box_on q_s rfl hb4; replace q_x := box_on q_x rfl hb4; have hw4 := nxt hw3 hb4
  cases h4 : refsS s x
  · have hr2 : Hid (storeB s x = false) := by show _ = _; rw [hr.out, h4, Bool.false_and, Bool.and_false]
    go_wp2_with fail
    go_ret
    exact ⟨ret_bool (by rw [hr2.out] <;> rfl), hw4⟩
  go_wp2_with fail
  refine (spec_l05Unique (SchemaR.good.nxt hw4 H0_s) (StoreR.good.nxt hw4 H0_x) HO.out).mono ?_; rintro e w5 ⟨rfl, hb5⟩; replace q_s := box_on q_s rfl hb5; replace q_x := box_on q_x rfl hb5; have hw5 := nxt hw4 hb5
  cases h5 : uniqB s x
  · have hr2 : Hid (storeB s x = false) := by show _ = _; rw [hr.out, h5, Bool.false_and, Bool.and_false, Bool.and_false]
    go_wp2_with fail
    go_ret
    exact ⟨ret_bool (by rw [hr2.out] <;> rfl), hw5⟩
  have hr2 : Hid (storeB s x = heldB s x) := by show _ = _; rw [hr.out, h3, h4, h5]; rfl
  clear h3 h4 h5
  go_wp2_with fail
  refine (spec_l05Held (SchemaR.good.nxt hw5 H0_s) (StoreR.good.nxt hw5 H0_x) HO.out).mono ?_; rintro e w6 ⟨rfl, hb6⟩; replace q_s := box_on q_s rfl hb6; replace q_x := box_on q_x rfl hb6; have hw6 := nxt hw5 hb6
  go_wp2_with fail
  go_ret
  exact ⟨ret_bool (by rw [hr2.out]), hw6⟩
end Go.Proofs.YthbebbnidgeaeaaGreat
