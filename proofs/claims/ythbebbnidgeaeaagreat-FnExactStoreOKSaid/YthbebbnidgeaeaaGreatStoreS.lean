/- StoreOK of the reference, part 1. No statement is proved here; no conditions. Written by a program (gen62.py). -/
import Derived.Test.YthbebbnidgeaeaaGreatStoreP
import Derived.Test.YthbebbnidgeaeaaGreatSame
import Derived.Shelf.Abstract
import Derived.StillTail
namespace Go.Proofs.YthbebbnidgeaeaaGreat
open Go.ChangeShapes Go.WideShapes Go.ChangeAt Go.RowKit Go.Deep
set_option maxRecDepth 100000
set_option linter.unusedVariables false
set_option linter.unusedSimpArgs false

theorem hid_ge {l : List Row} {id : Int} {b : Bool} (h : hasId l id = b) : decide (0 ≤ rowIdx l id) = b := (rowIdx_has l id).trans h
theorem hid_no {l : List Row} {id : Int} (h : hasId l id = false) : rowIdx l id < 0 := by have := of_decide_eq_false (hid_ge h); omega
theorem hid_yes {l : List Row} {id : Int} (h : hasId l id = true) : 0 ≤ rowIdx l id := of_decide_eq_true (hid_ge h)
theorem hid_lt {l : List Row} {id : Int} {b : Bool} (h : hasId l id = b) : decide (rowIdx l id < 0) = !b := by
  have h1 := hid_ge h
  cases b
  · exact decide_eq_true (by have := of_decide_eq_false h1; omega)
  · exact decide_eq_false (by have := of_decide_eq_true h1; omega)
theorem onceS_def (x : Store) {i k : Nat} (hi : i < x.tables.length) (hk : k < x.tables[i].length) {j : Nat} (hj : j < x.tables.length) : hasId (rowsAt x j) ((rowsAt x i).getD k default).id = hasId x.tables[j] x.tables[i][k].id := by rw [rowsAt_at hj]; simp only [rowsAt_at hi]; rw [get_at _ k hk]
def onceJ (x : Store) (i k j : Nat) : Bool := !hasId (rowsAt x j) ((rowsAt x i).getD k default).id
def onceK (x : Store) (i k : Nat) : Bool := upTo (onceJ x i k) i
def onceI (x : Store) (i : Nat) : Bool := upTo (onceK x i) (rowsAt x i).length
theorem onceI_eq (x : Store) : upTo (onceI x) x.tables.length = onceB x := onceS_eq x
set_option maxHeartbeats 8000000 in
theorem spec_l05Once {w : World}  {bs_x : List Nat} {cs_x : List Value} {x : Store} (H_x : StoreR w bs_x cs_x x)  :
    Calls Tryz.prog 71 #[.agg cs_x.toArray] w (fun e w' => e = .returned (.bool (onceB x)) ∧ Below w.heap.size w w') := by
  have H0_x := H_x
  obtain ⟨x_v0, x_b0, rfl, rfl, hf_x, x_r0⟩ := H_x
  obtain ⟨A_x0, c_x0, rfl, hlc_x0, hcm_x0, hel_x0⟩ := x_r0.use
  have hbx := ((Below.refl w.heap.size w).alloc (Nat.le_refl _) (.cells #[.slice A_x0 x.tables.length c_x0, .int .i64 x.next] 65))
  have q_x := blk_cells (blk_new w #[.slice A_x0 x.tables.length c_x0, .int .i64 x.next] 65)
  rw [← onceI_eq]
  go_enter Tryz.func71, Tryz.ntmps71
  go_wp2_with fail
  go_loopw [3] (fun i wr => ∃ k : Nat, k ≤ x.tables.length ∧ i = .int .i64 k ∧ Hid (upTo (onceI x) k = true) ∧ Below (World.heap ((w.alloc (.cells #[.slice A_x0 x.tables.length c_x0, .int .i64 x.next] 65)))).size ((w.alloc (.cells #[.slice A_x0 x.tables.length c_x0, .int .i64 x.next] 65))) wr) (fun i _ => x.tables.length - (intOf i).toNat)
  case atStart => exact ⟨0, Nat.zero_le _, rfl, upTo_zero _, Below.refl _ _⟩
  case round =>
    obtain ⟨k1, hk1, rfl, hn1_, hb1001⟩ := hrel
    obtain ⟨wl1, rfl⟩ : ∃ w' : World, w' = wr := ⟨_, rfl⟩
    replace q_x := box_on q_x rfl hb1001
    have hwl1 := nxt hbx hb1001
    by_cases hlt1 : k1 < x.tables.length
    · obtain ⟨pb, po, pbk, pes, rfl, phbl, phcl, phcell, pR, phbk⟩ := hel_x0 k1 hlt1
      obtain ⟨pA, pc, phlc, rfl⟩ : ∃ A0 c0, x.tables[k1].length ≤ c0 ∧ pes = [.slice A0 x.tables[k1].length c0] := by obtain ⟨A0, c0, h, h2, _⟩ := pR; exact ⟨A0, c0, h2, h⟩
      have p_0 := (hwl1.cell (p := ⟨pb, _, none⟩) phbl).trans (phcell 0 _ rfl)
      simp only [Nat.add_zero, Nat.mul_one] at p_0
      have pR2 := pR; obtain ⟨pA', pc', hpv, _, _, pel⟩ := pR.use; injection hpv with e1 e2 e3; subst e1; clear e2 e3
      go_wp2_with fail
      go_loopw [4] (fun i wr => ∃ k : Nat, k ≤ x.tables[k1].length ∧ i = .int .i64 k ∧ Hid (upTo (onceK x k1) k = true) ∧ Below (World.heap (wl1)).size (wl1) wr) (fun i _ => x.tables[k1].length - (intOf i).toNat)
      case atStart => exact ⟨0, Nat.zero_le _, rfl, upTo_zero _, Below.refl _ _⟩
      case round =>
        obtain ⟨k2, hk2, rfl, hn2_, hb1002⟩ := hrel
        obtain ⟨wl2, rfl⟩ : ∃ w' : World, w' = wr := ⟨_, rfl⟩
        replace q_x := box_on q_x rfl hb1002
        have hwl2 := nxt hwl1 hb1002
        have hl0_1002 := nxt hb1001 hb1002
        have p_0 := (hwl2.cell (p := ⟨pb, _, none⟩) phbl).trans (phcell 0 _ rfl)
        simp only [Nat.add_zero, Nat.mul_one] at p_0
        by_cases hlt2 : k2 < x.tables[k1].length
        · go_wp2_with fail
          go_loopw [5] (fun i wr => ∃ k : Nat, k ≤ k1 ∧ i = .int .i64 k ∧ Hid (upTo (onceJ x k1 k2) k = true) ∧ Below (World.heap (wl2)).size (wl2) wr) (fun i _ => k1 - (intOf i).toNat)
          case atStart => exact ⟨0, Nat.zero_le _, rfl, upTo_zero _, Below.refl _ _⟩
          case round =>
            obtain ⟨k3, hk3, rfl, hn3_, hb1003⟩ := hrel
            obtain ⟨wl3, rfl⟩ : ∃ w' : World, w' = wr := ⟨_, rfl⟩
            replace q_x := box_on q_x rfl hb1003
            have hwl3 := nxt hwl2 hb1003
            have hl0_1003 := nxt hl0_1002 hb1003; have hl1_1003 := nxt hb1002 hb1003
            by_cases hlt3 : k3 < k1
            · have hk3x : k3 < x.tables.length := by omega
              obtain ⟨gb, go, gbk, ges, rfl, ghbl, ghcl, ghcell, gR, ghbk⟩ := pel k2 hlt2
              have gR0 := gR
              obtain ⟨gv1, gb1, _, ghes, ghf, gr1⟩ := gR
              subst ghes
              obtain ⟨gA1, gc1, rfl, ghlc1, ghcm1, ghel1⟩ := gr1.use
              have g_0 := Fw.cell ((hwl3.cell (p := ⟨gb, _, none⟩) ghbl).trans (ghcell 0 _ rfl))
              have g_1 := Fw.cell ((hwl3.cell (p := ⟨gb, _, none⟩) ghbl).trans (ghcell 1 _ rfl))
              simp only [Nat.add_zero] at g_0 g_1
              have p_0 := Fw.cell ((hwl3.cell (p := ⟨pb, _, none⟩) phbl).trans (phcell 0 _ rfl))
              simp only [Nat.add_zero, Nat.mul_one] at p_0
              obtain ⟨zb, zo, zbk, zes, zhA, zhbl, zhcl, zhcell, zR, zhbk⟩ := hel_x0 k3 hk3x
              cases zhA
              obtain ⟨zA, zc, zhlc, rfl⟩ : ∃ A0 c0, x.tables[k3].length ≤ c0 ∧ zes = [.slice A0 x.tables[k3].length c0] := by obtain ⟨A0, c0, h, h2, _⟩ := zR; exact ⟨A0, c0, h2, h⟩
              have z_0 := Fw.cell ((hwl3.cell (p := ⟨pb, _, none⟩) zhbl).trans (zhcell 0 _ rfl))
              simp only [Nat.add_zero, Nat.mul_one] at z_0
              have hoj : Hid (onceJ x k1 k2 k3 = !hasId x.tables[k3] x.tables[k1][k2].id) := by show _ = _; unfold onceJ; rw [onceS_def x hlt1 hlt2 hk3x]
              have A1 := hide (fun (i : Fw wl3) => spec_l05Place (RowSR.good.nxt (nxt hwl3 i.h) zR) x.tables[k1][k2].id)
              go_wp2_with fail
              have q_xF0 := Fw.cell (box_cell q_x 0 rfl)
              have q_xF1 := Fw.cell (box_cell q_x 1 rfl)
              refine region_quiet (by kernel_rfl) (by kernel_rfl) ?_
              repeat (go_big_quiet_step ((first | (go_at_call 61; exact quiet_of (A1.out _)))))
              refine wpQuiet_nil ?_; intro w1 hb1; replace q_x := box_on q_x rfl hb1; have hw1 := nxt hwl3 hb1; have hl0_1 := nxt hl0_1003 hb1; have hl1_1 := nxt hl1_1003 hb1; have hl2_1 := nxt hb1003 hb1; clear q_xF0 q_xF1 g_0 g_1 p_0 z_0
              clear A1
              cases h5 : hasId x.tables[k3] x.tables[k1][k2].id
              · have hn32 : Hid (upTo (onceJ x k1 k2) (k3 + 1) = true) := by show _ = _; rw [upTo_succ, hn3_.out, hoj.out, h5]; rfl
                have hd := hid_ge h5; have hp := hid_no h5; clear h5
                go_wp2_with fail
                go_roundw
                case rel => exact ⟨k3 + 1, hlt3, by go_num, hn32, hl2_1⟩
                case measure => simp [intOf]; omega
              · have hbad : Hid (upTo (onceI x) x.tables.length = false) := by show _ = _; exact upTo_bad hlt1 (upTo_bad (by rw [rowsAt_at hlt1]; exact hlt2) (upTo_bad hlt3 (by rw [hoj.out, h5]; rfl)))
                have hd := hid_ge h5; have hp := hid_yes h5; clear h5 hel_x0 pel
                go_wp2_with fail
                go_ret
                exact ⟨ret_bool (by rw [hbad.out]), hw1⟩
            · obtain rfl : k1 = k3 := by omega
              have hn22 : Hid (upTo (onceK x k1) (k2 + 1) = true) := by show _ = _; rw [upTo_succ, hn2_.out, Bool.true_and]; exact hn3_.out
              go_wp2_with fail
              go_roundw
              case rel => exact ⟨k2 + 1, hlt2, by go_num, hn22, hl1_1003⟩
              case measure => simp [intOf]; omega
        · obtain rfl : k2 = x.tables[k1].length := by omega
          have hn12 : Hid (upTo (onceI x) (k1 + 1) = true) := by show _ = _; rw [upTo_succ, hn1_.out, Bool.true_and]; unfold onceI; rw [rowsAt_at hlt1]; exact hn2_.out
          go_wp2_with fail
          go_roundw
          case rel => exact ⟨k1 + 1, hlt1, by go_num, hn12, hl0_1002⟩
          case measure => simp [intOf]; omega
    · obtain rfl : k1 = x.tables.length := by omega
      have hok := hide hn1_.out; clear hel_x0
      go_wp2
      go_ret
      exact ⟨ret_bool (by rw [hok.out]), hwl1⟩
def metN (x : Store) (m : Nat) (d : List Atom) (n : Nat) : Bool := hasId (rowsAt x m) (d.getD n default).n
theorem metN_eq (x : Store) (m : Nat) (d : List Atom) : upTo (metN x m d) d.length = !unmet x m d := by
  rw [Bool.eq_iff_iff, upTo_iff]; unfold unmet metN
  rw [Int.toNat_natCast, Bool.not_eq_true', List.any_eq_false]
  constructor
  · intro h a ha
    obtain ⟨k, hk, rfl⟩ := List.mem_iff_getElem.1 ha
    have := h k hk
    rw [get_at _ k hk] at this; rw [this]; simp
  · intro h k hk
    rw [get_at _ k hk]; simpa using h _ (List.getElem_mem hk)
def metK (s : Schema) (x : Store) (i c k : Nat) : Bool := !unmet x (tblIdx s.tables (colIn s i c).ref) (cellAt x i k c)
def refsAt (s : Schema) (x : Store) (i : Nat) : Bool := upTo (refTurn s x i) (tabAt s i).columns.length
theorem refsAt_eq (s : Schema) (x : Store) (h : x.tables.length = s.tables.length) : upTo (refsAt s x) x.tables.length = refsS s x := by rw [h]; rfl
theorem refTurn_4 {s : Schema} {x : Store} {i c : Nat} (hx : i < x.tables.length) (h : ((colIn s i c).kind != 4) = false) : refTurn s x i c = upTo (metK s x i c) x.tables[i].length := by unfold refTurn; rw [h, Bool.false_or, rowsAt_at hx]; rfl
set_option maxHeartbeats 16000000 in
theorem spec_l05Refs {w : World}  {bs_s : List Nat} {cs_s : List Value} {s : Schema} (H_s : SchemaR w bs_s cs_s s) {bs_x : List Nat} {cs_x : List Value} {x : Store} (H_x : StoreR w bs_x cs_x x) (hok : storeFit s x = true) :
    Calls Tryz.prog 72 #[.agg cs_s.toArray, .agg cs_x.toArray] w (fun e w' => e = .returned (.bool (refsS s x)) ∧ Below w.heap.size w w') := by
  have H0_s := H_s
  obtain ⟨s_v0, s_b0, rfl, rfl, hf_s, s_r0⟩ := H_s
  obtain ⟨A_s0, c_s0, rfl, hlc_s0, hcm_s0, hel_s0⟩ := s_r0.use
  have H0_x := H_x
  obtain ⟨x_v0, x_b0, rfl, rfl, hf_x, x_r0⟩ := H_x
  obtain ⟨A_x0, c_x0, rfl, hlc_x0, hcm_x0, hel_x0⟩ := x_r0.use
  have hbx := (((Below.refl w.heap.size w).alloc (Nat.le_refl _) (.cells #[.slice A_s0 s.tables.length c_s0] 61)).alloc (by simp; try omega) (.cells #[.slice A_x0 x.tables.length c_x0, .int .i64 x.next] 65))
  obtain ⟨q_s, q_x⟩ := two_at (Below.refl ((w.alloc (.cells #[.slice A_s0 s.tables.length c_s0] 61)).alloc (.cells #[.slice A_x0 x.tables.length c_x0, .int .i64 x.next] 65)).heap.size _)
  have HO := hide hok; clear hok; have HL := hide (storeIn_len (storeFit_in HO.out))
  rw [← refsAt_eq s x HL.out]
  go_enter Tryz.func72, Tryz.ntmps72
  go_wp2_with fail
  go_loopw [5] (fun i wr => ∃ k : Nat, k ≤ x.tables.length ∧ i = .int .i64 k ∧ Hid (upTo (refsAt s x) k = true) ∧ Below (World.heap (((w.alloc (.cells #[.slice A_s0 s.tables.length c_s0] 61)).alloc (.cells #[.slice A_x0 x.tables.length c_x0, .int .i64 x.next] 65)))).size (((w.alloc (.cells #[.slice A_s0 s.tables.length c_s0] 61)).alloc (.cells #[.slice A_x0 x.tables.length c_x0, .int .i64 x.next] 65))) wr) (fun i _ => x.tables.length - (intOf i).toNat)
  case atStart => exact ⟨0, Nat.zero_le _, rfl, upTo_zero _, Below.refl _ _⟩
  case round =>
    obtain ⟨k1, hk1, rfl, hn1_, hb1001⟩ := hrel
    obtain ⟨wl1, rfl⟩ : ∃ w' : World, w' = wr := ⟨_, rfl⟩
    replace q_s := box_on q_s rfl hb1001
    replace q_x := box_on q_x rfl hb1001
    have hwl1 := nxt hbx hb1001
    by_cases hlt1 : k1 < x.tables.length
    · have hks : k1 < s.tables.length := by have := HL.out; omega
      have hfr := hide (storeIn_at (storeFit_in HO.out) hks hlt1)
      obtain ⟨tb, to, tbk, tes, rfl, thbl, thcl, thcell, tR, thbk⟩ := hel_s0 k1 hks
      have tR0 := tR
      obtain ⟨tv1, tb1, tv2, tb2, _, thes, thf, tr1, tr2⟩ := tR
      subst thes
      obtain ⟨tA1, tc1, rfl, thlc1, thcm1, thel1⟩ := tr1.use
      obtain ⟨tA2, tc2, rfl, thlc2, thcm2, thel2⟩ := tr2.use
      have t_0 := (hwl1.cell (p := ⟨tb, _, none⟩) thbl).trans (thcell 0 _ rfl)
      have t_1 := (hwl1.cell (p := ⟨tb, _, none⟩) thbl).trans (thcell 1 _ rfl)
      have t_2 := (hwl1.cell (p := ⟨tb, _, none⟩) thbl).trans (thcell 2 _ rfl)
      have t_3 := (hwl1.cell (p := ⟨tb, _, none⟩) thbl).trans (thcell 3 _ rfl)
      simp only [Nat.add_zero] at t_0 t_1 t_2 t_3
      obtain ⟨pb, po, pbk, pes, rfl, phbl, phcl, phcell, pR, phbk⟩ := hel_x0 k1 hlt1
      obtain ⟨pA, pc, phlc, rfl⟩ : ∃ A0 c0, x.tables[k1].length ≤ c0 ∧ pes = [.slice A0 x.tables[k1].length c0] := by obtain ⟨A0, c0, h, h2, _⟩ := pR; exact ⟨A0, c0, h2, h⟩
      have p_0 := (hwl1.cell (p := ⟨pb, _, none⟩) phbl).trans (phcell 0 _ rfl)
      simp only [Nat.add_zero, Nat.mul_one] at p_0
      have pR2 := pR; obtain ⟨pA', pc', hpv, _, _, pel⟩ := pR.use; injection hpv with e1 e2 e3; subst e1; clear e2 e3
      go_wp2_with fail
      go_loopw [6] (fun i wr => ∃ k : Nat, k ≤ s.tables[k1].columns.length ∧ i = .int .i64 k ∧ Hid (upTo (refTurn s x k1) k = true) ∧ Below (World.heap (wl1)).size (wl1) wr) (fun i _ => s.tables[k1].columns.length - (intOf i).toNat)
      case atStart => exact ⟨0, Nat.zero_le _, rfl, upTo_zero _, Below.refl _ _⟩
      case round =>
        obtain ⟨k2, hk2, rfl, hn2_, hb1002⟩ := hrel
        obtain ⟨wl2, rfl⟩ : ∃ w' : World, w' = wr := ⟨_, rfl⟩
        replace q_s := box_on q_s rfl hb1002
        replace q_x := box_on q_x rfl hb1002
        have hwl2 := nxt hwl1 hb1002
        have hl0_1002 := nxt hb1001 hb1002
        have t_0 := (hwl2.cell (p := ⟨tb, _, none⟩) thbl).trans (thcell 0 _ rfl)
        have t_1 := (hwl2.cell (p := ⟨tb, _, none⟩) thbl).trans (thcell 1 _ rfl)
        have t_2 := (hwl2.cell (p := ⟨tb, _, none⟩) thbl).trans (thcell 2 _ rfl)
        have t_3 := (hwl2.cell (p := ⟨tb, _, none⟩) thbl).trans (thcell 3 _ rfl)
        simp only [Nat.add_zero] at t_0 t_1 t_2 t_3
        have p_0 := (hwl2.cell (p := ⟨pb, _, none⟩) phbl).trans (phcell 0 _ rfl)
        simp only [Nat.add_zero, Nat.mul_one] at p_0
        by_cases hlt2 : k2 < s.tables[k1].columns.length
        · have hcol := hide (colIn_at hks hlt2)
          obtain ⟨cb, co, cbk, ces, rfl, chbl, chcl, chcell, cR, chbk⟩ := thel1 k2 hlt2
          obtain ⟨_, ches, chf⟩ := cR
          subst ches
          have c_0 := (hwl2.cell (p := ⟨cb, _, none⟩) chbl).trans (chcell 0 _ rfl)
          have c_1 := (hwl2.cell (p := ⟨cb, _, none⟩) chbl).trans (chcell 1 _ rfl)
          have c_2 := (hwl2.cell (p := ⟨cb, _, none⟩) chbl).trans (chcell 2 _ rfl)
          have c_3 := (hwl2.cell (p := ⟨cb, _, none⟩) chbl).trans (chcell 3 _ rfl)
          have c_4 := (hwl2.cell (p := ⟨cb, _, none⟩) chbl).trans (chcell 4 _ rfl)
          have c_5 := (hwl2.cell (p := ⟨cb, _, none⟩) chbl).trans (chcell 5 _ rfl)
          have c_6 := (hwl2.cell (p := ⟨cb, _, none⟩) chbl).trans (chcell 6 _ rfl)
          have c_7 := (hwl2.cell (p := ⟨cb, _, none⟩) chbl).trans (chcell 7 _ rfl)
          simp only [Nat.add_zero] at c_0 c_1 c_2 c_3 c_4 c_5 c_6 c_7
          have q_s9 := q_s; have q_x9 := q_x
          replace q_s := box_on q_s rfl ((Below.refl (World.heap (wl2)).size (wl2)).alloc (Nat.le_refl _) (.cells #[.string s.tables[k1].columns[k2].name, .int .i64 s.tables[k1].columns[k2].kind, .int .i64 s.tables[k1].columns[k2].min, .int .i64 s.tables[k1].columns[k2].max, .int .i64 s.tables[k1].columns[k2].low, .int .i64 s.tables[k1].columns[k2].high, .string s.tables[k1].columns[k2].ref, .bool s.tables[k1].columns[k2].strong] 130))
          replace q_x := box_on q_x rfl ((Below.refl (World.heap (wl2)).size (wl2)).alloc (Nat.le_refl _) (.cells #[.string s.tables[k1].columns[k2].name, .int .i64 s.tables[k1].columns[k2].kind, .int .i64 s.tables[k1].columns[k2].min, .int .i64 s.tables[k1].columns[k2].max, .int .i64 s.tables[k1].columns[k2].low, .int .i64 s.tables[k1].columns[k2].high, .string s.tables[k1].columns[k2].ref, .bool s.tables[k1].columns[k2].strong] 130))
          have q_c := blk_cells (blk_new (wl2) #[.string s.tables[k1].columns[k2].name, .int .i64 s.tables[k1].columns[k2].kind, .int .i64 s.tables[k1].columns[k2].min, .int .i64 s.tables[k1].columns[k2].max, .int .i64 s.tables[k1].columns[k2].low, .int .i64 s.tables[k1].columns[k2].high, .string s.tables[k1].columns[k2].ref, .bool s.tables[k1].columns[k2].strong] 130)
          have hn1 := (hwl2).alloc (hwl2).size (.cells #[.string s.tables[k1].columns[k2].name, .int .i64 s.tables[k1].columns[k2].kind, .int .i64 s.tables[k1].columns[k2].min, .int .i64 s.tables[k1].columns[k2].max, .int .i64 s.tables[k1].columns[k2].low, .int .i64 s.tables[k1].columns[k2].high, .string s.tables[k1].columns[k2].ref, .bool s.tables[k1].columns[k2].strong] 130)
          have hc1_0 := (hl0_1002).alloc (hl0_1002).size (.cells #[.string s.tables[k1].columns[k2].name, .int .i64 s.tables[k1].columns[k2].kind, .int .i64 s.tables[k1].columns[k2].min, .int .i64 s.tables[k1].columns[k2].max, .int .i64 s.tables[k1].columns[k2].low, .int .i64 s.tables[k1].columns[k2].high, .string s.tables[k1].columns[k2].ref, .bool s.tables[k1].columns[k2].strong] 130)
          have hc1_1 := (hb1002).alloc (hb1002).size (.cells #[.string s.tables[k1].columns[k2].name, .int .i64 s.tables[k1].columns[k2].kind, .int .i64 s.tables[k1].columns[k2].min, .int .i64 s.tables[k1].columns[k2].max, .int .i64 s.tables[k1].columns[k2].low, .int .i64 s.tables[k1].columns[k2].high, .string s.tables[k1].columns[k2].ref, .bool s.tables[k1].columns[k2].strong] 130)
          cases h4 : (s.tables[k1].columns[k2].kind != 4)
          · go_wp2_with fail
            clear c_0 c_1 c_2 c_3 c_4 c_5 c_6 c_7 q_s9 q_x9
            have h44 : s.tables[k1].columns[k2].kind = 4 := by simpa using h4
            obtain ⟨rm, hrm, hrl⟩ := sch_ref (storeFit_sch HO.out) hks hlt2 h44; have hrx : rm < x.tables.length := by rw [HL.out]; exact hrl
            have hrt := hide (refTurn_4 (x := x) (c := k2) hlt1 (by rw [hcol.out]; exact h4)); have HRM := hide hrm; clear hrm h44
            have A1 := hide (fun (i : Fw ((wl2).alloc (.cells #[.string s.tables[k1].columns[k2].name, .int .i64 s.tables[k1].columns[k2].kind, .int .i64 s.tables[k1].columns[k2].min, .int .i64 s.tables[k1].columns[k2].max, .int .i64 s.tables[k1].columns[k2].low, .int .i64 s.tables[k1].columns[k2].high, .string s.tables[k1].columns[k2].ref, .bool s.tables[k1].columns[k2].strong] 130))) => spec_l04Find (TableSR.good.nxt (nxt hn1 i.h) s_r0) s.tables[k1].columns[k2].ref); rw [HRM.out] at A1
            obtain ⟨zb, zo, zbk, zes, zhA, zhbl, zhcl, zhcell, zR, zhbk⟩ := hel_x0 rm hrx
            cases zhA
            obtain ⟨zA, zc, zhlc, rfl⟩ : ∃ A0 c0, x.tables[rm].length ≤ c0 ∧ zes = [.slice A0 x.tables[rm].length c0] := by obtain ⟨A0, c0, h, h2, _⟩ := zR; exact ⟨A0, c0, h2, h⟩
            have z_0 := Fw.cell ((hn1.cell (p := ⟨pb, _, none⟩) zhbl).trans (zhcell 0 _ rfl))
            simp only [Nat.add_zero, Nat.mul_one] at z_0
            have q_sF0 := Fw.cell (box_cell q_s 0 rfl)
            have q_xF0 := Fw.cell (box_cell q_x 0 rfl)
            have q_xF1 := Fw.cell (box_cell q_x 1 rfl)
            have q_cF0 := Fw.cell (box_cell q_c 0 rfl)
            have q_cF1 := Fw.cell (box_cell q_c 1 rfl)
            have q_cF2 := Fw.cell (box_cell q_c 2 rfl)
            have q_cF3 := Fw.cell (box_cell q_c 3 rfl)
            have q_cF4 := Fw.cell (box_cell q_c 4 rfl)
            have q_cF5 := Fw.cell (box_cell q_c 5 rfl)
            have q_cF6 := Fw.cell (box_cell q_c 6 rfl)
            have q_cF7 := Fw.cell (box_cell q_c 7 rfl)
            refine region_quiet (by kernel_rfl) (by kernel_rfl) ?_
            repeat (go_big_quiet_step ((first | (go_at_call 106; exact quiet_of (A1.out _)))))
            refine wpQuiet_nil ?_; intro w1 hb1; replace q_s := box_on q_s rfl hb1; replace q_x := box_on q_x rfl hb1; replace q_c := box_on q_c rfl hb1; have hw1 := nxt hn1 hb1; have hl0_1 := nxt hc1_0 hb1; have hl1_1 := nxt hc1_1 hb1; clear q_sF0 q_xF0 q_xF1 q_cF0 q_cF1 q_cF2 q_cF3 q_cF4 q_cF5 q_cF6 q_cF7 z_0
            clear A1
            go_wp2_with fail
            go_loopw [9] (fun i wr => ∃ k : Nat, k ≤ x.tables[k1].length ∧ i = .int .i64 k ∧ Hid (upTo (metK s x k1 k2) k = true) ∧ Below (World.heap (w1)).size (w1) wr) (fun i _ => x.tables[k1].length - (intOf i).toNat)
            case atStart => exact ⟨0, Nat.zero_le _, rfl, upTo_zero _, Below.refl _ _⟩
            case round =>
              obtain ⟨k3, hk3, rfl, hn3_, hb1003⟩ := hrel
              obtain ⟨wl3, rfl⟩ : ∃ w' : World, w' = wr := ⟨_, rfl⟩
              replace q_s := box_on q_s rfl hb1003
              replace q_x := box_on q_x rfl hb1003
              replace q_c := box_on q_c rfl hb1003
              have hwl3 := nxt hw1 hb1003
              have hl0_1003 := nxt hl0_1 hb1003; have hl1_1003 := nxt hl1_1 hb1003
              have p_0 := (hwl3.cell (p := ⟨pb, _, none⟩) phbl).trans (phcell 0 _ rfl)
              simp only [Nat.add_zero, Nat.mul_one] at p_0
              by_cases hlt3 : k3 < x.tables[k1].length
              · have hce : Hid (x.tables[k1][k3].cells.length = s.tables[k1].columns.length) := cellsIn_len (fitRow_cells (fitRows_row hfr.out hlt3))
                have hkc : k2 < x.tables[k1][k3].cells.length := by have := hce.out; omega
                obtain ⟨gb, go, gbk, ges, rfl, ghbl, ghcl, ghcell, gR, ghbk⟩ := pel k3 hlt3
                have gR0 := gR
                obtain ⟨gv1, gb1, _, ghes, ghf, gr1⟩ := gR
                subst ghes
                obtain ⟨gA1, gc1, rfl, ghlc1, ghcm1, ghel1⟩ := gr1.use
                have g_0 := (hwl3.cell (p := ⟨gb, _, none⟩) ghbl).trans (ghcell 0 _ rfl)
                have g_1 := (hwl3.cell (p := ⟨gb, _, none⟩) ghbl).trans (ghcell 1 _ rfl)
                simp only [Nat.add_zero] at g_0 g_1
                obtain ⟨yb, yo, ybk, yes, rfl, yhbl, yhcl, yhcell, yR, yhbk⟩ := ghel1 k2 hkc
                obtain ⟨yA, yc, yhlc, rfl⟩ : ∃ A0 c0, x.tables[k1][k3].cells[k2].length ≤ c0 ∧ yes = [.slice A0 x.tables[k1][k3].cells[k2].length c0] := by obtain ⟨A0, c0, h, h2, _⟩ := yR; exact ⟨A0, c0, h2, h⟩
                have y_0 := (hwl3.cell (p := ⟨yb, _, none⟩) yhbl).trans (yhcell 0 _ rfl)
                simp only [Nat.add_zero, Nat.mul_one] at y_0
                have yR2 := yR; obtain ⟨yA', yc', hyv, _, _, yel⟩ := yR.use; injection hyv with e1 e2 e3; subst e1; clear e2 e3
                have hmk : Hid (metK s x k1 k2 k3 = upTo (metN x rm x.tables[k1][k3].cells[k2]) x.tables[k1][k3].cells[k2].length) := by show _ = _; unfold metK; rw [hcol.out, cellAt_at hlt1 hlt3 hkc, HRM.out, metN_eq]
                go_wp2_with fail
                clear g_0 g_1 y_0
                go_loopw [11] (fun i wr => ∃ k : Nat, k ≤ x.tables[k1][k3].cells[k2].length ∧ i = .int .i64 k ∧ Hid (upTo (metN x rm x.tables[k1][k3].cells[k2]) k = true) ∧ Below (World.heap (wl3)).size (wl3) wr) (fun i _ => x.tables[k1][k3].cells[k2].length - (intOf i).toNat)
                case atStart => exact ⟨0, Nat.zero_le _, rfl, upTo_zero _, Below.refl _ _⟩
                case round =>
                  obtain ⟨k4, hk4, rfl, hn4_, hb1004⟩ := hrel
                  obtain ⟨wl4, rfl⟩ : ∃ w' : World, w' = wr := ⟨_, rfl⟩
                  replace q_s := box_on q_s rfl hb1004
                  replace q_x := box_on q_x rfl hb1004
                  replace q_c := box_on q_c rfl hb1004
                  have hwl4 := nxt hwl3 hb1004
                  have hl0_1004 := nxt hl0_1003 hb1004; have hl1_1004 := nxt hl1_1003 hb1004; have hl2_1004 := nxt hb1003 hb1004
                  by_cases hlt4 : k4 < x.tables[k1][k3].cells[k2].length
                  · obtain ⟨ab, ao, abk, aes, rfl, ahbl, ahcl, ahcell, aR, ahbk⟩ := yel k4 hlt4
                    obtain ⟨_, ahes, ahf⟩ := aR
                    subst ahes
                    have a_0 := (hwl4.cell (p := ⟨ab, _, none⟩) ahbl).trans (ahcell 0 _ rfl)
                    have a_1 := (hwl4.cell (p := ⟨ab, _, none⟩) ahbl).trans (ahcell 1 _ rfl)
                    have a_2 := (hwl4.cell (p := ⟨ab, _, none⟩) ahbl).trans (ahcell 2 _ rfl)
                    simp only [Nat.add_zero] at a_0 a_1 a_2
                    have hmn : Hid (metN x rm x.tables[k1][k3].cells[k2] k4 = hasId x.tables[rm] x.tables[k1][k3].cells[k2][k4].n) := by show _ = _; unfold metN; rw [rowsAt_at hrx, get_at _ k4 hlt4]
                    go_wp2_with fail
                    refine (spec_l05Place (RowSR.good.nxt hwl4 zR) x.tables[k1][k3].cells[k2][k4].n).mono ?_; rintro e w2 ⟨rfl, hb2⟩; replace q_s := box_on q_s rfl hb2; replace q_x := box_on q_x rfl hb2; replace q_c := box_on q_c rfl hb2; have hw2 := nxt hwl4 hb2; have hl0_2 := nxt hl0_1004 hb2; have hl1_2 := nxt hl1_1004 hb2; have hl2_2 := nxt hl2_1004 hb2; have hl3_2 := nxt hb1004 hb2
                    cases h5 : hasId x.tables[rm] x.tables[k1][k3].cells[k2][k4].n
                    · have hbad : Hid (upTo (refsAt s x) x.tables.length = false) := by show _ = _; refine upTo_bad hlt1 ?_; unfold refsAt; refine upTo_bad (by rw [tabAt_at hks]; exact hlt2) ?_; rw [hrt.out]; refine upTo_bad hlt3 ?_; rw [hmk.out]; exact upTo_bad hlt4 (by rw [hmn.out, h5])
                      have hd := hid_lt h5; have hp := hid_no h5; clear h5 hel_x0 hel_s0 pel yel thel1 thel2 ghel1
                      go_wp2_with fail
                      go_ret
                      exact ⟨ret_bool (by rw [hbad.out]), hw2⟩
                    · have hn42 : Hid (upTo (metN x rm x.tables[k1][k3].cells[k2]) (k4 + 1) = true) := by show _ = _; rw [upTo_succ, hn4_.out, hmn.out, h5]; rfl
                      have hd := hid_lt h5; have hp := hid_yes h5; clear h5
                      go_wp2_with fail
                      go_roundw
                      case rel => exact ⟨k4 + 1, hlt4, by go_num, hn42, hl3_2⟩
                      case measure => simp [intOf]; omega
                  · obtain rfl : k4 = x.tables[k1][k3].cells[k2].length := by omega
                    have hn32 : Hid (upTo (metK s x k1 k2) (k3 + 1) = true) := by show _ = _; rw [upTo_succ, hn3_.out, hmk.out, hn4_.out]; rfl
                    go_wp2_with fail
                    go_roundw
                    case rel => exact ⟨k3 + 1, hlt3, by go_num, hn32, hl2_1004⟩
                    case measure => simp [intOf]; omega
              · obtain rfl : k3 = x.tables[k1].length := by omega
                have hn22 : Hid (upTo (refTurn s x k1) (k2 + 1) = true) := by show _ = _; rw [upTo_succ, hn2_.out, hrt.out, hn3_.out]; rfl
                go_wp2_with fail
                go_roundw
                case rel => exact ⟨k2 + 1, hlt2, by go_num, hn22, hl1_1003⟩
                case measure => simp [intOf]; omega
          · have hn22 : Hid (upTo (refTurn s x k1) (k2 + 1) = true) := by show _ = _; rw [upTo_succ, hn2_.out]; unfold refTurn; rw [hcol.out, h4]; rfl
            go_wp2_with fail
            go_roundw
            case rel => exact ⟨k2 + 1, hlt2, by go_num, hn22, hc1_1⟩
            case measure => simp [intOf]; omega
        · obtain rfl : k2 = s.tables[k1].columns.length := by omega
          have hn12 : Hid (upTo (refsAt s x) (k1 + 1) = true) := by show _ = _; rw [upTo_succ, hn1_.out, Bool.true_and]; unfold refsAt; rw [tabAt_at hks]; exact hn2_.out
          go_wp2_with fail
          go_roundw
          case rel => exact ⟨k1 + 1, hlt1, by go_num, hn12, hl0_1002⟩
          case measure => simp [intOf]; omega
    · obtain rfl : k1 = x.tables.length := by omega
      have hok := hide hn1_.out; clear hel_x0 hel_s0
      go_wp2
      go_ret
      exact ⟨ret_bool (by rw [hok.out]), hwl1⟩
def heldK (s : Schema) (x : Store) (i k : Nat) : Bool := (tabAt s i).root || heldRow s x i ((rowsAt x i).getD k default)
def heldI (s : Schema) (x : Store) (i : Nat) : Bool := upTo (heldK s x i) (rowsAt x i).length
theorem heldI_eq (s : Schema) (x : Store) (i : Nat) : heldI s x i = heldAt s x i := by
  rw [Bool.eq_iff_iff]; unfold heldI heldAt; rw [upTo_iff]
  cases h : (tabAt s i).root
  · rw [Bool.false_or, List.all_eq_true]
    constructor
    · intro h1 r hr
      obtain ⟨k, hk, rfl⟩ := List.mem_iff_getElem.1 hr
      have := h1 k hk
      unfold heldK at this; rw [h, Bool.false_or, get_at _ k hk] at this; exact this
    · intro h1 k hk
      unfold heldK; rw [h, Bool.false_or, get_at _ k hk]; exact h1 _ (List.getElem_mem hk)
  · simp only [Bool.true_or, iff_true]
    intro k hk; unfold heldK; rw [h, Bool.true_or]
theorem heldI_all (s : Schema) (x : Store) : upTo (heldI s x) x.tables.length = heldB s x := by unfold heldB; rw [show heldI s x = heldAt s x from funext (heldI_eq s x)]
theorem heldK_at {s : Schema} {x : Store} {i k : Nat} (hs : i < s.tables.length) (hx : i < x.tables.length) (hk : k < x.tables[i].length) : heldK s x i k = (s.tables[i].root || heldRow s x i x.tables[i][k]) := by unfold heldK; rw [tabAt_at hs]; simp only [rowsAt_at hx]; rw [get_at _ k hk]
set_option maxHeartbeats 16000000 in
theorem spec_l05Held {w : World}  {bs_s : List Nat} {cs_s : List Value} {s : Schema} (H_s : SchemaR w bs_s cs_s s) {bs_x : List Nat} {cs_x : List Value} {x : Store} (H_x : StoreR w bs_x cs_x x) (hok : storeFit s x = true) :
    Calls Tryz.prog 74 #[.agg cs_s.toArray, .agg cs_x.toArray] w (fun e w' => e = .returned (.bool (heldB s x)) ∧ Below w.heap.size w w') := by
  have H0_s := H_s
  obtain ⟨s_v0, s_b0, rfl, rfl, hf_s, s_r0⟩ := H_s
  obtain ⟨A_s0, c_s0, rfl, hlc_s0, hcm_s0, hel_s0⟩ := s_r0.use
  have H0_x := H_x
  obtain ⟨x_v0, x_b0, rfl, rfl, hf_x, x_r0⟩ := H_x
  obtain ⟨A_x0, c_x0, rfl, hlc_x0, hcm_x0, hel_x0⟩ := x_r0.use
  have hbx := (((Below.refl w.heap.size w).alloc (Nat.le_refl _) (.cells #[.slice A_s0 s.tables.length c_s0] 61)).alloc (by simp; try omega) (.cells #[.slice A_x0 x.tables.length c_x0, .int .i64 x.next] 65))
  obtain ⟨q_s, q_x⟩ := two_at (Below.refl ((w.alloc (.cells #[.slice A_s0 s.tables.length c_s0] 61)).alloc (.cells #[.slice A_x0 x.tables.length c_x0, .int .i64 x.next] 65)).heap.size _)
  have HO := hide hok; clear hok; have HL := hide (storeIn_len (storeFit_in HO.out))
  rw [← heldI_all]
  go_enter Tryz.func74, Tryz.ntmps74
  go_wp2_with fail
  go_loopw [5] (fun i wr => ∃ k : Nat, k ≤ x.tables.length ∧ i = .int .i64 k ∧ Hid (upTo (heldI s x) k = true) ∧ Below (World.heap (((w.alloc (.cells #[.slice A_s0 s.tables.length c_s0] 61)).alloc (.cells #[.slice A_x0 x.tables.length c_x0, .int .i64 x.next] 65)))).size (((w.alloc (.cells #[.slice A_s0 s.tables.length c_s0] 61)).alloc (.cells #[.slice A_x0 x.tables.length c_x0, .int .i64 x.next] 65))) wr) (fun i _ => x.tables.length - (intOf i).toNat)
  case atStart => exact ⟨0, Nat.zero_le _, rfl, upTo_zero _, Below.refl _ _⟩
  case round =>
    obtain ⟨k1, hk1, rfl, hn1_, hb1001⟩ := hrel
    obtain ⟨wl1, rfl⟩ : ∃ w' : World, w' = wr := ⟨_, rfl⟩
    replace q_s := box_on q_s rfl hb1001
    replace q_x := box_on q_x rfl hb1001
    have hwl1 := nxt hbx hb1001
    by_cases hlt1 : k1 < x.tables.length
    · have hks : k1 < s.tables.length := by have := HL.out; omega
      obtain ⟨tb, to, tbk, tes, rfl, thbl, thcl, thcell, tR, thbk⟩ := hel_s0 k1 hks
      have tR0 := tR
      obtain ⟨tv1, tb1, tv2, tb2, _, thes, thf, tr1, tr2⟩ := tR
      subst thes
      obtain ⟨tA1, tc1, rfl, thlc1, thcm1, thel1⟩ := tr1.use
      obtain ⟨tA2, tc2, rfl, thlc2, thcm2, thel2⟩ := tr2.use
      have t_0 := (hwl1.cell (p := ⟨tb, _, none⟩) thbl).trans (thcell 0 _ rfl)
      have t_1 := (hwl1.cell (p := ⟨tb, _, none⟩) thbl).trans (thcell 1 _ rfl)
      have t_2 := (hwl1.cell (p := ⟨tb, _, none⟩) thbl).trans (thcell 2 _ rfl)
      have t_3 := (hwl1.cell (p := ⟨tb, _, none⟩) thbl).trans (thcell 3 _ rfl)
      simp only [Nat.add_zero] at t_0 t_1 t_2 t_3
      clear thel1 thel2 t_0 t_1 t_2 t_3
      obtain ⟨pb, po, pbk, pes, rfl, phbl, phcl, phcell, pR, phbk⟩ := hel_x0 k1 hlt1
      obtain ⟨pA, pc, phlc, rfl⟩ : ∃ A0 c0, x.tables[k1].length ≤ c0 ∧ pes = [.slice A0 x.tables[k1].length c0] := by obtain ⟨A0, c0, h, h2, _⟩ := pR; exact ⟨A0, c0, h2, h⟩
      have p_0 := (hwl1.cell (p := ⟨pb, _, none⟩) phbl).trans (phcell 0 _ rfl)
      simp only [Nat.add_zero, Nat.mul_one] at p_0
      have pR2 := pR; obtain ⟨pA', pc', hpv, _, _, pel⟩ := pR.use; injection hpv with e1 e2 e3; subst e1; clear e2 e3
      go_wp2_with fail
      go_loopw [6] (fun i wr => ∃ k : Nat, k ≤ x.tables[k1].length ∧ i = .int .i64 k ∧ Hid (upTo (heldK s x k1) k = true) ∧ Below (World.heap (wl1)).size (wl1) wr) (fun i _ => x.tables[k1].length - (intOf i).toNat)
      case atStart => exact ⟨0, Nat.zero_le _, rfl, upTo_zero _, Below.refl _ _⟩
      case round =>
        obtain ⟨k2, hk2, rfl, hn2_, hb1002⟩ := hrel
        obtain ⟨wl2, rfl⟩ : ∃ w' : World, w' = wr := ⟨_, rfl⟩
        replace q_s := box_on q_s rfl hb1002
        replace q_x := box_on q_x rfl hb1002
        have hwl2 := nxt hwl1 hb1002
        have hl0_1002 := nxt hb1001 hb1002
        have p_0 := (hwl2.cell (p := ⟨pb, _, none⟩) phbl).trans (phcell 0 _ rfl)
        simp only [Nat.add_zero, Nat.mul_one] at p_0
        by_cases hlt2 : k2 < x.tables[k1].length
        · have hhk := hide (heldK_at (x := x) (k := k2) hks hlt1 hlt2)
          have hse := hide (specF_eq (storeFit_sch HO.out) x hks x.tables[k1][k2].id)
          obtain ⟨rt, hrt⟩ : ∃ rt, rt = s.tables[k1].root := ⟨_, rfl⟩
          go_wp2_with fail
          have t_0 := Fw.cell ((hwl2.cell (p := ⟨tb, _, none⟩) thbl).trans (thcell 0 _ rfl))
          have t_1 := Fw.cell ((hwl2.cell (p := ⟨tb, _, none⟩) thbl).trans (thcell 1 _ rfl))
          have t_2 := Fw.cell ((hwl2.cell (p := ⟨tb, _, none⟩) thbl).trans (thcell 2 _ rfl))
          have t_3 := Fw.cell ((hwl2.cell (p := ⟨tb, _, none⟩) thbl).trans (thcell 3 _ rfl))
          simp only [Nat.add_zero] at t_0 t_1 t_2 t_3
          rw [← hrt] at t_3 hhk
          cases rt
          · clear hrt p_0
            obtain ⟨gb, go, gbk, ges, rfl, ghbl, ghcl, ghcell, gR, ghbk⟩ := pel k2 hlt2
            have gR0 := gR
            obtain ⟨gv1, gb1, _, ghes, ghf, gr1⟩ := gR
            subst ghes
            obtain ⟨gA1, gc1, rfl, ghlc1, ghcm1, ghel1⟩ := gr1.use
            have g_0 := Fw.cell ((hwl2.cell (p := ⟨gb, _, none⟩) ghbl).trans (ghcell 0 _ rfl))
            have g_1 := Fw.cell ((hwl2.cell (p := ⟨gb, _, none⟩) ghbl).trans (ghcell 1 _ rfl))
            simp only [Nat.add_zero] at g_0 g_1
            have p_0 := Fw.cell ((hwl2.cell (p := ⟨pb, _, none⟩) phbl).trans (phcell 0 _ rfl))
            simp only [Nat.add_zero, Nat.mul_one] at p_0
            have A1 := hide (fun (i : Fw wl2) => spec_l05Strong (SchemaR.good.nxt (nxt hwl2 i.h) H0_s) (StoreR.good.nxt (nxt hwl2 i.h) H0_x) hks x.tables[k1][k2].id HO.out)
            have q_sF0 := Fw.cell (box_cell q_s 0 rfl)
            have q_xF0 := Fw.cell (box_cell q_x 0 rfl)
            have q_xF1 := Fw.cell (box_cell q_x 1 rfl)
            refine region_quiet (by kernel_rfl) (by kernel_rfl) ?_
            repeat (go_big_quiet_step ((first | (go_at_call 62; exact quiet_of (A1.out _)))))
            refine wpQuiet_nil ?_; intro w1 hb1; replace q_s := box_on q_s rfl hb1; replace q_x := box_on q_x rfl hb1; have hw1 := nxt hwl2 hb1; have hl0_1 := nxt hl0_1002 hb1; have hl1_1 := nxt hb1002 hb1; clear q_sF0 q_xF0 q_xF1 g_0 g_1 p_0 t_0 t_1 t_2 t_3
            clear A1
            rw [hse.out]; have hhr : Hid ((eachF s x (strongStep k1 x.tables[k1][k2].id) s.tables.length 0 == 0) = !heldRow s x k1 x.tables[k1][k2]) := by show _ = _; unfold heldRow; rw [Bool.not_not]
            cases h5 : heldRow s x k1 x.tables[k1][k2]
            · have hbad : Hid (upTo (heldI s x) x.tables.length = false) := by show _ = _; refine upTo_bad hlt1 ?_; unfold heldI; refine upTo_bad (by rw [rowsAt_at hlt1]; exact hlt2) ?_; rw [hhk.out, h5]; rfl
              have hd := hhr.out; rw [h5] at hd; simp only [Bool.not_false] at hd; clear hhr h5 hel_x0 hel_s0 pel
              go_wp2_with fail
              go_ret
              exact ⟨ret_bool (by rw [hbad.out]), hw1⟩
            · have hn22 : Hid (upTo (heldK s x k1) (k2 + 1) = true) := by show _ = _; rw [upTo_succ, hn2_.out, hhk.out, h5]; rfl
              have hd := hhr.out; rw [h5] at hd; simp only [Bool.not_true] at hd; clear hhr h5
              go_wp2_with fail
              go_roundw
              case rel => exact ⟨k2 + 1, hlt2, by go_num, hn22, hl1_1⟩
              case measure => simp [intOf]; omega
          · have hn22 : Hid (upTo (heldK s x k1) (k2 + 1) = true) := by show _ = _; rw [upTo_succ, hn2_.out, hhk.out]; rfl
            clear pel hel_x0 hel_s0 hrt p_0
            have q_sF0 := Fw.cell (box_cell q_s 0 rfl)
            have q_xF0 := Fw.cell (box_cell q_x 0 rfl)
            have q_xF1 := Fw.cell (box_cell q_x 1 rfl)
            refine region_quiet (by kernel_rfl) (by kernel_rfl) ?_
            repeat (go_big_quiet_step (fail))
            refine wpQuiet_nil ?_; intro w2 hb2; replace q_s := box_on q_s rfl hb2; replace q_x := box_on q_x rfl hb2; have hw2 := nxt hwl2 hb2; have hl0_2 := nxt hl0_1002 hb2; have hl1_2 := nxt hb1002 hb2; clear q_sF0 q_xF0 q_xF1 t_0 t_1 t_2 t_3
            go_wp2_with fail
            go_roundw
            case rel => exact ⟨k2 + 1, hlt2, by go_num, hn22, hl1_2⟩
            case measure => simp [intOf]; omega
        · obtain rfl : k2 = x.tables[k1].length := by omega
          have hn12 : Hid (upTo (heldI s x) (k1 + 1) = true) := by show _ = _; rw [upTo_succ, hn1_.out, Bool.true_and]; unfold heldI; rw [rowsAt_at hlt1]; exact hn2_.out
          go_wp2_with fail
          go_roundw
          case rel => exact ⟨k1 + 1, hlt1, by go_num, hn12, hl0_1002⟩
          case measure => simp [intOf]; omega
    · obtain rfl : k1 = x.tables.length := by omega
      have hok := hide hn1_.out; clear hel_x0 hel_s0
      go_wp2
      go_ret
      exact ⟨ret_bool (by rw [hok.out]), hwl1⟩
end Go.Proofs.YthbebbnidgeaeaaGreat
