/- RowAt, in the program and in the reference. No statement is proved here; no conditions. Written by a program (gen23.py). -/
import Derived.Test.YtfkpllkgganejaaRise
import Derived.Test.YtfkpllkgganejaaCopy
import Derived.Test.YtfkpllkgganejaaMarkT
namespace Go.Proofs.Ytfkpllkgganejaa
open Go.ChangeShapes Go.WideShapes Go.ChangeAt Go.RowKit Go.Deep
set_option maxRecDepth 100000
set_option linter.unusedVariables false
set_option linter.unusedSimpArgs false

set_option maxHeartbeats 8000000 in
theorem spec_l05Plain {w : World}  {bs_x : List Nat} {cs_x : List Value} {x : Store} (H_x : StoreR w bs_x cs_x x)  :
    Calls Try.prog 17 #[.agg cs_x.toArray] w (fun e w' => e = .returned (.bool (x.tables.all rising)) ∧ Below w.heap.size w w') := by
  have H0_x := H_x
  obtain ⟨x_v0, x_b0, rfl, rfl, hf_x, x_r0⟩ := H_x
  obtain ⟨A_x0, c_x0, rfl, hlc_x0, hcm_x0, hel_x0⟩ := x_r0.use
  have hbx := ((Below.refl w.heap.size w).alloc (Nat.le_refl _) (.cells #[.slice A_x0 x.tables.length c_x0, .int .i64 x.next] 32))
  have q_x := blk_cells (blk_new w #[.slice A_x0 x.tables.length c_x0, .int .i64 x.next] 32)
  go_enter Try.func17, Try.ntmps17
  go_wp2_with fail
  go_loopw [3] (fun i wr => ∃ k : Nat, k ≤ x.tables.length ∧ i = .int .i64 k ∧ Hid (∀ j (hj : j < x.tables.length), j < k → rising x.tables[j] = true) ∧ Below (World.heap ((w.alloc (.cells #[.slice A_x0 x.tables.length c_x0, .int .i64 x.next] 32)))).size ((w.alloc (.cells #[.slice A_x0 x.tables.length c_x0, .int .i64 x.next] 32))) wr) (fun i _ => x.tables.length - (intOf i).toNat)
  case atStart => exact ⟨0, Nat.zero_le _, rfl, all_zero, Below.refl _ _⟩
  case round =>
    obtain ⟨k1, hk1, rfl, hn1_, hb1001⟩ := hrel
    obtain ⟨wl1, rfl⟩ : ∃ w' : World, w' = wr := ⟨_, rfl⟩
    replace q_x := box_on q_x rfl hb1001
    have hwl1 := nxt hbx hb1001
    by_cases hlt1 : k1 < x.tables.length
    · obtain ⟨pb, po, pbk, pes, rfl, phbl, phcl, phcell, pR, phbk⟩ := hel_x0 k1 hlt1
      obtain ⟨pA, pc, phlc, rfl⟩ : ∃ A0 c0, x.tables[k1].length ≤ c0 ∧ pes = [.slice A0 x.tables[k1].length c0] := by obtain ⟨A0, c0, h, h2, _⟩ := pR; exact ⟨A0, c0, h2, h⟩
      have p_0 := (hwl1.cell (p := ⟨pb, _, none⟩) phbl).trans (phcell 0 _ rfl)
      simp only [Nat.add_zero, Nat.mul_one] at p_0
      obtain ⟨pA', pc', hpv, _, _, pel⟩ := pR.use; injection hpv with e1 e2 e3; subst e1; clear e2 e3 hel_x0
      go_wp2_with fail
      clear p_0
      go_loopw [4] (fun i wr => ∃ k : Nat, k ≤ x.tables[k1].length ∧ i = .int .i64 k ∧ Hid (upTo (stepUp x.tables[k1]) k = true) ∧ Below (World.heap (wl1)).size (wl1) wr) (fun i _ => x.tables[k1].length - (intOf i).toNat)
      case atStart => exact ⟨0, Nat.zero_le _, rfl, upTo_zero _, Below.refl _ _⟩
      case round =>
        obtain ⟨k2, hk2, rfl, hn2_, hb1002⟩ := hrel
        obtain ⟨wl2, rfl⟩ : ∃ w' : World, w' = wr := ⟨_, rfl⟩
        replace q_x := box_on q_x rfl hb1002
        have hwl2 := nxt hwl1 hb1002
        have hl0_1002 := nxt hb1001 hb1002
        by_cases hlt2 : k2 < x.tables[k1].length
        · have p_0 := (hwl2.cell (p := ⟨pb, _, none⟩) phbl).trans (phcell 0 _ rfl)
          simp only [Nat.add_zero, Nat.mul_one] at p_0
          go_wp2_with fail
          clear p_0
          by_cases hj0 : k2 = 0
          · have hn3 : Hid (upTo (stepUp x.tables[k1]) (k2 + 1) = true) := by show _ = _; rw [upTo_succ, hn2_.out]; unfold stepUp; rw [decide_eq_true hj0]; rfl
            subst hj0; clear pel
            have q_xF0 := Fw.cell (box_cell q_x 0 rfl)
            have q_xF1 := Fw.cell (box_cell q_x 1 rfl)
            refine region_quiet (by kernel_rfl) (by kernel_rfl) ?_
            repeat (go_big_quiet_step (fail))
            refine wpQuiet_nil ?_; intro w1 hb1; replace q_x := box_on q_x rfl hb1; have hw1 := nxt hwl2 hb1; have hl0_1 := nxt hl0_1002 hb1; have hl1_1 := nxt hb1002 hb1; clear q_xF0 q_xF1
            go_wp2_with fail
            go_roundw
            case rel => exact ⟨1, by omega, rfl, hn3, hl1_1⟩
            case measure => simp [intOf]; omega
          have hj1 : 1 ≤ k2 := by omega
          have hst : stepUp x.tables[k1] k2 = decide (x.tables[k1][k2 - 1].id < x.tables[k1][k2].id) := by obtain ⟨q, rfl⟩ : ∃ q, k2 = q + 1 := ⟨k2 - 1, by omega⟩; exact stepUp_at hlt2
          have hk2 : decide (0 < k2) = true := decide_eq_true (by omega)
          have p_0 := Fw.cell ((hwl2.cell (p := ⟨pb, _, none⟩) phbl).trans (phcell 0 _ rfl))
          simp only [Nat.add_zero, Nat.mul_one] at p_0
          have hjm : k2 - 1 < x.tables[k1].length := by omega
          obtain ⟨sb, so, sbk, ses, rfl, shbl, shcl, shcell, sR, shbk⟩ := pel (k2 - 1) hjm
          have sR0 := sR
          obtain ⟨sv1, sb1, _, shes, shf, sr1⟩ := sR
          subst shes
          obtain ⟨sA1, sc1, rfl, shlc1, shcm1, shel1⟩ := sr1.use
          have s_0 := Fw.cell ((hwl2.cell (p := ⟨sb, _, none⟩) shbl).trans (shcell 0 _ rfl))
          have s_1 := Fw.cell ((hwl2.cell (p := ⟨sb, _, none⟩) shbl).trans (shcell 1 _ rfl))
          simp only [Nat.add_zero] at s_0 s_1
          clear shcell shcl
          obtain ⟨tb, to, tbk, tes, thA, thbl, thcl, thcell, tR, thbk⟩ := pel k2 hlt2
          cases thA
          have tR0 := tR
          obtain ⟨tv1, tb1, _, thes, thf, tr1⟩ := tR
          subst thes
          obtain ⟨tA1, tc1, rfl, thlc1, thcm1, thel1⟩ := tr1.use
          have t_0 := Fw.cell ((hwl2.cell (p := ⟨sb, _, none⟩) thbl).trans (thcell 0 _ rfl))
          have t_1 := Fw.cell ((hwl2.cell (p := ⟨sb, _, none⟩) thbl).trans (thcell 1 _ rfl))
          simp only [Nat.add_zero] at t_0 t_1
          clear thcell thcl
          clear pel hj0
          cases hq : decide (x.tables[k1][k2 - 1].id < x.tables[k1][k2].id)
          · have hd : decide (x.tables[k1][k2].id ≤ x.tables[k1][k2 - 1].id) = true := decide_eq_true (by have := of_decide_eq_false hq; omega)
            have hr : Hid (x.tables.all rising = false) := by show _ = _; exact all_false hlt1 (upTo_bad hlt2 (hst.trans hq))
            clear hq hst
            have q_xF0 := Fw.cell (box_cell q_x 0 rfl)
            have q_xF1 := Fw.cell (box_cell q_x 1 rfl)
            refine region_quiet (by kernel_rfl) (by kernel_rfl) ?_
            repeat (go_big_quiet_step (fail))
            refine wpQuiet_nil ?_; intro w2 hb2; replace q_x := box_on q_x rfl hb2; have hw2 := nxt hwl2 hb2; have hl0_2 := nxt hl0_1002 hb2; have hl1_2 := nxt hb1002 hb2; clear q_xF0 q_xF1 p_0 s_0 s_1 t_0 t_1
            go_wp2_with fail
            go_ret
            exact ⟨ret_bool (by rw [hr.out]), hw2⟩
          have hd : decide (x.tables[k1][k2].id ≤ x.tables[k1][k2 - 1].id) = false := decide_eq_false (by have := of_decide_eq_true hq; omega)
          have hn3 : Hid (upTo (stepUp x.tables[k1]) (k2 + 1) = true) := by show _ = _; rw [upTo_succ, hn2_.out, hst, hq]; rfl
          clear hq hst
          have q_xF0 := Fw.cell (box_cell q_x 0 rfl)
          have q_xF1 := Fw.cell (box_cell q_x 1 rfl)
          refine region_quiet (by kernel_rfl) (by kernel_rfl) ?_
          repeat (go_big_quiet_step (fail))
          refine wpQuiet_nil ?_; intro w3 hb3; replace q_x := box_on q_x rfl hb3; have hw3 := nxt hwl2 hb3; have hl0_3 := nxt hl0_1002 hb3; have hl1_3 := nxt hb1002 hb3; clear q_xF0 q_xF1 p_0 s_0 s_1 t_0 t_1
          go_wp2_with fail
          go_roundw
          case rel => exact ⟨k2 + 1, hlt2, by go_num, hn3, hl1_3⟩
          case measure => simp [intOf]; omega
        · obtain rfl : k2 = x.tables[k1].length := by omega
          have p_0 := (hwl2.cell (p := ⟨pb, _, none⟩) phbl).trans (phcell 0 _ rfl)
          simp only [Nat.add_zero, Nat.mul_one] at p_0
          have hn4 := hide (all_step (p := rising) hlt1 hn1_.out hn2_.out); clear pel
          go_wp2_with fail
          go_roundw
          case rel => exact ⟨k1 + 1, hlt1, by go_num, hn4, hl0_1002⟩
          case measure => simp [intOf]; omega
    · obtain rfl : k1 = x.tables.length := by omega
      have hr := hide (all_true hn1_.out); clear hel_x0
      go_wp2
      go_ret
      exact ⟨ret_bool (by rw [hr.out]), hwl1⟩
def tabOf (x : Store) (n : Int) : List Row := x.tables.getD n.toNat []
def rowAns (x : Store) (n id : Int) : Row × Int := if tblCode x n = 0 then cond (hasId (tabOf x n) id) ((tabOf x n).getD (rowIdx (tabOf x n) id).toNat default, 0) (⟨0, []⟩, 5) else (⟨0, []⟩, tblCode x n)
theorem tblCode_zero {x : Store} {n : Int} (h : tblCode x n = 0) : ∃ m : Nat, n = m ∧ ∃ hm : m < x.tables.length, tabOf x n = x.tables[m] ∧ (∀ l ∈ x.tables, rising l = true) := by
  unfold tblCode at h
  cases h1 : x.tables.all rising
  · rw [h1] at h; cases h
  cases h2 : inB n 0 ((x.tables.length : Int) - 1)
  · rw [h1, h2] at h; cases h
  have h3 := inB_iff.1 h2
  refine ⟨n.toNat, by omega, by omega, ?_, fun l hl => List.all_eq_true.1 h1 l hl⟩
  unfold tabOf; simp [List.getD, (by omega : n.toNat < x.tables.length)]
theorem zeroRow {w : World} : RowR w [] [.int .i64 0, .slice none 0 0] ⟨0, []⟩ := ⟨_, [], rfl, rfl, (rfl : (Lit.int .i64 0).wf = true), nil_row (by omega)⟩
theorem Store.tab_le {x : Store} {n : Nat} (h : x.bulk ≤ n) {m : Nat} (hm : m < x.tables.length) : RowS.bulk x.tables[m] ≤ n := bulkL_at RowS.bulk hm h
theorem RowS.len_le {l : List Row} {n : Nat} (h : RowS.bulk l ≤ n) : l.length ≤ n := Nat.le_trans (bulkL_len _ _) h
theorem rowAns_wt {x : Store} (h : x.bulk ≤ 1048576) (n id : Int) : Row.wtV (rowAns x n id).1 ≤ 8388608 := by
  unfold rowAns
  split
  · rename_i h1
    obtain ⟨m, rfl, hm, ht, hr⟩ := tblCode_zero h1
    rw [ht]
    cases h5 : hasId x.tables[m] id
    · simp [Row.wtV, AtomSS.wt]
    · obtain ⟨hix, hlb⟩ := rowIdx_lb (hr _ (List.getElem_mem hm)) h5
      rw [hix, Int.toNat_natCast]
      have h2 : x.tables[m].getD (lbOf x.tables[m] id) default = x.tables[m][lbOf x.tables[m] id] := by simp [List.getD, hlb]
      show Row.wtV (x.tables[m].getD (lbOf x.tables[m] id) default) ≤ _
      rw [h2]
      have := Row.wtV_le x.tables[m][lbOf x.tables[m] id]
      have := bulkL_at Row.bulk hlb (Store.tab_le h hm)
      omega
  · simp [Row.wtV, AtomSS.wt]
end Go.Proofs.Ytfkpllkgganejaa
