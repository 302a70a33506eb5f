/- StoreOK of the program. No statement is proved here; no conditions. Written by a program (gen61.py). -/
import Derived.Test.YthbebbnidgeaeaaGreatStoreP
import Derived.Test.YthbebbnidgeaeaaGreatSame
import Derived.Shelf.Abstract
namespace Go.Proofs.YthbebbnidgeaeaaGreat
open Go.ChangeShapes Go.WideShapes Go.ChangeAt Go.RowKit Go.Deep
set_option maxRecDepth 100000
set_option linter.unusedVariables false
set_option linter.unusedSimpArgs false

set_option maxHeartbeats 2000000 in
theorem clo_unmet {w : World} {m_x : Nat} {bs_x : List Nat} {cs_x : List Value} {x : Store} {m_ref : Nat} {ref : Int} (a : Atom) (H_x : StoreR w bs_x cs_x x) (q_x : ∀ j, w.cell? ⟨m_x, j, none⟩ = cs_x.toArray[j]?) (q_ref : ∀ j, w.cell? ⟨m_ref, j, none⟩ = (#[.int .i64 ref] : Array Value)[j]?) {m : Nat} (hm : m < x.tables.length) (href : ref = (m : Int)) (hr : rising x.tables[m] = true) (hn : x.tables[m].length ≤ 1048576) :
    Calls Tryz.prog 157 #[.agg #[.int .i64 a.kind, .int .i64 a.n, .string a.t], .pointer (some ⟨m_x, 0, none⟩), .pointer (some ⟨m_ref, 0, none⟩)] w (fun e w' => e = .returned (.bool (!hasId x.tables[m] a.n)) ∧ Below w.heap.size w w') := by
  have hbx := ((Below.refl w.heap.size w).alloc (Nat.le_refl _) (.cells #[.int .i64 a.kind, .int .i64 a.n, .string a.t] 143))
  have q_a := blk_cells (blk_new w #[.int .i64 a.kind, .int .i64 a.n, .string a.t] 143)
  have H0_x := H_x
  obtain ⟨x_v0, x_b0, rfl, rfl, hf_x, x_r0⟩ := H_x
  obtain ⟨A_x0, c_x0, rfl, _, _, _⟩ := x_r0.use
  replace q_x := box_on q_x rfl hbx
  replace q_ref := box_on q_ref rfl hbx
  subst href; have HR := hide hr; have HN := hide hn; clear hr hn
  go_enter Tryz.func157, Tryz.ntmps157
  go_wp2_with fail
  refine (impl_hasRow (StoreR.good.nxt hbx H0_x) hm a.n HR.out HN.out).mono ?_; rintro e w1 ⟨rfl, hb1⟩; replace q_a := box_on q_a rfl hb1; replace q_x := box_on q_x rfl hb1; replace q_ref := box_on q_ref rfl hb1; have hw1 := nxt hbx hb1
  go_wp2_with fail
  go_ret
  exact ⟨rfl, hw1⟩
theorem any_unmet {x : Store} {m : Nat} (hm : m < x.tables.length) (d : List Atom) : (d.any fun a => !hasId x.tables[m] a.n) = unmet x m d := by unfold unmet; rw [Int.toNat_natCast, rowsAt_at hm]
set_option maxHeartbeats 2000000 in
theorem impl_isRefUnmet {w : World} {m : Nat} {bs_x : List Nat} {cs_x : List Value} {x : Store} (H_x : StoreR w bs_x cs_x x) (ref : Int) {bs_d : List Nat} {v_d : Value} {d : List Atom} (H_d : AtomSR w bs_d [v_d] d) (hm : m < x.tables.length) (href : ref = (m : Int)) (hr : rising x.tables[m] = true) (hn : x.tables[m].length ≤ 1048576) :
    Calls Tryz.prog 120 #[.agg cs_x.toArray, .int .i64 ref, v_d] w (fun e w' => e = .returned (.bool (unmet x ref d)) ∧ Below w.heap.size w w') := by
  have H0_d := H_d
  obtain ⟨A_d, c_d, rfl, hlc_d, hcm_d, hel_d⟩ := H_d.use
  have H0_x := H_x
  obtain ⟨x_v0, x_b0, rfl, rfl, hf_x, x_r0⟩ := H_x
  obtain ⟨A_x0, c_x0, rfl, hlc_x0, hcm_x0, hel_x0⟩ := x_r0.use
  have hbx := (((Below.refl w.heap.size w).alloc (Nat.le_refl _) (.cells #[.slice A_x0 x.tables.length c_x0, .int .i64 x.next] 65)).alloc (by simp; try omega) (.cells #[.int .i64 ref] 3))
  obtain ⟨q_x, q_ref⟩ := two_at (Below.refl ((w.alloc (.cells #[.slice A_x0 x.tables.length c_x0, .int .i64 x.next] 65)).alloc (.cells #[.int .i64 ref] 3)).heap.size _)
  subst href; have HR := hide hr; have HN := hide hn; clear hr hn hel_x0 hel_d
  go_enter Tryz.func120, Tryz.ntmps120
  go_wp2_with fail
  refine (slices_ContainsFuncAtomS (AtomSR.good.nxt hbx H0_d) (fun a => !hasId x.tables[m] a.n) 157 #[.pointer (some ⟨w.heap.size, 0, none⟩), .pointer (some ⟨w.heap.size + 1, 0, none⟩)] (enters_of Tryz.func157 (by kernel_rfl) rfl) (fun k hk bk es hR W hW => by obtain ⟨_, hes, hf⟩ := hR; subst hes; exact clo_unmet _ (StoreR.good.nxt (nxt hbx hW) H0_x) (box_on q_x rfl hW) (box_on q_ref rfl hW) hm rfl HR.out HN.out)).mono ?_; rw [any_unmet hm]; rintro e w1 ⟨rfl, hb1⟩; replace q_x := box_on q_x rfl hb1; replace q_ref := box_on q_ref rfl hb1; have hw1 := nxt hbx hb1
  go_wp2_with fail
  go_ret
  exact ⟨rfl, hw1⟩
set_option maxHeartbeats 2000000 in
theorem clo_shares {w : World} {m_x : Nat} {bs_x : List Nat} {cs_x : List Value} {x : Store} {m_kk : Nat} {kk : Int} {bs_r : List Nat} {cs_r : List Value} {r : Row} (H_r : RowR w bs_r cs_r r) (H_x : StoreR w bs_x cs_x x) (q_x : ∀ j, w.cell? ⟨m_x, j, none⟩ = cs_x.toArray[j]?) (q_kk : ∀ j, w.cell? ⟨m_kk, j, none⟩ = (#[.int .i64 kk] : Array Value)[j]?) {m : Nat} (hm : m < x.tables.length) (href : kk = (m : Int)) (hr : rising x.tables[m] = true) (hn : x.tables[m].length ≤ 1048576) :
    Calls Tryz.prog 118 #[.agg cs_r.toArray, .pointer (some ⟨m_x, 0, none⟩), .pointer (some ⟨m_kk, 0, none⟩)] w (fun e w' => e = .returned (.bool (hasId x.tables[m] r.id)) ∧ Below w.heap.size w w') := by
  have H0_r := H_r
  obtain ⟨r_v1, r_b1, rfl, rfl, hf_r, r_r1⟩ := H_r
  obtain ⟨A_r1, c_r1, rfl, hlc_r1, hcm_r1, hel_r1⟩ := r_r1.use
  have hbx := ((Below.refl w.heap.size w).alloc (Nat.le_refl _) (.cells #[.int .i64 r.id, .slice A_r1 r.cells.length c_r1] 41))
  have q_r := blk_cells (blk_new w #[.int .i64 r.id, .slice A_r1 r.cells.length c_r1] 41)
  have H0_x := H_x
  obtain ⟨x_v0, x_b0, rfl, rfl, hf_x, x_r0⟩ := H_x
  obtain ⟨A_x0, c_x0, rfl, _, _, _⟩ := x_r0.use
  replace q_x := box_on q_x rfl hbx
  replace q_kk := box_on q_kk rfl hbx
  subst href; have HR := hide hr; have HN := hide hn; clear hr hn hel_r1
  go_enter Tryz.func118, Tryz.ntmps118
  go_wp2_with fail
  refine (impl_hasRow (StoreR.good.nxt hbx H0_x) hm r.id HR.out HN.out).mono ?_; rintro e w1 ⟨rfl, hb1⟩; replace q_r := box_on q_r rfl hb1; replace q_x := box_on q_x rfl hb1; replace q_kk := box_on q_kk rfl hb1; have hw1 := nxt hbx hb1
  go_wp2_with fail
  go_ret
  exact ⟨rfl, hw1⟩
theorem clash_at {x : Store} {i j : Nat} (hi : i < x.tables.length) (hj : j < x.tables.length) : (x.tables[i].any fun r => hasId x.tables[j] r.id) = clash x i j := by unfold clash; rw [rowsAt_at hi, rowsAt_at hj]
set_option maxHeartbeats 8000000 in
theorem impl_sharesIds {w : World}  {bs_x : List Nat} {cs_x : List Value} {x : Store} (H_x : StoreR w bs_x cs_x x) (hf : ∀ i (hi : i < x.tables.length), rising x.tables[i] = true ∧ x.tables[i].length ≤ 12) :
    Calls Tryz.prog 75 #[.agg cs_x.toArray] w (fun e w' => e = .returned (.bool (!onceB x)) ∧ Below w.heap.size w w') := by
  have H0_x := H_x
  obtain ⟨x_v0, x_b0, rfl, rfl, hf_x, x_r0⟩ := H_x
  obtain ⟨A_x0, c_x0, rfl, hlc_x0, hcm_x0, hel_x0⟩ := x_r0.use
  have hbx := ((Below.refl w.heap.size w).alloc (Nat.le_refl _) (.cells #[.slice A_x0 x.tables.length c_x0, .int .i64 x.next] 65))
  have q_x := blk_cells (blk_new w #[.slice A_x0 x.tables.length c_x0, .int .i64 x.next] 65)
  have HF := hide hf; clear hf
  go_enter Tryz.func75, Tryz.ntmps75
  go_wp2_with fail
  go_loopw [9] (fun i wr => ∃ k : Nat, k ≤ x.tables.length ∧ i = .int .i64 k ∧ Hid (upTo (fun i => upTo (fun j => !clash x i j) i) k = true) ∧ Below (World.heap ((w.alloc (.cells #[.slice A_x0 x.tables.length c_x0, .int .i64 x.next] 65)))).size ((w.alloc (.cells #[.slice A_x0 x.tables.length c_x0, .int .i64 x.next] 65))) wr) (fun i _ => x.tables.length - (intOf i).toNat)
  case atStart => exact ⟨0, Nat.zero_le _, rfl, upTo_zero _, Below.refl _ _⟩
  case round =>
    obtain ⟨k1, hk1, rfl, hn1_, hb1001⟩ := hrel
    obtain ⟨wl1, rfl⟩ : ∃ w' : World, w' = wr := ⟨_, rfl⟩
    replace q_x := box_on q_x rfl hb1001
    have hwl1 := nxt hbx hb1001
    by_cases hlt1 : k1 < x.tables.length
    · obtain ⟨pb, po, pbk, pes, rfl, phbl, phcl, phcell, pR, phbk⟩ := hel_x0 k1 hlt1
      obtain ⟨pA, pc, phlc, rfl⟩ : ∃ A0 c0, x.tables[k1].length ≤ c0 ∧ pes = [.slice A0 x.tables[k1].length c0] := by obtain ⟨A0, c0, h, h2, _⟩ := pR; exact ⟨A0, c0, h2, h⟩
      have p_0 := (hwl1.cell (p := ⟨pb, _, none⟩) phbl).trans (phcell 0 _ rfl)
      simp only [Nat.add_zero, Nat.mul_one] at p_0
      go_wp2_with fail
      clear p_0
      go_loopw [15] (fun i wr => ∃ k : Nat, k ≤ k1 ∧ i = .int .i64 k ∧ Hid (upTo (fun j => !clash x k1 j) k = true) ∧ Below (World.heap (wl1)).size (wl1) wr) (fun i _ => k1 - (intOf i).toNat)
      case atStart => exact ⟨0, Nat.zero_le _, rfl, upTo_zero _, Below.refl _ _⟩
      case round =>
        obtain ⟨k2, hk2, rfl, hn2_, hb1002⟩ := hrel
        obtain ⟨wl2, rfl⟩ : ∃ w' : World, w' = wr := ⟨_, rfl⟩
        replace q_x := box_on q_x rfl hb1002
        have hwl2 := nxt hwl1 hb1002
        have hl0_1002 := nxt hb1001 hb1002
        by_cases hlt2 : k2 < k1
        · have hk2x : k2 < x.tables.length := by omega
          have hcx := hide (clash_at hlt1 hk2x); have hf2 := hide (HF.out k2 hk2x)
          replace q_x := box_on q_x rfl ((Below.refl (World.heap (wl2)).size (wl2)).alloc (Nat.le_refl _) (.cells #[.int .i64 k2] 3))
          have q_kk := blk_cells (blk_new (wl2) #[.int .i64 k2] 3)
          have hn1 := (hwl2).alloc (hwl2).size (.cells #[.int .i64 k2] 3)
          have hc1_0 := (hl0_1002).alloc (hl0_1002).size (.cells #[.int .i64 k2] 3)
          have hc1_1 := (hb1002).alloc (hb1002).size (.cells #[.int .i64 k2] 3)
          go_wp2_with fail
          refine (slices_ContainsFuncRowS (RowSR.good.nxt hn1 pR) (fun r => hasId x.tables[k2] r.id) 118 #[.pointer (some ⟨w.heap.size, 0, none⟩), .pointer (some ⟨wl2.heap.size, 0, none⟩)] (enters_of Tryz.func118 (by kernel_rfl) rfl) (fun k hk bk es hR W hW => clo_shares (RowR.good.nxt hW hR) (StoreR.good.nxt (nxt hn1 hW) H0_x) (box_on q_x rfl hW) (box_on q_kk rfl hW) hk2x rfl hf2.out.1 (Nat.le_trans hf2.out.2 (by decide)))).mono ?_; rw [hcx.out]; rintro e w1 ⟨rfl, hb1⟩; replace q_x := box_on q_x rfl hb1; replace q_kk := box_on q_kk rfl hb1; have hw1 := nxt hn1 hb1; have hl0_1 := nxt hc1_0 hb1; have hl1_1 := nxt hc1_1 hb1
          cases h5 : clash x k1 k2
          · have hn22 : Hid (upTo (fun j => !clash x k1 j) (k2 + 1) = true) := by show _ = _; rw [upTo_succ, hn2_.out, h5]; rfl
            clear h5
            go_wp2_with fail
            go_roundw
            case rel => exact ⟨k2 + 1, hlt2, by go_num, hn22, hl1_1⟩
            case measure => simp [intOf]; omega
          · have hbad : Hid (onceB x = false) := by show _ = _; unfold onceB; exact upTo_bad hlt1 (upTo_bad hlt2 (by rw [h5]; rfl))
            clear h5 hel_x0
            go_wp2_with fail
            go_ret
            exact ⟨ret_bool (by rw [hbad.out]; rfl), hw1⟩
        · obtain rfl : k1 = k2 := by omega
          have hn12 : Hid (upTo (fun i => upTo (fun j => !clash x i j) i) (k1 + 1) = true) := by show _ = _; rw [upTo_succ, hn1_.out, hn2_.out]; rfl
          go_wp2_with fail
          go_roundw
          case rel => exact ⟨k1 + 1, hlt1, by go_num, hn12, hl0_1002⟩
          case measure => simp [intOf]; omega
    · obtain rfl : k1 = x.tables.length := by omega
      have hok : Hid (onceB x = true) := hn1_
      clear hel_x0
      go_wp2
      go_ret
      exact ⟨ret_bool (by rw [hok.out]; rfl), hwl1⟩
set_option maxHeartbeats 2000000 in
theorem clo_alike {w : World} {m_a : Nat} {bs_a : List Nat} {cs_a : List Value} {a : Row} {m_b : Nat} {bs_b : List Nat} {cs_b : List Value} {b : Row} (n : Int) (H_a : RowR w bs_a cs_a a) (q_a : ∀ j, w.cell? ⟨m_a, j, none⟩ = cs_a.toArray[j]?) (H_b : RowR w bs_b cs_b b) (q_b : ∀ j, w.cell? ⟨m_b, j, none⟩ = cs_b.toArray[j]?) (h0 : 0 ≤ n) (h1 : n < a.cells.length) (h2 : n < b.cells.length) :
    Calls Tryz.prog 159 #[.int .i64 n, .pointer (some ⟨m_a, 0, none⟩), .pointer (some ⟨m_b, 0, none⟩)] w (fun e w' => e = .returned (.bool (!decide (cellsN a n = cellsN b n))) ∧ Below w.heap.size w w') := by
  have H0_a := H_a
  obtain ⟨a_v1, a_b1, rfl, rfl, hf_a, a_r1⟩ := H_a
  obtain ⟨A_a1, c_a1, rfl, _, _, _⟩ := a_r1.use
  have H0_b := H_b
  obtain ⟨b_v1, b_b1, rfl, rfl, hf_b, b_r1⟩ := H_b
  obtain ⟨A_b1, c_b1, rfl, _, _, _⟩ := b_r1.use
  obtain ⟨k, rfl⟩ : ∃ k : Nat, n = k := ⟨n.toNat, by omega⟩
  have hka : k < a.cells.length := by omega
  have hkb : k < b.cells.length := by omega
  clear h0 h1 h2
  have hcn : Hid (cellsN a k = a.cells[k] ∧ cellsN b k = b.cells[k]) := by unfold cellsN; exact ⟨by rw [Int.toNat_natCast]; exact get_at _ k hka, by rw [Int.toNat_natCast]; exact get_at _ k hkb⟩
  rw [hcn.out.1, hcn.out.2]
  obtain ⟨_, _, hva, _, _, hel_a1⟩ := a_r1.use; injection hva with e1 e2 e3; subst e1; clear e2 e3
  obtain ⟨_, _, hvb, _, _, hel_b1⟩ := b_r1.use; injection hvb with e1 e2 e3; subst e1; clear e2 e3
  obtain ⟨yb, yo, ybk, yes, rfl, yhbl, yhcl, yhcell, yR, yhbk⟩ := hel_a1 k hka
  obtain ⟨yA, yc, yhlc, rfl⟩ : ∃ A0 c0, a.cells[k].length ≤ c0 ∧ yes = [.slice A0 a.cells[k].length c0] := by obtain ⟨A0, c0, h, h2, _⟩ := yR; exact ⟨A0, c0, h2, h⟩
  have y_0 := Fw.cell (((Below.refl w.heap.size w).cell (p := ⟨yb, _, none⟩) yhbl).trans (yhcell 0 _ rfl))
  simp only [Nat.add_zero, Nat.mul_one] at y_0
  obtain ⟨zb, zo, zbk, zes, rfl, zhbl, zhcl, zhcell, zR, zhbk⟩ := hel_b1 k hkb
  obtain ⟨zA, zc, zhlc, rfl⟩ : ∃ A0 c0, b.cells[k].length ≤ c0 ∧ zes = [.slice A0 b.cells[k].length c0] := by obtain ⟨A0, c0, h, h2, _⟩ := zR; exact ⟨A0, c0, h2, h⟩
  have z_0 := Fw.cell (((Below.refl w.heap.size w).cell (p := ⟨zb, _, none⟩) zhbl).trans (zhcell 0 _ rfl))
  simp only [Nat.add_zero, Nat.mul_one] at z_0
  clear hel_a1 hel_b1
  have A1 := hide (fun (i : Fw w) => slices_EqualA (AtomSR.good.nxt (nxt (Below.refl w.heap.size w) i.h) yR) (AtomSR.good.nxt (nxt (Below.refl w.heap.size w) i.h) zR))
  go_enter Tryz.func159, Tryz.ntmps159
  go_wp2_with fail
  have q_aF0 := Fw.cell (box_cell q_a 0 rfl)
  have q_aF1 := Fw.cell (box_cell q_a 1 rfl)
  have q_bF0 := Fw.cell (box_cell q_b 0 rfl)
  have q_bF1 := Fw.cell (box_cell q_b 1 rfl)
  refine region_quiet (by kernel_rfl) (by kernel_rfl) ?_
  repeat (go_big_quiet_step ((first | (go_at_call 143; exact quiet_of (A1.out _)))))
  refine wpQuiet_nil ?_; intro w1 hb1; replace q_a := box_on q_a rfl hb1; replace q_b := box_on q_b rfl hb1; have hw1 := nxt (Below.refl w.heap.size w) hb1; clear q_aF0 q_aF1 q_bF0 q_bF1 y_0 z_0
  clear A1
  go_wp2_with fail
  go_ret
  exact ⟨rfl, hw1⟩
theorem any_alike (t : Table) (a b : Row) : (t.unique.any fun n => !decide (cellsN a n = cellsN b n)) = !alike t a b := by
  unfold alike
  induction t.unique with
  | nil => rfl
  | cons c l ih => simp only [List.any_cons, List.all_cons, ih, Bool.not_and]
set_option maxHeartbeats 8000000 in
theorem impl_hasAlike {w : World}  {bs_t : List Nat} {cs_t : List Value} {t : Table} (H_t : TableR w bs_t cs_t t) {bs_rows : List Nat} {v_rows : Value} {rows : List Row} (H_rows : RowSR w bs_rows [v_rows] rows) (hu : ∀ i (hi : i < rows.length) k (hk : k < t.unique.length), 0 ≤ t.unique[k] ∧ t.unique[k] < rows[i].cells.length) :
    Calls Tryz.prog 121 #[.agg cs_t.toArray, v_rows] w (fun e w' => e = .returned (.bool (!uniqT t rows)) ∧ Below w.heap.size w w') := by
  have H0_rows := H_rows
  obtain ⟨A_rows, c_rows, rfl, hlc_rows, hcm_rows, hel_rows⟩ := H_rows.use
  have H0_t := H_t
  obtain ⟨t_v1, t_b1, t_v2, t_b2, rfl, rfl, hf_t, t_r1, t_r2⟩ := H_t
  obtain ⟨A_t1, c_t1, rfl, hlc_t1, hcm_t1, hel_t1⟩ := t_r1.use
  obtain ⟨A_t2, c_t2, rfl, hlc_t2, hcm_t2, hel_t2⟩ := t_r2.use
  have hbx := ((Below.refl w.heap.size w).alloc (Nat.le_refl _) (.cells #[.string t.name, .slice A_t1 t.columns.length c_t1, .slice A_t2 t.unique.length c_t2, .bool t.root] 37))
  have q_t := blk_cells (blk_new w #[.string t.name, .slice A_t1 t.columns.length c_t1, .slice A_t2 t.unique.length c_t2, .bool t.root] 37)
  have HU := hide hu; clear hu hel_t1
  by_cases h8 : t.unique.length = 0
  · have hr : Hid (uniqT t rows = true) := by show _ = _; unfold uniqT; rw [List.isEmpty_iff.2 (List.eq_nil_of_length_eq_zero h8)]; rfl
    have h9 : ((t.unique.length : Int) == 0) = true := by simp [h8]
    clear h8 hel_rows hel_t2
    go_enter Tryz.func121, Tryz.ntmps121
    go_wp2_with fail
    go_ret
    exact ⟨ret_bool (by rw [hr.out]; rfl), hbx⟩
  have h9 : ((t.unique.length : Int) == 0) = false := by simp [h8]
  have hr : Hid (uniqT t rows = upTo (uniqRow t rows) rows.length) := by show _ = _; unfold uniqT; rw [show t.unique.isEmpty = false from by cases h : t.unique with | nil => rw [h] at h8; exact absurd rfl h8 | cons _ _ => rfl]; rfl
  clear h8 hel_t2
  go_enter Tryz.func121, Tryz.ntmps121
  go_wp2_with fail
  go_loopw [15] (fun i wr => ∃ k : Nat, k ≤ rows.length ∧ i = .int .i64 k ∧ Hid (upTo (uniqRow t rows) k = true) ∧ Below (World.heap ((w.alloc (.cells #[.string t.name, .slice A_t1 t.columns.length c_t1, .slice A_t2 t.unique.length c_t2, .bool t.root] 37)))).size ((w.alloc (.cells #[.string t.name, .slice A_t1 t.columns.length c_t1, .slice A_t2 t.unique.length c_t2, .bool t.root] 37))) wr) (fun i _ => rows.length - (intOf i).toNat)
  case atStart => exact ⟨0, Nat.zero_le _, rfl, upTo_zero _, Below.refl _ _⟩
  case round =>
    obtain ⟨k1, hk1, rfl, hn1_, hb1001⟩ := hrel
    obtain ⟨wl1, rfl⟩ : ∃ w' : World, w' = wr := ⟨_, rfl⟩
    replace q_t := box_on q_t rfl hb1001
    have hwl1 := nxt hbx hb1001
    by_cases hlt1 : k1 < rows.length
    · obtain ⟨gb, go, gbk, ges, rfl, ghbl, ghcl, ghcell, gR, ghbk⟩ := hel_rows k1 hlt1
      have gR0 := gR
      obtain ⟨gv1, gb1, _, ghes, ghf, gr1⟩ := gR
      subst ghes
      obtain ⟨gA1, gc1, rfl, ghlc1, ghcm1, ghel1⟩ := gr1.use
      have g_0 := (hwl1.cell (p := ⟨gb, _, none⟩) ghbl).trans (ghcell 0 _ rfl)
      have g_1 := (hwl1.cell (p := ⟨gb, _, none⟩) ghbl).trans (ghcell 1 _ rfl)
      simp only [Nat.add_zero] at g_0 g_1
      have gR9 := gR0
      go_wp2_with fail
      replace q_t := box_on q_t rfl ((Below.refl (World.heap (wl1)).size (wl1)).alloc (Nat.le_refl _) (.cells #[.int .i64 rows[k1].id, .slice gA1 rows[k1].cells.length gc1] 41))
      have q_a := blk_cells (blk_new (wl1) #[.int .i64 rows[k1].id, .slice gA1 rows[k1].cells.length gc1] 41)
      have hn1 := (hwl1).alloc (hwl1).size (.cells #[.int .i64 rows[k1].id, .slice gA1 rows[k1].cells.length gc1] 41)
      have hc1_0 := (hb1001).alloc (hb1001).size (.cells #[.int .i64 rows[k1].id, .slice gA1 rows[k1].cells.length gc1] 41)
      clear g_0 g_1
      go_loopw [24] (fun i wr => ∃ k : Nat, k ≤ k1 ∧ i = .int .i64 k ∧ Hid (upTo (fun j => !alike t (rows.getD k1 default) (rows.getD j default)) k = true) ∧ Below (World.heap (((wl1).alloc (.cells #[.int .i64 rows[k1].id, .slice gA1 rows[k1].cells.length gc1] 41)))).size (((wl1).alloc (.cells #[.int .i64 rows[k1].id, .slice gA1 rows[k1].cells.length gc1] 41))) wr) (fun i _ => k1 - (intOf i).toNat)
      case atStart => exact ⟨0, Nat.zero_le _, rfl, upTo_zero _, Below.refl _ _⟩
      case round =>
        obtain ⟨k2, hk2, rfl, hn2_, hb1002⟩ := hrel
        obtain ⟨wl2, rfl⟩ : ∃ w' : World, w' = wr := ⟨_, rfl⟩
        replace q_t := box_on q_t rfl hb1002
        replace q_a := box_on q_a rfl hb1002
        have hwl2 := nxt hn1 hb1002
        have hl0_1002 := nxt hc1_0 hb1002
        by_cases hlt2 : k2 < k1
        · have hk2x : k2 < rows.length := by omega
          obtain ⟨eb, eo, ebk, ees, ehA, ehbl, ehcl, ehcell, eR, ehbk⟩ := hel_rows k2 hk2x
          cases ehA
          have eR0 := eR
          obtain ⟨ev1, eb1, _, ehes, ehf, er1⟩ := eR
          subst ehes
          obtain ⟨eA1, ec1, rfl, ehlc1, ehcm1, ehel1⟩ := er1.use
          have e_0 := (hwl2.cell (p := ⟨gb, _, none⟩) ehbl).trans (ehcell 0 _ rfl)
          have e_1 := (hwl2.cell (p := ⟨gb, _, none⟩) ehbl).trans (ehcell 1 _ rfl)
          simp only [Nat.add_zero] at e_0 e_1
          have q_t9 := q_t
          have q_a9 := q_a
          replace q_t := box_on q_t rfl ((Below.refl (World.heap (wl2)).size (wl2)).alloc (Nat.le_refl _) (.cells #[.int .i64 rows[k2].id, .slice eA1 rows[k2].cells.length ec1] 41))
          replace q_a := box_on q_a rfl ((Below.refl (World.heap (wl2)).size (wl2)).alloc (Nat.le_refl _) (.cells #[.int .i64 rows[k2].id, .slice eA1 rows[k2].cells.length ec1] 41))
          have q_b := blk_cells (blk_new (wl2) #[.int .i64 rows[k2].id, .slice eA1 rows[k2].cells.length ec1] 41)
          have hn2 := (hwl2).alloc (hwl2).size (.cells #[.int .i64 rows[k2].id, .slice eA1 rows[k2].cells.length ec1] 41)
          have hc2_0 := (hl0_1002).alloc (hl0_1002).size (.cells #[.int .i64 rows[k2].id, .slice eA1 rows[k2].cells.length ec1] 41)
          have hc2_1 := (hb1002).alloc (hb1002).size (.cells #[.int .i64 rows[k2].id, .slice eA1 rows[k2].cells.length ec1] 41)
          go_wp2_with fail
          clear q_t9 q_a9
          clear e_0 e_1
          refine (slices_ContainsFuncIntS (IntSR.good.nxt hn2 t_r2) (fun n => !decide (cellsN rows[k1] n = cellsN rows[k2] n)) 159 #[.pointer (some ⟨wl1.heap.size, 0, none⟩), .pointer (some ⟨wl2.heap.size, 0, none⟩)] (enters_of Tryz.func159 (by kernel_rfl) rfl) (fun k hk bk u hR W hW => by obtain ⟨_, hes, hf⟩ := hR; injection hes with hes _; subst hes; exact clo_alike _ (RowR.good.nxt (nxt hn2 hW) gR9) (box_on q_a rfl hW) (RowR.good.nxt (nxt hn2 hW) eR0) (box_on q_b rfl hW) (HU.out k1 hlt1 k hk).1 (HU.out k1 hlt1 k hk).2 (HU.out k2 hk2x k hk).2)).mono ?_; rw [any_alike]; rintro e w1 ⟨rfl, hb1⟩; replace q_t := box_on q_t rfl hb1; replace q_a := box_on q_a rfl hb1; replace q_b := box_on q_b rfl hb1; have hw1 := nxt hn2 hb1; have hl0_1 := nxt hc2_0 hb1; have hl1_1 := nxt hc2_1 hb1
          cases h5 : alike t rows[k1] rows[k2]
          · have hn22 : Hid (upTo (fun j => !alike t (rows.getD k1 default) (rows.getD j default)) (k2 + 1) = true) := by show _ = _; rw [upTo_succ, hn2_.out, get_at _ k1 hlt1, get_at _ k2 hk2x, h5]; rfl
            clear h5
            go_wp2_with fail
            go_roundw
            case rel => exact ⟨k2 + 1, hlt2, by go_num, hn22, hl1_1⟩
            case measure => simp [intOf]; omega
          · have hbad : Hid (uniqT t rows = false) := by show _ = _; rw [hr.out]; exact upTo_bad hlt1 (by unfold uniqRow; exact upTo_bad hlt2 (by rw [get_at _ k1 hlt1, get_at _ k2 hk2x, h5]; rfl))
            clear h5 hel_rows
            go_wp2_with fail
            go_ret
            exact ⟨ret_bool (by rw [hbad.out]; rfl), hw1⟩
        · obtain rfl : k1 = k2 := by omega
          have hn12 : Hid (upTo (uniqRow t rows) (k1 + 1) = true) := by show _ = _; rw [upTo_succ, hn1_.out, Bool.true_and]; exact hn2_.out
          go_wp2_with fail
          go_roundw
          case rel => exact ⟨k1 + 1, hlt1, by go_num, hn12, hl0_1002⟩
          case measure => simp [intOf]; omega
    · obtain rfl : k1 = rows.length := by omega
      have hok : Hid (uniqT t rows = true) := by show _ = _; rw [hr.out]; exact hn1_.out
      clear hel_rows
      go_wp2
      go_ret
      exact ⟨ret_bool (by rw [hok.out]; rfl), hwl1⟩
set_option maxHeartbeats 4000000 in
theorem clo_commit {w : World} {bs : List Nat} {v : Value} {d : List Atom} (H : AtomSR w bs [v] d) (c : Column) {rm ba bx m : Nat} {z : Int} {bs_x : List Nat} {cs_x : List Value} {x : Store} (H_x : StoreR w bs_x cs_x x) (qa : w.cell? ⟨ba, 0, none⟩ = some (.bool true)) (q_x : ∀ j, w.cell? ⟨bx, j, none⟩ = cs_x.toArray[j]?) (qm : w.heap[m]? = some (.cells #[.int .i64 z] 3 (0, 0))) (hm : rm < x.tables.length) (hr : rising x.tables[rm] = true) (hn : x.tables[rm].length ≤ 1048576) :
    Calls Tryz.prog 119 #[.agg #[.string c.name, .int .i64 c.kind, .int .i64 c.min, .int .i64 c.max, .int .i64 c.low, .int .i64 c.high, .string c.ref, .bool c.strong], .int .i64 rm, v, .pointer (some ⟨ba, 0, none⟩), .pointer (some ⟨bx, 0, none⟩), .pointer (some ⟨m, 0, none⟩)] w fun e W' => e = .returned (.tuple #[]) ∧ W'.heap[m]? = some (.cells #[.int .i64 (metStep x c rm d z)] 3 (0, 0)) ∧ Upd [m] w W' := by
  have H0 := H; have H0_x := H_x; have HR := hide hr; have HN := hide hn; clear hr hn; obtain ⟨A, n, rfl, _, _, _⟩ := H.use
  obtain ⟨x_v0, x_b0, rfl, rfl, hf_x, x_r0⟩ := H_x
  obtain ⟨A_x0, c_x0, rfl, _, _, _⟩ := x_r0.use
  have hbx := (Below.refl w.heap.size w).alloc (Nat.le_refl _) (.cells #[.string c.name, .int .i64 c.kind, .int .i64 c.min, .int .i64 c.max, .int .i64 c.low, .int .i64 c.high, .string c.ref, .bool c.strong] 130)
  have hU : Upd [m] w (w.alloc (.cells #[.string c.name, .int .i64 c.kind, .int .i64 c.min, .int .i64 c.max, .int .i64 c.low, .int .i64 c.high, .string c.ref, .bool c.strong] 130)) := (Upd.refl _ _).alloc _
  have qm1 := blk_old qm (.cells #[.string c.name, .int .i64 c.kind, .int .i64 c.min, .int .i64 c.max, .int .i64 c.low, .int .i64 c.high, .string c.ref, .bool c.strong] 130)
  have qa1 := cell_al qa (.cells #[.string c.name, .int .i64 c.kind, .int .i64 c.min, .int .i64 c.max, .int .i64 c.low, .int .i64 c.high, .string c.ref, .bool c.strong] 130); have q_x1 := box_on q_x rfl hbx; clear qa q_x
  have hcall := hide (impl_isRefUnmet (StoreR.good.nxt hbx H0_x) (rm : Int) (AtomSR.good.nxt hbx H0) hm rfl HR.out HN.out)
  go_enter Tryz.func119, Tryz.ntmps119
  go_wp2_with fail
  refine hcall.out.mono ?_; rintro e w1 ⟨rfl, hb1⟩
  have qm2 := blk_on qm1 hb1; have qm3 : w1.cell? ⟨m, 0, none⟩ = some (.int .i64 z) := blk_cells qm2 0; have qmf := blk_free qm2
  cases h1 : unmet x rm d
  · have hs : Hid (metStep x c rm d z = z) := by show _ = _; unfold metStep; rw [h1]; rfl
    clear h1
    go_wp2_with fail
    refine bodyPost_end (results_none Tryz.results119 _ _ _) rfl ?_
    exact ⟨rfl, by rw [hs.out]; exact qm2, hU.call hb1⟩
  · have hs : Hid (metStep x c rm d z = 13) := by show _ = _; unfold metStep; rw [h1]; rfl
    clear h1
    go_wp2_with fail
    refine bodyPost_end (results_none Tryz.results119 _ _ _) rfl ?_
    exact ⟨rfl, by rw [hs.out]; exact blk_set qm2 0 (.int .i64 13), (hU.call hb1).set (p := ⟨m, 0, none⟩) (by simp) rfl _⟩
theorem fit_uni {s : Schema} {x : Store} (h : storeFit s x = true) {i : Nat} (hs : i < s.tables.length) (hx : i < x.tables.length) : ∀ j (hj : j < x.tables[i].length) k (hk : k < s.tables[i].unique.length), 0 ≤ s.tables[i].unique[k] ∧ s.tables[i].unique[k] < x.tables[i][j].cells.length := by
  intro j hj k hk
  have h1 := uni_at (sch_tbl (storeFit_sch h) hs) hk
  have h2 := cellsIn_len (fitRow_cells (fitRows_row (storeIn_at (storeFit_in h) hs hx) hj))
  omega
theorem uniqAt_at {s : Schema} {x : Store} {i : Nat} (hs : i < s.tables.length) (hx : i < x.tables.length) : uniqAt s x i = uniqT s.tables[i] x.tables[i] := by unfold uniqAt; rw [tabAt_at hs, rowsAt_at hx]
theorem commitI_succ (s : Schema) (x : Store) (k : Nat) : commitI s x (k + 1) = codeTurn s x k (commitI s x k) := rfl
set_option maxHeartbeats 8000000 in
theorem impl_commitCode {w : World} {bs_s bs_x : List Nat} {cs_s cs_x : List Value} {s : Schema} {x : Store} (H_s : SchemaR w bs_s cs_s s) (H_x : StoreR w bs_x cs_x x) (hok : storeFit s x = true) :
    Calls Tryz.prog 76 #[.agg cs_s.toArray, .agg cs_x.toArray, .bool true] w fun e w' => e = .returned (.int .i64 (commitI s x s.tables.length)) ∧ Below w.heap.size w w' := by
  have HO := hide hok; clear hok; have H_s0 := H_s; have H_x0 := H_x; have HL := hide (storeIn_len (storeFit_in HO.out)); have hn4 := sch_len (storeFit_sch HO.out)
  obtain ⟨v1, b1, rfl, rfl, hf_s, s_r0⟩ := H_s; obtain ⟨A_s, c_s, rfl, _, _, hel_s⟩ := s_r0.use
  obtain ⟨v2, b2, rfl, rfl, hf_x, x_r0⟩ := H_x; obtain ⟨A_x, c_x, rfl, _, _, hel_x⟩ := x_r0.use
  have hbx := ((((Below.refl w.heap.size w).alloc (by simp; try omega) (.cells #[.slice A_s s.tables.length c_s] 61)).alloc (by simp; try omega) (.cells #[.slice A_x x.tables.length c_x, .int .i64 x.next] 65)).alloc (by simp; try omega) (.cells #[.bool true] 4))
  obtain ⟨q_s, q_x, q_a⟩ := three_at (Below.refl (((w.alloc (.cells #[.slice A_s s.tables.length c_s] 61)).alloc (.cells #[.slice A_x x.tables.length c_x, .int .i64 x.next] 65)).alloc (.cells #[.bool true] 4)).heap.size _)
  have q_n : (World.heap ((((w.alloc (.cells #[.slice A_s s.tables.length c_s] 61)).alloc (.cells #[.slice A_x x.tables.length c_x, .int .i64 x.next] 65)).alloc (.cells #[.bool true] 4)).alloc (.cells #[.int .i64 0] 3)))[w.heap.size + 1 + 1 + 1]? = some (.cells #[.int .i64 0] 3 (0, 0)) := by simpa using blk_new (((w.alloc (.cells #[.slice A_s s.tables.length c_s] 61)).alloc (.cells #[.slice A_x x.tables.length c_x, .int .i64 x.next] 65)).alloc (.cells #[.bool true] 4)) #[.int .i64 0] 3
  have hz3 : (World.heap (((w.alloc (.cells #[.slice A_s s.tables.length c_s] 61)).alloc (.cells #[.slice A_x x.tables.length c_x, .int .i64 x.next] 65)).alloc (.cells #[.bool true] 4))).size = w.heap.size + 1 + 1 + 1 := by simp
  have HX3 := hide (StoreR.good.nxt hbx H_x0); have QX := hide q_x; have QA := hide (box_cell q_a 0 rfl)
  have HC := hide (impl_eachSet (w := (((w.alloc (.cells #[.slice A_s s.tables.length c_s] 61)).alloc (.cells #[.slice A_x x.tables.length c_x, .int .i64 x.next] 65)).alloc (.cells #[.bool true] 4))) (SchemaR.good.nxt hbx H_s0) HX3.out ((Below.refl (World.heap (((w.alloc (.cells #[.slice A_s s.tables.length c_s] 61)).alloc (.cells #[.slice A_x x.tables.length c_x, .int .i64 x.next] 65)).alloc (.cells #[.bool true] 4))).size (((w.alloc (.cells #[.slice A_s s.tables.length c_s] 61)).alloc (.cells #[.slice A_x x.tables.length c_x, .int .i64 x.next] 65)).alloc (.cells #[.bool true] 4))).alloc (Nat.le_refl _) (.cells #[.int .i64 0] 3)) HO.out (m := w.heap.size + 1 + 1 + 1) (z0 := 0) (by rw [hz3]; exact Nat.le_refl _) q_n ⟨by decide, by decide⟩ 119 #[.pointer (some ⟨w.heap.size + 1 + 1, 0, none⟩), .pointer (some ⟨w.heap.size + 1, 0, none⟩), .pointer (some ⟨w.heap.size + 1 + 1 + 1, 0, none⟩)] (enters_of Tryz.func119 (by kernel_rfl) rfl) (metStep x) (metStep_bd x) (fun i k j hi hix hk hj hjk z W bs v h4 hW hR hq h0 h1 => by obtain ⟨rm, e, hlt⟩ := sch_ref (storeFit_sch HO.out) hi hk h4; rw [e]; have hrm : rm < x.tables.length := (by rw [HL.out]; exact hlt); have hs := store_rise HO.out hrm; exact clo_commit hR _ (StoreR.good.nxt hW HX3.out) ((hW.cell (by simp)).trans QA.out) (box_on QX.out rfl hW) hq hrm hs.1 (Nat.le_trans hs.2 (by decide))))
  have hwN := hbx.alloc (by simp; try omega) (.cells #[.int .i64 0] 3)
  replace q_s := box_on q_s rfl ((Below.refl (World.heap (((w.alloc (.cells #[.slice A_s s.tables.length c_s] 61)).alloc (.cells #[.slice A_x x.tables.length c_x, .int .i64 x.next] 65)).alloc (.cells #[.bool true] 4))).size (((w.alloc (.cells #[.slice A_s s.tables.length c_s] 61)).alloc (.cells #[.slice A_x x.tables.length c_x, .int .i64 x.next] 65)).alloc (.cells #[.bool true] 4))).alloc (Nat.le_refl _) (.cells #[.int .i64 0] 3)); replace q_x := box_on q_x rfl ((Below.refl (World.heap (((w.alloc (.cells #[.slice A_s s.tables.length c_s] 61)).alloc (.cells #[.slice A_x x.tables.length c_x, .int .i64 x.next] 65)).alloc (.cells #[.bool true] 4))).size (((w.alloc (.cells #[.slice A_s s.tables.length c_s] 61)).alloc (.cells #[.slice A_x x.tables.length c_x, .int .i64 x.next] 65)).alloc (.cells #[.bool true] 4))).alloc (Nat.le_refl _) (.cells #[.int .i64 0] 3)); clear q_a
  have ns : w.heap.size ∉ [w.heap.size + 1 + 1 + 1] := by simp; try omega
  have nx : w.heap.size + 1 ∉ [w.heap.size + 1 + 1 + 1] := by simp; try omega
  have hm : w.heap.size ≤ w.heap.size + 1 + 1 + 1 := by omega
  go_enter Tryz.func76, Tryz.ntmps76
  go_wp2_with fail
  refine HC.out.mono ?_; rintro e w5 ⟨rfl, hq5, hu5⟩; clear HC HX3 QX QA
  replace q_s := box_upd q_s rfl hu5 ns; replace q_x := box_upd q_x rfl hu5 nx; have hw5 := updB hwN hu5 hm; clear q_n
  obtain ⟨M, hM⟩ : ∃ M, M = w.heap.size + 1 + 1 + 1 := ⟨_, rfl⟩
  have hQ5 : Hid (w5.heap[M]? = some (.cells #[.int .i64 (commitI s x 0)] 3 (0, 0))) := by subst hM; exact hq5
  rw [← hM] at ns nx hm; clear hq5 hu5
  go_wp2_with fail
  go_loopw [17] (fun i wr => ∃ k : Nat, k ≤ s.tables.length ∧ i = .int .i64 k ∧ Hid (wr.heap[M]? = some (.cells #[.int .i64 (commitI s x k)] 3 (0, 0))) ∧ Upd [M] w5 wr) (fun i _ => s.tables.length - (intOf i).toNat)
  case atStart => exact ⟨0, Nat.zero_le _, rfl, hQ5, Upd.refl _ _⟩
  case round =>
    obtain ⟨k1, hk1, rfl, hQ1, hu1⟩ := hrel
    obtain ⟨wl1, rfl⟩ : ∃ w' : World, w' = wr := ⟨_, rfl⟩
    have hwl1 := updB hw5 hu1 hm; replace q_s := box_upd q_s rfl hu1 ns; replace q_x := box_upd q_x rfl hu1 nx; clear hQ5; have hm2 := lt_of_cells hQ1.out
    have hbd := commitI_bd s x k1; have hQ9 := hQ1.out; subst hM; have c_0 : wl1.cell? ⟨w.heap.size + 1 + 1 + 1, 0, none⟩ = some (.int .i64 (commitI s x k1)) := blk_cells hQ9 0
    by_cases hlt1 : k1 < s.tables.length
    · have hkx : k1 < x.tables.length := by have := HL.out; omega
      obtain ⟨tb, to, tbk, tes, rfl, thbl, thcl, thcell, tR, thbk⟩ := hel_s k1 hlt1
      have tR0 := tR
      obtain ⟨tv1, tb1, tv2, tb2, _, thes, thf, tr1, tr2⟩ := tR
      subst thes
      obtain ⟨tA1, tc1, rfl, thlc1, thcm1, thel1⟩ := tr1.use
      obtain ⟨tA2, tc2, rfl, thlc2, thcm2, thel2⟩ := tr2.use
      have t_0 := (hwl1.cell (p := ⟨tb, _, none⟩) thbl).trans (thcell 0 _ rfl)
      have t_1 := (hwl1.cell (p := ⟨tb, _, none⟩) thbl).trans (thcell 1 _ rfl)
      have t_2 := (hwl1.cell (p := ⟨tb, _, none⟩) thbl).trans (thcell 2 _ rfl)
      have t_3 := (hwl1.cell (p := ⟨tb, _, none⟩) thbl).trans (thcell 3 _ rfl)
      simp only [Nat.add_zero] at t_0 t_1 t_2 t_3
      clear thcell thcl
      have huq := hide (uniqAt_at hlt1 hkx)
      have cc := c_0; have hQQ := blk_old hQ9 (.cells #[.string s.tables[k1].name, .slice tA1 s.tables[k1].columns.length tc1, .slice tA2 s.tables[k1].unique.length tc2, .bool s.tables[k1].root] 37); have c_1 : World.cell? (wl1.alloc (.cells #[.string s.tables[k1].name, .slice tA1 s.tables[k1].columns.length tc1, .slice tA2 s.tables[k1].unique.length tc2, .bool s.tables[k1].root] 37)) ⟨w.heap.size + 1 + 1 + 1, 0, none⟩ = some (.int .i64 (commitI s x k1)) := blk_cells hQQ 0
      have q_s9 := q_s
      have q_x9 := q_x
      replace q_s := box_on q_s rfl ((Below.refl (World.heap (wl1)).size (wl1)).alloc (Nat.le_refl _) (.cells #[.string s.tables[k1].name, .slice tA1 s.tables[k1].columns.length tc1, .slice tA2 s.tables[k1].unique.length tc2, .bool s.tables[k1].root] 37))
      replace q_x := box_on q_x rfl ((Below.refl (World.heap (wl1)).size (wl1)).alloc (Nat.le_refl _) (.cells #[.string s.tables[k1].name, .slice tA1 s.tables[k1].columns.length tc1, .slice tA2 s.tables[k1].unique.length tc2, .bool s.tables[k1].root] 37))
      have q_t := blk_cells (blk_new (wl1) #[.string s.tables[k1].name, .slice tA1 s.tables[k1].columns.length tc1, .slice tA2 s.tables[k1].unique.length tc2, .bool s.tables[k1].root] 37)
      have hn1 := (hwl1).alloc (hwl1).size (.cells #[.string s.tables[k1].name, .slice tA1 s.tables[k1].columns.length tc1, .slice tA2 s.tables[k1].unique.length tc2, .bool s.tables[k1].root] 37)
      go_wp2_with fail
      clear q_s9 q_x9
      have hQt := blk_old hQ9 (.cells #[.string s.tables[k1].name, .slice tA1 s.tables[k1].columns.length tc1, .slice tA2 s.tables[k1].unique.length tc2, .bool s.tables[k1].root] 37); have huT := hu1.alloc (.cells #[.string s.tables[k1].name, .slice tA1 s.tables[k1].columns.length tc1, .slice tA2 s.tables[k1].unique.length tc2, .bool s.tables[k1].root] 37); have c_t : World.cell? ((wl1).alloc (.cells #[.string s.tables[k1].name, .slice tA1 s.tables[k1].columns.length tc1, .slice tA2 s.tables[k1].unique.length tc2, .bool s.tables[k1].root] 37)) ⟨w.heap.size + 1 + 1 + 1, 0, none⟩ = some (.int .i64 (commitI s x k1)) := blk_cells hQt 0
      obtain ⟨pb, po, pbk, pes, rfl, phbl, phcl, phcell, pR, phbk⟩ := hel_x k1 hkx
      obtain ⟨pA, pc, phlc, rfl⟩ : ∃ A0 c0, x.tables[k1].length ≤ c0 ∧ pes = [.slice A0 x.tables[k1].length c0] := by obtain ⟨A0, c0, h, h2, _⟩ := pR; exact ⟨A0, c0, h2, h⟩
      have p_0 := Fw.cell ((hn1.cell (p := ⟨pb, _, none⟩) phbl).trans (phcell 0 _ rfl))
      simp only [Nat.add_zero, Nat.mul_one] at p_0
      have A1 := hide (fun (i : Fw ((wl1).alloc (.cells #[.string s.tables[k1].name, .slice tA1 s.tables[k1].columns.length tc1, .slice tA2 s.tables[k1].unique.length tc2, .bool s.tables[k1].root] 37))) => impl_hasAlike (TableR.good.nxt (nxt hn1 i.h) tR0) (RowSR.good.nxt (nxt hn1 i.h) pR) (fit_uni HO.out hlt1 hkx))
      have c_T := Fw.cell c_t; clear hel_s hel_x thel1 thel2 c_0 c_1 cc t_0 t_1 t_2 t_3
      cases hz : (commitI s x k1 == 0)
      · have hcs : Hid (commitI s x (k1 + 1) = commitI s x k1) := by show _ = _; rw [commitI_succ]; unfold codeTurn; rw [hz]; rfl
        obtain ⟨zz, hzz⟩ : ∃ zz, Hid (zz = commitI s x k1) := ⟨_, hide rfl⟩; rw [← hzz.out] at hz c_T c_t hQt hbd hcs
        have q_sF0 := Fw.cell (box_cell q_s 0 rfl)
        have q_xF0 := Fw.cell (box_cell q_x 0 rfl)
        have q_xF1 := Fw.cell (box_cell q_x 1 rfl)
        have q_tF0 := Fw.cell (box_cell q_t 0 rfl)
        have q_tF1 := Fw.cell (box_cell q_t 1 rfl)
        have q_tF2 := Fw.cell (box_cell q_t 2 rfl)
        have q_tF3 := Fw.cell (box_cell q_t 3 rfl)
        refine region_quiet (by kernel_rfl) (by kernel_rfl) ?_
        repeat (go_big_quiet_step (fail))
        refine wpQuiet_nil ?_; intro w1 hb1; replace q_s := box_on q_s rfl hb1; replace q_x := box_on q_x rfl hb1; replace q_t := box_on q_t rfl hb1; have hw1 := nxt hn1 hb1; clear q_sF0 q_xF0 q_xF1 q_tF0 q_tF1 q_tF2 q_tF3 p_0 c_T
        go_wp2_with fail
        go_roundw
        case rel => exact ⟨k1 + 1, hlt1, by go_num, by rw [hcs.out]; exact blk_on hQt hb1, huT.call hb1⟩
        case measure => simp [intOf]; omega
      · have hz0 : commitI s x k1 = 0 := eq_of_beq hz
        rw [hz0] at c_T c_t hQt hbd; clear hz
        cases hu : uniqT s.tables[k1] x.tables[k1]
        · have hcs : Hid (commitI s x (k1 + 1) = 12) := by show _ = _; rw [commitI_succ]; unfold codeTurn; rw [hz0, huq.out, hu]; rfl
          rw [hu] at A1; clear hu
          have q_sF0 := Fw.cell (box_cell q_s 0 rfl)
          have q_xF0 := Fw.cell (box_cell q_x 0 rfl)
          have q_xF1 := Fw.cell (box_cell q_x 1 rfl)
          have q_tF0 := Fw.cell (box_cell q_t 0 rfl)
          have q_tF1 := Fw.cell (box_cell q_t 1 rfl)
          have q_tF2 := Fw.cell (box_cell q_t 2 rfl)
          have q_tF3 := Fw.cell (box_cell q_t 3 rfl)
          refine region_quiet (by kernel_rfl) (by kernel_rfl) ?_
          repeat (go_big_quiet_step ((first | (go_at_call 121; exact quiet_of (A1.out _)))))
          refine wpQuiet_nil ?_; intro w2 hb2; replace q_s := box_on q_s rfl hb2; replace q_x := box_on q_x rfl hb2; replace q_t := box_on q_t rfl hb2; have hw2 := nxt hn1 hb2; clear q_sF0 q_xF0 q_xF1 q_tF0 q_tF1 q_tF2 q_tF3 p_0 c_T
          have hQ8 := blk_on hQt hb2; have c_8 : w2.cell? ⟨w.heap.size + 1 + 1 + 1, 0, none⟩ = some (.int .i64 0) := blk_cells hQ8 0; have f_8 := blk_free hQ8; have hu8 := huT.call hb2; clear A1
          go_wp2_with fail
          go_roundw
          case rel => exact ⟨k1 + 1, hlt1, by go_num, by rw [hcs.out]; exact blk_set hQ8 0 (.int .i64 12), hu8.set (p := ⟨w.heap.size + 1 + 1 + 1, 0, none⟩) (by simp) rfl _⟩
          case measure => simp [intOf]; omega
        · have hcs : Hid (commitI s x (k1 + 1) = 0) := by show _ = _; rw [commitI_succ]; unfold codeTurn; rw [hz0, huq.out, hu]; rfl
          rw [hu] at A1; clear hu
          have q_sF0 := Fw.cell (box_cell q_s 0 rfl)
          have q_xF0 := Fw.cell (box_cell q_x 0 rfl)
          have q_xF1 := Fw.cell (box_cell q_x 1 rfl)
          have q_tF0 := Fw.cell (box_cell q_t 0 rfl)
          have q_tF1 := Fw.cell (box_cell q_t 1 rfl)
          have q_tF2 := Fw.cell (box_cell q_t 2 rfl)
          have q_tF3 := Fw.cell (box_cell q_t 3 rfl)
          refine region_quiet (by kernel_rfl) (by kernel_rfl) ?_
          repeat (go_big_quiet_step ((first | (go_at_call 121; exact quiet_of (A1.out _)))))
          refine wpQuiet_nil ?_; intro w3 hb3; replace q_s := box_on q_s rfl hb3; replace q_x := box_on q_x rfl hb3; replace q_t := box_on q_t rfl hb3; have hw3 := nxt hn1 hb3; clear q_sF0 q_xF0 q_xF1 q_tF0 q_tF1 q_tF2 q_tF3 p_0 c_T
          have hQ8 := blk_on hQt hb3; have c_8 : w3.cell? ⟨w.heap.size + 1 + 1 + 1, 0, none⟩ = some (.int .i64 0) := blk_cells hQ8 0; have f_8 := blk_free hQ8; have hu8 := huT.call hb3; clear A1
          go_wp2_with fail
          go_roundw
          case rel => exact ⟨k1 + 1, hlt1, by go_num, by rw [hcs.out]; exact hQ8, hu8⟩
          case measure => simp [intOf]; omega
    · obtain rfl : k1 = s.tables.length := by omega
      clear hel_s hel_x
      go_wp2_with fail
      go_ret
      exact ⟨rfl, hwl1⟩
set_option maxHeartbeats 2000000 in
theorem clo_StoreOK {w : World} {m_s : Nat} {bs_s : List Nat} {cs_s : List Value} {s : Schema} {m_x : Nat} {bs_x : List Nat} {cs_x : List Value} {x : Store} {m_i : Nat} {i : Int} {bs_r : List Nat} {cs_r : List Value} {r : Row} (H_r : RowR w bs_r cs_r r) (H_s : SchemaR w bs_s cs_s s) (q_s : ∀ j, w.cell? ⟨m_s, j, none⟩ = cs_s.toArray[j]?) (H_x : StoreR w bs_x cs_x x) (q_x : ∀ j, w.cell? ⟨m_x, j, none⟩ = cs_x.toArray[j]?) (q_i : ∀ j, w.cell? ⟨m_i, j, none⟩ = (#[.int .i64 i] : Array Value)[j]?) {n : Nat} (hi : i = (n : Int)) (hok : storeFit s x = true) :
    Calls Tryz.prog 78 #[.agg cs_r.toArray, .pointer (some ⟨m_s, 0, none⟩), .pointer (some ⟨m_x, 0, none⟩), .pointer (some ⟨m_i, 0, none⟩)] w (fun e w' => e = .returned (.bool (!heldRow s x n r)) ∧ Below w.heap.size w w') := by
  have H0_r := H_r
  obtain ⟨r_v1, r_b1, rfl, rfl, hf_r, r_r1⟩ := H_r
  obtain ⟨A_r1, c_r1, rfl, hlc_r1, hcm_r1, hel_r1⟩ := r_r1.use
  have hbx := ((Below.refl w.heap.size w).alloc (Nat.le_refl _) (.cells #[.int .i64 r.id, .slice A_r1 r.cells.length c_r1] 41))
  have q_r := blk_cells (blk_new w #[.int .i64 r.id, .slice A_r1 r.cells.length c_r1] 41)
  have H0_s := H_s
  obtain ⟨s_v0, s_b0, rfl, rfl, hf_s, s_r0⟩ := H_s
  obtain ⟨A_s0, c_s0, rfl, _, _, _⟩ := s_r0.use
  replace q_s := box_on q_s rfl hbx
  have H0_x := H_x
  obtain ⟨x_v0, x_b0, rfl, rfl, hf_x, x_r0⟩ := H_x
  obtain ⟨A_x0, c_x0, rfl, _, _, _⟩ := x_r0.use
  replace q_x := box_on q_x rfl hbx
  replace q_i := box_on q_i rfl hbx
  subst hi; have HO := hide hok; clear hok hel_r1
  have hhr : Hid ((!heldRow s x n r) = (eachF s x (strongStep n r.id) s.tables.length 0 == 0)) := by show _ = _; unfold heldRow; rw [Bool.not_not]
  rw [hhr.out]
  go_enter Tryz.func78, Tryz.ntmps78
  go_wp2_with fail
  refine (impl_strongCount (SchemaR.good.nxt hbx H0_s) (StoreR.good.nxt hbx H0_x) n r.id HO.out).mono ?_; rintro e w1 ⟨rfl, hb1⟩; replace q_r := box_on q_r rfl hb1; replace q_s := box_on q_s rfl hb1; replace q_x := box_on q_x rfl hb1; replace q_i := box_on q_i rfl hb1; have hw1 := nxt hbx hb1
  go_wp2_with fail
  go_ret
  exact ⟨rfl, hw1⟩
theorem any_held (l : List Row) (p : Row → Bool) : (l.any fun r => !p r) = !l.all p := by
  induction l with
  | nil => rfl
  | cons c l ih => simp only [List.any_cons, List.all_cons, ih, Bool.not_and]
theorem heldAt_at {s : Schema} {x : Store} {i : Nat} (hs : i < s.tables.length) (hx : i < x.tables.length) : heldAt s x i = (s.tables[i].root || x.tables[i].all (heldRow s x i)) := by unfold heldAt; rw [tabAt_at hs, rowsAt_at hx]
set_option maxHeartbeats 8000000 in
theorem impl_StoreOK {w : World}  {bs_s : List Nat} {cs_s : List Value} {s : Schema} (H_s : SchemaR w bs_s cs_s s) {bs_x : List Nat} {cs_x : List Value} {x : Store} (H_x : StoreR w bs_x cs_x x)  :
    Calls Tryz.prog 27 #[.agg cs_s.toArray, .agg cs_x.toArray] w (fun e w' => e = .returned (.bool (storeB s x)) ∧ Below w.heap.size w w') := by
  have H0_s := H_s
  obtain ⟨s_v0, s_b0, rfl, rfl, hf_s, s_r0⟩ := H_s
  obtain ⟨A_s0, c_s0, rfl, hlc_s0, hcm_s0, hel_s0⟩ := s_r0.use
  have H0_x := H_x
  obtain ⟨x_v0, x_b0, rfl, rfl, hf_x, x_r0⟩ := H_x
  obtain ⟨A_x0, c_x0, rfl, hlc_x0, hcm_x0, hel_x0⟩ := x_r0.use
  have hbx := (((Below.refl w.heap.size w).alloc (Nat.le_refl _) (.cells #[.slice A_s0 s.tables.length c_s0] 61)).alloc (by simp; try omega) (.cells #[.slice A_x0 x.tables.length c_x0, .int .i64 x.next] 65))
  obtain ⟨q_s, q_x⟩ := two_at (Below.refl ((w.alloc (.cells #[.slice A_s0 s.tables.length c_s0] 61)).alloc (.cells #[.slice A_x0 x.tables.length c_x0, .int .i64 x.next] 65)).heap.size _)
  go_enter Tryz.func27, Tryz.ntmps27
  go_wp2_with fail
  refine (impl_storeFits (SchemaR.good.nxt hbx H0_s) (StoreR.good.nxt hbx H0_x)).mono ?_; rintro e w1 ⟨rfl, hb1⟩; replace q_s := box_on q_s rfl hb1; replace q_x := box_on q_x rfl hb1; have hw1 := nxt hbx hb1
  cases h1 : storeFit s x
  · have hr : Hid (storeB s x = false) := by show _ = _; unfold storeB; rw [h1, Bool.false_and]
    clear hel_s0 hel_x0
    go_wp2_with fail
    go_ret
    exact ⟨ret_bool (by rw [hr.out] <;> rfl), hw1⟩
  have HO := hide h1; clear h1; have HL := hide (storeIn_len (storeFit_in HO.out))
  go_wp2_with fail
  refine (impl_sharesIds (StoreR.good.nxt hw1 H0_x) (fun i hi => store_rise HO.out hi)).mono ?_; rintro e w2 ⟨rfl, hb2⟩; replace q_s := box_on q_s rfl hb2; replace q_x := box_on q_x rfl hb2; have hw2 := nxt hw1 hb2
  cases h2 : onceB x
  · have hr : Hid (storeB s x = false) := by show _ = _; unfold storeB; rw [h2, Bool.false_and, Bool.and_false]
    clear hel_s0 hel_x0
    go_wp2_with fail
    go_ret
    exact ⟨ret_bool (by rw [hr.out] <;> rfl), hw2⟩
  have H2 := hide h2; clear h2
  go_wp2_with fail
  refine (impl_commitCode (SchemaR.good.nxt hw2 H0_s) (StoreR.good.nxt hw2 H0_x) HO.out).mono ?_; rintro e w3 ⟨rfl, hb3⟩; replace q_s := box_on q_s rfl hb3; replace q_x := box_on q_x rfl hb3; have hw3 := nxt hw2 hb3
  have hce : Hid ((commitI s x s.tables.length == 0) = (refsS s x && uniqB s x)) := by show _ = _; rw [← HL.out]; exact commit_eq s x
  have hbd := commitI_bd s x s.tables.length
  cases h3 : (commitI s x s.tables.length == 0)
  · have h4 : (commitI s x s.tables.length != 0) = true := by unfold bne; rw [h3]; rfl
    have hr : Hid (storeB s x = false) := by show _ = _; unfold storeB; rw [← Bool.and_assoc (refsS s x), ← hce.out, h3, Bool.false_and, Bool.and_false, Bool.and_false]
    clear hel_s0 hel_x0
    go_wp2_with fail
    go_ret
    exact ⟨ret_bool (by rw [hr.out] <;> rfl), hw3⟩
  have h4 : (commitI s x s.tables.length != 0) = false := by unfold bne; rw [h3]; rfl
  have hr : Hid (storeB s x = upTo (heldAt s x) s.tables.length) := by show _ = _; unfold storeB heldB; rw [HO.out, H2.out, ← Bool.and_assoc (refsS s x), ← hce.out, h3, Bool.true_and, Bool.true_and, Bool.true_and, HL.out]
  clear h3 hce hbd
  go_wp2_with fail
  clear h4
  go_loopw [24] (fun i wr => ∃ k : Nat, k ≤ s.tables.length ∧ i = .int .i64 k ∧ Hid (upTo (heldAt s x) k = true) ∧ Below (World.heap (w3)).size (w3) wr) (fun i _ => s.tables.length - (intOf i).toNat)
  case atStart => exact ⟨0, Nat.zero_le _, rfl, upTo_zero _, Below.refl _ _⟩
  case round =>
    obtain ⟨k1, hk1, rfl, hn1_, hb1001⟩ := hrel
    obtain ⟨wl1, rfl⟩ : ∃ w' : World, w' = wr := ⟨_, rfl⟩
    replace q_s := box_on q_s rfl hb1001
    replace q_x := box_on q_x rfl hb1001
    have hwl1 := nxt hw3 hb1001
    by_cases hlt1 : k1 < s.tables.length
    · have hkx : k1 < x.tables.length := by have := HL.out; omega
      have hhe := hide (heldAt_at hlt1 hkx)
      obtain ⟨tb, to, tbk, tes, rfl, thbl, thcl, thcell, tR, thbk⟩ := hel_s0 k1 hlt1
      have tR0 := tR
      obtain ⟨tv1, tb1, tv2, tb2, _, thes, thf, tr1, tr2⟩ := tR
      subst thes
      obtain ⟨tA1, tc1, rfl, thlc1, thcm1, thel1⟩ := tr1.use
      obtain ⟨tA2, tc2, rfl, thlc2, thcm2, thel2⟩ := tr2.use
      have t_0 := (hwl1.cell (p := ⟨tb, _, none⟩) thbl).trans (thcell 0 _ rfl)
      have t_1 := (hwl1.cell (p := ⟨tb, _, none⟩) thbl).trans (thcell 1 _ rfl)
      have t_2 := (hwl1.cell (p := ⟨tb, _, none⟩) thbl).trans (thcell 2 _ rfl)
      have t_3 := (hwl1.cell (p := ⟨tb, _, none⟩) thbl).trans (thcell 3 _ rfl)
      simp only [Nat.add_zero] at t_0 t_1 t_2 t_3
      obtain ⟨rt, hrt⟩ : ∃ rt, Hid (rt = s.tables[k1].root) := ⟨_, hide rfl⟩; rw [← hrt.out] at t_3 hhe; clear hrt
      have q_s9 := q_s; have q_x9 := q_x
      replace q_s := box_on q_s rfl ((Below.refl (World.heap (wl1)).size (wl1)).alloc (Nat.le_refl _) (.cells #[.int .i64 k1] 3))
      replace q_x := box_on q_x rfl ((Below.refl (World.heap (wl1)).size (wl1)).alloc (Nat.le_refl _) (.cells #[.int .i64 k1] 3))
      have q_i := blk_cells (blk_new (wl1) #[.int .i64 k1] 3)
      have hn1 := (hwl1).alloc (hwl1).size (.cells #[.int .i64 k1] 3)
      have hc1_0 := (hb1001).alloc (hb1001).size (.cells #[.int .i64 k1] 3)
      replace q_s := box_on q_s rfl ((Below.refl (World.heap (((wl1).alloc (.cells #[.int .i64 k1] 3)))).size (((wl1).alloc (.cells #[.int .i64 k1] 3)))).alloc (Nat.le_refl _) (.cells #[.string s.tables[k1].name, .slice tA1 s.tables[k1].columns.length tc1, .slice tA2 s.tables[k1].unique.length tc2, .bool rt] 37))
      replace q_x := box_on q_x rfl ((Below.refl (World.heap (((wl1).alloc (.cells #[.int .i64 k1] 3)))).size (((wl1).alloc (.cells #[.int .i64 k1] 3)))).alloc (Nat.le_refl _) (.cells #[.string s.tables[k1].name, .slice tA1 s.tables[k1].columns.length tc1, .slice tA2 s.tables[k1].unique.length tc2, .bool rt] 37))
      replace q_i := box_on q_i rfl ((Below.refl (World.heap (((wl1).alloc (.cells #[.int .i64 k1] 3)))).size (((wl1).alloc (.cells #[.int .i64 k1] 3)))).alloc (Nat.le_refl _) (.cells #[.string s.tables[k1].name, .slice tA1 s.tables[k1].columns.length tc1, .slice tA2 s.tables[k1].unique.length tc2, .bool rt] 37))
      have q_t := blk_cells (blk_new (((wl1).alloc (.cells #[.int .i64 k1] 3))) #[.string s.tables[k1].name, .slice tA1 s.tables[k1].columns.length tc1, .slice tA2 s.tables[k1].unique.length tc2, .bool rt] 37)
      have hn2 := (hn1).alloc (hn1).size (.cells #[.string s.tables[k1].name, .slice tA1 s.tables[k1].columns.length tc1, .slice tA2 s.tables[k1].unique.length tc2, .bool rt] 37)
      have hc2_0 := (hc1_0).alloc (hc1_0).size (.cells #[.string s.tables[k1].name, .slice tA1 s.tables[k1].columns.length tc1, .slice tA2 s.tables[k1].unique.length tc2, .bool rt] 37)
      obtain ⟨pb, po, pbk, pes, rfl, phbl, phcl, phcell, pR, phbk⟩ := hel_x0 k1 hkx
      obtain ⟨pA, pc, phlc, rfl⟩ : ∃ A0 c0, x.tables[k1].length ≤ c0 ∧ pes = [.slice A0 x.tables[k1].length c0] := by obtain ⟨A0, c0, h, h2, _⟩ := pR; exact ⟨A0, c0, h2, h⟩
      have p_0 := (hn2.cell (p := ⟨pb, _, none⟩) phbl).trans (phcell 0 _ rfl)
      simp only [Nat.add_zero, Nat.mul_one] at p_0
      clear thel1 thel2
      cases rt
      · go_wp2_with fail
        refine (slices_ContainsFuncRowS (RowSR.good.nxt hn2 pR) (fun r => !heldRow s x k1 r) 78 #[.pointer (some ⟨w.heap.size, 0, none⟩), .pointer (some ⟨w.heap.size + 1, 0, none⟩), .pointer (some ⟨wl1.heap.size, 0, none⟩)] (enters_of Tryz.func78 (by kernel_rfl) rfl) (fun k hk bk es hR W hW => clo_StoreOK (RowR.good.nxt hW hR) (SchemaR.good.nxt (nxt hn2 hW) H0_s) (box_on q_s rfl hW) (StoreR.good.nxt (nxt hn2 hW) H0_x) (box_on q_x rfl hW) (box_on q_i rfl hW) rfl HO.out)).mono ?_; rw [any_held]; rintro e w4 ⟨rfl, hb4⟩; replace q_s := box_on q_s rfl hb4; replace q_x := box_on q_x rfl hb4; replace q_i := box_on q_i rfl hb4; replace q_t := box_on q_t rfl hb4; have hw4 := nxt hn2 hb4; have hl0_4 := nxt hc2_0 hb4
        cases h6 : x.tables[k1].all (heldRow s x k1)
        · have hbad : Hid (storeB s x = false) := by show _ = _; rw [hr.out]; exact upTo_bad hlt1 (by rw [hhe.out, h6]; rfl)
          clear hel_s0 hel_x0
          go_wp2_with fail
          go_ret
          exact ⟨ret_bool (by rw [hbad.out] <;> rfl), hw4⟩
        · have hn2 : Hid (upTo (heldAt s x) (k1 + 1) = true) := by show _ = _; rw [upTo_succ, hn1_.out, hhe.out, h6]; rfl
          go_wp2_with fail
          go_roundw
          case rel => exact ⟨k1 + 1, hlt1, by go_num, hn2, hl0_4⟩
          case measure => simp [intOf]; omega
      · have hn2 : Hid (upTo (heldAt s x) (k1 + 1) = true) := by show _ = _; rw [upTo_succ, hn1_.out, hhe.out]; rfl
        go_wp2_with fail
        go_roundw
        case rel => exact ⟨k1 + 1, hlt1, by go_num, hn2, hc2_0⟩
        case measure => simp [intOf]; omega
    · obtain rfl : k1 = s.tables.length := by omega
      have hok : Hid (storeB s x = true) := by show _ = _; rw [hr.out]; exact hn1_.out
      clear hel_s0 hel_x0
      go_wp2
      go_ret
      exact ⟨ret_bool (by rw [hok.out] <;> rfl), hwl1⟩
end Go.Proofs.YthbebbnidgeaeaaGreat
