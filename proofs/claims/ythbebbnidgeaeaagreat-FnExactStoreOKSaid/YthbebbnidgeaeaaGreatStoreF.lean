/- A store that fits a schema. No statement is proved here; no conditions. Written by a program (gen29.py). -/
import Derived.Test.YthbebbnidgeaeaaGreatRise
import Derived.Test.YthbebbnidgeaeaaGreatSchemas
import Derived.Test.YthbebbnidgeaeaaGreatFitRow
import Derived.Test.YthbebbnidgeaeaaGreatResult
import Derived.Shelf.Abstract
namespace Go.Proofs.YthbebbnidgeaeaaGreat
open Go.ChangeShapes Go.WideShapes Go.ChangeAt Go.RowKit Go.Deep
set_option maxRecDepth 100000
set_option linter.unusedVariables false
set_option linter.unusedSimpArgs false

def fitRow (n : Int) (t : Table) (r : Row) : Bool := inB r.id 1 (n - 1) && cellsIn t r
def fitRows (n : Int) (t : Table) (l : List Row) : Bool := decide (l.length ≤ 12) && (rising l && l.all (fitRow n t))
def tabStep (s : Schema) (x : Store) (i : Nat) : Bool := fitRows x.next (s.tables.getD i default) (x.tables.getD i default)
def storeIn (s : Schema) (x : Store) : Bool := decide (x.tables.length = s.tables.length) && (inB x.next 1 1000000 && upTo (tabStep s x) x.tables.length)
def storeFit (s : Schema) (x : Store) : Bool := schOK s && storeIn s x
def formStep (n : Int) (t : Table) (l : List Row) (k : Nat) : Bool := rowIn t (l.getD k default) && (decide ((l.getD k default).id < n) && stepUp l k)
def formRows (n : Int) (t : Table) (l : List Row) : Bool := decide (l.length ≤ 12) && upTo (formStep n t l) l.length
theorem upTo_and (f g : Nat → Bool) (n : Nat) : upTo (fun k => f k && g k) n = (upTo f n && upTo g n) := by
  unfold upTo
  induction n with
  | zero => rfl
  | succ n ih => rw [List.range_succ, List.all_append, List.all_append, List.all_append, ih]; simp only [List.all_cons, List.all_nil, Bool.and_true]; cases List.all (List.range n) f <;> cases List.all (List.range n) g <;> cases f n <;> cases g n <;> rfl
theorem all_upTo (p : Row → Bool) (l : List Row) : upTo (fun k => p (l.getD k default)) l.length = l.all p := by
  cases h : l.all p
  · rw [List.all_eq_false] at h
    obtain ⟨x, hx, hp⟩ := h
    obtain ⟨j, hj, rfl⟩ := List.getElem_of_mem hx
    exact upTo_bad hj (by rw [get_at l j hj]; simpa using hp)
  · exact upTo_iff.2 fun k hk => by rw [get_at l k hk]; exact List.all_eq_true.1 h _ (List.getElem_mem hk)
theorem formRows_eq {n : Int} (hn : n ≤ 1000000) (t : Table) (l : List Row) : formRows n t l = fitRows n t l := by
  unfold formRows fitRows
  have e : upTo (formStep n t l) l.length = (upTo (fun k => fitRow n t (l.getD k default)) l.length && upTo (stepUp l) l.length) := by
    rw [← upTo_and]; congr 1; funext k
    unfold formStep rowIn fitRow
    have : (inB (l.getD k default).id 1 1000000 && decide ((l.getD k default).id < n)) = inB (l.getD k default).id 1 (n - 1) := by
      cases h : inB (l.getD k default).id 1 (n - 1)
      · unfold inB at *; simp at *; omega
      · have := inB_iff.1 h; rw [inB_t (by omega) (by omega), decide_eq_true (by omega)]; rfl
    rw [← this]
    cases inB (l.getD k default).id 1 1000000 <;> cases cellsIn t (l.getD k default) <;> cases decide ((l.getD k default).id < n) <;> cases stepUp l k <;> rfl
  rw [e, all_upTo]; unfold rising
  cases decide (l.length ≤ 12) <;> cases upTo (stepUp l) l.length <;> cases l.all (fitRow n t) <;> rfl
theorem tabStep_at {s : Schema} {x : Store} {k : Nat} (h1 : k < s.tables.length) (h2 : k < x.tables.length) : tabStep s x k = fitRows x.next s.tables[k] x.tables[k] := by unfold tabStep; rw [get_at _ k h1, get_at _ k h2]
theorem storeFit_sch {s : Schema} {x : Store} (h : storeFit s x = true) : schOK s = true := by unfold storeFit at h; rw [Bool.and_eq_true] at h; exact h.1
theorem storeFit_in {s : Schema} {x : Store} (h : storeFit s x = true) : storeIn s x = true := by unfold storeFit at h; rw [Bool.and_eq_true] at h; exact h.2
theorem storeIn_len {s : Schema} {x : Store} (h : storeIn s x = true) : x.tables.length = s.tables.length := by unfold storeIn at h; rw [Bool.and_eq_true] at h; exact of_decide_eq_true h.1
theorem storeIn_at {s : Schema} {x : Store} (h : storeIn s x = true) {k : Nat} (h1 : k < s.tables.length) (h2 : k < x.tables.length) : fitRows x.next s.tables[k] x.tables[k] = true := by
  unfold storeIn at h; rw [Bool.and_eq_true, Bool.and_eq_true] at h; rw [← tabStep_at h1 h2]; exact upTo_at h.2.2 h2
theorem fitRows_rise {n : Int} {t : Table} {l : List Row} (h : fitRows n t l = true) : rising l = true := by unfold fitRows at h; rw [Bool.and_eq_true, Bool.and_eq_true] at h; exact h.2.1
theorem fitRows_len {n : Int} {t : Table} {l : List Row} (h : fitRows n t l = true) : l.length ≤ 12 := by unfold fitRows at h; rw [Bool.and_eq_true] at h; exact of_decide_eq_true h.1
theorem fitRows_row {n : Int} {t : Table} {l : List Row} (h : fitRows n t l = true) {k : Nat} (hk : k < l.length) : fitRow n t l[k] = true := by unfold fitRows at h; rw [Bool.and_eq_true, Bool.and_eq_true] at h; exact List.all_eq_true.1 h.2.2 _ (List.getElem_mem hk)
theorem fitRow_cells {n : Int} {t : Table} {r : Row} (h : fitRow n t r = true) : cellsIn t r = true := by unfold fitRow at h; rw [Bool.and_eq_true] at h; exact h.2
theorem cellsIn_len {t : Table} {r : Row} (h : cellsIn t r = true) : r.cells.length = t.columns.length := by unfold cellsIn at h; rw [Bool.and_eq_true] at h; exact of_decide_eq_true h.1
set_option maxHeartbeats 8000000 in
theorem impl_storeFits {w : World}  {bs_s : List Nat} {cs_s : List Value} {s : Schema} (H_s : SchemaR w bs_s cs_s s) {bs_x : List Nat} {cs_x : List Value} {x : Store} (H_x : StoreR w bs_x cs_x x)  :
    Calls Tryz.prog 65 #[.agg cs_s.toArray, .agg cs_x.toArray] w (fun e w' => e = .returned (.bool (storeFit s x)) ∧ Below w.heap.size w w') := by
  have H0_s := H_s
  obtain ⟨s_v0, s_b0, rfl, rfl, hf_s, s_r0⟩ := H_s
  obtain ⟨A_s0, c_s0, rfl, hlc_s0, hcm_s0, hel_s0⟩ := s_r0.use
  have H0_x := H_x
  obtain ⟨x_v0, x_b0, rfl, rfl, hf_x, x_r0⟩ := H_x
  obtain ⟨A_x0, c_x0, rfl, hlc_x0, hcm_x0, hel_x0⟩ := x_r0.use
  have hbx := (((Below.refl w.heap.size w).alloc (Nat.le_refl _) (.cells #[.slice A_s0 s.tables.length c_s0] 61)).alloc (by simp; try omega) (.cells #[.slice A_x0 x.tables.length c_x0, .int .i64 x.next] 65))
  obtain ⟨q_s, q_x⟩ := two_at (Below.refl ((w.alloc (.cells #[.slice A_s0 s.tables.length c_s0] 61)).alloc (.cells #[.slice A_x0 x.tables.length c_x0, .int .i64 x.next] 65)).heap.size _)
  go_enter Tryz.func65, Tryz.ntmps65
  go_wp2_with fail
  refine (impl_SchemaOK (SchemaR.good.nxt hbx H0_s)).mono ?_; rintro e w1 ⟨rfl, hb1⟩; replace q_s := box_on q_s rfl hb1; replace q_x := box_on q_x rfl hb1; have hw1 := nxt hbx hb1
  cases h1 : schOK s
  · clear hel_s0 hel_x0
    go_wp2_with fail
    go_ret
    exact ⟨ret_bool (by unfold storeFit; rw [h1]; rfl), hw1⟩
  have H1 := hide h1; clear h1
  by_cases hl : x.tables.length ≠ s.tables.length
  · have hne : ((x.tables.length : Int) != (s.tables.length : Int)) = true := by simp; omega
    have hr : Hid (storeFit s x = false) := by show _ = _; unfold storeFit storeIn; rw [H1.out, decide_eq_false hl]; rfl
    clear hl hel_s0 hel_x0
    go_wp2_with fail
    go_ret
    exact ⟨ret_bool (by rw [hr.out]), hw1⟩
  have hl := Decidable.not_not.1 hl; have HL := hide hl; have hne : ((x.tables.length : Int) != (s.tables.length : Int)) = false := by simp; omega
  clear hl
  go_wp2_with fail
  refine (impl_isId _ _).mono ?_; rintro e w2 ⟨rfl, rfl⟩
  cases h2 : inB x.next 1 1000000
  · have hr : Hid (storeFit s x = false) := by show _ = _; unfold storeFit storeIn; rw [H1.out, decide_eq_true HL.out, h2]; rfl
    clear hel_s0 hel_x0
    go_wp2_with fail
    go_ret
    exact ⟨ret_bool (by rw [hr.out]), hw1⟩
  have hr0 : Hid (storeFit s x = upTo (tabStep s x) x.tables.length) := by show _ = _; unfold storeFit storeIn; rw [H1.out, decide_eq_true HL.out, h2]; rfl
  have hnx := inB_iff.1 h2; clear h2
  go_wp2_with fail
  go_loopw [30] (fun i wr => ∃ k : Nat, k ≤ x.tables.length ∧ i = .int .i64 k ∧ Hid (upTo (tabStep s x) k = true) ∧ Below (World.heap (w1)).size (w1) wr) (fun i _ => x.tables.length - (intOf i).toNat)
  case atStart => exact ⟨0, Nat.zero_le _, rfl, upTo_zero _, Below.refl _ _⟩
  case round =>
    obtain ⟨k1, hk1, rfl, hn1_, hb1001⟩ := hrel
    obtain ⟨wl1, rfl⟩ : ∃ w' : World, w' = wr := ⟨_, rfl⟩
    replace q_s := box_on q_s rfl hb1001
    replace q_x := box_on q_x rfl hb1001
    have hwl1 := nxt hw1 hb1001
    by_cases hlt1 : k1 < x.tables.length
    · obtain ⟨pb, po, pbk, pes, rfl, phbl, phcl, phcell, pR, phbk⟩ := hel_x0 k1 hlt1
      obtain ⟨pA, pc, phlc, rfl⟩ : ∃ A0 c0, x.tables[k1].length ≤ c0 ∧ pes = [.slice A0 x.tables[k1].length c0] := by obtain ⟨A0, c0, h, h2, _⟩ := pR; exact ⟨A0, c0, h2, h⟩
      have p_0 := (hwl1.cell (p := ⟨pb, _, none⟩) phbl).trans (phcell 0 _ rfl)
      simp only [Nat.add_zero, Nat.mul_one] at p_0
      obtain ⟨pA', pc', hpv, _, _, pel⟩ := pR.use; injection hpv with e1 e2 e3; subst e1; clear e2 e3 hel_x0
      have hks : k1 < s.tables.length := by have := HL.out; omega
      have hts := hide (tabStep_at hks hlt1)
      by_cases h3 : ¬ x.tables[k1].length ≤ 12
      · have hd : decide ((12 : Int) < x.tables[k1].length) = true := decide_eq_true (by omega)
        have hr : Hid (storeFit s x = false) := by show _ = _; rw [hr0.out, upTo_bad hlt1 (hts.out.trans (by unfold fitRows; rw [decide_eq_false h3]; rfl))]
        clear h3 pel hel_s0
        go_wp2_with fail
        go_ret
        exact ⟨ret_bool (by rw [hr.out]), hwl1⟩
      have h3 := Decidable.not_not.1 h3; have hd : decide ((12 : Int) < x.tables[k1].length) = false := decide_eq_false (by omega)
      go_wp2_with fail
      refine (impl_areRising (RowSR.good.nxt hwl1 pR)).mono ?_; rintro e w3 ⟨rfl, hb3⟩; replace q_s := box_on q_s rfl hb3; replace q_x := box_on q_x rfl hb3; have hw3 := nxt hwl1 hb3; have hl0_3 := nxt hb1001 hb3
      cases h4 : rising x.tables[k1]
      · have hr : Hid (storeFit s x = false) := by show _ = _; rw [hr0.out, upTo_bad hlt1 (hts.out.trans (by unfold fitRows; rw [decide_eq_true h3, h4]; rfl))]
        clear pel hel_s0 h4
        go_wp2_with fail
        go_ret
        exact ⟨ret_bool (by rw [hr.out]), hw3⟩
      have hts2 : Hid (tabStep s x k1 = x.tables[k1].all (fitRow x.next s.tables[k1])) := by show _ = _; rw [hts.out]; unfold fitRows; rw [decide_eq_true h3, h4]; rfl
      clear h4 hd
      go_wp2_with fail
      go_loopw [45] (fun i wr => ∃ k : Nat, k ≤ x.tables[k1].length ∧ i = .int .i64 k ∧ Hid (∀ j (hj : j < x.tables[k1].length), j < k → fitRow x.next s.tables[k1] x.tables[k1][j] = true) ∧ Below (World.heap (w3)).size (w3) wr) (fun i _ => x.tables[k1].length - (intOf i).toNat)
      case atStart => exact ⟨0, Nat.zero_le _, rfl, all_zero, Below.refl _ _⟩
      case round =>
        obtain ⟨k2, hk2, rfl, hn2_, hb1002⟩ := hrel
        obtain ⟨wl2, rfl⟩ : ∃ w' : World, w' = wr := ⟨_, rfl⟩
        replace q_s := box_on q_s rfl hb1002
        replace q_x := box_on q_x rfl hb1002
        have hwl2 := nxt hw3 hb1002
        have hl0_1002 := nxt hl0_3 hb1002
        by_cases hlt2 : k2 < x.tables[k1].length
        · obtain ⟨gb, go, gbk, ges, rfl, ghbl, ghcl, ghcell, gR, ghbk⟩ := pel k2 hlt2
          have gR0 := gR
          obtain ⟨gv1, gb1, _, ghes, ghf, gr1⟩ := gR
          subst ghes
          obtain ⟨gA1, gc1, rfl, ghlc1, ghcm1, ghel1⟩ := gr1.use
          have g_0 := (hwl2.cell (p := ⟨gb, _, none⟩) ghbl).trans (ghcell 0 _ rfl)
          have g_1 := (hwl2.cell (p := ⟨gb, _, none⟩) ghbl).trans (ghcell 1 _ rfl)
          simp only [Nat.add_zero] at g_0 g_1
          clear ghcell ghcl
          go_wp2_with fail
          replace q_s := box_on q_s rfl ((Below.refl (World.heap (wl2)).size (wl2)).alloc (Nat.le_refl _) (.cells #[.int .i64 x.tables[k1][k2].id, .slice gA1 x.tables[k1][k2].cells.length gc1] 41))
          replace q_x := box_on q_x rfl ((Below.refl (World.heap (wl2)).size (wl2)).alloc (Nat.le_refl _) (.cells #[.int .i64 x.tables[k1][k2].id, .slice gA1 x.tables[k1][k2].cells.length gc1] 41))
          have q_v1 := blk_cells (blk_new (wl2) #[.int .i64 x.tables[k1][k2].id, .slice gA1 x.tables[k1][k2].cells.length gc1] 41)
          have hn1 := (hwl2).alloc (hwl2).size (.cells #[.int .i64 x.tables[k1][k2].id, .slice gA1 x.tables[k1][k2].cells.length gc1] 41)
          have hc1_0 := (hl0_1002).alloc (hl0_1002).size (.cells #[.int .i64 x.tables[k1][k2].id, .slice gA1 x.tables[k1][k2].cells.length gc1] 41)
          have hc1_1 := (hb1002).alloc (hb1002).size (.cells #[.int .i64 x.tables[k1][k2].id, .slice gA1 x.tables[k1][k2].cells.length gc1] 41)
          clear pel g_0 g_1
          obtain ⟨tb, to, tbk, tes, rfl, thbl, thcl, thcell, tR, thbk⟩ := hel_s0 k1 hks
          have tR0 := tR
          obtain ⟨tv1, tb1, tv2, tb2, _, thes, thf, tr1, tr2⟩ := tR
          subst thes
          obtain ⟨tA1, tc1, rfl, thlc1, thcm1, thel1⟩ := tr1.use
          obtain ⟨tA2, tc2, rfl, thlc2, thcm2, thel2⟩ := tr2.use
          have t_0 := Fw.cell ((hn1.cell (p := ⟨tb, _, none⟩) thbl).trans (thcell 0 _ rfl))
          have t_1 := Fw.cell ((hn1.cell (p := ⟨tb, _, none⟩) thbl).trans (thcell 1 _ rfl))
          have t_2 := Fw.cell ((hn1.cell (p := ⟨tb, _, none⟩) thbl).trans (thcell 2 _ rfl))
          have t_3 := Fw.cell ((hn1.cell (p := ⟨tb, _, none⟩) thbl).trans (thcell 3 _ rfl))
          simp only [Nat.add_zero] at t_0 t_1 t_2 t_3
          clear thcell thcl
          clear hel_s0
          have A0 := hide (fun (i : Fw ((wl2).alloc (.cells #[.int .i64 x.tables[k1][k2].id, .slice gA1 x.tables[k1][k2].cells.length gc1] 41))) => impl_within x.tables[k1][k2].id 1 (x.next - 1) i.W)
          have A1 := hide (fun (i : Fw ((wl2).alloc (.cells #[.int .i64 x.tables[k1][k2].id, .slice gA1 x.tables[k1][k2].cells.length gc1] 41))) => impl_cellsOK (TableR.good.nxt (nxt hn1 i.h) tR0) (RowR.good.nxt (nxt hn1 i.h) gR0))
          cases h5 : inB x.tables[k1][k2].id 1 (x.next - 1)
          · have hr : Hid (storeFit s x = false) := by show _ = _; rw [hr0.out, upTo_bad hlt1 (hts2.out.trans (all_false hlt2 (by unfold fitRow; rw [h5]; rfl)))]
            rw [h5] at A0; clear h5
            have q_sF0 := Fw.cell (box_cell q_s 0 rfl)
            have q_xF0 := Fw.cell (box_cell q_x 0 rfl)
            have q_xF1 := Fw.cell (box_cell q_x 1 rfl)
            have q_v1F0 := Fw.cell (box_cell q_v1 0 rfl)
            have q_v1F1 := Fw.cell (box_cell q_v1 1 rfl)
            refine region_quiet (by kernel_rfl) (by kernel_rfl) ?_
            repeat (go_big_quiet_step ((first | (go_at_call 66; exact quiet_of_eq (A0.out _)) | (go_at_call 99; exact quiet_of (A1.out _)))))
            refine wpQuiet_nil ?_; intro w4 hb4; replace q_s := box_on q_s rfl hb4; replace q_x := box_on q_x rfl hb4; replace q_v1 := box_on q_v1 rfl hb4; have hw4 := nxt hn1 hb4; have hl0_4 := nxt hc1_0 hb4; have hl1_4 := nxt hc1_1 hb4; clear q_sF0 q_xF0 q_xF1 q_v1F0 q_v1F1 t_0 t_1 t_2 t_3
            go_wp2_with fail
            go_ret
            exact ⟨ret_bool (by rw [hr.out]), hw4⟩
          cases h6 : cellsIn s.tables[k1] x.tables[k1][k2]
          · have hr : Hid (storeFit s x = false) := by show _ = _; rw [hr0.out, upTo_bad hlt1 (hts2.out.trans (all_false hlt2 (by unfold fitRow; rw [h5, h6]; rfl)))]
            rw [h5] at A0; rw [h6] at A1; clear h5 h6
            have q_sF0 := Fw.cell (box_cell q_s 0 rfl)
            have q_xF0 := Fw.cell (box_cell q_x 0 rfl)
            have q_xF1 := Fw.cell (box_cell q_x 1 rfl)
            have q_v1F0 := Fw.cell (box_cell q_v1 0 rfl)
            have q_v1F1 := Fw.cell (box_cell q_v1 1 rfl)
            refine region_quiet (by kernel_rfl) (by kernel_rfl) ?_
            repeat (go_big_quiet_step ((first | (go_at_call 66; exact quiet_of_eq (A0.out _)) | (go_at_call 99; exact quiet_of (A1.out _)))))
            refine wpQuiet_nil ?_; intro w5 hb5; replace q_s := box_on q_s rfl hb5; replace q_x := box_on q_x rfl hb5; replace q_v1 := box_on q_v1 rfl hb5; have hw5 := nxt hn1 hb5; have hl0_5 := nxt hc1_0 hb5; have hl1_5 := nxt hc1_1 hb5; clear q_sF0 q_xF0 q_xF1 q_v1F0 q_v1F1 t_0 t_1 t_2 t_3
            go_wp2_with fail
            go_ret
            exact ⟨ret_bool (by rw [hr.out]), hw5⟩
          have hn3 := hide (all_step (p := fitRow x.next s.tables[k1]) hlt2 hn2_.out (by unfold fitRow; rw [h5, h6]; rfl)); rw [h5] at A0; rw [h6] at A1; clear h5 h6
          have q_sF0 := Fw.cell (box_cell q_s 0 rfl)
          have q_xF0 := Fw.cell (box_cell q_x 0 rfl)
          have q_xF1 := Fw.cell (box_cell q_x 1 rfl)
          have q_v1F0 := Fw.cell (box_cell q_v1 0 rfl)
          have q_v1F1 := Fw.cell (box_cell q_v1 1 rfl)
          refine region_quiet (by kernel_rfl) (by kernel_rfl) ?_
          repeat (go_big_quiet_step ((first | (go_at_call 66; exact quiet_of_eq (A0.out _)) | (go_at_call 99; exact quiet_of (A1.out _)))))
          refine wpQuiet_nil ?_; intro w6 hb6; replace q_s := box_on q_s rfl hb6; replace q_x := box_on q_x rfl hb6; replace q_v1 := box_on q_v1 rfl hb6; have hw6 := nxt hn1 hb6; have hl0_6 := nxt hc1_0 hb6; have hl1_6 := nxt hc1_1 hb6; clear q_sF0 q_xF0 q_xF1 q_v1F0 q_v1F1 t_0 t_1 t_2 t_3
          go_wp2_with fail
          go_roundw
          case rel => exact ⟨k2 + 1, hlt2, by go_num, hn3, hl1_6⟩
          case measure => simp [intOf]; omega
        · obtain rfl : k2 = x.tables[k1].length := by omega
          have hn4 : Hid (upTo (tabStep s x) (k1 + 1) = true) := by show _ = _; rw [upTo_succ, hn1_.out, hts2.out, all_true hn2_.out]; rfl
          clear pel hel_s0
          go_wp2_with fail
          go_roundw
          case rel => exact ⟨k1 + 1, hlt1, by go_num, hn4, hl0_1002⟩
          case measure => simp [intOf]; omega
    · obtain rfl : k1 = x.tables.length := by omega
      have hr := hide (hr0.out.trans hn1_.out); clear hel_x0 hel_s0
      go_wp2
      go_ret
      exact ⟨ret_bool (by rw [hr.out]), hwl1⟩
def formIn (s : Schema) (x : Store) : Bool := decide (x.tables.length = s.tables.length) && (inB x.next 1 1000000 && upTo (fun i => formRows x.next (s.tables.getD i default) (x.tables.getD i default)) x.tables.length)
theorem formIn_eq (s : Schema) (x : Store) : formIn s x = storeIn s x := by
  unfold formIn storeIn
  cases h : inB x.next 1 1000000
  · rfl
  · have hn := inB_iff.1 h
    have : (fun i => formRows x.next (s.tables.getD i default) (x.tables.getD i default)) = tabStep s x := by funext i; exact formRows_eq hn.2 _ _
    rw [this]
theorem formIn_at {s : Schema} {x : Store} {k : Nat} (h1 : k < s.tables.length) (h2 : k < x.tables.length) : (fun i => formRows x.next (s.tables.getD i default) (x.tables.getD i default)) k = formRows x.next s.tables[k] x.tables[k] := by show formRows _ _ _ = _; rw [get_at _ k h1, get_at _ k h2]
theorem formStep_at {n : Int} {t : Table} {l : List Row} {k : Nat} (h : k < l.length) : formStep n t l k = (rowIn t l[k] && (decide (l[k].id < n) && stepUp l k)) := by unfold formStep; rw [get_at _ k h]
set_option maxHeartbeats 8000000 in
theorem spec_l05Form {w : World}  {bs_s : List Nat} {cs_s : List Value} {s : Schema} (H_s : SchemaR w bs_s cs_s s) {bs_x : List Nat} {cs_x : List Value} {x : Store} (H_x : StoreR w bs_x cs_x x)  :
    Calls Tryz.prog 59 #[.agg cs_s.toArray, .agg cs_x.toArray] w (fun e w' => e = .returned (.bool (formIn s x)) ∧ Below w.heap.size w w') := by
  have H0_s := H_s
  obtain ⟨s_v0, s_b0, rfl, rfl, hf_s, s_r0⟩ := H_s
  obtain ⟨A_s0, c_s0, rfl, hlc_s0, hcm_s0, hel_s0⟩ := s_r0.use
  have H0_x := H_x
  obtain ⟨x_v0, x_b0, rfl, rfl, hf_x, x_r0⟩ := H_x
  obtain ⟨A_x0, c_x0, rfl, hlc_x0, hcm_x0, hel_x0⟩ := x_r0.use
  have hbx := (((Below.refl w.heap.size w).alloc (Nat.le_refl _) (.cells #[.slice A_s0 s.tables.length c_s0] 61)).alloc (by simp; try omega) (.cells #[.slice A_x0 x.tables.length c_x0, .int .i64 x.next] 65))
  obtain ⟨q_s, q_x⟩ := two_at (Below.refl ((w.alloc (.cells #[.slice A_s0 s.tables.length c_s0] 61)).alloc (.cells #[.slice A_x0 x.tables.length c_x0, .int .i64 x.next] 65)).heap.size _)
  by_cases hl : x.tables.length ≠ s.tables.length
  · have hne : ((x.tables.length : Int) != (s.tables.length : Int)) = true := by simp; omega
    have hr : Hid (formIn s x = false) := by show _ = _; unfold formIn; rw [decide_eq_false hl]; rfl
    clear hl
    clear hel_s0 hel_x0
    go_enter Tryz.func59, Tryz.ntmps59
    go_wp2_with fail
    go_ret
    exact ⟨ret_bool (by rw [hr.out]), hbx⟩
  have hl := Decidable.not_not.1 hl; have HL := hide hl; have hne : ((x.tables.length : Int) != (s.tables.length : Int)) = false := by simp; omega
  clear hl
  go_enter Tryz.func59, Tryz.ntmps59
  go_wp2_with fail
  refine (spec_l01In _ _ _ _).mono ?_; rintro e w1 ⟨rfl, rfl⟩
  cases h2 : inB x.next 1 1000000
  · have hr : Hid (formIn s x = false) := by show _ = _; unfold formIn; rw [decide_eq_true HL.out, h2]; rfl
    clear hel_s0 hel_x0
    go_wp2_with fail
    go_ret
    exact ⟨ret_bool (by rw [hr.out]), hbx⟩
  have hr0 : Hid (formIn s x = upTo (fun i => formRows x.next (s.tables.getD i default) (x.tables.getD i default)) x.tables.length) := by show _ = _; unfold formIn; rw [decide_eq_true HL.out, h2]; rfl
  clear h2
  go_wp2_with fail
  go_loopw [5] (fun i wr => ∃ k : Nat, k ≤ x.tables.length ∧ i = .int .i64 k ∧ Hid (upTo (fun i => formRows x.next (s.tables.getD i default) (x.tables.getD i default)) k = true) ∧ Below (World.heap (((w.alloc (.cells #[.slice A_s0 s.tables.length c_s0] 61)).alloc (.cells #[.slice A_x0 x.tables.length c_x0, .int .i64 x.next] 65)))).size (((w.alloc (.cells #[.slice A_s0 s.tables.length c_s0] 61)).alloc (.cells #[.slice A_x0 x.tables.length c_x0, .int .i64 x.next] 65))) wr) (fun i _ => x.tables.length - (intOf i).toNat)
  case atStart => exact ⟨0, Nat.zero_le _, rfl, upTo_zero _, Below.refl _ _⟩
  case round =>
    obtain ⟨k1, hk1, rfl, hn1_, hb1001⟩ := hrel
    obtain ⟨wl1, rfl⟩ : ∃ w' : World, w' = wr := ⟨_, rfl⟩
    replace q_s := box_on q_s rfl hb1001
    replace q_x := box_on q_x rfl hb1001
    have hwl1 := nxt hbx hb1001
    by_cases hlt1 : k1 < x.tables.length
    · obtain ⟨pb, po, pbk, pes, rfl, phbl, phcl, phcell, pR, phbk⟩ := hel_x0 k1 hlt1
      obtain ⟨pA, pc, phlc, rfl⟩ : ∃ A0 c0, x.tables[k1].length ≤ c0 ∧ pes = [.slice A0 x.tables[k1].length c0] := by obtain ⟨A0, c0, h, h2, _⟩ := pR; exact ⟨A0, c0, h2, h⟩
      have p_0 := (hwl1.cell (p := ⟨pb, _, none⟩) phbl).trans (phcell 0 _ rfl)
      simp only [Nat.add_zero, Nat.mul_one] at p_0
      obtain ⟨pA', pc', hpv, _, _, pel⟩ := pR.use; injection hpv with e1 e2 e3; subst e1; clear e2 e3 hel_x0
      have hks : k1 < s.tables.length := by have := HL.out; omega
      have hts := hide (formIn_at hks hlt1)
      by_cases h3 : ¬ x.tables[k1].length ≤ 12
      · have hd : decide ((12 : Int) < x.tables[k1].length) = true := decide_eq_true (by omega)
        have hr : Hid (formIn s x = false) := by show _ = _; rw [hr0.out, upTo_bad hlt1 (hts.out.trans (by unfold formRows; rw [decide_eq_false h3]; rfl))]
        clear h3 pel hel_s0
        go_wp2_with fail
        go_ret
        exact ⟨ret_bool (by rw [hr.out]), hwl1⟩
      have h3 := Decidable.not_not.1 h3; have hd : decide ((12 : Int) < x.tables[k1].length) = false := decide_eq_false (by omega)
      have hts2 : Hid ((fun i => formRows x.next (s.tables.getD i default) (x.tables.getD i default)) k1 = upTo (formStep x.next s.tables[k1] x.tables[k1]) x.tables[k1].length) := by show _ = _; rw [hts.out]; unfold formRows; rw [decide_eq_true h3]; rfl
      go_wp2_with fail
      clear p_0 hd h3
      go_loopw [6] (fun i wr => ∃ k : Nat, k ≤ x.tables[k1].length ∧ i = .int .i64 k ∧ Hid (upTo (formStep x.next s.tables[k1] x.tables[k1]) k = true) ∧ Below (World.heap (wl1)).size (wl1) wr) (fun i _ => x.tables[k1].length - (intOf i).toNat)
      case atStart => exact ⟨0, Nat.zero_le _, rfl, upTo_zero _, Below.refl _ _⟩
      case round =>
        obtain ⟨k2, hk2, rfl, hn2_, hb1002⟩ := hrel
        obtain ⟨wl2, rfl⟩ : ∃ w' : World, w' = wr := ⟨_, rfl⟩
        replace q_s := box_on q_s rfl hb1002
        replace q_x := box_on q_x rfl hb1002
        have hwl2 := nxt hwl1 hb1002
        have hl0_1002 := nxt hb1001 hb1002
        by_cases hlt2 : k2 < x.tables[k1].length
        · have p_0 := (hwl2.cell (p := ⟨pb, _, none⟩) phbl).trans (phcell 0 _ rfl)
          simp only [Nat.add_zero, Nat.mul_one] at p_0
          obtain ⟨tb, to, tbk, tes, rfl, thbl, thcl, thcell, tR, thbk⟩ := pel k2 hlt2
          have tR0 := tR
          obtain ⟨tv1, tb1, _, thes, thf, tr1⟩ := tR
          subst thes
          obtain ⟨tA1, tc1, rfl, thlc1, thcm1, thel1⟩ := tr1.use
          have t_0 := (hwl2.cell (p := ⟨tb, _, none⟩) thbl).trans (thcell 0 _ rfl)
          have t_1 := (hwl2.cell (p := ⟨tb, _, none⟩) thbl).trans (thcell 1 _ rfl)
          simp only [Nat.add_zero] at t_0 t_1
          clear thcell thcl
          go_wp2_with fail
          clear p_0 t_0 t_1
          replace q_s := box_on q_s rfl ((Below.refl (World.heap (wl2)).size (wl2)).alloc (Nat.le_refl _) (.cells #[.int .i64 x.tables[k1][k2].id, .slice tA1 x.tables[k1][k2].cells.length tc1] 41))
          replace q_x := box_on q_x rfl ((Below.refl (World.heap (wl2)).size (wl2)).alloc (Nat.le_refl _) (.cells #[.int .i64 x.tables[k1][k2].id, .slice tA1 x.tables[k1][k2].cells.length tc1] 41))
          have q_v1 := blk_cells (blk_new (wl2) #[.int .i64 x.tables[k1][k2].id, .slice tA1 x.tables[k1][k2].cells.length tc1] 41)
          have hn1 := (hwl2).alloc (hwl2).size (.cells #[.int .i64 x.tables[k1][k2].id, .slice tA1 x.tables[k1][k2].cells.length tc1] 41)
          have hc1_0 := (hl0_1002).alloc (hl0_1002).size (.cells #[.int .i64 x.tables[k1][k2].id, .slice tA1 x.tables[k1][k2].cells.length tc1] 41)
          have hc1_1 := (hb1002).alloc (hb1002).size (.cells #[.int .i64 x.tables[k1][k2].id, .slice tA1 x.tables[k1][k2].cells.length tc1] 41)
          have p_0 := Fw.cell ((hn1.cell (p := ⟨pb, _, none⟩) phbl).trans (phcell 0 _ rfl))
          simp only [Nat.add_zero, Nat.mul_one] at p_0
          obtain ⟨gb, go, gbk, ges, rfl, ghbl, ghcl, ghcell, gR, ghbk⟩ := hel_s0 k1 hks
          have gR0 := gR
          obtain ⟨gv1, gb1, gv2, gb2, _, ghes, ghf, gr1, gr2⟩ := gR
          subst ghes
          obtain ⟨gA1, gc1, rfl, ghlc1, ghcm1, ghel1⟩ := gr1.use
          obtain ⟨gA2, gc2, rfl, ghlc2, ghcm2, ghel2⟩ := gr2.use
          have g_0 := Fw.cell ((hn1.cell (p := ⟨gb, _, none⟩) ghbl).trans (ghcell 0 _ rfl))
          have g_1 := Fw.cell ((hn1.cell (p := ⟨gb, _, none⟩) ghbl).trans (ghcell 1 _ rfl))
          have g_2 := Fw.cell ((hn1.cell (p := ⟨gb, _, none⟩) ghbl).trans (ghcell 2 _ rfl))
          have g_3 := Fw.cell ((hn1.cell (p := ⟨gb, _, none⟩) ghbl).trans (ghcell 3 _ rfl))
          simp only [Nat.add_zero] at g_0 g_1 g_2 g_3
          clear ghcell ghcl
          clear hel_s0
          have A1 := hide (fun (i : Fw ((wl2).alloc (.cells #[.int .i64 x.tables[k1][k2].id, .slice tA1 x.tables[k1][k2].cells.length tc1] 41))) => spec_l05Row (TableR.good.nxt (nxt hn1 i.h) gR0) (RowR.good.nxt (nxt hn1 i.h) tR0))
          have hfs := formStep_at (n := x.next) (t := s.tables[k1]) hlt2
          cases h5 : rowIn s.tables[k1] x.tables[k1][k2]
          · have hr : Hid (formIn s x = false) := by show _ = _; rw [hr0.out, upTo_bad hlt1 (hts2.out.trans (upTo_bad hlt2 (hfs.trans (by rw [h5]; rfl))))]
            rw [h5] at A1; clear h5 hfs pel
            have q_sF0 := Fw.cell (box_cell q_s 0 rfl)
            have q_xF0 := Fw.cell (box_cell q_x 0 rfl)
            have q_xF1 := Fw.cell (box_cell q_x 1 rfl)
            have q_v1F0 := Fw.cell (box_cell q_v1 0 rfl)
            have q_v1F1 := Fw.cell (box_cell q_v1 1 rfl)
            refine region_quiet (by kernel_rfl) (by kernel_rfl) ?_
            repeat (go_big_quiet_step ((first | (go_at_call 88; exact quiet_of (A1.out _)))))
            refine wpQuiet_nil ?_; intro w2 hb2; replace q_s := box_on q_s rfl hb2; replace q_x := box_on q_x rfl hb2; replace q_v1 := box_on q_v1 rfl hb2; have hw2 := nxt hn1 hb2; have hl0_2 := nxt hc1_0 hb2; have hl1_2 := nxt hc1_1 hb2; clear q_sF0 q_xF0 q_xF1 q_v1F0 q_v1F1 g_0 g_1 g_2 g_3 p_0
            go_wp2_with fail
            go_ret
            exact ⟨ret_bool (by rw [hr.out]), hw2⟩
          cases h6 : decide (x.tables[k1][k2].id < x.next)
          · have hr : Hid (formIn s x = false) := by show _ = _; rw [hr0.out, upTo_bad hlt1 (hts2.out.trans (upTo_bad hlt2 (hfs.trans (by rw [h5, h6]; rfl))))]
            have hd2 : decide (x.next ≤ x.tables[k1][k2].id) = true := decide_eq_true (by have := of_decide_eq_false h6; omega)
            rw [h5] at A1; clear h5 h6 hfs pel
            have q_sF0 := Fw.cell (box_cell q_s 0 rfl)
            have q_xF0 := Fw.cell (box_cell q_x 0 rfl)
            have q_xF1 := Fw.cell (box_cell q_x 1 rfl)
            have q_v1F0 := Fw.cell (box_cell q_v1 0 rfl)
            have q_v1F1 := Fw.cell (box_cell q_v1 1 rfl)
            refine region_quiet (by kernel_rfl) (by kernel_rfl) ?_
            repeat (go_big_quiet_step ((first | (go_at_call 88; exact quiet_of (A1.out _)))))
            refine wpQuiet_nil ?_; intro w3 hb3; replace q_s := box_on q_s rfl hb3; replace q_x := box_on q_x rfl hb3; replace q_v1 := box_on q_v1 rfl hb3; have hw3 := nxt hn1 hb3; have hl0_3 := nxt hc1_0 hb3; have hl1_3 := nxt hc1_1 hb3; clear q_sF0 q_xF0 q_xF1 q_v1F0 q_v1F1 g_0 g_1 g_2 g_3 p_0
            go_wp2_with fail
            go_ret
            exact ⟨ret_bool (by rw [hr.out]), hw3⟩
          have hd2 : decide (x.next ≤ x.tables[k1][k2].id) = false := decide_eq_false (by have := of_decide_eq_true h6; omega)
          by_cases hj0 : k2 = 0
          · have hs0 : stepUp x.tables[k1] k2 = true := by unfold stepUp; rw [decide_eq_true hj0]; rfl
            have hn3 : Hid (upTo (formStep x.next s.tables[k1] x.tables[k1]) (k2 + 1) = true) := by show _ = _; rw [upTo_succ, hn2_.out, hfs, h5, h6, hs0]; rfl
            have hk0 : decide (0 < k2) = false := decide_eq_false (by omega)
            rw [h5] at A1; clear h5 h6 hfs pel hs0 hj0
            have q_sF0 := Fw.cell (box_cell q_s 0 rfl)
            have q_xF0 := Fw.cell (box_cell q_x 0 rfl)
            have q_xF1 := Fw.cell (box_cell q_x 1 rfl)
            have q_v1F0 := Fw.cell (box_cell q_v1 0 rfl)
            have q_v1F1 := Fw.cell (box_cell q_v1 1 rfl)
            refine region_quiet (by kernel_rfl) (by kernel_rfl) ?_
            repeat (go_big_quiet_step ((first | (go_at_call 88; exact quiet_of (A1.out _)))))
            refine wpQuiet_nil ?_; intro w4 hb4; replace q_s := box_on q_s rfl hb4; replace q_x := box_on q_x rfl hb4; replace q_v1 := box_on q_v1 rfl hb4; have hw4 := nxt hn1 hb4; have hl0_4 := nxt hc1_0 hb4; have hl1_4 := nxt hc1_1 hb4; clear q_sF0 q_xF0 q_xF1 q_v1F0 q_v1F1 g_0 g_1 g_2 g_3 p_0
            go_wp2_with fail
            go_roundw
            case rel => exact ⟨k2 + 1, hlt2, by go_num, hn3, hl1_4⟩
            case measure => simp [intOf]; omega
          have hj1 : 1 ≤ k2 := by omega
          have hst : stepUp x.tables[k1] k2 = decide (x.tables[k1][k2 - 1].id < x.tables[k1][k2].id) := by obtain ⟨q, rfl⟩ : ∃ q, k2 = q + 1 := ⟨k2 - 1, by omega⟩; exact stepUp_at hlt2
          have hk0 : decide (0 < k2) = true := decide_eq_true (by omega)
          have hjm : k2 - 1 < x.tables[k1].length := by omega
          obtain ⟨sb, so, sbk, ses, shA, shbl, shcl, shcell, sR, shbk⟩ := pel (k2 - 1) hjm
          cases shA
          have sR0 := sR
          obtain ⟨sv1, sb1, _, shes, shf, sr1⟩ := sR
          subst shes
          obtain ⟨sA1, sc1, rfl, shlc1, shcm1, shel1⟩ := sr1.use
          have s_0 := Fw.cell ((hn1.cell (p := ⟨tb, _, none⟩) shbl).trans (shcell 0 _ rfl))
          have s_1 := Fw.cell ((hn1.cell (p := ⟨tb, _, none⟩) shbl).trans (shcell 1 _ rfl))
          simp only [Nat.add_zero] at s_0 s_1
          clear shcell shcl
          clear pel hj0
          cases h7 : decide (x.tables[k1][k2 - 1].id < x.tables[k1][k2].id)
          · have hr : Hid (formIn s x = false) := by show _ = _; rw [hr0.out, upTo_bad hlt1 (hts2.out.trans (upTo_bad hlt2 (hfs.trans (by rw [h5, h6, hst, h7]; rfl))))]
            have hd3 : decide (x.tables[k1][k2].id ≤ x.tables[k1][k2 - 1].id) = true := decide_eq_true (by have := of_decide_eq_false h7; omega)
            rw [h5] at A1; clear h5 h6 h7 hfs hst
            have q_sF0 := Fw.cell (box_cell q_s 0 rfl)
            have q_xF0 := Fw.cell (box_cell q_x 0 rfl)
            have q_xF1 := Fw.cell (box_cell q_x 1 rfl)
            have q_v1F0 := Fw.cell (box_cell q_v1 0 rfl)
            have q_v1F1 := Fw.cell (box_cell q_v1 1 rfl)
            refine region_quiet (by kernel_rfl) (by kernel_rfl) ?_
            repeat (go_big_quiet_step ((first | (go_at_call 88; exact quiet_of (A1.out _)))))
            refine wpQuiet_nil ?_; intro w5 hb5; replace q_s := box_on q_s rfl hb5; replace q_x := box_on q_x rfl hb5; replace q_v1 := box_on q_v1 rfl hb5; have hw5 := nxt hn1 hb5; have hl0_5 := nxt hc1_0 hb5; have hl1_5 := nxt hc1_1 hb5; clear q_sF0 q_xF0 q_xF1 q_v1F0 q_v1F1 g_0 g_1 g_2 g_3 p_0 s_0 s_1
            go_wp2_with fail
            go_ret
            exact ⟨ret_bool (by rw [hr.out]), hw5⟩
          have hd3 : decide (x.tables[k1][k2].id ≤ x.tables[k1][k2 - 1].id) = false := decide_eq_false (by have := of_decide_eq_true h7; omega)
          have hn3 : Hid (upTo (formStep x.next s.tables[k1] x.tables[k1]) (k2 + 1) = true) := by show _ = _; rw [upTo_succ, hn2_.out, hfs, h5, h6, hst, h7]; rfl
          rw [h5] at A1; clear h5 h6 h7 hfs hst
          have q_sF0 := Fw.cell (box_cell q_s 0 rfl)
          have q_xF0 := Fw.cell (box_cell q_x 0 rfl)
          have q_xF1 := Fw.cell (box_cell q_x 1 rfl)
          have q_v1F0 := Fw.cell (box_cell q_v1 0 rfl)
          have q_v1F1 := Fw.cell (box_cell q_v1 1 rfl)
          refine region_quiet (by kernel_rfl) (by kernel_rfl) ?_
          repeat (go_big_quiet_step ((first | (go_at_call 88; exact quiet_of (A1.out _)))))
          refine wpQuiet_nil ?_; intro w6 hb6; replace q_s := box_on q_s rfl hb6; replace q_x := box_on q_x rfl hb6; replace q_v1 := box_on q_v1 rfl hb6; have hw6 := nxt hn1 hb6; have hl0_6 := nxt hc1_0 hb6; have hl1_6 := nxt hc1_1 hb6; clear q_sF0 q_xF0 q_xF1 q_v1F0 q_v1F1 g_0 g_1 g_2 g_3 p_0 s_0 s_1
          go_wp2_with fail
          go_roundw
          case rel => exact ⟨k2 + 1, hlt2, by go_num, hn3, hl1_6⟩
          case measure => simp [intOf]; omega
        · obtain rfl : k2 = x.tables[k1].length := by omega
          have p_0 := (hwl2.cell (p := ⟨pb, _, none⟩) phbl).trans (phcell 0 _ rfl)
          simp only [Nat.add_zero, Nat.mul_one] at p_0
          have hn4 : Hid (upTo (fun i => formRows x.next (s.tables.getD i default) (x.tables.getD i default)) (k1 + 1) = true) := by show _ = _; rw [upTo_succ, hn1_.out, hts2.out, hn2_.out]; rfl
          clear pel hel_s0
          go_wp2_with fail
          go_roundw
          case rel => exact ⟨k1 + 1, hlt1, by go_num, hn4, hl0_1002⟩
          case measure => simp [intOf]; omega
    · obtain rfl : k1 = x.tables.length := by omega
      have hr := hide (hr0.out.trans hn1_.out); clear hel_x0 hel_s0
      go_wp2
      go_ret
      exact ⟨ret_bool (by rw [hr.out]), hwl1⟩
end Go.Proofs.YthbebbnidgeaeaaGreat
