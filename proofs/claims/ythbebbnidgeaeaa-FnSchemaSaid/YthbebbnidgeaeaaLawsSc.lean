/- The law FnSchema. No statement is proved here; no conditions. Written by a program (gen28.py). -/
import Derived.Test.YthbebbnidgeaeaaFnSch
import Derived.Test.YthbebbnidgeaeaaBox
namespace Go.Proofs.Ythbebbnidgeaeaa
open Go.ChangeShapes Go.WideShapes Go.ChangeAt Go.RowKit Go.Deep
set_option maxRecDepth 100000
set_option linter.unusedVariables false
set_option linter.unusedSimpArgs false

set_option maxHeartbeats 8000000 in
theorem lawSchema {w : World} {bs : List Nat} {v : Value} {xs : List Int}  (H : ByteSR w bs [v] xs) :
    Calls Try.prog 3 #[v] w (fun e w' => e = .returned (.bool true) ∧ Below w.heap.size w w') := by
  have H0 := H
  obtain ⟨A, c, rfl, _, _, _⟩ := H.use
  by_cases hl : 1048576 < xs.length
  · have hd : decide ((1048576 : Int) < xs.length) = true := decide_eq_true (by omega)
    go_enter Try.func3, Try.ntmps3
    go_wp2
    go_ret
    exact ⟨rfl, Below.refl _ _⟩
  have hd : decide ((1048576 : Int) < xs.length) = false := decide_eq_false (by omega)
  have hx : xs.length ≤ 1048576 := by omega
  clear hl
  go_enter Try.func3, Try.ntmps3
  go_wp2_with fail
  refine (impl_PlainSchema).mono ?_; rintro e w1 ⟨cs1, bs1, rfl, r1, f1, hb1⟩; have hw1 := nxt (Below.refl w.heap.size w) hb1
  have r10 := r1; obtain ⟨v1, b1, _, rfl, _, s1⟩ := r1; obtain ⟨A1, c1, rfl, _, _, el1⟩ := s1.use
  have k1 := Below.refl (World.heap w1).size w1
  have q_s1 := blk_cells (blk_new (w1) #[.slice A1 plainS.tables.length c1] 25)
  have hn1 := (hw1).alloc (hw1).size (.cells #[.slice A1 plainS.tables.length c1] 25)
  have hc1_0 := (k1).alloc (k1).size (.cells #[.slice A1 plainS.tables.length c1] 25)
  go_wp2_with fail
  refine (spec_PlainSchemaS).mono ?_; rintro e w2 ⟨cs2, bs2, rfl, r2, hb2⟩; replace q_s1 := box_on q_s1 rfl hb2; have hw2 := nxt hn1 hb2; have hl0_2 := nxt hc1_0 hb2
  have r20 := r2; obtain ⟨v2, b2, _, rfl, _, s2⟩ := r2; obtain ⟨A2, c2, rfl, _, _, el2⟩ := s2.use
  have k2 := Below.refl (World.heap w2).size w2
  replace q_s1 := box_on q_s1 rfl ((Below.refl (World.heap (w2)).size (w2)).alloc (Nat.le_refl _) (.cells #[.slice A2 plainS.tables.length c2] 25))
  have q_s2 := blk_cells (blk_new (w2) #[.slice A2 plainS.tables.length c2] 25)
  have hn2 := (hw2).alloc (hw2).size (.cells #[.slice A2 plainS.tables.length c2] 25)
  have hc2_0 := (hl0_2).alloc (hl0_2).size (.cells #[.slice A2 plainS.tables.length c2] 25)
  have hc2_1 := (k2).alloc (k2).size (.cells #[.slice A2 plainS.tables.length c2] 25)
  have qn : ((plainS.tables.length : Int) != (plainS.tables.length : Int)) = false := by simp
  go_wp2_with fail
  refine (impl_SchemaOK (SchemaR.good.nxt hc2_0 r10)).mono ?_; rw [plain_ok]; rintro e w3 ⟨rfl, hb3⟩; replace q_s1 := box_on q_s1 rfl hb3; replace q_s2 := box_on q_s2 rfl hb3; have hw3 := nxt hn2 hb3; have hl0_3 := nxt hc2_0 hb3; have hl1_3 := nxt hc2_1 hb3
  go_wp2_with fail
  refine (law_at3 (ByteSR.good.nxt hw3 H0) hx (n := (plainS.tables.length : Int)) rfl).mono ?_; rintro e w4 ⟨⟨t, ht, rfl⟩, hb4⟩; replace q_s1 := box_on q_s1 rfl hb4; replace q_s2 := box_on q_s2 rfl hb4; have hw4 := nxt hw3 hb4; have hl0_4 := nxt hl0_3 hb4; have hl1_4 := nxt hl1_3 hb4
  have htl : t < plainS.tables.length := ht; have hqt : ((t : Int) != (t : Int)) = false := by simp
  obtain ⟨gb, go, gbk, ges, rfl, ghbl, ghcl, ghcell, gR, ghbk⟩ := el1 t htl
  have gR0 := gR
  obtain ⟨gv1, gb1, gv2, gb2, _, ghes, ghf, gr1, gr2⟩ := gR
  subst ghes
  obtain ⟨gA1, gc1, rfl, ghlc1, ghcm1, ghel1⟩ := gr1.use
  obtain ⟨gA2, gc2, rfl, ghlc2, ghcm2, ghel2⟩ := gr2.use
  have g_0 := Fw.cell ((hl0_4.cell (p := ⟨gb, _, none⟩) ghbl).trans (ghcell 0 _ rfl))
  have g_1 := Fw.cell ((hl0_4.cell (p := ⟨gb, _, none⟩) ghbl).trans (ghcell 1 _ rfl))
  have g_2 := Fw.cell ((hl0_4.cell (p := ⟨gb, _, none⟩) ghbl).trans (ghcell 2 _ rfl))
  have g_3 := Fw.cell ((hl0_4.cell (p := ⟨gb, _, none⟩) ghbl).trans (ghcell 3 _ rfl))
  simp only [Nat.add_zero] at g_0 g_1 g_2 g_3
  have A1 := fun (i : Fw w4) => impl_TableOf (SchemaR.good.nxt (nxt hl0_4 i.h) r10) plainS.tables[t].name ghf; rw [plain_tbl t htl] at A1; have A1 := hide A1
  go_wp2_with fail
  have q_s1F0 := Fw.cell (box_cell q_s1 0 rfl)
  have q_s2F0 := Fw.cell (box_cell q_s2 0 rfl)
  refine region_quiet (by kernel_rfl) (by kernel_rfl) ?_
  repeat (go_big_quiet_step ((first | (go_at_call 15; exact quiet_of (A1.out _)))))
  refine wpQuiet_nil ?_; intro w5 hb5; replace q_s1 := box_on q_s1 rfl hb5; replace q_s2 := box_on q_s2 rfl hb5; have hw5 := nxt hw4 hb5; have hl0_5 := nxt hl0_4 hb5; have hl1_5 := nxt hl1_4 hb5; clear q_s1F0 q_s2F0 g_0 g_1 g_2 g_3
  go_wp2_with fail
  have g_0 := Fw.cell ((hl0_5.cell (p := ⟨gb, _, none⟩) ghbl).trans (ghcell 0 _ rfl))
  have g_1 := Fw.cell ((hl0_5.cell (p := ⟨gb, _, none⟩) ghbl).trans (ghcell 1 _ rfl))
  have g_2 := Fw.cell ((hl0_5.cell (p := ⟨gb, _, none⟩) ghbl).trans (ghcell 2 _ rfl))
  have g_3 := Fw.cell ((hl0_5.cell (p := ⟨gb, _, none⟩) ghbl).trans (ghcell 3 _ rfl))
  simp only [Nat.add_zero] at g_0 g_1 g_2 g_3
  obtain ⟨hb, ho, hbk, hes, rfl, hhbl, hhcl, hhcell, hR, hhbk⟩ := el2 t htl
  have hR0 := hR
  obtain ⟨hv1, hb1, hv2, hb2, _, hhes, hhf, hr1, hr2⟩ := hR
  subst hhes
  obtain ⟨hA1, hc1, rfl, hhlc1, hhcm1, hhel1⟩ := hr1.use
  obtain ⟨hA2, hc2, rfl, hhlc2, hhcm2, hhel2⟩ := hr2.use
  have h_0 := Fw.cell ((hl1_5.cell (p := ⟨hb, _, none⟩) hhbl).trans (hhcell 0 _ rfl))
  have h_1 := Fw.cell ((hl1_5.cell (p := ⟨hb, _, none⟩) hhbl).trans (hhcell 1 _ rfl))
  have h_2 := Fw.cell ((hl1_5.cell (p := ⟨hb, _, none⟩) hhbl).trans (hhcell 2 _ rfl))
  have h_3 := Fw.cell ((hl1_5.cell (p := ⟨hb, _, none⟩) hhbl).trans (hhcell 3 _ rfl))
  simp only [Nat.add_zero] at h_0 h_1 h_2 h_3
  have A2 := hide (fun (i : Fw w5) => law_sameInts (IntSR.good.nxt (nxt hl0_5 i.h) gr2) (IntSR.good.nxt (nxt hl1_5 i.h) hr2))
  have qs : (plainS.tables[t].name.toList != plainS.tables[t].name.toList) = false := by simp
  have qb : (plainS.tables[t].root != plainS.tables[t].root) = false := by simp
  have qc : ((plainS.tables[t].columns.length : Int) != (plainS.tables[t].columns.length : Int)) = false := by simp
  simp only [List.append]
  have q_s1F0 := Fw.cell (box_cell q_s1 0 rfl)
  have q_s2F0 := Fw.cell (box_cell q_s2 0 rfl)
  refine region_quiet (by kernel_rfl) (by kernel_rfl) ?_
  repeat (go_big_quiet_step ((first | (go_at_call 16; exact quiet_of (A2.out _)))))
  refine wpQuiet_nil ?_; intro w6 hb6; replace q_s1 := box_on q_s1 rfl hb6; replace q_s2 := box_on q_s2 rfl hb6; have hw6 := nxt hw5 hb6; have hl0_6 := nxt hl0_5 hb6; have hl1_6 := nxt hl1_5 hb6; clear q_s1F0 q_s2F0 g_0 g_1 g_2 g_3 h_0 h_1 h_2 h_3
  go_wp2_with fail
  go_loopw [8] (fun i wr => ∃ k : Nat, k ≤ plainS.tables[t].columns.length ∧ i = .int .i64 k ∧ Hid (True) ∧ Below (World.heap (w6)).size (w6) wr) (fun i _ => plainS.tables[t].columns.length - (intOf i).toNat)
  case atStart => exact ⟨0, Nat.zero_le _, rfl, trivial, Below.refl _ _⟩
  case round =>
    obtain ⟨k1, hk1, rfl, hn1_, hb1001⟩ := hrel
    obtain ⟨wl1, rfl⟩ : ∃ w' : World, w' = wr := ⟨_, rfl⟩
    replace q_s1 := box_on q_s1 rfl hb1001
    replace q_s2 := box_on q_s2 rfl hb1001
    have hwl1 := nxt hw6 hb1001
    have hl0_1001 := nxt hl0_6 hb1001; have hl1_1001 := nxt hl1_6 hb1001
    by_cases hlt1 : k1 < plainS.tables[t].columns.length
    · have g_0 := (hl0_1001.cell (p := ⟨gb, _, none⟩) ghbl).trans (ghcell 0 _ rfl)
      have g_1 := (hl0_1001.cell (p := ⟨gb, _, none⟩) ghbl).trans (ghcell 1 _ rfl)
      simp only [Nat.add_zero] at g_0 g_1
      go_wp2_with fail
      clear g_0 g_1
      have g_0 := Fw.cell ((hl0_1001.cell (p := ⟨gb, _, none⟩) ghbl).trans (ghcell 0 _ rfl))
      have g_1 := Fw.cell ((hl0_1001.cell (p := ⟨gb, _, none⟩) ghbl).trans (ghcell 1 _ rfl))
      have g_2 := Fw.cell ((hl0_1001.cell (p := ⟨gb, _, none⟩) ghbl).trans (ghcell 2 _ rfl))
      have g_3 := Fw.cell ((hl0_1001.cell (p := ⟨gb, _, none⟩) ghbl).trans (ghcell 3 _ rfl))
      simp only [Nat.add_zero] at g_0 g_1 g_2 g_3
      obtain ⟨pb, po, pbk, pes, rfl, phbl, phcl, phcell, pR, phbk⟩ := ghel1 k1 hlt1
      obtain ⟨_, phes, phf⟩ := pR
      subst phes
      have p_0 := Fw.cell ((hl0_1001.cell (p := ⟨pb, _, none⟩) phbl).trans (phcell 0 _ rfl))
      have p_1 := Fw.cell ((hl0_1001.cell (p := ⟨pb, _, none⟩) phbl).trans (phcell 1 _ rfl))
      have p_2 := Fw.cell ((hl0_1001.cell (p := ⟨pb, _, none⟩) phbl).trans (phcell 2 _ rfl))
      have p_3 := Fw.cell ((hl0_1001.cell (p := ⟨pb, _, none⟩) phbl).trans (phcell 3 _ rfl))
      have p_4 := Fw.cell ((hl0_1001.cell (p := ⟨pb, _, none⟩) phbl).trans (phcell 4 _ rfl))
      have p_5 := Fw.cell ((hl0_1001.cell (p := ⟨pb, _, none⟩) phbl).trans (phcell 5 _ rfl))
      have p_6 := Fw.cell ((hl0_1001.cell (p := ⟨pb, _, none⟩) phbl).trans (phcell 6 _ rfl))
      have p_7 := Fw.cell ((hl0_1001.cell (p := ⟨pb, _, none⟩) phbl).trans (phcell 7 _ rfl))
      simp only [Nat.add_zero] at p_0 p_1 p_2 p_3 p_4 p_5 p_6 p_7
      have A3 := fun (j : Fw wl1) => impl_ColumnOf (TableR.good.nxt (nxt hl0_1001 j.h) gR0) plainS.tables[t].columns[k1].name phf.1; rw [plain_col t htl k1 hlt1] at A3; have A3 := hide A3
      go_wp2_with fail
      have q_s1F0 := Fw.cell (box_cell q_s1 0 rfl)
      have q_s2F0 := Fw.cell (box_cell q_s2 0 rfl)
      refine region_quiet (by kernel_rfl) (by kernel_rfl) ?_
      repeat (go_big_quiet_step ((first | (go_at_call 17; exact quiet_of (A3.out _)))))
      refine wpQuiet_nil ?_; intro w7 hb7; replace q_s1 := box_on q_s1 rfl hb7; replace q_s2 := box_on q_s2 rfl hb7; have hw7 := nxt hwl1 hb7; have hl0_7 := nxt hl0_1001 hb7; have hl1_7 := nxt hl1_1001 hb7; have hl2_7 := nxt hb1001 hb7; clear q_s1F0 q_s2F0 g_0 g_1 g_2 g_3 p_0 p_1 p_2 p_3 p_4 p_5 p_6 p_7
      go_wp2_with fail
      have g_0 := Fw.cell ((hl0_7.cell (p := ⟨gb, _, none⟩) ghbl).trans (ghcell 0 _ rfl))
      have g_1 := Fw.cell ((hl0_7.cell (p := ⟨gb, _, none⟩) ghbl).trans (ghcell 1 _ rfl))
      simp only [Nat.add_zero] at g_0 g_1
      have h_0 := Fw.cell ((hl1_7.cell (p := ⟨hb, _, none⟩) hhbl).trans (hhcell 0 _ rfl))
      have h_1 := Fw.cell ((hl1_7.cell (p := ⟨hb, _, none⟩) hhbl).trans (hhcell 1 _ rfl))
      simp only [Nat.add_zero] at h_0 h_1
      have p_0 := Fw.cell ((hl0_7.cell (p := ⟨pb, _, none⟩) phbl).trans (phcell 0 _ rfl))
      have p_1 := Fw.cell ((hl0_7.cell (p := ⟨pb, _, none⟩) phbl).trans (phcell 1 _ rfl))
      have p_2 := Fw.cell ((hl0_7.cell (p := ⟨pb, _, none⟩) phbl).trans (phcell 2 _ rfl))
      have p_3 := Fw.cell ((hl0_7.cell (p := ⟨pb, _, none⟩) phbl).trans (phcell 3 _ rfl))
      have p_4 := Fw.cell ((hl0_7.cell (p := ⟨pb, _, none⟩) phbl).trans (phcell 4 _ rfl))
      have p_5 := Fw.cell ((hl0_7.cell (p := ⟨pb, _, none⟩) phbl).trans (phcell 5 _ rfl))
      have p_6 := Fw.cell ((hl0_7.cell (p := ⟨pb, _, none⟩) phbl).trans (phcell 6 _ rfl))
      have p_7 := Fw.cell ((hl0_7.cell (p := ⟨pb, _, none⟩) phbl).trans (phcell 7 _ rfl))
      simp only [Nat.add_zero] at p_0 p_1 p_2 p_3 p_4 p_5 p_6 p_7
      obtain ⟨qb, qo, qbk, qes, rfl, qhbl, qhcl, qhcell, qR, qhbk⟩ := hhel1 k1 hlt1
      obtain ⟨_, qhes, qhf⟩ := qR
      subst qhes
      have q_0 := Fw.cell ((hl1_7.cell (p := ⟨qb, _, none⟩) qhbl).trans (qhcell 0 _ rfl))
      have q_1 := Fw.cell ((hl1_7.cell (p := ⟨qb, _, none⟩) qhbl).trans (qhcell 1 _ rfl))
      have q_2 := Fw.cell ((hl1_7.cell (p := ⟨qb, _, none⟩) qhbl).trans (qhcell 2 _ rfl))
      have q_3 := Fw.cell ((hl1_7.cell (p := ⟨qb, _, none⟩) qhbl).trans (qhcell 3 _ rfl))
      have q_4 := Fw.cell ((hl1_7.cell (p := ⟨qb, _, none⟩) qhbl).trans (qhcell 4 _ rfl))
      have q_5 := Fw.cell ((hl1_7.cell (p := ⟨qb, _, none⟩) qhbl).trans (qhcell 5 _ rfl))
      have q_6 := Fw.cell ((hl1_7.cell (p := ⟨qb, _, none⟩) qhbl).trans (qhcell 6 _ rfl))
      have q_7 := Fw.cell ((hl1_7.cell (p := ⟨qb, _, none⟩) qhbl).trans (qhcell 7 _ rfl))
      simp only [Nat.add_zero] at q_0 q_1 q_2 q_3 q_4 q_5 q_6 q_7
      have he := neq_col plainS.tables[t].columns[k1]; have hgd := grd_col .neq; have hqi : ((k1 : Int) != (k1 : Int)) = false := by simp
      have q_s1F0 := Fw.cell (box_cell q_s1 0 rfl)
      have q_s2F0 := Fw.cell (box_cell q_s2 0 rfl)
      refine region_quiet (by kernel_rfl) (by kernel_rfl) ?_
      repeat (go_big_quiet_step (fail))
      refine wpQuiet_nil ?_; intro w8 hb8; replace q_s1 := box_on q_s1 rfl hb8; replace q_s2 := box_on q_s2 rfl hb8; have hw8 := nxt hw7 hb8; have hl0_8 := nxt hl0_7 hb8; have hl1_8 := nxt hl1_7 hb8; have hl2_8 := nxt hl2_7 hb8; clear q_s1F0 q_s2F0 g_0 g_1 h_0 h_1 p_0 p_1 p_2 p_3 p_4 p_5 p_6 p_7 q_0 q_1 q_2 q_3 q_4 q_5 q_6 q_7 he hgd
      go_wp2_with fail
      go_roundw
      case rel => exact ⟨k1 + 1, hlt1, by go_num, trivial, hl2_8⟩
      case measure => simp [intOf]; omega
    · obtain rfl : k1 = plainS.tables[t].columns.length := by omega
      have g_0 := (hl0_1001.cell (p := ⟨gb, _, none⟩) ghbl).trans (ghcell 0 _ rfl)
      have g_1 := (hl0_1001.cell (p := ⟨gb, _, none⟩) ghbl).trans (ghcell 1 _ rfl)
      simp only [Nat.add_zero] at g_0 g_1
      go_wp2_with fail
      refine (impl_TableOf (SchemaR.good.nxt hl0_1001 r10) nothing (by decide)).mono ?_; rw [plain_no]; rintro e w9 ⟨rfl, hb9⟩; replace q_s1 := box_on q_s1 rfl hb9; replace q_s2 := box_on q_s2 rfl hb9; have hw9 := nxt hwl1 hb9; have hl0_9 := nxt hl0_1001 hb9; have hl1_9 := nxt hl1_1001 hb9
      clear g_0 g_1
      have g_0 := (hl0_9.cell (p := ⟨gb, _, none⟩) ghbl).trans (ghcell 0 _ rfl)
      have g_1 := (hl0_9.cell (p := ⟨gb, _, none⟩) ghbl).trans (ghcell 1 _ rfl)
      have g_2 := (hl0_9.cell (p := ⟨gb, _, none⟩) ghbl).trans (ghcell 2 _ rfl)
      have g_3 := (hl0_9.cell (p := ⟨gb, _, none⟩) ghbl).trans (ghcell 3 _ rfl)
      simp only [Nat.add_zero] at g_0 g_1 g_2 g_3
      go_wp2_with fail
      refine (impl_ColumnOf (TableR.good.nxt hl0_9 gR0) nothing (by decide)).mono ?_; rw [plain_nocol t htl]; rintro e w10 ⟨rfl, hb10⟩; replace q_s1 := box_on q_s1 rfl hb10; replace q_s2 := box_on q_s2 rfl hb10; have hw10 := nxt hw9 hb10; have hl0_10 := nxt hl0_9 hb10; have hl1_10 := nxt hl1_9 hb10
      go_wp2_with fail
      go_ret
      exact ⟨rfl, hw10⟩
end Go.Proofs.Ythbebbnidgeaeaa
