/- Sets of atoms. No statement is proved here; no conditions. Written by a program (gen43.py). -/
import Derived.Test.YthglchopajdmhaaSort
import Derived.Test.YthglchopajdmhaaComp
import Derived.Test.YthglchopajdmhaaPut
namespace Go.Proofs.Ythglchopajdmhaa
open Go.ChangeShapes Go.WideShapes Go.ChangeAt Go.RowKit Go.Deep
set_option maxRecDepth 100000
set_option linter.unusedVariables false
set_option linter.unusedSimpArgs false

theorem codeL_stop {l : List Atom} {k : Nat} (h : codeL l k = 0) (hs : codeStep l k ≠ 0) : ∀ n, k < n → codeL l n = codeStep l k := by
  have h1 : codeL l (k + 1) = codeStep l k := by show cond (codeL l k == 0) _ _ = _; rw [h]; rfl
  intro n hn
  induction n with
  | zero => omega
  | succ n ih =>
    rcases Nat.lt_or_ge k n with h2 | h2
    · have h3 := ih h2
      show cond (codeL l n == 0) _ _ = _
      rw [h3, beq_eq_false_iff_ne.2 hs]; rfl
    · have : n = k := by omega
      subst this; exact h1
theorem codeL_next {l : List Atom} {k : Nat} (h : codeL l k = 0) (hs : codeStep l k = 0) : codeL l (k + 1) = 0 := by show cond (codeL l k == 0) _ _ = _; rw [h]; exact hs
theorem codeStep_at {l : List Atom} {k : Nat} (h : k < l.length) (h0 : 0 < l.length) : codeStep l k = cond (atomOK l[k]) (cond (l[k].kind == l[0].kind) 0 9) 1 := by
  unfold codeStep kindAt; rw [get_d _ _ h, get_d _ _ h0]
theorem ofAns_bad {l : List Atom} {c : Int} (h : codeL l l.length = c) (hc : c ≠ 0) : ofAns l = ([], c) := by unfold ofAns; rw [h, beq_eq_false_iff_ne.2 hc]; rfl
theorem ofAns_many {l : List Atom} (h : codeL l l.length = 0) (h8 : 8 < (setA l).length) : ofAns l = ([], 6) := by unfold ofAns; rw [h]; show (if _ then _ else _) = _; rw [if_pos h8]
theorem ofAns_good {l : List Atom} (h : codeL l l.length = 0) (h8 : ¬ 8 < (setA l).length) : ofAns l = (setA l, 0) := by unfold ofAns; rw [h]; show (if _ then _ else _) = _; rw [if_neg h8]
def datAns (l : List Atom) : List Atom × Int := if 4096 < l.length then ([], 2) else ofAns l
theorem ofAns_wt (l : List Atom) : AtomS.wt (ofAns l).1 ≤ 24 := by
  unfold ofAns; cases codeL l l.length == 0
  · show AtomS.wt [] ≤ 24; rw [AtomS.wt_len]; decide
  · show AtomS.wt (if _ then _ else _ : List Atom × Int).1 ≤ 24
    split
    · rw [AtomS.wt_len]; decide
    · rw [AtomS.wt_len]; show 3 * (setA l).length ≤ 24; omega
theorem datAns_wt (l : List Atom) : AtomS.wt (datAns l).1 ≤ 24 := by
  unfold datAns; split
  · rw [AtomS.wt_len]; decide
  · exact ofAns_wt l
theorem impl_setOf {w : World} {bs : List Nat} {v : Value} {l : List Atom} (H : AtomSR w bs [v] l) (hn : l.length ≤ 1048576) : Calls Try.prog 102 #[v] w (ToS AtomSR w (setA l)) := by
  have H0 := H
  obtain ⟨A, c, rfl, _, _, _⟩ := H.use
  have HN := hide hn; clear hn
  go_enter Try.func102, Try.ntmps102
  go_wp2_with fail
  refine (slices_CloneA H0 HN.out).mono ?_; rintro e w1 ⟨v1, bs1, rfl, r1, f1, hb1⟩
  have r10 := r1; obtain ⟨A1, c1, rfl, _, _, _⟩ := r1.use
  go_wp2_with fail
  refine (slices_SortFuncA r10 f1 HN.out).mono ?_; rintro e w2 ⟨rfl, r2, f2, u2⟩
  go_wp2_with fail
  refine (slices_CompactA r2 f2).mono ?_; rintro e w3 ⟨v3, bs3, rfl, r3, f3, u3, s3⟩
  have r30 := r3; obtain ⟨A3, c3, rfl, _, _, _⟩ := r30.use
  go_wp2_with fail
  go_ret
  exact ⟨_, bs3, rfl, r3, f3, hb1.trans ((u2.trans u3 (fun _ h => h)).below _ hb1.size (fun b hb => (f1.2 b hb).1))⟩
set_option maxHeartbeats 8000000 in
theorem impl_datumOf {w : World}  {bs_l : List Nat} {v_l : Value} {l : List Atom} (H_l : AtomSR w bs_l [v_l] l) (hn : l.length ≤ 4096) :
    Calls Try.prog 70 #[v_l] w (OutS AtomSR w (ofAns l).1 (ofAns l).2) := by
  have H0_l := H_l
  obtain ⟨A_l, c_l, rfl, hlc_l, hcm_l, hel_l⟩ := H_l.use
  have hln := hide hn; clear hn
  go_enter Try.func70, Try.ntmps70
  go_wp2_with fail
  go_loopw [9] (fun i wr => ∃ k : Nat, k ≤ l.length ∧ i = .int .i64 k ∧ Hid (codeL l k = 0) ∧ Below (World.heap (w)).size (w) wr) (fun i _ => l.length - (intOf i).toNat)
  case atStart => exact ⟨0, Nat.zero_le _, rfl, rfl, Below.refl _ _⟩
  case round =>
    obtain ⟨k1, hk1, rfl, hn1_, hb1001⟩ := hrel
    obtain ⟨wl1, rfl⟩ : ∃ w' : World, w' = wr := ⟨_, rfl⟩
    have hwl1 := nxt (Below.refl w.heap.size w) hb1001
    by_cases hlt1 : k1 < l.length
    · have h00 : 0 < l.length := by omega
      have hst := hide (codeStep_at hlt1 h00); have hcl := hide hn1_.out
      obtain ⟨gb, go, gbk, ges, rfl, ghbl, ghcl, ghcell, gR, ghbk⟩ := hel_l k1 hlt1
      obtain ⟨_, ghes, ghf⟩ := gR
      subst ghes
      have g_0 := (hwl1.cell (p := ⟨gb, _, none⟩) ghbl).trans (ghcell 0 _ rfl)
      have g_1 := (hwl1.cell (p := ⟨gb, _, none⟩) ghbl).trans (ghcell 1 _ rfl)
      have g_2 := (hwl1.cell (p := ⟨gb, _, none⟩) ghbl).trans (ghcell 2 _ rfl)
      simp only [Nat.add_zero] at g_0 g_1 g_2
      clear ghcell ghcl
      go_wp2_with fail
      have q_v := blk_cells (blk_new (wl1) #[.int .i64 l[k1].kind, .int .i64 l[k1].n, .string l[k1].t] 90)
      have hn1 := (hwl1).alloc (hwl1).size (.cells #[.int .i64 l[k1].kind, .int .i64 l[k1].n, .string l[k1].t] 90)
      have hc1_0 := (hb1001).alloc (hb1001).size (.cells #[.int .i64 l[k1].kind, .int .i64 l[k1].n, .string l[k1].t] 90)
      clear g_0 g_1 g_2
      go_wp2_with fail
      refine (impl_AtomOK l[k1] _ ghf).mono ?_; rintro e w1 ⟨rfl, hb1⟩; replace q_v := box_on q_v rfl hb1; have hw1 := nxt hn1 hb1; have hl0_1 := nxt hc1_0 hb1
      cases h5 : atomOK l[k1]
      · have hr : Hid (ofAns l = ([], 1)) := by show _ = _; exact ofAns_bad ((codeL_stop hcl.out (by rw [hst.out, h5]; simp) l.length hlt1).trans (by rw [hst.out, h5]; rfl)) (by decide)
        clear h5 hel_l
        go_wp2_with fail
        go_ret2
        rw [hr.out]
        exact ⟨_, [], rfl, nil_row (by omega), Fr.nil _ _, hw1⟩
      obtain ⟨zb, zo, zbk, zes, zhA, zhbl, zhcl, zhcell, zR, zhbk⟩ := hel_l 0 h00
      cases zhA
      obtain ⟨_, zhes, zhf⟩ := zR
      subst zhes
      have z_0 := Fw.cell ((hw1.cell (p := ⟨gb, _, none⟩) zhbl).trans (zhcell 0 _ rfl))
      have z_1 := Fw.cell ((hw1.cell (p := ⟨gb, _, none⟩) zhbl).trans (zhcell 1 _ rfl))
      have z_2 := Fw.cell ((hw1.cell (p := ⟨gb, _, none⟩) zhbl).trans (zhcell 2 _ rfl))
      simp only [Nat.add_zero] at z_0 z_1 z_2
      clear zhcell zhcl
      clear hel_l
      simp only [Nat.zero_mul, Nat.add_zero] at z_0 z_1 z_2
      cases h6 : (l[k1].kind == l[0].kind)
      · have hr : Hid (ofAns l = ([], 9)) := by show _ = _; exact ofAns_bad ((codeL_stop hcl.out (by rw [hst.out, h5, h6]; simp) l.length hlt1).trans (by rw [hst.out, h5, h6]; rfl)) (by decide)
        have h7 : (l[k1].kind != l[0].kind) = true := by simpa using h6
        clear h5 h6
        go_wp2_with fail
        have q_vF0 := Fw.cell (box_cell q_v 0 rfl)
        have q_vF1 := Fw.cell (box_cell q_v 1 rfl)
        have q_vF2 := Fw.cell (box_cell q_v 2 rfl)
        refine region_quiet (by kernel_rfl) (by kernel_rfl) ?_
        repeat (go_big_quiet_step (fail))
        refine wpQuiet_nil ?_; intro w2 hb2; replace q_v := box_on q_v rfl hb2; have hw2 := nxt hw1 hb2; have hl0_2 := nxt hl0_1 hb2; clear q_vF0 q_vF1 q_vF2 z_0 z_1 z_2
        go_wp2_with fail
        go_ret2
        rw [hr.out]
        exact ⟨_, [], rfl, nil_row (by omega), Fr.nil _ _, hw2⟩
      have hn2 := hide (codeL_next hcl.out (by rw [hst.out, h5, h6]; rfl)); have h7 : (l[k1].kind != l[0].kind) = false := by simpa using h6
      clear h5 h6
      go_wp2_with fail
      have q_vF0 := Fw.cell (box_cell q_v 0 rfl)
      have q_vF1 := Fw.cell (box_cell q_v 1 rfl)
      have q_vF2 := Fw.cell (box_cell q_v 2 rfl)
      refine region_quiet (by kernel_rfl) (by kernel_rfl) ?_
      repeat (go_big_quiet_step (fail))
      refine wpQuiet_nil ?_; intro w3 hb3; replace q_v := box_on q_v rfl hb3; have hw3 := nxt hw1 hb3; have hl0_3 := nxt hl0_1 hb3; clear q_vF0 q_vF1 q_vF2 z_0 z_1 z_2
      go_wp2_with fail
      go_roundw
      case rel => exact ⟨k1 + 1, hlt1, by go_num, hn2, hl0_3⟩
      case measure => simp [intOf]; omega
    · obtain rfl : k1 = l.length := by omega
      have hcz := hide hn1_.out; clear hel_l
      go_wp2_with fail
      refine (impl_setOf (AtomSR.good.nxt hwl1 H0_l) (by have := hln.out; omega)).mono ?_; rintro e w4 ⟨v9, bs9, rfl, r9, f9, hb4⟩; have hw4 := nxt hwl1 hb4
      have r90 := r9; obtain ⟨A9, c9, rfl, _, _, _⟩ := r9.use
      by_cases h8 : 8 < (setA l).length
      · have hr : Hid (ofAns l = ([], 6)) := by show _ = _; exact ofAns_many hcz.out h8
        have h9 : decide ((8 : Int) < ((setA l).length : Int)) = true := decide_eq_true (by omega)
        clear h8
        go_wp2_with fail
        go_ret2
        rw [hr.out]
        exact ⟨_, [], rfl, nil_row (by omega), Fr.nil _ _, hw4⟩
      have hr : Hid (ofAns l = (setA l, 0)) := by show _ = _; exact ofAns_good hcz.out h8
      have h9 : decide ((8 : Int) < ((setA l).length : Int)) = false := decide_eq_false (by omega)
      clear h8
      go_wp2_with fail
      go_ret2
      rw [hr.out]
      exact ⟨_, bs9, rfl, r90, f9.mono (by have := hb1001.size; omega), hw4⟩
set_option maxHeartbeats 2000000 in
theorem impl_DatumOf {w : World}  {bs_l : List Nat} {v_l : Value} {l : List Atom} (H_l : AtomSR w bs_l [v_l] l)  :
    Calls Try.prog 29 #[v_l] w (OutS AtomSR w (datAns l).1 (datAns l).2) := by
  have H0_l := H_l
  obtain ⟨A_l, c_l, rfl, hlc_l, hcm_l, hel_l⟩ := H_l.use
  clear hel_l
  go_enter Try.func29, Try.ntmps29
  go_wp2_with fail
  refine (impl_isListA H0_l).mono ?_; rintro e w1 ⟨rfl, rfl⟩; have hw1 := Below.refl w.heap.size w
  by_cases hlong : 4096 < l.length
  · have hd : decide ((l.length : Int) ≤ 4096) = false := decide_eq_false (by omega)
    have hr : Hid (datAns l = ([], 2)) := by show _ = _; unfold datAns; rw [if_pos hlong]
    clear hlong
    go_wp2_with fail
    go_ret2
    rw [hr.out]
    exact ⟨_, [], rfl, nil_row (by omega), Fr.nil _ _, hw1⟩
  have hd : decide ((l.length : Int) ≤ 4096) = true := decide_eq_true (by omega)
  have hto : Hid (datAns l = ofAns l) := by show _ = _; unfold datAns; rw [if_neg hlong]
  have hln := hide (show l.length ≤ 4096 by omega); clear hlong
  go_wp2_with fail
  refine (impl_datumOf (AtomSR.good.nxt hw1 H0_l) hln.out).mono ?_; rintro e w2 ⟨v2, bs2, rfl, r2, f2, hb2⟩; have r20 := r2; obtain ⟨A2, c2, rfl, _, _, _⟩ := r2.use
  go_wp2_with fail
  go_ret2
  rw [hto.out]
  exact ⟨_, bs2, rfl, r20, f2.mono hw1.size, nxt hw1 hb2⟩
set_option maxHeartbeats 8000000 in
theorem spec_l03Join {w : World}  {bs_a : List Nat} {v_a : Value} {a : List Atom} (H_a : AtomSR w bs_a [v_a] a) {bs_b : List Nat} {v_b : Value} {b : List Atom} (H_b : AtomSR w bs_b [v_b] b) (hna : a.length ≤ 8192) (hnb : b.length ≤ 8192) :
    Calls Try.prog 67 #[v_a, v_b] w (fun e w' => ∃ v' bs', e = .returned v' ∧ AtomSR w' bs' [v'] (joinA a b) ∧ Sm v' (joinA a b).length ∧ Below w.heap.size w w') := by
  have H0_a := H_a
  obtain ⟨A_a, c_a, rfl, hlc_a, hcm_a, hel_a⟩ := H_a.use
  have H0_b := H_b
  obtain ⟨A_b, c_b, rfl, hlc_b, hcm_b, hel_b⟩ := H_b.use
  obtain ⟨ii, ji, jz, js, jby⟩ := info_parts AtomS.info
  have HNA := hide hna; have HNB := hide hnb; clear hna hnb hel_a
  have hGm := hide (madeA (size := 3) (R := AtomR) (e := 90) (w := w) (n := w.heap.size) rfl)
  have e1 := (Below.refl w.heap.size w).alloc (Nat.le_refl _) (.cells #[] 90)
  have hal := hide (AtomSR.good.lt H0_a)
  have HA := hide (AtomSR.good.nxt e1 H0_a)
  go_enter Try.func67, Try.ntmps67
  go_wp2_with (at_builtin; refine wpList_append_sl AtomR.good rfl _ _ 43 rfl Try.underlying43 ji jz js jby rfl (by decide) (v := .slice (some ⟨w.heap.size, 0, none⟩) 0 0) rfl hGm.out HA.out rfl AtomR.one (fun b hb hv => by have h1 := hal.out b hb; have h9 : w.heap.size = b := (by injection hv); omega) (by have h00 : ([] : List Atom).length = 0 := rfl; have := HNA.out; simp only [h00]; omega) (by have h00 : ([] : List Atom).length = 0 := rfl; have := HNA.out; simp only [h00]; omega) (by simp) ?_; intro v2 wA bss2 hA; have hb2 := hA.below w.heap.size _ e1 (Nat.le_refl _); have hz2 := hb2.size; have hsm := hide (hA.gr.sm (hA.some (fun h => by cases h))); obtain ⟨bs2, r2, _, _⟩ := hA.gr.done; have hR2 := hide (show AtomSR wA bs2 [v2] (joinA a (b.take 0)) from r2); clear r2)
  clear HA
  go_loopw [5, 6] (fun o i wr => ∃ (k : Nat) (v : Value) (bs : List Nat), k ≤ b.length ∧ i = .int .i64 k ∧ o = v ∧ Hid (AtomSR wr bs [v] (joinA a (b.take k)) ∧ Sm v (joinA a (b.take k)).length) ∧ Below (World.heap wA).size wA wr) (fun _ i _ => b.length - (intOf i).toNat)
  case atStart => exact ⟨0, _, bs2, Nat.zero_le _, rfl, rfl, ⟨hR2.out, hsm.out⟩, Below.refl _ _⟩
  case round =>
    clear hR2 hsm hGm; obtain ⟨k, v, bs, hk, rfl, hov, hG, hbr⟩ := hrel; replace hov := hov.symm; subst hov; obtain ⟨wl, rfl⟩ : ∃ w' : World, w' = wr := ⟨_, rfl⟩
    have hwl := nxt hb2 hbr
    by_cases hlt : k < b.length
    · obtain ⟨gb, go, gbk, ges, rfl, ghbl, ghcl, ghcell, gR, ghbk⟩ := hel_b k hlt
      obtain ⟨_, ghes, ghf⟩ := gR
      subst ghes
      have g_0 := (hwl.cell (p := ⟨gb, _, none⟩) ghbl).trans (ghcell 0 _ rfl)
      have g_1 := (hwl.cell (p := ⟨gb, _, none⟩) ghbl).trans (ghcell 1 _ rfl)
      have g_2 := (hwl.cell (p := ⟨gb, _, none⟩) ghbl).trans (ghcell 2 _ rfl)
      simp only [Nat.add_zero] at g_0 g_1 g_2
      clear ghcell ghcl
      clear hel_b
      have hjt := hide (joinA_take a b k hlt)
      have hjl : Hid ((joinA a (b.take k)).length ≤ 1048576) := by show _ ≤ _; have := joinA_len a (b.take k); have := HNA.out; have := HNB.out; rw [List.length_take] at *; omega
      obtain ⟨V0, hV0⟩ : ∃ V : Value, V = v := ⟨_, rfl⟩; obtain ⟨vb, vo, vc, hvs⟩ := hG.out.2; subst hvs; clear hV0
      go_wp2_with fail
      refine (spec_l03Put hG.out.1 b[k] hG.out.2 ghf hjl.out).mono ?_; rintro e w9 ⟨v9, bs9, rfl, r9, s9, hb9⟩; have hw9 := nxt hbr hb9; have hR9 := hide (show AtomSR w9 bs9 [v9] (joinA a (b.take (k + 1))) ∧ Sm v9 (joinA a (b.take (k + 1))).length from by rw [hjt.out]; exact ⟨r9, s9⟩); clear r9 s9
      go_wp2_with fail
      go_roundw
      case rel => exact ⟨k + 1, v9, bs9, hlt, by go_num, rfl, hR9, hw9⟩
      case measure => simp [intOf]; omega
    · obtain rfl : k = b.length := by omega
      have hG2 := hG.out; rw [List.take_length] at hG2; have HG := hide hG2; clear hG2 hG hel_b
      go_wp2
      go_ret
      exact ⟨v, bs, rfl, HG.out.1, HG.out.2, hwl⟩
set_option maxHeartbeats 8000000 in
theorem spec_DatumOf {w : World}  {bs_l : List Nat} {v_l : Value} {l : List Atom} (H_l : AtomSR w bs_l [v_l] l)  :
    Calls Try.prog 27 #[v_l] w (SeeS AtomSR w (datAns l).1 (datAns l).2) := by
  have H0_l := H_l
  obtain ⟨A_l, c_l, rfl, hlc_l, hcm_l, hel_l⟩ := H_l.use
  by_cases hlong : 4096 < l.length
  · have hd : decide ((4096 : Int) < (l.length : Int)) = true := decide_eq_true (by omega)
    have hr : Hid (datAns l = ([], 2)) := by show _ = _; unfold datAns; rw [if_pos hlong]
    clear hel_l hlong
    go_enter Try.func27, Try.ntmps27
    go_wp2_with fail
    go_ret2
    rw [hr.out]
    exact ⟨_, [], rfl, nil_row (by omega), (Below.refl w.heap.size w).alloc (Below.refl w.heap.size w).size _⟩
  have hd : decide ((4096 : Int) < (l.length : Int)) = false := decide_eq_false (by omega)
  have hto : Hid (datAns l = ofAns l) := by show _ = _; unfold datAns; rw [if_neg hlong]
  have hln := hide (show l.length ≤ 4096 by omega); clear hlong
  go_enter Try.func27, Try.ntmps27
  go_wp2_with fail
  go_loopw [4] (fun i wr => ∃ k : Nat, k ≤ l.length ∧ i = .int .i64 k ∧ Hid (codeL l k = 0) ∧ Below (World.heap (w)).size (w) wr) (fun i _ => l.length - (intOf i).toNat)
  case atStart => exact ⟨0, Nat.zero_le _, rfl, rfl, Below.refl _ _⟩
  case round =>
    obtain ⟨k1, hk1, rfl, hn1_, hb1001⟩ := hrel
    obtain ⟨wl1, rfl⟩ : ∃ w' : World, w' = wr := ⟨_, rfl⟩
    have hwl1 := nxt (Below.refl w.heap.size w) hb1001
    by_cases hlt1 : k1 < l.length
    · have h00 : 0 < l.length := by omega
      have hst := hide (codeStep_at hlt1 h00); have hcl := hide hn1_.out
      obtain ⟨gb, go, gbk, ges, rfl, ghbl, ghcl, ghcell, gR, ghbk⟩ := hel_l k1 hlt1
      obtain ⟨_, ghes, ghf⟩ := gR
      subst ghes
      have g_0 := (hwl1.cell (p := ⟨gb, _, none⟩) ghbl).trans (ghcell 0 _ rfl)
      have g_1 := (hwl1.cell (p := ⟨gb, _, none⟩) ghbl).trans (ghcell 1 _ rfl)
      have g_2 := (hwl1.cell (p := ⟨gb, _, none⟩) ghbl).trans (ghcell 2 _ rfl)
      simp only [Nat.add_zero] at g_0 g_1 g_2
      go_wp2_with fail
      go_wp2_with fail
      refine (spec_AtomOK l[k1] _ ghf).mono ?_; rintro e w1 ⟨rfl, hb1⟩; have hw1 := nxt hwl1 hb1; have hl0_1 := nxt hb1001 hb1
      cases h5 : atomOK l[k1]
      · have hr : Hid (datAns l = ([], 1)) := by show _ = _; rw [hto.out]; exact ofAns_bad ((codeL_stop hcl.out (by rw [hst.out, h5]; simp) l.length hlt1).trans (by rw [hst.out, h5]; rfl)) (by decide)
        clear h5 hel_l ghcell ghcl
        go_wp2_with fail
        go_ret2
        rw [hr.out]
        exact ⟨_, [], rfl, nil_row (by omega), hw1.alloc hw1.size _⟩
      obtain ⟨zb, zo, zbk, zes, zhA, zhbl, zhcl, zhcell, zR, zhbk⟩ := hel_l 0 h00
      cases zhA
      obtain ⟨_, zhes, zhf⟩ := zR
      subst zhes
      have z_0 := Fw.cell ((hw1.cell (p := ⟨gb, _, none⟩) zhbl).trans (zhcell 0 _ rfl))
      have z_1 := Fw.cell ((hw1.cell (p := ⟨gb, _, none⟩) zhbl).trans (zhcell 1 _ rfl))
      have z_2 := Fw.cell ((hw1.cell (p := ⟨gb, _, none⟩) zhbl).trans (zhcell 2 _ rfl))
      simp only [Nat.add_zero] at z_0 z_1 z_2
      clear zhcell zhcl
      clear hel_l
      clear g_0 g_1 g_2
      have g_0 := Fw.cell ((hw1.cell (p := ⟨gb, _, none⟩) ghbl).trans (ghcell 0 _ rfl))
      have g_1 := Fw.cell ((hw1.cell (p := ⟨gb, _, none⟩) ghbl).trans (ghcell 1 _ rfl))
      have g_2 := Fw.cell ((hw1.cell (p := ⟨gb, _, none⟩) ghbl).trans (ghcell 2 _ rfl))
      simp only [Nat.add_zero] at g_0 g_1 g_2
      simp only [Nat.zero_mul, Nat.add_zero] at z_0 z_1 z_2
      cases h6 : (l[k1].kind == l[0].kind)
      · have hr : Hid (datAns l = ([], 9)) := by show _ = _; rw [hto.out]; exact ofAns_bad ((codeL_stop hcl.out (by rw [hst.out, h5, h6]; simp) l.length hlt1).trans (by rw [hst.out, h5, h6]; rfl)) (by decide)
        have h7 : (l[k1].kind != l[0].kind) = true := by simpa using h6
        clear h5 h6
        go_wp2_with fail
        refine region_quiet (by kernel_rfl) (by kernel_rfl) ?_
        repeat (go_big_quiet_step (fail))
        refine wpQuiet_nil ?_; intro w2 hb2; have hw2 := nxt hw1 hb2; have hl0_2 := nxt hl0_1 hb2; clear z_0 z_1 z_2 g_0 g_1 g_2
        go_wp2_with fail
        go_ret2
        rw [hr.out]
        exact ⟨_, [], rfl, nil_row (by omega), hw2.alloc hw2.size _⟩
      have hn2 := hide (codeL_next hcl.out (by rw [hst.out, h5, h6]; rfl)); have h7 : (l[k1].kind != l[0].kind) = false := by simpa using h6
      clear h5 h6
      go_wp2_with fail
      refine region_quiet (by kernel_rfl) (by kernel_rfl) ?_
      repeat (go_big_quiet_step (fail))
      refine wpQuiet_nil ?_; intro w3 hb3; have hw3 := nxt hw1 hb3; have hl0_3 := nxt hl0_1 hb3; clear z_0 z_1 z_2 g_0 g_1 g_2
      go_wp2_with fail
      go_roundw
      case rel => exact ⟨k1 + 1, hlt1, by go_num, hn2, hl0_3⟩
      case measure => simp [intOf]; omega
    · obtain rfl : k1 = l.length := by omega
      have hcz := hide hn1_.out; clear hel_l
      have hjo := hide (setA_join0 l)
      go_wp2_with fail
      have hal := (Below.refl (World.heap wl1).size wl1).alloc (Nat.le_refl _) (.cells #[] 90)
      refine (spec_l03Join (w := wl1.alloc (.cells #[] 90)) (a := []) (b := l) (nil_row (by omega)) (AtomSR.good.nxt hal (AtomSR.good.nxt hwl1 H0_l)) (by simp) (by have := hln.out; omega)).mono ?_; rintro e w9 ⟨v9, bs9, rfl, r9, _, hb9⟩; have hw9 := hwl1.trans (nxt' hal hb9 |>.mono hwl1.size)
      have r90 := r9; obtain ⟨A9, c9, rfl, _, _, _⟩ := r9.use; rw [← hjo.out] at r90; rw [← hjo.out]
      by_cases h8 : 8 < (setA l).length
      · have hr : Hid (datAns l = ([], 6)) := by show _ = _; rw [hto.out]; exact ofAns_many hcz.out h8
        have h9 : decide ((8 : Int) < ((setA l).length : Int)) = true := decide_eq_true (by omega)
        clear h8
        go_wp2_with fail
        go_ret2
        rw [hr.out]
        exact ⟨_, [], rfl, nil_row (by omega), hw9.alloc hw9.size _⟩
      have hr : Hid (datAns l = (setA l, 0)) := by show _ = _; rw [hto.out]; exact ofAns_good hcz.out h8
      have h9 : decide ((8 : Int) < ((setA l).length : Int)) = false := decide_eq_false (by omega)
      clear h8
      go_wp2_with fail
      go_ret2
      rw [hr.out]
      exact ⟨_, bs9, rfl, r90, hw9⟩
end Go.Proofs.Ythglchopajdmhaa
