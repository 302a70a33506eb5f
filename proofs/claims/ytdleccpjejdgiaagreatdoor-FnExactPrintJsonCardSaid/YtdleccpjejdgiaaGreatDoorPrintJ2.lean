/-
  The texts PrintI4, PrintI5 as one: no condition but those that each names. Put together by a program (merge.py).
-/
import Derived.Test.YtdleccpjejdgiaaGreatDoorPrintI
-- PrintI4
namespace Go.Proofs.YtdleccpjejdgiaaGreatDoor
open Go.ChangeShapes Go.WideShapes Go.ChangeAt Go.RowKit Go.Deep
set_option maxRecDepth 100000
set_option linter.unusedVariables false
set_option linter.unusedSimpArgs false

set_option maxHeartbeats 16000000 in
theorem print_k4 {w : World} {d : Nat} (IH : PRD d) (hT : PT w) {bs_a : List Nat} {cs_a : List Value} {a : Json} (H_a : JsonR w bs_a cs_a a) (hk : a.kind = 4) (hg : goodJ (d + 1) a = true) (h4 : cnt (d + 1) a ≤ 400) :
    Calls Tryz.prog 16 #[.agg cs_a.toArray] w (fun e w' => e = .returned (.string (⟨(prtL (d + 1) a).toArray⟩)) ∧ Below w.heap.size w w') := by
  have H0_a := H_a
  obtain ⟨a_v3, a_b3, a_v4, a_b4, rfl, rfl, hf_a, a_r3, a_r4⟩ := H_a.open
  obtain ⟨A_a3, c_a3, rfl, hlc_a3, hcm_a3, hel_a3⟩ := a_r3.use
  obtain ⟨A_a4, c_a4, rfl, hlc_a4, hcm_a4, hel_a4⟩ := a_r4.use
  have hbx := ((Below.refl w.heap.size w).alloc (Nat.le_refl _) (.cells #[.int .i64 a.kind, .int .i64 a.n, .string a.t, .slice A_a3 a.keys.length c_a3, .slice A_a4 a.items.length c_a4] 31))
  have q_a := blk_cells (blk_new w #[.int .i64 a.kind, .int .i64 a.n, .string a.t, .slice A_a3 a.keys.length c_a3, .slice A_a4 a.items.length c_a4] 31)
  have hgp := hide (good_parts hg); have hci := hide (fun k (hk : k < a.items.length) => cnt_item hk h4); have hpl := hide (parts_len (d := d) hgp.out.1); have hbl := hide (partsB_len (d := d) hgp.out.1); have hil := hide (len_cnt h4); have hbd := hide (parts_bd hg h4); have HT := hide hT
  have HK := hide hk
  have c5 : (a.kind == 5) = false := by rw [hk]; rfl
  have c1 : (a.kind == 1) = false := by rw [hk]; rfl
  have c2 : (a.kind == 2) = false := by rw [hk]; rfl
  have c3 : (a.kind == 3) = false := by rw [hk]; rfl
  have c4 : (a.kind == 4) = true := by rw [hk]; rfl
  clear hk hg h4 hT hf_a
  go_enter Tryz.func16, Tryz.ntmps16
  go_wp2_with fail
  have hG1 := hide (Own.made' (size := 1) (R := StrR) (e := 9) (w := (w.alloc (.cells #[.int .i64 a.kind, .int .i64 a.n, .string a.t, .slice A_a3 a.keys.length c_a3, .slice A_a4 a.items.length c_a4] 31))) (n := w.heap.size + 1) (by simp))
  obtain ⟨ii1, hi1, hz1, hs1, hby1⟩ := info_parts StringS.info
  go_loopw [3, 11] (fun o i wr => ∃ (k : Nat) (v : Value), k ≤ a.items.length ∧ i = .int .i64 k ∧ o = v ∧ Hid (Own 1 StrR 9 (World.heap ((w.alloc (.cells #[.int .i64 a.kind, .int .i64 a.n, .string a.t, .slice A_a3 a.keys.length c_a3, .slice A_a4 a.items.length c_a4] 31)))).size wr v ((partsB d a).take k)) ∧ Below (World.heap ((w.alloc (.cells #[.int .i64 a.kind, .int .i64 a.n, .string a.t, .slice A_a3 a.keys.length c_a3, .slice A_a4 a.items.length c_a4] 31)))).size ((w.alloc (.cells #[.int .i64 a.kind, .int .i64 a.n, .string a.t, .slice A_a3 a.keys.length c_a3, .slice A_a4 a.items.length c_a4] 31))) wr) (fun _ i _ => a.items.length - (intOf i).toNat)
  case atStart => exact ⟨0, _, Nat.zero_le _, rfl, rfl, hG1, (Below.refl _ _).alloc (Nat.le_refl _) _⟩
  case round =>
    clear hG1
    obtain ⟨k1, v1_, hk1, rfl, hov1, hG1, hb1001⟩ := hrel; replace hov1 := hov1.symm; subst hov1
    obtain ⟨wl1, rfl⟩ : ∃ w' : World, w' = wr := ⟨_, rfl⟩
    obtain ⟨O1, cO1, hv1, hlO1, hcO1⟩ := hG1.out.form
    replace q_a := box_on q_a rfl hb1001
    have hwl1 := nxt hbx hb1001
    have hz0_1 := Below.refl (World.heap wl1).size wl1
    by_cases hlt1 : k1 < a.items.length
    · have HV1 := hide hv1; clear hv1
      obtain ⟨gb, go, gbk, ges, rfl, ghbl, ghcl, ghcell, gR, ghbk⟩ := hel_a4 k1 hlt1
      have gR0 := gR
      obtain ⟨gv3, gb3, gv4, gb4, _, ghes, ghf, gr3, gr4⟩ := gR.open
      subst ghes
      obtain ⟨gA3, gc3, rfl, ghlc3, ghcm3, ghel3⟩ := gr3.use
      obtain ⟨gA4, gc4, rfl, ghlc4, ghcm4, ghel4⟩ := gr4.use
      have g_0 := (hwl1.cell (p := ⟨gb, _, none⟩) ghbl).trans (ghcell 0 _ rfl)
      have g_1 := (hwl1.cell (p := ⟨gb, _, none⟩) ghbl).trans (ghcell 1 _ rfl)
      have g_2 := (hwl1.cell (p := ⟨gb, _, none⟩) ghbl).trans (ghcell 2 _ rfl)
      have g_3 := (hwl1.cell (p := ⟨gb, _, none⟩) ghbl).trans (ghcell 3 _ rfl)
      have g_4 := (hwl1.cell (p := ⟨gb, _, none⟩) ghbl).trans (ghcell 4 _ rfl)
      simp only [Nat.add_zero] at g_0 g_1 g_2 g_3 g_4
      clear ghcell ghcl
      clear hel_a4
      go_wp2_with fail
      replace q_a := box_on q_a rfl ((Below.refl (World.heap (wl1)).size (wl1)).alloc (Nat.le_refl _) (.cells #[.int .i64 a.items[k1].kind, .int .i64 a.items[k1].n, .string a.items[k1].t, .slice gA3 a.items[k1].keys.length gc3, .slice gA4 a.items[k1].items.length gc4] 31))
      have q_v := blk_cells (blk_new (wl1) #[.int .i64 a.items[k1].kind, .int .i64 a.items[k1].n, .string a.items[k1].t, .slice gA3 a.items[k1].keys.length gc3, .slice gA4 a.items[k1].items.length gc4] 31)
      have hn1 := (hwl1).alloc (hwl1).size (.cells #[.int .i64 a.items[k1].kind, .int .i64 a.items[k1].n, .string a.items[k1].t, .slice gA3 a.items[k1].keys.length gc3, .slice gA4 a.items[k1].items.length gc4] 31)
      have hc1_0 := (hb1001).alloc (hb1001).size (.cells #[.int .i64 a.items[k1].kind, .int .i64 a.items[k1].n, .string a.items[k1].t, .slice gA3 a.items[k1].keys.length gc3, .slice gA4 a.items[k1].items.length gc4] 31)
      have hc1_1 := (hz0_1).alloc (hz0_1).size (.cells #[.int .i64 a.items[k1].kind, .int .i64 a.items[k1].n, .string a.items[k1].t, .slice gA3 a.items[k1].keys.length gc3, .slice gA4 a.items[k1].items.length gc4] 31)
      clear g_0 g_1 g_2 g_3 g_4
      go_wp2_with fail
      refine (IH (HT.out.below hn1) (JsonR.good.nxt hn1 gR0) (hgp.out.2 k1 hlt1) (hci.out k1 hlt1).1).mono ?_; rintro e w1 ⟨rfl, hb1⟩; replace q_a := box_on q_a rfl hb1; replace q_v := box_on q_v rfl hb1; have hw1 := nxt hn1 hb1; have hl0_1 := nxt hc1_0 hb1; have hl1_1 := nxt hc1_1 hb1
      generalize hqt : (⟨(prtL d a.items[k1]).toArray⟩ : ByteArray) = t; replace hqt := hide hqt.symm
      have hplk : k1 < (partsL d a).length := by rw [hpl.out]; exact hlt1
      have hzt : t.size ≤ 800000000000 := by rw [by_ hqt.out]; have := prt_len d _ (hgp.out.2 k1 hlt1); have := (hci.out k1 hlt1).1; omega
      have hyz : t.size ≤ 9223372036854775807 := by omega
      have hv1 := HV1.out
      have hst1 : Hid ((partsB d a).take (k1 + 1) = (partsB d a).take k1 ++ [t]) := by show _ = _; exact partsB_step hplk (by rw [parts_at4 HK.out hlt1]; exact hqt.out)
      have hsz1 := (hl0_1).size; have hlo1 := (hl0_1).size
      have hbd1 : Hid (((partsB d a).take k1).length ≤ 1048576) := by show _ ≤ _; (try rw [List.length_take]); have := hil.out; omega
      have hvv1 := hide hv1; have hll1 := hide hlO1; clear hv1 hlO1 hcO1
      go_wp2_with (at_builtin; refine wpList_append_own StrR.good rfl _ _ 22 rfl Tryz.underlying22 hi1 hz1 hs1 hby1 rfl (by decide) (v := v1_) rfl hG1.out hl1_1 (cy := [.string t]) (y := t) ⟨rfl, rfl, hyz⟩ (Fr.nil _ _) rfl rfl (fun u hu => by simp at hu; (try rcases hu with rfl | rfl) <;> first | rfl | (subst hu; rfl)) (by have := hbd1.out; omega) (by have := hbd1.out; omega) hb1001.size ?_; intro v' w' hO hB hsw hold hown)
      go_roundw
      case rel => exact ⟨k1 + 1, v', hlt1, by go_num, rfl, by rw [hst1.out]; exact hO, hB _ _ hl0_1 (Nat.le_refl _)⟩
      case measure => simp [intOf]; omega
    · obtain rfl : k1 = a.items.length := by omega
      have hG2 := hG1.out; rw [List.take_of_length_le (by rw [hbl.out]; exact Nat.le_refl _)] at hG2; have HG := hide hG2; clear hG2 hG1 hv1 hlO1 hcO1 hel_a4 hel_a3 hci
      have hr := hide (prt_list (d := d) HK.out)
      have hjz : (joinC (partsL d a)).length ≤ 800000000000 := by have := hbd.out a.items.length; rw [List.take_of_length_le (by rw [hpl.out]; exact Nat.le_refl _)] at this; exact this
      have b1 : (9223372036854775807 < 1 + (joinC (partsL d a)).length) = False := by simp; omega
      have b2 : (9223372036854775807 < 1 + (joinC (partsL d a)).length + 1) = False := by simp; omega
      go_wp2_with fail
      refine (impl_Join HG.out (l := partsL d a) (partsB_def d a) (by rw [hbl.out]; exact hil.out) hjz).mono ?_; rintro e w2 ⟨rfl, hb2⟩; replace q_a := box_on q_a rfl hb2; have hw2 := nxt hwl1 hb2
      go_wp2_with fail
      go_ret
      exact ⟨by rw [hr.out, ← wrap_add]; rfl, hw2⟩
end Go.Proofs.YtdleccpjejdgiaaGreatDoor

-- PrintI5
namespace Go.Proofs.YtdleccpjejdgiaaGreatDoor
open Go.ChangeShapes Go.WideShapes Go.ChangeAt Go.RowKit Go.Deep
set_option maxRecDepth 100000
set_option linter.unusedVariables false
set_option linter.unusedSimpArgs false

set_option maxHeartbeats 16000000 in
theorem print_k5 {w : World} {d : Nat} (IH : PRD d) (hT : PT w) {bs_a : List Nat} {cs_a : List Value} {a : Json} (H_a : JsonR w bs_a cs_a a) (hk : a.kind = 5) (hg : goodJ (d + 1) a = true) (h4 : cnt (d + 1) a ≤ 400) :
    Calls Tryz.prog 16 #[.agg cs_a.toArray] w (fun e w' => e = .returned (.string (⟨(prtL (d + 1) a).toArray⟩)) ∧ Below w.heap.size w w') := by
  have H0_a := H_a
  obtain ⟨a_v3, a_b3, a_v4, a_b4, rfl, rfl, hf_a, a_r3, a_r4⟩ := H_a.open
  obtain ⟨A_a3, c_a3, rfl, hlc_a3, hcm_a3, hel_a3⟩ := a_r3.use
  obtain ⟨A_a4, c_a4, rfl, hlc_a4, hcm_a4, hel_a4⟩ := a_r4.use
  have hbx := ((Below.refl w.heap.size w).alloc (Nat.le_refl _) (.cells #[.int .i64 a.kind, .int .i64 a.n, .string a.t, .slice A_a3 a.keys.length c_a3, .slice A_a4 a.items.length c_a4] 31))
  have q_a := blk_cells (blk_new w #[.int .i64 a.kind, .int .i64 a.n, .string a.t, .slice A_a3 a.keys.length c_a3, .slice A_a4 a.items.length c_a4] 31)
  have hgp := hide (good_parts hg); have hci := hide (fun k (hk : k < a.items.length) => cnt_item hk h4); have hpl := hide (parts_len (d := d) hgp.out.1); have hbl := hide (partsB_len (d := d) hgp.out.1); have hil := hide (len_cnt h4); have hbd := hide (parts_bd hg h4); have HT := hide hT
  have HK := hide hk
  have hko := part_obj hgp.out.1 hk; have hkl := hide hko.1; have hkp := hide (fun k hk => keys_plain hko.2 (k := k) hk); clear hko
  have c5 : (a.kind == 5) = true := by rw [hk]; rfl
  have c1 : (a.kind == 1) = false := by rw [hk]; rfl
  have c2 : (a.kind == 2) = false := by rw [hk]; rfl
  have c3 : (a.kind == 3) = false := by rw [hk]; rfl
  have c4 : (a.kind == 4) = false := by rw [hk]; rfl
  clear hk hg h4 hT hf_a
  go_enter Tryz.func16, Tryz.ntmps16
  go_wp2_with fail
  have hG1 := hide (Own.made' (size := 1) (R := StrR) (e := 9) (w := (w.alloc (.cells #[.int .i64 a.kind, .int .i64 a.n, .string a.t, .slice A_a3 a.keys.length c_a3, .slice A_a4 a.items.length c_a4] 31))) (n := w.heap.size + 1) (by simp))
  obtain ⟨ii1, hi1, hz1, hs1, hby1⟩ := info_parts StringS.info
  go_loopw [3, 11] (fun o i wr => ∃ (k : Nat) (v : Value), k ≤ a.items.length ∧ i = .int .i64 k ∧ o = v ∧ Hid (Own 1 StrR 9 (World.heap ((w.alloc (.cells #[.int .i64 a.kind, .int .i64 a.n, .string a.t, .slice A_a3 a.keys.length c_a3, .slice A_a4 a.items.length c_a4] 31)))).size wr v ((partsB d a).take k)) ∧ Below (World.heap ((w.alloc (.cells #[.int .i64 a.kind, .int .i64 a.n, .string a.t, .slice A_a3 a.keys.length c_a3, .slice A_a4 a.items.length c_a4] 31)))).size ((w.alloc (.cells #[.int .i64 a.kind, .int .i64 a.n, .string a.t, .slice A_a3 a.keys.length c_a3, .slice A_a4 a.items.length c_a4] 31))) wr) (fun _ i _ => a.items.length - (intOf i).toNat)
  case atStart => exact ⟨0, _, Nat.zero_le _, rfl, rfl, hG1, (Below.refl _ _).alloc (Nat.le_refl _) _⟩
  case round =>
    clear hG1
    obtain ⟨k1, v1_, hk1, rfl, hov1, hG1, hb1001⟩ := hrel; replace hov1 := hov1.symm; subst hov1
    obtain ⟨wl1, rfl⟩ : ∃ w' : World, w' = wr := ⟨_, rfl⟩
    obtain ⟨O1, cO1, hv1, hlO1, hcO1⟩ := hG1.out.form
    replace q_a := box_on q_a rfl hb1001
    have hwl1 := nxt hbx hb1001
    have hz0_1 := Below.refl (World.heap wl1).size wl1
    by_cases hlt1 : k1 < a.items.length
    · have HV1 := hide hv1; clear hv1
      obtain ⟨gb, go, gbk, ges, rfl, ghbl, ghcl, ghcell, gR, ghbk⟩ := hel_a4 k1 hlt1
      have gR0 := gR
      obtain ⟨gv3, gb3, gv4, gb4, _, ghes, ghf, gr3, gr4⟩ := gR.open
      subst ghes
      obtain ⟨gA3, gc3, rfl, ghlc3, ghcm3, ghel3⟩ := gr3.use
      obtain ⟨gA4, gc4, rfl, ghlc4, ghcm4, ghel4⟩ := gr4.use
      have g_0 := (hwl1.cell (p := ⟨gb, _, none⟩) ghbl).trans (ghcell 0 _ rfl)
      have g_1 := (hwl1.cell (p := ⟨gb, _, none⟩) ghbl).trans (ghcell 1 _ rfl)
      have g_2 := (hwl1.cell (p := ⟨gb, _, none⟩) ghbl).trans (ghcell 2 _ rfl)
      have g_3 := (hwl1.cell (p := ⟨gb, _, none⟩) ghbl).trans (ghcell 3 _ rfl)
      have g_4 := (hwl1.cell (p := ⟨gb, _, none⟩) ghbl).trans (ghcell 4 _ rfl)
      simp only [Nat.add_zero] at g_0 g_1 g_2 g_3 g_4
      clear ghcell ghcl
      clear hel_a4
      have hlk : k1 < a.keys.length := by rw [hkl.out]; exact hlt1
      have hkz := hkp.out k1 hlk
      obtain ⟨pb, po, pbk, pes, rfl, phbl, phcl, phcell, pR, phbk⟩ := hel_a3 k1 hlk
      obtain ⟨_, phes, psz⟩ := pR; subst phes
      have p_0 := (hwl1.cell (p := ⟨pb, _, none⟩) phbl).trans (phcell 0 _ rfl)
      simp only [Nat.add_zero, Nat.mul_one] at p_0
      clear hel_a3
      go_wp2_with fail
      replace q_a := box_on q_a rfl ((Below.refl (World.heap (wl1)).size (wl1)).alloc (Nat.le_refl _) (.cells #[.int .i64 a.items[k1].kind, .int .i64 a.items[k1].n, .string a.items[k1].t, .slice gA3 a.items[k1].keys.length gc3, .slice gA4 a.items[k1].items.length gc4] 31))
      have q_v := blk_cells (blk_new (wl1) #[.int .i64 a.items[k1].kind, .int .i64 a.items[k1].n, .string a.items[k1].t, .slice gA3 a.items[k1].keys.length gc3, .slice gA4 a.items[k1].items.length gc4] 31)
      have hn1 := (hwl1).alloc (hwl1).size (.cells #[.int .i64 a.items[k1].kind, .int .i64 a.items[k1].n, .string a.items[k1].t, .slice gA3 a.items[k1].keys.length gc3, .slice gA4 a.items[k1].items.length gc4] 31)
      have hc1_0 := (hb1001).alloc (hb1001).size (.cells #[.int .i64 a.items[k1].kind, .int .i64 a.items[k1].n, .string a.items[k1].t, .slice gA3 a.items[k1].keys.length gc3, .slice gA4 a.items[k1].items.length gc4] 31)
      have hc1_1 := (hz0_1).alloc (hz0_1).size (.cells #[.int .i64 a.items[k1].kind, .int .i64 a.items[k1].n, .string a.items[k1].t, .slice gA3 a.items[k1].keys.length gc3, .slice gA4 a.items[k1].items.length gc4] 31)
      clear g_0 g_1 g_2 g_3 g_4
      go_wp2_with fail
      refine (IH (HT.out.below hn1) (JsonR.good.nxt hn1 gR0) (hgp.out.2 k1 hlt1) (hci.out k1 hlt1).1).mono ?_; rintro e w1 ⟨rfl, hb1⟩; replace q_a := box_on q_a rfl hb1; replace q_v := box_on q_v rfl hb1; have hw1 := nxt hn1 hb1; have hl0_1 := nxt hc1_0 hb1; have hl1_1 := nxt hc1_1 hb1
      generalize hqt : (⟨(prtL d a.items[k1]).toArray⟩ : ByteArray) = t; replace hqt := hide hqt.symm
      have hplk : k1 < (partsL d a).length := by rw [hpl.out]; exact hlt1
      have hzt : t.size ≤ 800000000000 := by rw [by_ hqt.out]; have := prt_len d _ (hgp.out.2 k1 hlt1); have := (hci.out k1 hlt1).1; omega
      have p_0 := (hw1.cell (p := ⟨pb, _, none⟩) phbl).trans (phcell 0 _ rfl)
      simp only [Nat.add_zero, Nat.mul_one] at p_0
      go_wp2_with fail
      refine (impl_quoted a.keys[k1] hkz).mono ?_; rintro e w2 ⟨rfl, hb2⟩; replace q_a := box_on q_a rfl hb2; replace q_v := box_on q_v rfl hb2; have hw2 := nxt hw1 hb2; have hl0_2 := nxt hl0_1 hb2; have hl1_2 := nxt hl1_1 hb2
      clear p_0
      generalize hqu : (⟨(quoteL a.keys[k1]).toArray⟩ : ByteArray) = u; replace hqu := hide hqu.symm
      have hzu : u.size ≤ 402 := by rw [by_ hqu.out]; have := quoteL_len a.keys[k1]; omega
      have b1 : (9223372036854775807 < u.size + 1) = False := by simp; omega
      have b2 : (9223372036854775807 < u.size + 1 + t.size) = False := by simp; omega
      have hyz : (u ++ (⟨#[58]⟩ : ByteArray) ++ t).size ≤ 9223372036854775807 := by rw [ByteArray.size_append, ByteArray.size_append]; show u.size + 1 + t.size ≤ _; omega
      have hv1 := HV1.out
      have hst1 : Hid ((partsB d a).take (k1 + 1) = (partsB d a).take k1 ++ [(u ++ (⟨#[58]⟩ : ByteArray) ++ t)]) := by show _ = _; exact partsB_step hplk (by rw [parts_at5 HK.out hlt1 hlk, hqu.out, hqt.out]; exact key_add)
      have hsz1 := (hl0_2).size; have hlo1 := (hl0_2).size
      have hbd1 : Hid (((partsB d a).take k1).length ≤ 1048576) := by show _ ≤ _; (try rw [List.length_take]); have := hil.out; omega
      have hvv1 := hide hv1; have hll1 := hide hlO1; clear hv1 hlO1 hcO1
      go_wp2_with (at_builtin; refine wpList_append_own StrR.good rfl _ _ 22 rfl Tryz.underlying22 hi1 hz1 hs1 hby1 rfl (by decide) (v := v1_) rfl hG1.out hl1_2 (cy := [.string (u ++ (⟨#[58]⟩ : ByteArray) ++ t)]) (y := (u ++ (⟨#[58]⟩ : ByteArray) ++ t)) ⟨rfl, rfl, hyz⟩ (Fr.nil _ _) rfl rfl (fun u hu => by simp at hu; (try rcases hu with rfl | rfl) <;> first | rfl | (subst hu; rfl)) (by have := hbd1.out; omega) (by have := hbd1.out; omega) hb1001.size ?_; intro v' w' hO hB hsw hold hown)
      go_roundw
      case rel => exact ⟨k1 + 1, v', hlt1, by go_num, rfl, by rw [hst1.out]; exact hO, hB _ _ hl0_2 (Nat.le_refl _)⟩
      case measure => simp [intOf]; omega
    · obtain rfl : k1 = a.items.length := by omega
      have hG2 := hG1.out; rw [List.take_of_length_le (by rw [hbl.out]; exact Nat.le_refl _)] at hG2; have HG := hide hG2; clear hG2 hG1 hv1 hlO1 hcO1 hel_a4 hel_a3 hci
      have hr := hide (prt_obj (d := d) HK.out)
      have hjz : (joinC (partsL d a)).length ≤ 800000000000 := by have := hbd.out a.items.length; rw [List.take_of_length_le (by rw [hpl.out]; exact Nat.le_refl _)] at this; exact this
      have b1 : (9223372036854775807 < 1 + (joinC (partsL d a)).length) = False := by simp; omega
      have b2 : (9223372036854775807 < 1 + (joinC (partsL d a)).length + 1) = False := by simp; omega
      go_wp2_with fail
      refine (impl_Join HG.out (l := partsL d a) (partsB_def d a) (by rw [hbl.out]; exact hil.out) hjz).mono ?_; rintro e w3 ⟨rfl, hb3⟩; replace q_a := box_on q_a rfl hb3; have hw3 := nxt hwl1 hb3
      go_wp2_with fail
      go_ret
      exact ⟨by rw [hr.out, ← wrap_add]; rfl, hw3⟩
end Go.Proofs.YtdleccpjejdgiaaGreatDoor
