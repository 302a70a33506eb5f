/-
  The texts PrintI1, PrintI2 as one: no condition but those that each names. Put together by a program (merge.py).
-/
import Derived.Test.YtdleccpjejdgiaaGreatDoorPrintI
-- PrintI1
namespace Go.Proofs.YtdleccpjejdgiaaGreatDoor
open Go.ChangeShapes Go.WideShapes Go.ChangeAt Go.RowKit Go.Deep
set_option maxRecDepth 100000
set_option linter.unusedVariables false
set_option linter.unusedSimpArgs false

set_option maxHeartbeats 16000000 in
theorem print_k1f {w : World} {d : Nat} (IH : PRD d) (hT : PT w) {bs_a : List Nat} {cs_a : List Value} {a : Json} (H_a : JsonR w bs_a cs_a a) (hk : a.kind = 1) (hg : goodJ (d + 1) a = true) (h4 : cnt (d + 1) a ≤ 400) (hn : a.n = 0) :
    Calls Tryz.prog 16 #[.agg cs_a.toArray] w (fun e w' => e = .returned (.string (⟨(prtL (d + 1) a).toArray⟩)) ∧ Below w.heap.size w w') := by
  have H0_a := H_a
  obtain ⟨a_v3, a_b3, a_v4, a_b4, rfl, rfl, hf_a, a_r3, a_r4⟩ := H_a.open
  obtain ⟨A_a3, c_a3, rfl, hlc_a3, hcm_a3, hel_a3⟩ := a_r3.use
  obtain ⟨A_a4, c_a4, rfl, hlc_a4, hcm_a4, hel_a4⟩ := a_r4.use
  have hbx := ((Below.refl w.heap.size w).alloc (Nat.le_refl _) (.cells #[.int .i64 a.kind, .int .i64 a.n, .string a.t, .slice A_a3 a.keys.length c_a3, .slice A_a4 a.items.length c_a4] 31))
  have q_a := blk_cells (blk_new w #[.int .i64 a.kind, .int .i64 a.n, .string a.t, .slice A_a3 a.keys.length c_a3, .slice A_a4 a.items.length c_a4] 31)
  have HN := hide hn; clear hn
  have hgp := hide (good_parts hg); have hci := hide (fun k (hk : k < a.items.length) => cnt_item hk h4); have hpl := hide (parts_len (d := d) hgp.out.1); have hbl := hide (partsB_len (d := d) hgp.out.1); have hil := hide (len_cnt h4); have hbd := hide (parts_bd hg h4); have HT := hide hT
  have HK := hide hk
  have HL0 := hide ((part_kind hgp.out.1).2.2 (by omega))
  have c5 : (a.kind == 5) = false := by rw [hk]; rfl
  have c1 : (a.kind == 1) = true := by rw [hk]; rfl
  have c2 : (a.kind == 2) = false := by rw [hk]; rfl
  have c3 : (a.kind == 3) = false := by rw [hk]; rfl
  have c4 : (a.kind == 4) = false := by rw [hk]; rfl
  clear hk hg h4 hT hf_a
  go_enter Tryz.func16, Tryz.ntmps16
  go_wp2_with fail
  have hG1 := hide (Own.made' (size := 1) (R := StrR) (e := 9) (w := (w.alloc (.cells #[.int .i64 a.kind, .int .i64 a.n, .string a.t, .slice A_a3 a.keys.length c_a3, .slice A_a4 a.items.length c_a4] 31))) (n := w.heap.size + 1) (by simp))
  obtain ⟨ii1, hi1, hz1, hs1, hby1⟩ := info_parts StringS.info
  go_loopw [3, 11] (fun o i wr => ∃ (k : Nat) (v : Value), k ≤ a.items.length ∧ i = .int .i64 k ∧ o = v ∧ Hid (Own 1 StrR 9 (World.heap ((w.alloc (.cells #[.int .i64 a.kind, .int .i64 a.n, .string a.t, .slice A_a3 a.keys.length c_a3, .slice A_a4 a.items.length c_a4] 31)))).size wr v ((partsB d a).take k)) ∧ Below (World.heap ((w.alloc (.cells #[.int .i64 a.kind, .int .i64 a.n, .string a.t, .slice A_a3 a.keys.length c_a3, .slice A_a4 a.items.length c_a4] 31)))).size ((w.alloc (.cells #[.int .i64 a.kind, .int .i64 a.n, .string a.t, .slice A_a3 a.keys.length c_a3, .slice A_a4 a.items.length c_a4] 31))) wr) (fun _ i _ => a.items.length - (intOf i).toNat)
  case atStart => exact ⟨0, _, Nat.zero_le _, rfl, rfl, hG1, (Below.refl _ _).alloc (Nat.le_refl _) _⟩
  case round =>
    clear hG1
    obtain ⟨k1, v1_, hk1, rfl, hov1, hG1, hb1001⟩ := hrel; replace hov1 := hov1.symm; subst hov1
    obtain ⟨wl1, rfl⟩ : ∃ w' : World, w' = wr := ⟨_, rfl⟩
    obtain ⟨O1, cO1, hv1, hlO1, hcO1⟩ := hG1.out.form
    replace q_a := box_on q_a rfl hb1001
    have hwl1 := nxt hbx hb1001
    have hz0_1 := Below.refl (World.heap wl1).size wl1
    by_cases hlt1 : k1 < a.items.length
    · exact absurd hlt1 (by have := HL0.out; omega)
    · obtain rfl : k1 = a.items.length := by omega
      have hG2 := hG1.out; rw [List.take_of_length_le (by rw [hbl.out]; exact Nat.le_refl _)] at hG2; have HG := hide hG2; clear hG2 hG1 hv1 hlO1 hcO1 hel_a4 hel_a3 hci
      have hr : Hid (prtL (d + 1) a = [102, 97, 108, 115, 101]) := by show _ = _; unfold prtL; simp [HK.out, HN.out]
      have hn := HN.out
      have q_a9 := q_a
      replace q_a := box_on q_a rfl ((Below.refl (World.heap (wl1)).size (wl1)).alloc (Nat.le_refl _) (.cells #[.string ⟨#[102, 97, 108, 115, 101]⟩, .string ⟨#[116, 114, 117, 101]⟩] 9))
      have q_v2 := blk_cells (blk_new (wl1) #[.string ⟨#[102, 97, 108, 115, 101]⟩, .string ⟨#[116, 114, 117, 101]⟩] 9)
      have hn1 := (hwl1).alloc (hwl1).size (.cells #[.string ⟨#[102, 97, 108, 115, 101]⟩, .string ⟨#[116, 114, 117, 101]⟩] 9)
      go_wp2_with fail
      clear q_a9
      go_ret
      exact ⟨by rw [hr.out]; rfl, hn1⟩
set_option maxHeartbeats 16000000 in
theorem print_k1t {w : World} {d : Nat} (IH : PRD d) (hT : PT w) {bs_a : List Nat} {cs_a : List Value} {a : Json} (H_a : JsonR w bs_a cs_a a) (hk : a.kind = 1) (hg : goodJ (d + 1) a = true) (h4 : cnt (d + 1) a ≤ 400) (hn : a.n = 1) :
    Calls Tryz.prog 16 #[.agg cs_a.toArray] w (fun e w' => e = .returned (.string (⟨(prtL (d + 1) a).toArray⟩)) ∧ Below w.heap.size w w') := by
  have H0_a := H_a
  obtain ⟨a_v3, a_b3, a_v4, a_b4, rfl, rfl, hf_a, a_r3, a_r4⟩ := H_a.open
  obtain ⟨A_a3, c_a3, rfl, hlc_a3, hcm_a3, hel_a3⟩ := a_r3.use
  obtain ⟨A_a4, c_a4, rfl, hlc_a4, hcm_a4, hel_a4⟩ := a_r4.use
  have hbx := ((Below.refl w.heap.size w).alloc (Nat.le_refl _) (.cells #[.int .i64 a.kind, .int .i64 a.n, .string a.t, .slice A_a3 a.keys.length c_a3, .slice A_a4 a.items.length c_a4] 31))
  have q_a := blk_cells (blk_new w #[.int .i64 a.kind, .int .i64 a.n, .string a.t, .slice A_a3 a.keys.length c_a3, .slice A_a4 a.items.length c_a4] 31)
  have HN := hide hn; clear hn
  have hgp := hide (good_parts hg); have hci := hide (fun k (hk : k < a.items.length) => cnt_item hk h4); have hpl := hide (parts_len (d := d) hgp.out.1); have hbl := hide (partsB_len (d := d) hgp.out.1); have hil := hide (len_cnt h4); have hbd := hide (parts_bd hg h4); have HT := hide hT
  have HK := hide hk
  have HL0 := hide ((part_kind hgp.out.1).2.2 (by omega))
  have c5 : (a.kind == 5) = false := by rw [hk]; rfl
  have c1 : (a.kind == 1) = true := by rw [hk]; rfl
  have c2 : (a.kind == 2) = false := by rw [hk]; rfl
  have c3 : (a.kind == 3) = false := by rw [hk]; rfl
  have c4 : (a.kind == 4) = false := by rw [hk]; rfl
  clear hk hg h4 hT hf_a
  go_enter Tryz.func16, Tryz.ntmps16
  go_wp2_with fail
  have hG1 := hide (Own.made' (size := 1) (R := StrR) (e := 9) (w := (w.alloc (.cells #[.int .i64 a.kind, .int .i64 a.n, .string a.t, .slice A_a3 a.keys.length c_a3, .slice A_a4 a.items.length c_a4] 31))) (n := w.heap.size + 1) (by simp))
  obtain ⟨ii1, hi1, hz1, hs1, hby1⟩ := info_parts StringS.info
  go_loopw [3, 11] (fun o i wr => ∃ (k : Nat) (v : Value), k ≤ a.items.length ∧ i = .int .i64 k ∧ o = v ∧ Hid (Own 1 StrR 9 (World.heap ((w.alloc (.cells #[.int .i64 a.kind, .int .i64 a.n, .string a.t, .slice A_a3 a.keys.length c_a3, .slice A_a4 a.items.length c_a4] 31)))).size wr v ((partsB d a).take k)) ∧ Below (World.heap ((w.alloc (.cells #[.int .i64 a.kind, .int .i64 a.n, .string a.t, .slice A_a3 a.keys.length c_a3, .slice A_a4 a.items.length c_a4] 31)))).size ((w.alloc (.cells #[.int .i64 a.kind, .int .i64 a.n, .string a.t, .slice A_a3 a.keys.length c_a3, .slice A_a4 a.items.length c_a4] 31))) wr) (fun _ i _ => a.items.length - (intOf i).toNat)
  case atStart => exact ⟨0, _, Nat.zero_le _, rfl, rfl, hG1, (Below.refl _ _).alloc (Nat.le_refl _) _⟩
  case round =>
    clear hG1
    obtain ⟨k1, v1_, hk1, rfl, hov1, hG1, hb1001⟩ := hrel; replace hov1 := hov1.symm; subst hov1
    obtain ⟨wl1, rfl⟩ : ∃ w' : World, w' = wr := ⟨_, rfl⟩
    obtain ⟨O1, cO1, hv1, hlO1, hcO1⟩ := hG1.out.form
    replace q_a := box_on q_a rfl hb1001
    have hwl1 := nxt hbx hb1001
    have hz0_1 := Below.refl (World.heap wl1).size wl1
    by_cases hlt1 : k1 < a.items.length
    · exact absurd hlt1 (by have := HL0.out; omega)
    · obtain rfl : k1 = a.items.length := by omega
      have hG2 := hG1.out; rw [List.take_of_length_le (by rw [hbl.out]; exact Nat.le_refl _)] at hG2; have HG := hide hG2; clear hG2 hG1 hv1 hlO1 hcO1 hel_a4 hel_a3 hci
      have hr : Hid (prtL (d + 1) a = [116, 114, 117, 101]) := by show _ = _; unfold prtL; simp [HK.out, HN.out]
      have hn := HN.out
      have q_a9 := q_a
      replace q_a := box_on q_a rfl ((Below.refl (World.heap (wl1)).size (wl1)).alloc (Nat.le_refl _) (.cells #[.string ⟨#[102, 97, 108, 115, 101]⟩, .string ⟨#[116, 114, 117, 101]⟩] 9))
      have q_v2 := blk_cells (blk_new (wl1) #[.string ⟨#[102, 97, 108, 115, 101]⟩, .string ⟨#[116, 114, 117, 101]⟩] 9)
      have hn1 := (hwl1).alloc (hwl1).size (.cells #[.string ⟨#[102, 97, 108, 115, 101]⟩, .string ⟨#[116, 114, 117, 101]⟩] 9)
      go_wp2_with fail
      clear q_a9
      go_ret
      exact ⟨by rw [hr.out]; rfl, hn1⟩
end Go.Proofs.YtdleccpjejdgiaaGreatDoor

-- PrintI2
namespace Go.Proofs.YtdleccpjejdgiaaGreatDoor
open Go.ChangeShapes Go.WideShapes Go.ChangeAt Go.RowKit Go.Deep
set_option maxRecDepth 100000
set_option linter.unusedVariables false
set_option linter.unusedSimpArgs false

set_option maxHeartbeats 16000000 in
theorem print_k2 {w : World} {d : Nat} (IH : PRD d) (hT : PT w) {bs_a : List Nat} {cs_a : List Value} {a : Json} (H_a : JsonR w bs_a cs_a a) (hk : a.kind = 2) (hg : goodJ (d + 1) a = true) (h4 : cnt (d + 1) a ≤ 400) :
    Calls Tryz.prog 16 #[.agg cs_a.toArray] w (fun e w' => e = .returned (.string (⟨(prtL (d + 1) a).toArray⟩)) ∧ Below w.heap.size w w') := by
  have H0_a := H_a
  obtain ⟨a_v3, a_b3, a_v4, a_b4, rfl, rfl, hf_a, a_r3, a_r4⟩ := H_a.open
  obtain ⟨A_a3, c_a3, rfl, hlc_a3, hcm_a3, hel_a3⟩ := a_r3.use
  obtain ⟨A_a4, c_a4, rfl, hlc_a4, hcm_a4, hel_a4⟩ := a_r4.use
  have hbx := ((Below.refl w.heap.size w).alloc (Nat.le_refl _) (.cells #[.int .i64 a.kind, .int .i64 a.n, .string a.t, .slice A_a3 a.keys.length c_a3, .slice A_a4 a.items.length c_a4] 31))
  have q_a := blk_cells (blk_new w #[.int .i64 a.kind, .int .i64 a.n, .string a.t, .slice A_a3 a.keys.length c_a3, .slice A_a4 a.items.length c_a4] 31)
  have hgp := hide (good_parts hg); have hci := hide (fun k (hk : k < a.items.length) => cnt_item hk h4); have hpl := hide (parts_len (d := d) hgp.out.1); have hbl := hide (partsB_len (d := d) hgp.out.1); have hil := hide (len_cnt h4); have hbd := hide (parts_bd hg h4); have HT := hide hT
  have HK := hide hk
  have HL0 := hide ((part_kind hgp.out.1).2.2 (by omega))
  have c5 : (a.kind == 5) = false := by rw [hk]; rfl
  have c1 : (a.kind == 1) = false := by rw [hk]; rfl
  have c2 : (a.kind == 2) = true := by rw [hk]; rfl
  have c3 : (a.kind == 3) = false := by rw [hk]; rfl
  have c4 : (a.kind == 4) = false := by rw [hk]; rfl
  clear hk hg h4 hT hf_a
  go_enter Tryz.func16, Tryz.ntmps16
  go_wp2_with fail
  have hG1 := hide (Own.made' (size := 1) (R := StrR) (e := 9) (w := (w.alloc (.cells #[.int .i64 a.kind, .int .i64 a.n, .string a.t, .slice A_a3 a.keys.length c_a3, .slice A_a4 a.items.length c_a4] 31))) (n := w.heap.size + 1) (by simp))
  obtain ⟨ii1, hi1, hz1, hs1, hby1⟩ := info_parts StringS.info
  go_loopw [3, 11] (fun o i wr => ∃ (k : Nat) (v : Value), k ≤ a.items.length ∧ i = .int .i64 k ∧ o = v ∧ Hid (Own 1 StrR 9 (World.heap ((w.alloc (.cells #[.int .i64 a.kind, .int .i64 a.n, .string a.t, .slice A_a3 a.keys.length c_a3, .slice A_a4 a.items.length c_a4] 31)))).size wr v ((partsB d a).take k)) ∧ Below (World.heap ((w.alloc (.cells #[.int .i64 a.kind, .int .i64 a.n, .string a.t, .slice A_a3 a.keys.length c_a3, .slice A_a4 a.items.length c_a4] 31)))).size ((w.alloc (.cells #[.int .i64 a.kind, .int .i64 a.n, .string a.t, .slice A_a3 a.keys.length c_a3, .slice A_a4 a.items.length c_a4] 31))) wr) (fun _ i _ => a.items.length - (intOf i).toNat)
  case atStart => exact ⟨0, _, Nat.zero_le _, rfl, rfl, hG1, (Below.refl _ _).alloc (Nat.le_refl _) _⟩
  case round =>
    clear hG1
    obtain ⟨k1, v1_, hk1, rfl, hov1, hG1, hb1001⟩ := hrel; replace hov1 := hov1.symm; subst hov1
    obtain ⟨wl1, rfl⟩ : ∃ w' : World, w' = wr := ⟨_, rfl⟩
    obtain ⟨O1, cO1, hv1, hlO1, hcO1⟩ := hG1.out.form
    replace q_a := box_on q_a rfl hb1001
    have hwl1 := nxt hbx hb1001
    have hz0_1 := Below.refl (World.heap wl1).size wl1
    by_cases hlt1 : k1 < a.items.length
    · exact absurd hlt1 (by have := HL0.out; omega)
    · obtain rfl : k1 = a.items.length := by omega
      have hG2 := hG1.out; rw [List.take_of_length_le (by rw [hbl.out]; exact Nat.le_refl _)] at hG2; have HG := hide hG2; clear hG2 hG1 hv1 hlO1 hcO1 hel_a4 hel_a3 hci
      have hr : Hid (prtL (d + 1) a = digI a.n) := by show _ = _; unfold prtL; simp [HK.out]
      go_wp2_with fail
      refine (impl_Itoa (HT.out.below hwl1) (part_num hgp.out.1 HK.out).1 (part_num hgp.out.1 HK.out).2).mono ?_; rintro e w1 ⟨rfl, hb1⟩; replace q_a := box_on q_a rfl hb1; have hw1 := nxt hwl1 hb1
      go_wp2_with fail
      go_ret
      exact ⟨by rw [hr.out]; rfl, hw1⟩
set_option maxHeartbeats 16000000 in
theorem print_k3 {w : World} {d : Nat} (IH : PRD d) (hT : PT w) {bs_a : List Nat} {cs_a : List Value} {a : Json} (H_a : JsonR w bs_a cs_a a) (hk : a.kind = 3) (hg : goodJ (d + 1) a = true) (h4 : cnt (d + 1) a ≤ 400) :
    Calls Tryz.prog 16 #[.agg cs_a.toArray] w (fun e w' => e = .returned (.string (⟨(prtL (d + 1) a).toArray⟩)) ∧ Below w.heap.size w w') := by
  have H0_a := H_a
  obtain ⟨a_v3, a_b3, a_v4, a_b4, rfl, rfl, hf_a, a_r3, a_r4⟩ := H_a.open
  obtain ⟨A_a3, c_a3, rfl, hlc_a3, hcm_a3, hel_a3⟩ := a_r3.use
  obtain ⟨A_a4, c_a4, rfl, hlc_a4, hcm_a4, hel_a4⟩ := a_r4.use
  have hbx := ((Below.refl w.heap.size w).alloc (Nat.le_refl _) (.cells #[.int .i64 a.kind, .int .i64 a.n, .string a.t, .slice A_a3 a.keys.length c_a3, .slice A_a4 a.items.length c_a4] 31))
  have q_a := blk_cells (blk_new w #[.int .i64 a.kind, .int .i64 a.n, .string a.t, .slice A_a3 a.keys.length c_a3, .slice A_a4 a.items.length c_a4] 31)
  have hgp := hide (good_parts hg); have hci := hide (fun k (hk : k < a.items.length) => cnt_item hk h4); have hpl := hide (parts_len (d := d) hgp.out.1); have hbl := hide (partsB_len (d := d) hgp.out.1); have hil := hide (len_cnt h4); have hbd := hide (parts_bd hg h4); have HT := hide hT
  have HK := hide hk
  have hts := part_text hgp.out.1 hk
  have HL0 := hide ((part_kind hgp.out.1).2.2 (by omega))
  have c5 : (a.kind == 5) = false := by rw [hk]; rfl
  have c1 : (a.kind == 1) = false := by rw [hk]; rfl
  have c2 : (a.kind == 2) = false := by rw [hk]; rfl
  have c3 : (a.kind == 3) = true := by rw [hk]; rfl
  have c4 : (a.kind == 4) = false := by rw [hk]; rfl
  clear hk hg h4 hT hf_a
  go_enter Tryz.func16, Tryz.ntmps16
  go_wp2_with fail
  have hG1 := hide (Own.made' (size := 1) (R := StrR) (e := 9) (w := (w.alloc (.cells #[.int .i64 a.kind, .int .i64 a.n, .string a.t, .slice A_a3 a.keys.length c_a3, .slice A_a4 a.items.length c_a4] 31))) (n := w.heap.size + 1) (by simp))
  obtain ⟨ii1, hi1, hz1, hs1, hby1⟩ := info_parts StringS.info
  go_loopw [3, 11] (fun o i wr => ∃ (k : Nat) (v : Value), k ≤ a.items.length ∧ i = .int .i64 k ∧ o = v ∧ Hid (Own 1 StrR 9 (World.heap ((w.alloc (.cells #[.int .i64 a.kind, .int .i64 a.n, .string a.t, .slice A_a3 a.keys.length c_a3, .slice A_a4 a.items.length c_a4] 31)))).size wr v ((partsB d a).take k)) ∧ Below (World.heap ((w.alloc (.cells #[.int .i64 a.kind, .int .i64 a.n, .string a.t, .slice A_a3 a.keys.length c_a3, .slice A_a4 a.items.length c_a4] 31)))).size ((w.alloc (.cells #[.int .i64 a.kind, .int .i64 a.n, .string a.t, .slice A_a3 a.keys.length c_a3, .slice A_a4 a.items.length c_a4] 31))) wr) (fun _ i _ => a.items.length - (intOf i).toNat)
  case atStart => exact ⟨0, _, Nat.zero_le _, rfl, rfl, hG1, (Below.refl _ _).alloc (Nat.le_refl _) _⟩
  case round =>
    clear hG1
    obtain ⟨k1, v1_, hk1, rfl, hov1, hG1, hb1001⟩ := hrel; replace hov1 := hov1.symm; subst hov1
    obtain ⟨wl1, rfl⟩ : ∃ w' : World, w' = wr := ⟨_, rfl⟩
    obtain ⟨O1, cO1, hv1, hlO1, hcO1⟩ := hG1.out.form
    replace q_a := box_on q_a rfl hb1001
    have hwl1 := nxt hbx hb1001
    have hz0_1 := Below.refl (World.heap wl1).size wl1
    by_cases hlt1 : k1 < a.items.length
    · exact absurd hlt1 (by have := HL0.out; omega)
    · obtain rfl : k1 = a.items.length := by omega
      have hG2 := hG1.out; rw [List.take_of_length_le (by rw [hbl.out]; exact Nat.le_refl _)] at hG2; have HG := hide hG2; clear hG2 hG1 hv1 hlO1 hcO1 hel_a4 hel_a3 hci
      have hr : Hid (prtL (d + 1) a = quoteL a.t) := by show _ = _; unfold prtL; simp [HK.out]
      go_wp2_with fail
      refine (impl_quoted a.t hts).mono ?_; rintro e w1 ⟨rfl, hb1⟩; replace q_a := box_on q_a rfl hb1; have hw1 := nxt hwl1 hb1
      go_wp2_with fail
      go_ret
      exact ⟨by rw [hr.out]; rfl, hw1⟩
end Go.Proofs.YtdleccpjejdgiaaGreatDoor
