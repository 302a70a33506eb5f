/- PutRow of the program. No statement is proved here; no conditions. Written by a program (gen67.py). -/
import Derived.Test.YtfkpllkgganejaaPutR
namespace Go.Proofs.Ytfkpllkgganejaa
open Go.ChangeShapes Go.WideShapes Go.ChangeAt Go.RowKit Go.Deep
set_option maxRecDepth 100000
set_option linter.unusedVariables false
set_option linter.unusedSimpArgs false

def putAns (x : Store) (n : Int) (r : Row) : Store × Int := if tblCode x n = 0 then cond (!hasId (tabOf x n) r.id && decide ((12 : Int) ≤ (tabOf x n).length)) (x, 7) (⟨x.tables.set n.toNat (putL (tabOf x n) r), x.next⟩, 0) else (⟨[], 0⟩, tblCode x n)
set_option maxHeartbeats 16000000 in
theorem impl_PutRow {w : World}  {bs_x : List Nat} {cs_x : List Value} {x : Store} (H_x : StoreR w bs_x cs_x x) (n : Int) {bs_r : List Nat} {cs_r : List Value} {r : Row} (H_r : RowR w bs_r cs_r r) (hk : x.bulk ≤ 1048576) (hk2 : r.bulk ≤ 1048576) :
    Calls Try.prog 9 #[.agg cs_x.toArray, .int .i64 n, .agg cs_r.toArray] w (OutP StoreR w (putAns x n r).1 (putAns x n r).2) := by
  have H0_x := H_x
  obtain ⟨x_v0, x_b0, rfl, rfl, hf_x, x_r0⟩ := H_x
  obtain ⟨A_x0, c_x0, rfl, hlc_x0, hcm_x0, hel_x0⟩ := x_r0.use
  have H0_r := H_r
  obtain ⟨r_v1, r_b1, rfl, rfl, hf_r, r_r1⟩ := H_r
  obtain ⟨A_r1, c_r1, rfl, hlc_r1, hcm_r1, hel_r1⟩ := r_r1.use
  have hbx := ((((Below.refl w.heap.size w).alloc (Nat.le_refl _) (.cells #[.slice A_x0 x.tables.length c_x0, .int .i64 x.next] 32)).alloc (by simp; try omega) (.cells #[.int .i64 r.id, .slice A_r1 r.cells.length c_r1] 38)).alloc (by simp; try omega) (.cells #[.slice none 0 0, .int .i64 0] 32))
  obtain ⟨q_x, q_r, q_res⟩ := three_at (Below.refl (((w.alloc (.cells #[.slice A_x0 x.tables.length c_x0, .int .i64 x.next] 32)).alloc (.cells #[.int .i64 r.id, .slice A_r1 r.cells.length c_r1] 38)).alloc (.cells #[.slice none 0 0, .int .i64 0] 32)).heap.size _)
  have R_res : World.heap (((w.alloc (.cells #[.slice A_x0 x.tables.length c_x0, .int .i64 x.next] 32)).alloc (.cells #[.int .i64 r.id, .slice A_r1 r.cells.length c_r1] 38)).alloc (.cells #[.slice none 0 0, .int .i64 0] 32)) = World.heap (((w.alloc (.cells #[.slice A_x0 x.tables.length c_x0, .int .i64 x.next] 32)).alloc (.cells #[.int .i64 r.id, .slice A_r1 r.cells.length c_r1] 38)).alloc (.cells #[.slice none 0 0, .int .i64 0] 32)) := rfl
  clear R_res
  have R_res : (World.heap (((w.alloc (.cells #[.slice A_x0 x.tables.length c_x0, .int .i64 x.next] 32)).alloc (.cells #[.int .i64 r.id, .slice A_r1 r.cells.length c_r1] 38)).alloc (.cells #[.slice none 0 0, .int .i64 0] 32)))[w.heap.size + 1 + 1]? = some (.cells #[.slice none 0 0, .int .i64 0] 32 (0, 0)) := by simpa using blk_new (((w.alloc (.cells #[.slice A_x0 x.tables.length c_x0, .int .i64 x.next] 32)).alloc (.cells #[.int .i64 r.id, .slice A_r1 r.cells.length c_r1] 38))) #[.slice none 0 0, .int .i64 0] 32
  have R_free := blk_free R_res
  have R_r : (World.heap (((w.alloc (.cells #[.slice A_x0 x.tables.length c_x0, .int .i64 x.next] 32)).alloc (.cells #[.int .i64 r.id, .slice A_r1 r.cells.length c_r1] 38)).alloc (.cells #[.slice none 0 0, .int .i64 0] 32)))[w.heap.size + 1]? = some (.cells #[.int .i64 r.id, .slice A_r1 r.cells.length c_r1] 38 (0, 0)) := by simpa using blk_old (blk_new ((w.alloc (.cells #[.slice A_x0 x.tables.length c_x0, .int .i64 x.next] 32))) #[.int .i64 r.id, .slice A_r1 r.cells.length c_r1] 38) (.cells #[.slice none 0 0, .int .i64 0] 32)
  have R_free_r := blk_free R_r
  have HK := hide hk; have HK2 := hide hk2; have HX := hide hel_x0; clear hk hk2 hel_x0 hel_r1
  go_enter Try.func9, Try.ntmps9
  go_wp2_with fail
  refine (impl_tableCode (StoreR.good.nxt hbx H0_x) n).mono ?_; rintro e w1 ⟨rfl, hb1⟩; replace q_x := box_on q_x rfl hb1; replace q_r := box_on q_r rfl hb1; replace q_res := box_on q_res rfl hb1; have hw1 := nxt hbx hb1; replace R_res := blk_on R_res hb1; replace R_free := blk_free R_res; replace R_r := blk_on R_r hb1; replace R_free_r := blk_free R_r
  by_cases h1 : ¬ tblCode x n = 0
  · have hs : Hid (putAns x n r = (⟨[], 0⟩, tblCode x n)) := by show _ = _; unfold putAns; rw [if_neg h1]
    have hc : (tblCode x n != 0) = true := by simp [h1]
    clear h1
    go_wp2_with fail
    have fin : _ = some (Obj.cells #[.slice none 0 0, .int .i64 0] 32 (0, 0)) := (blk_set (blk_set R_res 0 (.slice none 0 0)) 1 (.int .i64 0))
    have fc := blk_cells fin
    have HU := (((Upd.refl [w.heap.size + 1 + 1] w1).set (p := ⟨w.heap.size + 1 + 1, 0, none⟩) (by simp) rfl (.slice none 0 0)).set (p := ⟨w.heap.size + 1 + 1, 1, none⟩) (by simp) rfl (.int .i64 0))
    refine bodyPost_ret (v := .tuple #[.agg #[.slice none 0 0, .int .i64 0], .int .i64 (tblCode x n)]) (by simp [results, Try.results9, go_sem, fc]) rfl ?_
    rw [hs.out]
    exact ⟨[.slice none 0 0, .int .i64 0], [], rfl, zeroStore, Fr.nil _ _, ((hw1.setCell (p := ⟨w.heap.size + 1 + 1, 0, none⟩) (by simp; try omega) (.slice none 0 0)).setCell (p := ⟨w.heap.size + 1 + 1, 1, none⟩) (by simp; try omega) (.int .i64 0))⟩
  have h1 := Decidable.not_not.1 h1
  have hc : (tblCode x n != 0) = false := by simp [h1]
  obtain ⟨m, rfl, hm, ht, hr⟩ := tblCode_zero h1
  have hrm := hr _ (List.getElem_mem hm)
  have hs0 : Hid (putAns x m r = cond (!hasId x.tables[m] r.id && decide ((12 : Int) ≤ x.tables[m].length)) (x, 7) (⟨x.tables.set m (putL x.tables[m] r), x.next⟩, 0)) := by show _ = _; unfold putAns; rw [if_pos h1, ht, Int.toNat_natCast]
  have HT := Store.tab_le HK.out hm; have HTL := hide (RowS.len_le HT)
  clear h1 ht hr HT
  have hres := hide (lt_of_cells R_res)
  go_wp2_with fail
  refine (impl_copyStoreO (StoreR.good.nxt hw1 H0_x) HK.out).mono ?_; rintro e w2 ⟨cs2, bs2, rfl, r2, f2, hb2⟩; replace q_x := box_on q_x rfl hb2; replace q_r := box_on q_r rfl hb2; replace q_res := box_on q_res rfl hb2; have hw2 := nxt hw1 hb2; replace R_res := blk_on R_res hb2; replace R_free := blk_free R_res; replace R_r := blk_on R_r hb2; replace R_free_r := blk_free R_r
  obtain ⟨w2v, w2b, rfl, hw2b, hf2, w2r⟩ := r2; subst hw2b; have w2r0 := w2r; obtain ⟨A2, c2, hv2_, _⟩ := w2r; obtain rfl : w2v = .slice A2 x.tables.length c2 := by simpa using hv2_
  clear hv2_
  have hin : ∀ b ∈ bs2, w.heap.size + 1 + 1 < b := fun b hb => by have := (f2.2 b hb).1; have := hres.out; omega
  have hin := hide hin; have hlt2 := hide f2.lt
  replace q_x := box_on q_x rfl ((Below.refl (World.heap (w2)).size (w2)).alloc (Nat.le_refl _) (.cells #[.slice A2 x.tables.length c2, .int .i64 x.next] 32))
  replace q_r := box_on q_r rfl ((Below.refl (World.heap (w2)).size (w2)).alloc (Nat.le_refl _) (.cells #[.slice A2 x.tables.length c2, .int .i64 x.next] 32))
  replace q_res := box_on q_res rfl ((Below.refl (World.heap (w2)).size (w2)).alloc (Nat.le_refl _) (.cells #[.slice A2 x.tables.length c2, .int .i64 x.next] 32))
  replace R_res := blk_on R_res ((Below.refl (World.heap (w2)).size (w2)).alloc (Nat.le_refl _) (.cells #[.slice A2 x.tables.length c2, .int .i64 x.next] 32)); replace R_free := blk_free R_res; replace R_r := blk_on R_r ((Below.refl (World.heap (w2)).size (w2)).alloc (Nat.le_refl _) (.cells #[.slice A2 x.tables.length c2, .int .i64 x.next] 32)); replace R_free_r := blk_free R_r
  have q_o := blk_cells (blk_new (w2) #[.slice A2 x.tables.length c2, .int .i64 x.next] 32)
  have hn1 := (hw2).alloc (hw2).size (.cells #[.slice A2 x.tables.length c2, .int .i64 x.next] 32)
  have R_o := blk_new w2 #[.slice A2 x.tables.length c2, .int .i64 x.next] 32; have R_free_o := blk_free R_o
  have hsg := hide (RowSSO.good.nxt ((Below.refl w2.heap.size w2).alloc (Nat.le_refl _) (.cells #[.slice A2 x.tables.length c2, .int .i64 x.next] 32)) w2r0); have hfg := hide (f2.below ((Below.refl w2.heap.size w2).alloc (Nat.le_refl _) (.cells #[.slice A2 x.tables.length c2, .int .i64 x.next] 32)))
  go_wp2_with fail
  refine (impl_hasRow (StoreR.good.nxt hn1 H0_x) hm r.id hrm HTL.out).mono ?_; rintro e w3 ⟨rfl, hb3⟩; replace q_x := box_on q_x rfl hb3; replace q_r := box_on q_r rfl hb3; replace q_res := box_on q_res rfl hb3; replace q_o := box_on q_o rfl hb3; have hw3 := nxt hn1 hb3; replace R_res := blk_on R_res hb3; replace R_free := blk_free R_res; replace R_r := blk_on R_r hb3; replace R_free_r := blk_free R_r; replace R_o := blk_on R_o hb3; replace R_free_o := blk_free R_o
  have hsg2 := RowSSO.good.nxt hb3 hsg.out; have hfg2 := hfg.out.below hb3
  have HS2 := hide hsg2; clear hsg2 w2r0 hsg
  cases h5 : hasId x.tables[m] r.id
  · obtain ⟨tb, to, tbk, tes, rfl, thbl, thcl, thcell, tR, thbk⟩ := HX.out m hm
    obtain ⟨tA, tc, thlc, rfl⟩ : ∃ A0 c0, x.tables[m].length ≤ c0 ∧ tes = [.slice A0 x.tables[m].length c0] := by obtain ⟨A0, c0, h, h2, _⟩ := tR; exact ⟨A0, c0, h2, h⟩
    have t_0 := (hw3.cell (p := ⟨tb, _, none⟩) thbl).trans (thcell 0 _ rfl)
    simp only [Nat.add_zero, Nat.mul_one] at t_0
    clear thcell thcl
    clear HX
    cases h6 : decide ((12 : Int) ≤ x.tables[m].length)
    · have hs : Hid (putAns x m r = (⟨x.tables.set m (putL x.tables[m] r), x.next⟩, 0)) := by show _ = _; rw [hs0.out, h5, h6]; rfl
      clear h5
      clear hs0
      obtain ⟨pb, po, pbk, pes, pcur, pe, rfl, hcur, hbm, hbn, hsub, hpes, hpc, hpR, hpF, hclose⟩ := SlR.put RowSO.good HS2.out hfg2 hm
      have hclose := hide hclose; have hsub := hide hsub; have hpR0 := hpR; obtain ⟨pA, pc, rfl⟩ : ∃ A c, pes = [.slice A x.tables[m].length c] := by obtain ⟨v, bss, rfl, _⟩ := hpR; obtain ⟨A, c, h, _⟩ := RowSO.form hpR0; exact ⟨A, c, by rw [h]⟩
      have hcell := hpc 0 _ rfl; simp only [Nat.mul_one, Nat.add_zero] at hcell hclose
      have g_0 := (blk_cells hcur _).trans hcell; have hpl : po + m < pcur.size := (Array.getElem?_eq_some_iff.1 hcell).1; have hno : w2.heap.size ∉ pbk ∧ w2.heap.size ≠ pb := ⟨fun h => by have := hlt2.out _ (hsub.out _ h); omega, fun h => by have := hlt2.out _ hbm; omega⟩
      have hnx : (w.heap.size + 1 + 1 ∉ pbk ∧ w.heap.size + 1 + 1 ≠ pb) := ⟨fun h => by have := hin.out _ (hsub.out _ h); omega, fun h => by have := hin.out _ hbm; omega⟩
      have hny : (w.heap.size + 1 ∉ pbk ∧ w.heap.size + 1 ≠ pb) := ⟨fun h => by have := hin.out _ (hsub.out _ h); omega, fun h => by have := hin.out _ hbm; omega⟩
      have o_0 := box_cell q_o 0 rfl; have y_0 := box_cell q_r 0 rfl; have y_1 := box_cell q_r 1 rfl
      clear hpc
      obtain ⟨FL, hFL⟩ : ∃ l, putL x.tables[m] r = l := ⟨_, rfl⟩
      have hs2 : Hid (putAns x m r = (⟨x.tables.set m FL, x.next⟩, 0)) := by show _ = _; rw [hs.out, hFL]
      clear hs
      have hcopy := hide (impl_copyRow (RowR.good.nxt (hw3).drew H0_r) HK2.out)
      have hput := fun (wc : World) (hbc : Below (World.drew w3).heap.size (World.drew w3) wc) (cy : List Value) (bk : List Nat) (hr : RowR wc bk cy r) (hfr : Fr (World.drew w3).heap.size wc bk) => impl_put (w := wc) (RowSO.good.nxt (nxt (Below.refl _ _).drew hbc) hpR0) (hpF.below (nxt (Below.refl _ _).drew hbc)) hrm HTL.out hr hfr (by have := (hpF.2 pb); have h1 := hlt2.out _ hbm; have h2 := (hfg2.2 pb hbm).1; have h3 := lt_of_cells R_o; show _ ≤ (World.heap w3).size; omega) (fun b hb => by have := hlt2.out _ (hsub.out _ hb); have h3 := lt_of_cells R_o; show b < (World.heap w3).size; omega) hbc.size
      rw [hFL] at hput; clear hFL; have HD := hide hput; clear hput
      have hne1 : w2.heap.size ≠ pb := hno.2; have hne2 : w.heap.size + 1 + 1 ≠ pb := hnx.2
      clear hc
      go_wp2_with fail
      refine wp_region_tail (fun w' => w'.cell? ⟨w2.heap.size, 0, none⟩ = some (.slice (some ⟨pb, po, none⟩) x.tables.length c2) ∧ w'.cell? ⟨pb, po + m, none⟩ = some (.slice pA x.tables[m].length pc) ∧ w'.cell? ⟨w.heap.size + 1, 0, none⟩ = some (.int .i64 r.id) ∧ w'.cell? ⟨w.heap.size + 1, 1, none⟩ = some (.slice A_r1 r.cells.length c_r1)) 12 (by kernel_rfl) (by decide) (show _ from ⟨o_0, g_0, y_0, y_1⟩) (fun hHeld => ?_)
      refine wpT_take (i := 0) rfl (by kernel_rfl) (fun _ _ _ h => h) (Or.inl ⟨by rfl, fun w hSw => by (try dsimp only at hSw); first | (go_simp; done) | (go_simp; with_reducible rfl)⟩) (by assumption) ?_
      (try simp only [Act.put, List.setIfInBounds_toArray, List.set_cons_zero, List.set_cons_succ])
      refine wpT_take (i := 1) rfl (by kernel_rfl) (fun _ _ _ h => h) (Or.inl ⟨by rfl, fun w hSw => by (try dsimp only at hSw); first | (go_simp; done) | (go_simp; with_reducible rfl)⟩) (by assumption) ?_
      (try simp only [Act.put, List.setIfInBounds_toArray, List.set_cons_zero, List.set_cons_succ])
      refine wpT_take (i := 2) rfl (by kernel_rfl) (fun _ _ _ h => h) (Or.inl ⟨by rfl, fun w hSw => by (try dsimp only at hSw); first | (go_simp; done) | (go_simp; with_reducible rfl)⟩) (by assumption) ?_
      (try simp only [Act.put, List.setIfInBounds_toArray, List.set_cons_zero, List.set_cons_succ])
      refine wpT_take (i := 3) rfl (by kernel_rfl) (fun _ _ _ h => h) (Or.inl ⟨by rfl, fun w hSw => by (try dsimp only at hSw); first | (go_simp; done) | (go_simp; with_reducible rfl)⟩) (by assumption) ?_
      (try simp only [Act.put, List.setIfInBounds_toArray, List.set_cons_zero, List.set_cons_succ])
      refine wpT_take (i := 4) rfl (by kernel_rfl) (fun _ _ _ h => h) (Or.inl ⟨by rfl, fun w hSw => by (try dsimp only at hSw); first | (go_simp; done) | (go_simp; with_reducible rfl)⟩) (by assumption) ?_
      (try simp only [Act.put, List.setIfInBounds_toArray, List.set_cons_zero, List.set_cons_succ])
      refine wpT_take (i := 5) rfl (by kernel_rfl) (fun _ _ _ h => h) (Or.inl ⟨by rfl, fun w hSw => by (try dsimp only at hSw); first | (go_simp; done) | (go_simp; with_reducible rfl)⟩) (by assumption) ?_
      (try simp only [Act.put, List.setIfInBounds_toArray, List.set_cons_zero, List.set_cons_succ])
      refine wpT_take (i := 6) rfl (by kernel_rfl) (fun _ _ _ h => h) (Or.inl ⟨by rfl, fun w hSw => by (try dsimp only at hSw); first | (go_simp; done) | (go_simp; with_reducible rfl)⟩) (by assumption) ?_
      (try simp only [Act.put, List.setIfInBounds_toArray, List.set_cons_zero, List.set_cons_succ])
      refine wpT_take (i := 7) rfl (by kernel_rfl) (fun _ _ _ h => h) (Or.inl ⟨by rfl, fun w hSw => by (try dsimp only at hSw); first | (go_simp; done) | (go_simp; with_reducible rfl)⟩) (by assumption) ?_
      (try simp only [Act.put, List.setIfInBounds_toArray, List.set_cons_zero, List.set_cons_succ])
      refine wpT_take (i := 8) rfl (by kernel_rfl) (fun _ _ _ h => h) (Or.inl ⟨by rfl, fun w hSw => by (try dsimp only at hSw); first | (go_simp; done) | (go_simp; with_reducible rfl)⟩) (by assumption) ?_
      (try simp only [Act.put, List.setIfInBounds_toArray, List.set_cons_zero, List.set_cons_succ])
      refine wpT_one (i := 9) rfl (by kernel_rfl) (fun K hK => ?_)
      go_simp; go_at_call 28; refine hcopy.out.mono ?_; rintro e wc ⟨cs3, bs3, rfl, r3, f3, hbc⟩; have r30 := r3; obtain ⟨w3v, w3b, _, rfl, _, w3r⟩ := r3; obtain ⟨A3, c3, rfl, _, _, _⟩ := w3r.use; have hwc := nxt (Below.refl _ _).drew hbc; have R_oc := blk_on R_o hwc; have R_resc := blk_on R_res hwc; have R_rc := blk_on R_r hwc; have hcurc := blk_on hcur hwc; have g_8 := (blk_cells hcurc _).trans hcell; have o_8 : wc.cell? ⟨w2.heap.size, 0, none⟩ = some (.slice (some ⟨pb, po, none⟩) x.tables.length c2) := blk_cells R_oc 0; have y_8 : wc.cell? ⟨w.heap.size + 1, 0, none⟩ = some (.int .i64 r.id) := blk_cells R_rc 0; have z_8 : wc.cell? ⟨w.heap.size + 1, 1, none⟩ = some (.slice A_r1 r.cells.length c_r1) := blk_cells R_rc 1
      clear hHeld; refine hK.out _ _ (show _ from ⟨o_8, g_8, y_8, z_8⟩) (fun hHeld => ?_)
      clear hK K
      (try simp only [Act.put, List.setIfInBounds_toArray, List.set_cons_zero, List.set_cons_succ])
      refine wpT_one (i := 10) rfl (by kernel_rfl) (fun K hK => ?_)
      go_simp; go_at_call 27; refine (HD.out wc hbc _ _ r30 f3).mono ?_; rintro e wd ⟨v', bs', rfl, r', f', u', s'⟩; obtain ⟨A', c', hv', _, _⟩ := r'.form; subst hv'; have oB := (u'.far w2.heap.size (lt_of_cells R_oc) hno.1).trans R_oc; have pB := (u'.far pb (lt_of_cells hcurc) hbn).trans hcurc; have rB := (u'.far (w.heap.size + 1 + 1) (lt_of_cells R_resc) hnx.1).trans R_resc; have yB := (u'.far (w.heap.size + 1) (lt_of_cells R_rc) hny.1).trans R_rc; have pF := blk_free pB; have g_9 := (blk_cells pB _).trans hcell; have o_9 : wd.cell? ⟨w2.heap.size, 0, none⟩ = some (.slice (some ⟨pb, po, none⟩) x.tables.length c2) := blk_cells oB 0; have y_9 : wd.cell? ⟨w.heap.size + 1, 0, none⟩ = some (.int .i64 r.id) := blk_cells yB 0; have z_9 : wd.cell? ⟨w.heap.size + 1, 1, none⟩ = some (.slice A_r1 r.cells.length c_r1) := blk_cells yB 1
      clear hHeld; refine hK.out _ _ (show _ from ⟨o_9, g_9, y_9, z_9⟩) (fun hHeld => ?_)
      clear hK K
      (try simp only [Act.put, List.setIfInBounds_toArray, List.set_cons_zero, List.set_cons_succ])
      refine wpT_take (i := 11) rfl (by kernel_rfl) (fun _ _ _ h => h) (Or.inl ⟨by rfl, fun w hSw => by (try dsimp only at hSw); first | (go_simp; done) | (go_simp; with_reducible rfl)⟩) (by assumption) ?_
      (try simp only [Act.put, List.setIfInBounds_toArray, List.set_cons_zero, List.set_cons_succ])
      refine wpT_done (by kernel_rfl) ?_
      simp only [List.drop_succ_cons, List.drop_zero]
      clear hHeld
      have oS := (blk_far (p := ⟨pb, po + m, none⟩) hne1 (.slice A' FL.length c')).trans oB; have rS := (blk_far (p := ⟨pb, po + m, none⟩) hne2 (.slice A' FL.length c')).trans rB
      have oc0 := blk_cells oS 0; have oc1 := blk_cells oS 1; have rc0 := blk_cells rS 0; have rc1 := blk_cells rS 1; have rf := blk_free rS
      have hwd := ((hw3).trans (hwc.mono (hw3).size)).trans (u'.below w.heap.size (Nat.le_trans (hw3).size hwc.size) (fun b hb => by have := hin.out b (hsub.out b hb); omega))
      have hwS := hwd.setCell (p := ⟨pb, po + m, none⟩) (by have := hin.out _ hbm; show w.heap.size ≤ pb; omega) (.slice A' FL.length c')
      have hbig : ∀ b ∈ bs', b ∈ pbk ∨ (World.heap w3).size ≤ b := fun b hb => by rcases s' b hb with h | h | h; (exact .inl h); (exact .inr (f3.2 b h).1); exact .inr (Nat.le_trans hwc.size h)
      have hnp : ∀ b ∈ bs', b ∉ [pb] := fun b hb hm => by simp at hm; subst hm; rcases hbig _ hb with h | h; (exact hbn h); (have := lt_of_cells hcur; omega)
      have hN := hclose.out (wd.setCell ⟨pb, po + m, none⟩ (.slice A' FL.length c')) _ [.slice A' FL.length c'] FL bs' (((Upd.of hwc).trans u' (fun b hb => List.mem_cons_of_mem _ hb)).set (p := ⟨pb, po + m, none⟩) (by simp) rfl (.slice A' FL.length c')) (blk_set pB (po + m) (.slice A' FL.length c')) rfl (fun j u hu => match j, hu with | 0, hu => (by simp only [List.getElem?_cons_zero, Option.some.injEq] at hu; subst hu; exact Array.getElem?_setIfInBounds_self_of_lt (by omega)) | j + 1, hu => (by simp at hu)) (fun p hp => by rw [Array.getElem?_setIfInBounds_ne (by omega)]) (RowSO.good.upd r' ((Upd.refl [pb] wd).set (p := ⟨pb, po + m, none⟩) (by simp) rfl (.slice A' FL.length c')) hnp)
      have hNF := f'.upd ((Upd.refl [pb] wd).set (p := ⟨pb, po + m, none⟩) (by simp) rfl (.slice A' FL.length c')); have HNF := hide hNF; clear hNF
      have HN := hide hN; clear hN hclose; have HBG := hide hbig; clear hbig hnp HD hcopy
      replace R_res := rS
      go_wp2_with fail
      have fin : _ = some (Obj.cells #[.slice (some ⟨pb, po, none⟩) x.tables.length c2, .int .i64 x.next] 32 (0, 0)) := (blk_set (blk_set R_res 0 (.slice (some ⟨pb, po, none⟩) x.tables.length c2)) 1 (.int .i64 x.next))
      have fc := blk_cells fin
      have HU := (((Upd.refl [w.heap.size + 1 + 1] (wd.setCell ⟨pb, po + m, none⟩ (.slice A' FL.length c'))).set (p := ⟨w.heap.size + 1 + 1, 0, none⟩) (by simp) rfl (.slice (some ⟨pb, po, none⟩) x.tables.length c2)).set (p := ⟨w.heap.size + 1 + 1, 1, none⟩) (by simp) rfl (.int .i64 x.next))
      refine bodyPost_ret (v := .tuple #[.agg #[.slice (some ⟨pb, po, none⟩) x.tables.length c2, .int .i64 x.next], .int .i64 0]) (by simp [results, Try.results9, go_sem, fc]) rfl ?_
      rw [hs2.out]
      obtain ⟨bsN, rN, _, fN0⟩ := HN.out; have fN := fN0 HNF.out HBG.out
      have hn : ∀ b ∈ bsN, b ∉ [w.heap.size + 1 + 1] := fun b hb hm => by have := (fN.2 b hb).1; have := hres.out; simp at hm; omega
      have rU : RowSSO _ bsN _ _ := RowSSO.good.upd rN HU hn; obtain ⟨bsM, rM, sM⟩ := rU.plain
      exact ⟨[.slice (some ⟨pb, po, none⟩) x.tables.length c2, .int .i64 x.next], bsM, rfl, ⟨_, bsM, rfl, rfl, hf2, rM⟩, ((fN.upd HU).mono (by have := hres.out; omega)).sub sM, ((hwS.setCell (p := ⟨w.heap.size + 1 + 1, 0, none⟩) (by simp; try omega) (.slice (some ⟨pb, po, none⟩) x.tables.length c2)).setCell (p := ⟨w.heap.size + 1 + 1, 1, none⟩) (by simp; try omega) (.int .i64 x.next))⟩
    · have hs : Hid (putAns x m r = (x, 7)) := by show _ = _; rw [hs0.out, h5, h6]; rfl
      go_wp2_with fail
      have fin : _ = some (Obj.cells #[.slice A2 x.tables.length c2, .int .i64 x.next] 32 (0, 0)) := (blk_set (blk_set R_res 0 (.slice A2 x.tables.length c2)) 1 (.int .i64 x.next))
      have fc := blk_cells fin
      have HU := (((Upd.refl [w.heap.size + 1 + 1] w3).set (p := ⟨w.heap.size + 1 + 1, 0, none⟩) (by simp) rfl (.slice A2 x.tables.length c2)).set (p := ⟨w.heap.size + 1 + 1, 1, none⟩) (by simp) rfl (.int .i64 x.next))
      refine bodyPost_ret (v := .tuple #[.agg #[.slice A2 x.tables.length c2, .int .i64 x.next], .int .i64 7]) (by simp [results, Try.results9, go_sem, fc]) rfl ?_
      rw [hs.out]
      have hn : ∀ b ∈ bs2, b ∉ [w.heap.size + 1 + 1] := fun b hb hm => by have := hin.out b hb; simp at hm; omega
      obtain ⟨bsN, rN, sN⟩ := (RowSSO.good.upd HS2.out HU hn).plain
      exact ⟨[.slice A2 x.tables.length c2, .int .i64 x.next], bsN, rfl, ⟨_, bsN, rfl, rfl, hf2, rN⟩, ((hfg2.upd HU).mono (by have := hres.out; omega)).sub sN, ((hw3.setCell (p := ⟨w.heap.size + 1 + 1, 0, none⟩) (by simp; try omega) (.slice A2 x.tables.length c2)).setCell (p := ⟨w.heap.size + 1 + 1, 1, none⟩) (by simp; try omega) (.int .i64 x.next))⟩
  · have hs : Hid (putAns x m r = (⟨x.tables.set m (putL x.tables[m] r), x.next⟩, 0)) := by show _ = _; rw [hs0.out, h5]; rfl
    clear h5 HX
    clear hs0
    obtain ⟨pb, po, pbk, pes, pcur, pe, rfl, hcur, hbm, hbn, hsub, hpes, hpc, hpR, hpF, hclose⟩ := SlR.put RowSO.good HS2.out hfg2 hm
    have hclose := hide hclose; have hsub := hide hsub; have hpR0 := hpR; obtain ⟨pA, pc, rfl⟩ : ∃ A c, pes = [.slice A x.tables[m].length c] := by obtain ⟨v, bss, rfl, _⟩ := hpR; obtain ⟨A, c, h, _⟩ := RowSO.form hpR0; exact ⟨A, c, by rw [h]⟩
    have hcell := hpc 0 _ rfl; simp only [Nat.mul_one, Nat.add_zero] at hcell hclose
    have g_0 := (blk_cells hcur _).trans hcell; have hpl : po + m < pcur.size := (Array.getElem?_eq_some_iff.1 hcell).1; have hno : w2.heap.size ∉ pbk ∧ w2.heap.size ≠ pb := ⟨fun h => by have := hlt2.out _ (hsub.out _ h); omega, fun h => by have := hlt2.out _ hbm; omega⟩
    have hnx : (w.heap.size + 1 + 1 ∉ pbk ∧ w.heap.size + 1 + 1 ≠ pb) := ⟨fun h => by have := hin.out _ (hsub.out _ h); omega, fun h => by have := hin.out _ hbm; omega⟩
    have hny : (w.heap.size + 1 ∉ pbk ∧ w.heap.size + 1 ≠ pb) := ⟨fun h => by have := hin.out _ (hsub.out _ h); omega, fun h => by have := hin.out _ hbm; omega⟩
    have o_0 := box_cell q_o 0 rfl; have y_0 := box_cell q_r 0 rfl; have y_1 := box_cell q_r 1 rfl
    clear hpc
    obtain ⟨FL, hFL⟩ : ∃ l, putL x.tables[m] r = l := ⟨_, rfl⟩
    have hs2 : Hid (putAns x m r = (⟨x.tables.set m FL, x.next⟩, 0)) := by show _ = _; rw [hs.out, hFL]
    clear hs
    have hcopy := hide (impl_copyRow (RowR.good.nxt (hw3).drew H0_r) HK2.out)
    have hput := fun (wc : World) (hbc : Below (World.drew w3).heap.size (World.drew w3) wc) (cy : List Value) (bk : List Nat) (hr : RowR wc bk cy r) (hfr : Fr (World.drew w3).heap.size wc bk) => impl_put (w := wc) (RowSO.good.nxt (nxt (Below.refl _ _).drew hbc) hpR0) (hpF.below (nxt (Below.refl _ _).drew hbc)) hrm HTL.out hr hfr (by have := (hpF.2 pb); have h1 := hlt2.out _ hbm; have h2 := (hfg2.2 pb hbm).1; have h3 := lt_of_cells R_o; show _ ≤ (World.heap w3).size; omega) (fun b hb => by have := hlt2.out _ (hsub.out _ hb); have h3 := lt_of_cells R_o; show b < (World.heap w3).size; omega) hbc.size
    rw [hFL] at hput; clear hFL; have HD := hide hput; clear hput
    have hne1 : w2.heap.size ≠ pb := hno.2; have hne2 : w.heap.size + 1 + 1 ≠ pb := hnx.2
    clear hc
    go_wp2_with fail
    refine wp_region_tail (fun w' => w'.cell? ⟨w2.heap.size, 0, none⟩ = some (.slice (some ⟨pb, po, none⟩) x.tables.length c2) ∧ w'.cell? ⟨pb, po + m, none⟩ = some (.slice pA x.tables[m].length pc) ∧ w'.cell? ⟨w.heap.size + 1, 0, none⟩ = some (.int .i64 r.id) ∧ w'.cell? ⟨w.heap.size + 1, 1, none⟩ = some (.slice A_r1 r.cells.length c_r1)) 12 (by kernel_rfl) (by decide) (show _ from ⟨o_0, g_0, y_0, y_1⟩) (fun hHeld => ?_)
    refine wpT_take (i := 0) rfl (by kernel_rfl) (fun _ _ _ h => h) (Or.inl ⟨by rfl, fun w hSw => by (try dsimp only at hSw); first | (go_simp; done) | (go_simp; with_reducible rfl)⟩) (by assumption) ?_
    (try simp only [Act.put, List.setIfInBounds_toArray, List.set_cons_zero, List.set_cons_succ])
    refine wpT_take (i := 1) rfl (by kernel_rfl) (fun _ _ _ h => h) (Or.inl ⟨by rfl, fun w hSw => by (try dsimp only at hSw); first | (go_simp; done) | (go_simp; with_reducible rfl)⟩) (by assumption) ?_
    (try simp only [Act.put, List.setIfInBounds_toArray, List.set_cons_zero, List.set_cons_succ])
    refine wpT_take (i := 2) rfl (by kernel_rfl) (fun _ _ _ h => h) (Or.inl ⟨by rfl, fun w hSw => by (try dsimp only at hSw); first | (go_simp; done) | (go_simp; with_reducible rfl)⟩) (by assumption) ?_
    (try simp only [Act.put, List.setIfInBounds_toArray, List.set_cons_zero, List.set_cons_succ])
    refine wpT_take (i := 3) rfl (by kernel_rfl) (fun _ _ _ h => h) (Or.inl ⟨by rfl, fun w hSw => by (try dsimp only at hSw); first | (go_simp; done) | (go_simp; with_reducible rfl)⟩) (by assumption) ?_
    (try simp only [Act.put, List.setIfInBounds_toArray, List.set_cons_zero, List.set_cons_succ])
    refine wpT_take (i := 4) rfl (by kernel_rfl) (fun _ _ _ h => h) (Or.inl ⟨by rfl, fun w hSw => by (try dsimp only at hSw); first | (go_simp; done) | (go_simp; with_reducible rfl)⟩) (by assumption) ?_
    (try simp only [Act.put, List.setIfInBounds_toArray, List.set_cons_zero, List.set_cons_succ])
    refine wpT_take (i := 5) rfl (by kernel_rfl) (fun _ _ _ h => h) (Or.inl ⟨by rfl, fun w hSw => by (try dsimp only at hSw); first | (go_simp; done) | (go_simp; with_reducible rfl)⟩) (by assumption) ?_
    (try simp only [Act.put, List.setIfInBounds_toArray, List.set_cons_zero, List.set_cons_succ])
    refine wpT_take (i := 6) rfl (by kernel_rfl) (fun _ _ _ h => h) (Or.inl ⟨by rfl, fun w hSw => by (try dsimp only at hSw); first | (go_simp; done) | (go_simp; with_reducible rfl)⟩) (by assumption) ?_
    (try simp only [Act.put, List.setIfInBounds_toArray, List.set_cons_zero, List.set_cons_succ])
    refine wpT_take (i := 7) rfl (by kernel_rfl) (fun _ _ _ h => h) (Or.inl ⟨by rfl, fun w hSw => by (try dsimp only at hSw); first | (go_simp; done) | (go_simp; with_reducible rfl)⟩) (by assumption) ?_
    (try simp only [Act.put, List.setIfInBounds_toArray, List.set_cons_zero, List.set_cons_succ])
    refine wpT_take (i := 8) rfl (by kernel_rfl) (fun _ _ _ h => h) (Or.inl ⟨by rfl, fun w hSw => by (try dsimp only at hSw); first | (go_simp; done) | (go_simp; with_reducible rfl)⟩) (by assumption) ?_
    (try simp only [Act.put, List.setIfInBounds_toArray, List.set_cons_zero, List.set_cons_succ])
    refine wpT_one (i := 9) rfl (by kernel_rfl) (fun K hK => ?_)
    go_simp; go_at_call 28; refine hcopy.out.mono ?_; rintro e wc ⟨cs3, bs3, rfl, r3, f3, hbc⟩; have r30 := r3; obtain ⟨w3v, w3b, _, rfl, _, w3r⟩ := r3; obtain ⟨A3, c3, rfl, _, _, _⟩ := w3r.use; have hwc := nxt (Below.refl _ _).drew hbc; have R_oc := blk_on R_o hwc; have R_resc := blk_on R_res hwc; have R_rc := blk_on R_r hwc; have hcurc := blk_on hcur hwc; have g_8 := (blk_cells hcurc _).trans hcell; have o_8 : wc.cell? ⟨w2.heap.size, 0, none⟩ = some (.slice (some ⟨pb, po, none⟩) x.tables.length c2) := blk_cells R_oc 0; have y_8 : wc.cell? ⟨w.heap.size + 1, 0, none⟩ = some (.int .i64 r.id) := blk_cells R_rc 0; have z_8 : wc.cell? ⟨w.heap.size + 1, 1, none⟩ = some (.slice A_r1 r.cells.length c_r1) := blk_cells R_rc 1
    clear hHeld; refine hK.out _ _ (show _ from ⟨o_8, g_8, y_8, z_8⟩) (fun hHeld => ?_)
    clear hK K
    (try simp only [Act.put, List.setIfInBounds_toArray, List.set_cons_zero, List.set_cons_succ])
    refine wpT_one (i := 10) rfl (by kernel_rfl) (fun K hK => ?_)
    go_simp; go_at_call 27; refine (HD.out wc hbc _ _ r30 f3).mono ?_; rintro e wd ⟨v', bs', rfl, r', f', u', s'⟩; obtain ⟨A', c', hv', _, _⟩ := r'.form; subst hv'; have oB := (u'.far w2.heap.size (lt_of_cells R_oc) hno.1).trans R_oc; have pB := (u'.far pb (lt_of_cells hcurc) hbn).trans hcurc; have rB := (u'.far (w.heap.size + 1 + 1) (lt_of_cells R_resc) hnx.1).trans R_resc; have yB := (u'.far (w.heap.size + 1) (lt_of_cells R_rc) hny.1).trans R_rc; have pF := blk_free pB; have g_9 := (blk_cells pB _).trans hcell; have o_9 : wd.cell? ⟨w2.heap.size, 0, none⟩ = some (.slice (some ⟨pb, po, none⟩) x.tables.length c2) := blk_cells oB 0; have y_9 : wd.cell? ⟨w.heap.size + 1, 0, none⟩ = some (.int .i64 r.id) := blk_cells yB 0; have z_9 : wd.cell? ⟨w.heap.size + 1, 1, none⟩ = some (.slice A_r1 r.cells.length c_r1) := blk_cells yB 1
    clear hHeld; refine hK.out _ _ (show _ from ⟨o_9, g_9, y_9, z_9⟩) (fun hHeld => ?_)
    clear hK K
    (try simp only [Act.put, List.setIfInBounds_toArray, List.set_cons_zero, List.set_cons_succ])
    refine wpT_take (i := 11) rfl (by kernel_rfl) (fun _ _ _ h => h) (Or.inl ⟨by rfl, fun w hSw => by (try dsimp only at hSw); first | (go_simp; done) | (go_simp; with_reducible rfl)⟩) (by assumption) ?_
    (try simp only [Act.put, List.setIfInBounds_toArray, List.set_cons_zero, List.set_cons_succ])
    refine wpT_done (by kernel_rfl) ?_
    simp only [List.drop_succ_cons, List.drop_zero]
    clear hHeld
    have oS := (blk_far (p := ⟨pb, po + m, none⟩) hne1 (.slice A' FL.length c')).trans oB; have rS := (blk_far (p := ⟨pb, po + m, none⟩) hne2 (.slice A' FL.length c')).trans rB
    have oc0 := blk_cells oS 0; have oc1 := blk_cells oS 1; have rc0 := blk_cells rS 0; have rc1 := blk_cells rS 1; have rf := blk_free rS
    have hwd := ((hw3).trans (hwc.mono (hw3).size)).trans (u'.below w.heap.size (Nat.le_trans (hw3).size hwc.size) (fun b hb => by have := hin.out b (hsub.out b hb); omega))
    have hwS := hwd.setCell (p := ⟨pb, po + m, none⟩) (by have := hin.out _ hbm; show w.heap.size ≤ pb; omega) (.slice A' FL.length c')
    have hbig : ∀ b ∈ bs', b ∈ pbk ∨ (World.heap w3).size ≤ b := fun b hb => by rcases s' b hb with h | h | h; (exact .inl h); (exact .inr (f3.2 b h).1); exact .inr (Nat.le_trans hwc.size h)
    have hnp : ∀ b ∈ bs', b ∉ [pb] := fun b hb hm => by simp at hm; subst hm; rcases hbig _ hb with h | h; (exact hbn h); (have := lt_of_cells hcur; omega)
    have hN := hclose.out (wd.setCell ⟨pb, po + m, none⟩ (.slice A' FL.length c')) _ [.slice A' FL.length c'] FL bs' (((Upd.of hwc).trans u' (fun b hb => List.mem_cons_of_mem _ hb)).set (p := ⟨pb, po + m, none⟩) (by simp) rfl (.slice A' FL.length c')) (blk_set pB (po + m) (.slice A' FL.length c')) rfl (fun j u hu => match j, hu with | 0, hu => (by simp only [List.getElem?_cons_zero, Option.some.injEq] at hu; subst hu; exact Array.getElem?_setIfInBounds_self_of_lt (by omega)) | j + 1, hu => (by simp at hu)) (fun p hp => by rw [Array.getElem?_setIfInBounds_ne (by omega)]) (RowSO.good.upd r' ((Upd.refl [pb] wd).set (p := ⟨pb, po + m, none⟩) (by simp) rfl (.slice A' FL.length c')) hnp)
    have hNF := f'.upd ((Upd.refl [pb] wd).set (p := ⟨pb, po + m, none⟩) (by simp) rfl (.slice A' FL.length c')); have HNF := hide hNF; clear hNF
    have HN := hide hN; clear hN hclose; have HBG := hide hbig; clear hbig hnp HD hcopy
    replace R_res := rS
    go_wp2_with fail
    have fin : _ = some (Obj.cells #[.slice (some ⟨pb, po, none⟩) x.tables.length c2, .int .i64 x.next] 32 (0, 0)) := (blk_set (blk_set R_res 0 (.slice (some ⟨pb, po, none⟩) x.tables.length c2)) 1 (.int .i64 x.next))
    have fc := blk_cells fin
    have HU := (((Upd.refl [w.heap.size + 1 + 1] (wd.setCell ⟨pb, po + m, none⟩ (.slice A' FL.length c'))).set (p := ⟨w.heap.size + 1 + 1, 0, none⟩) (by simp) rfl (.slice (some ⟨pb, po, none⟩) x.tables.length c2)).set (p := ⟨w.heap.size + 1 + 1, 1, none⟩) (by simp) rfl (.int .i64 x.next))
    refine bodyPost_ret (v := .tuple #[.agg #[.slice (some ⟨pb, po, none⟩) x.tables.length c2, .int .i64 x.next], .int .i64 0]) (by simp [results, Try.results9, go_sem, fc]) rfl ?_
    rw [hs2.out]
    obtain ⟨bsN, rN, _, fN0⟩ := HN.out; have fN := fN0 HNF.out HBG.out
    have hn : ∀ b ∈ bsN, b ∉ [w.heap.size + 1 + 1] := fun b hb hm => by have := (fN.2 b hb).1; have := hres.out; simp at hm; omega
    have rU : RowSSO _ bsN _ _ := RowSSO.good.upd rN HU hn; obtain ⟨bsM, rM, sM⟩ := rU.plain
    exact ⟨[.slice (some ⟨pb, po, none⟩) x.tables.length c2, .int .i64 x.next], bsM, rfl, ⟨_, bsM, rfl, rfl, hf2, rM⟩, ((fN.upd HU).mono (by have := hres.out; omega)).sub sM, ((hwS.setCell (p := ⟨w.heap.size + 1 + 1, 0, none⟩) (by simp; try omega) (.slice (some ⟨pb, po, none⟩) x.tables.length c2)).setCell (p := ⟨w.heap.size + 1 + 1, 1, none⟩) (by simp; try omega) (.int .i64 x.next))⟩
end Go.Proofs.Ytfkpllkgganejaa
