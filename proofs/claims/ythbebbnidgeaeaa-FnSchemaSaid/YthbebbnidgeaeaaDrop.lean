/- DropRow, in the program and in the reference. No statement is proved here; no conditions. Written by a program (gen24.py). -/
import Derived.Test.YthbebbnidgeaeaaRowAt
import Derived.Test.YthbebbnidgeaeaaDelR
import Derived.Test.YthbebbnidgeaeaaDrawn
import Derived.Shelf.Abstract
namespace Go.Proofs.Ythbebbnidgeaeaa
open Go.ChangeShapes Go.WideShapes Go.ChangeAt Go.RowKit Go.Deep
set_option maxRecDepth 100000
set_option linter.unusedVariables false
set_option linter.unusedSimpArgs false

theorem impl_hasRow {w : World} {bs : List Nat} {cs : List Value} {x : Store} (H : StoreR w bs cs x) {m : Nat} (hm : m < x.tables.length) (id : Int) (hr : rising x.tables[m] = true) (hn : x.tables[m].length ≤ 1048576) :
    Calls Try.prog 98 #[.agg cs.toArray, .int .i64 m, .int .i64 id] w fun e w' => e = .returned (.bool (hasId x.tables[m] id)) ∧ Below w.heap.size w w' := by
  have H0 := H
  obtain ⟨v0, b0, rfl, rfl, hf, r0⟩ := H
  obtain ⟨A, c, rfl, hlc, hcm, hel⟩ := r0.use
  have hbx := (Below.refl w.heap.size w).alloc (Nat.le_refl _) (.cells #[.slice A x.tables.length c, .int .i64 x.next] 49)
  have q_x := blk_cells (blk_new w #[.slice A x.tables.length c, .int .i64 x.next] 49)
  obtain ⟨gb, go, gbk, ges, rfl, ghbl, ghcl, ghcell, gR, ghbk⟩ := hel m hm
  obtain ⟨gA, gc, ghlc, rfl⟩ : ∃ A0 c0, x.tables[m].length ≤ c0 ∧ ges = [.slice A0 x.tables[m].length c0] := by obtain ⟨A0, c0, h, h2, _⟩ := gR; exact ⟨A0, c0, h2, h⟩
  have g_0 := (hbx.cell (p := ⟨gb, _, none⟩) ghbl).trans (ghcell 0 _ rfl)
  simp only [Nat.add_zero, Nat.mul_one] at g_0
  clear hel ghcell ghcl
  go_enter Try.func98, Try.ntmps98
  go_wp2_with fail
  refine (impl_rowAt (RowSR.good.nxt hbx gR) id hr hn).mono ?_; rintro e w1 ⟨rfl, hb1⟩
  go_wp2_with fail
  go_ret
  exact ⟨rfl, nxt hbx hb1⟩
theorem clo_drop {w : World} {bs : List Nat} {cs : List Value} {r : Row} (H : RowR w bs cs r) {m : Nat} {id : Int} (q : w.cell? ⟨m, 0, none⟩ = some (.int .i64 id)) :
    Calls Try.prog 148 #[.agg cs.toArray, .pointer (some ⟨m, 0, none⟩)] w fun e w' => e = .returned (.bool (r.id == id)) ∧ Below w.heap.size w w' := by
  obtain ⟨v1, b1, rfl, rfl, hf, r1⟩ := H
  obtain ⟨A1, c1, rfl, _, _, _⟩ := r1.use
  have hbx := (Below.refl w.heap.size w).alloc (Nat.le_refl _) (.cells #[.int .i64 r.id, .slice A1 r.cells.length c1] 62)
  have q1 := cell_al q (.cells #[.int .i64 r.id, .slice A1 r.cells.length c1] 62)
  go_enter Try.func148, Try.ntmps148
  go_wp2_with fail
  go_ret
  exact ⟨rfl, hbx⟩
theorem impl_drop {w : World} {lo : Nat} {bs : List Nat} {v : Value} {l : List Row} (H : RowSR w bs [v] l) (hf : Fr lo w bs) (id : Int) :
    Calls Try.prog 99 #[v, .int .i64 id] w fun e w' => ∃ v' bs', e = .returned v' ∧ RowSR w' bs' [v'] (l.filter fun r => !(r.id == id)) ∧ Fr lo w' bs' ∧ Upd bs w w' ∧ ∀ x ∈ bs', x ∈ bs := by
  have H0 := H
  obtain ⟨A, c, rfl, _, _, _⟩ := H.use
  have hbx := (Below.refl w.heap.size w).alloc (Nat.le_refl _) (.cells #[.int .i64 id] 3)
  have q := box_cell (blk_cells (blk_new w #[.int .i64 id] 3)) 0 rfl
  have hlt := hide hf.lt
  go_enter Try.func99, Try.ntmps99
  go_wp2_with fail
  refine (slices_DeleteFuncRowS (RowSR.good.nxt hbx H0) (hf.below hbx) (fun r => r.id == id) 148 #[.pointer (some ⟨w.heap.size, 0, none⟩)] (enters_of Try.func148 (by kernel_rfl) rfl) (fun x bk es W hU hR => clo_drop hR ((World.cell?_of_block (hU.far w.heap.size (by simp) (fun hm => by have := hlt.out _ hm; omega))).trans q))).mono ?_
  rintro e w1 ⟨v', bs', rfl, r', f', u', s'⟩
  obtain ⟨A', c', rfl, _, _, _⟩ := r'.use
  go_wp2_with fail
  go_ret
  exact ⟨_, bs', rfl, r', f', (Upd.of hbx).trans u' (fun b hb => hb), s'⟩
def dropAns (x : Store) (n id : Int) : Store × Int := if tblCode x n = 0 then cond (hasId (tabOf x n) id) (⟨x.tables.set n.toNat ((tabOf x n).filter fun r => !(r.id == id)), x.next⟩, 0) (x, 5) else (⟨[], 0⟩, tblCode x n)
theorem zeroStore {w : World} : StoreR w [] [.slice none 0 0, .int .i64 0] ⟨[], 0⟩ := ⟨_, [], rfl, rfl, (rfl : (Lit.int .i64 0).wf = true), nil_row (by omega)⟩
theorem wf_next {x : Store} (h : x.fine) : (Lit.int .i64 x.next).wf = true := h
set_option maxHeartbeats 8000000 in
theorem impl_DropRow {w : World}  {bs_x : List Nat} {cs_x : List Value} {x : Store} (H_x : StoreR w bs_x cs_x x) (n : Int) (id : Int) (hk : x.bulk ≤ 1048576) :
    Calls Try.prog 42 #[.agg cs_x.toArray, .int .i64 n, .int .i64 id] w (OutP StoreR w (dropAns x n id).1 (dropAns x n id).2) := by
  have H0_x := H_x
  obtain ⟨x_v0, x_b0, rfl, rfl, hf_x, x_r0⟩ := H_x
  obtain ⟨A_x0, c_x0, rfl, hlc_x0, hcm_x0, hel_x0⟩ := x_r0.use
  have hbx := (((Below.refl w.heap.size w).alloc (Nat.le_refl _) (.cells #[.slice A_x0 x.tables.length c_x0, .int .i64 x.next] 49)).alloc (by simp; try omega) (.cells #[.slice none 0 0, .int .i64 0] 49))
  obtain ⟨q_x, q_res⟩ := two_at (Below.refl ((w.alloc (.cells #[.slice A_x0 x.tables.length c_x0, .int .i64 x.next] 49)).alloc (.cells #[.slice none 0 0, .int .i64 0] 49)).heap.size _)
  have R_res : World.heap ((w.alloc (.cells #[.slice A_x0 x.tables.length c_x0, .int .i64 x.next] 49)).alloc (.cells #[.slice none 0 0, .int .i64 0] 49)) = World.heap ((w.alloc (.cells #[.slice A_x0 x.tables.length c_x0, .int .i64 x.next] 49)).alloc (.cells #[.slice none 0 0, .int .i64 0] 49)) := rfl
  clear R_res
  have R_res : (World.heap ((w.alloc (.cells #[.slice A_x0 x.tables.length c_x0, .int .i64 x.next] 49)).alloc (.cells #[.slice none 0 0, .int .i64 0] 49)))[w.heap.size + 1]? = some (.cells #[.slice none 0 0, .int .i64 0] 49 (0, 0)) := by simpa using blk_new ((w.alloc (.cells #[.slice A_x0 x.tables.length c_x0, .int .i64 x.next] 49))) #[.slice none 0 0, .int .i64 0] 49
  have R_free := blk_free R_res
  have HK := hide hk; clear hk hel_x0
  go_enter Try.func42, Try.ntmps42
  go_wp2_with fail
  refine (impl_tableCode (StoreR.good.nxt hbx H0_x) n).mono ?_; rintro e w1 ⟨rfl, hb1⟩; replace q_x := box_on q_x rfl hb1; replace q_res := box_on q_res rfl hb1; have hw1 := nxt hbx hb1; replace R_res := blk_on R_res hb1; replace R_free := blk_free R_res
  by_cases h1 : ¬ tblCode x n = 0
  · have hs : Hid (dropAns x n id = (⟨[], 0⟩, tblCode x n)) := by show _ = _; unfold dropAns; rw [if_neg h1]
    have hc : (tblCode x n != 0) = true := by simp [h1]
    clear h1
    go_wp2_with fail
    have fin : _ = some (Obj.cells #[.slice none 0 0, .int .i64 0] 49 (0, 0)) := (blk_set (blk_set R_res 0 (.slice none 0 0)) 1 (.int .i64 0))
    have fc := blk_cells fin
    have HU := (((Upd.refl [w.heap.size + 1] w1).set (p := ⟨w.heap.size + 1, 0, none⟩) (by simp) rfl (.slice none 0 0)).set (p := ⟨w.heap.size + 1, 1, none⟩) (by simp) rfl (.int .i64 0))
    refine bodyPost_ret (v := .tuple #[.agg #[.slice none 0 0, .int .i64 0], .int .i64 (tblCode x n)]) (by simp [results, Try.results42, go_sem, fc]) rfl ?_
    rw [hs.out]
    exact ⟨[.slice none 0 0, .int .i64 0], [], rfl, zeroStore, Fr.nil _ _, ((hw1.setCell (p := ⟨w.heap.size + 1, 0, none⟩) (by simp) (.slice none 0 0)).setCell (p := ⟨w.heap.size + 1, 1, none⟩) (by simp) (.int .i64 0))⟩
  have h1 := Decidable.not_not.1 h1
  have hc : (tblCode x n != 0) = false := by simp [h1]
  obtain ⟨m, rfl, hm, ht, hr⟩ := tblCode_zero h1
  have hrm := hr _ (List.getElem_mem hm)
  have hs0 : Hid (dropAns x m id = cond (hasId x.tables[m] id) (⟨x.tables.set m (x.tables[m].filter fun r => !(r.id == id)), x.next⟩, 0) (x, 5)) := by show _ = _; unfold dropAns; rw [if_pos h1, ht, Int.toNat_natCast]
  have HT := Store.tab_le HK.out hm; have HTL := RowS.len_le HT
  clear h1 ht hr
  have hres := hide (lt_of_cells R_res)
  go_wp2_with fail
  refine (impl_copyStore (StoreR.good.nxt hw1 H0_x) HK.out).mono ?_; rintro e w2 ⟨cs2, bs2, rfl, r2, f2, hb2⟩; replace q_x := box_on q_x rfl hb2; replace q_res := box_on q_res rfl hb2; have hw2 := nxt hw1 hb2; replace R_res := blk_on R_res hb2; replace R_free := blk_free R_res
  have r20 := r2; obtain ⟨w2v, w2b, hw2b, rfl, hf2, w2r⟩ := r2; subst hw2b; have w2r0 := w2r; obtain ⟨A2, c2, rfl, _, _, _⟩ := w2r.use
  have hin : ∀ b ∈ bs2, w.heap.size + 1 < b := fun b hb => by have := (f2.2 b hb).1; have := hres.out; omega
  have hin := hide hin; have hlt2 := hide f2.lt
  replace q_x := box_on q_x rfl ((Below.refl (World.heap (w2)).size (w2)).alloc (Nat.le_refl _) (.cells #[.slice A2 x.tables.length c2, .int .i64 x.next] 49))
  replace q_res := box_on q_res rfl ((Below.refl (World.heap (w2)).size (w2)).alloc (Nat.le_refl _) (.cells #[.slice A2 x.tables.length c2, .int .i64 x.next] 49))
  replace R_res := blk_on R_res ((Below.refl (World.heap (w2)).size (w2)).alloc (Nat.le_refl _) (.cells #[.slice A2 x.tables.length c2, .int .i64 x.next] 49)); replace R_free := blk_free R_res
  have q_o := blk_cells (blk_new (w2) #[.slice A2 x.tables.length c2, .int .i64 x.next] 49)
  have hn1 := (hw2).alloc (hw2).size (.cells #[.slice A2 x.tables.length c2, .int .i64 x.next] 49)
  have R_o := blk_new w2 #[.slice A2 x.tables.length c2, .int .i64 x.next] 49; have R_free_o := blk_free R_o
  have hsg := hide (RowSSR.good.nxt ((Below.refl w2.heap.size w2).alloc (Nat.le_refl _) (.cells #[.slice A2 x.tables.length c2, .int .i64 x.next] 49)) w2r0); have hfg := hide (f2.below ((Below.refl w2.heap.size w2).alloc (Nat.le_refl _) (.cells #[.slice A2 x.tables.length c2, .int .i64 x.next] 49)))
  go_wp2_with fail
  refine (impl_hasRow (StoreR.good.nxt hn1 H0_x) hm id hrm HTL).mono ?_; rintro e w3 ⟨rfl, hb3⟩; replace q_x := box_on q_x rfl hb3; replace q_res := box_on q_res rfl hb3; replace q_o := box_on q_o rfl hb3; have hw3 := nxt hn1 hb3; replace R_res := blk_on R_res hb3; replace R_free := blk_free R_res; replace R_o := blk_on R_o hb3; replace R_free_o := blk_free R_o
  have hsg2 := RowSSR.good.nxt hb3 hsg.out; have hfg2 := hfg.out.below hb3
  cases h5 : hasId x.tables[m] id
  · have hs : Hid (dropAns x m id = (x, 5)) := by show _ = _; rw [hs0.out, h5]; rfl
    have HS2 := hide hsg2; clear hsg2
    go_wp2_with fail
    have fin : _ = some (Obj.cells #[.slice A2 x.tables.length c2, .int .i64 x.next] 49 (0, 0)) := (blk_set (blk_set R_res 0 (.slice A2 x.tables.length c2)) 1 (.int .i64 x.next))
    have fc := blk_cells fin
    have HU := (((Upd.refl [w.heap.size + 1] w3).set (p := ⟨w.heap.size + 1, 0, none⟩) (by simp) rfl (.slice A2 x.tables.length c2)).set (p := ⟨w.heap.size + 1, 1, none⟩) (by simp) rfl (.int .i64 x.next))
    refine bodyPost_ret (v := .tuple #[.agg #[.slice A2 x.tables.length c2, .int .i64 x.next], .int .i64 5]) (by simp [results, Try.results42, go_sem, fc]) rfl ?_
    rw [hs.out]
    have hn : ∀ b ∈ bs2, b ∉ [w.heap.size + 1] := fun b hb hm => by have := hin.out b hb; simp at hm; omega
    exact ⟨[.slice A2 x.tables.length c2, .int .i64 x.next], bs2, rfl, ⟨_, bs2, rfl, rfl, hf2, RowSSR.good.upd HS2.out HU hn⟩, (hfg2.upd HU).mono (by have := hres.out; omega), ((hw3.setCell (p := ⟨w.heap.size + 1, 0, none⟩) (by simp) (.slice A2 x.tables.length c2)).setCell (p := ⟨w.heap.size + 1, 1, none⟩) (by simp) (.int .i64 x.next))⟩
  have hs : Hid (dropAns x m id = (⟨x.tables.set m (x.tables[m].filter fun r => !(r.id == id)), x.next⟩, 0)) := by show _ = _; rw [hs0.out, h5]; rfl
  clear h5 hs0
  obtain ⟨pb, po, pbk, pes, pcur, pe, rfl, hcur, hbm, hbn, hsub, hpes, hpc, hpR, hpF, hclose⟩ := SlR.put RowSR.good hsg2 hfg2 hm
  have hclose := hide hclose; have hsub := hide hsub; have hpR0 := hpR; obtain ⟨pA, pc, rfl⟩ : ∃ A c, pes = [.slice A x.tables[m].length c] := by obtain ⟨A, c, h, _⟩ := hpR; exact ⟨A, c, h⟩
  have hcell := hpc 0 _ rfl; simp only [Nat.mul_one, Nat.add_zero] at hcell hclose
  have g_0 := (blk_cells hcur _).trans hcell; have hpl : po + m < pcur.size := (Array.getElem?_eq_some_iff.1 hcell).1
  have hno : w2.heap.size ∉ pbk ∧ w2.heap.size ≠ pb := ⟨fun h => by have := hlt2.out _ (hsub.out _ h); omega, fun h => by have := hlt2.out _ hbm; omega⟩
  have hnx : (w.heap.size + 1 ∉ pbk ∧ w.heap.size + 1 ≠ pb) := ⟨fun h => by have := hin.out _ (hsub.out _ h); omega, fun h => by have := hin.out _ hbm; omega⟩
  have o_0 := box_cell q_o 0 rfl
  clear hpc hsg2
  obtain ⟨FL, hFL⟩ : ∃ l, (x.tables[m].filter fun r => !(r.id == id)) = l := ⟨_, rfl⟩
  have hs2 : Hid (dropAns x m id = (⟨x.tables.set m FL, x.next⟩, 0)) := by show _ = _; rw [hs.out, hFL]
  clear hs
  have hdrop := impl_drop (RowSR.good.nxt (Below.refl _ _).drew hpR0) (hpF.below (Below.refl _ _).drew) id; rw [hFL] at hdrop; clear hFL; have HD := hide hdrop; clear hdrop
  have hne1 : w2.heap.size ≠ pb := hno.2; have hne2 : w.heap.size + 1 ≠ pb := hnx.2
  go_wp2_with fail
  refine wp_region_tail (fun w' => w'.cell? ⟨w2.heap.size, 0, none⟩ = some (.slice (some ⟨pb, po, none⟩) x.tables.length c2) ∧ w'.cell? ⟨pb, po + m, none⟩ = some (.slice pA x.tables[m].length pc)) 11 (by kernel_rfl) (by decide) (show _ from ⟨o_0, g_0⟩) (fun hHeld => ?_)
  refine wpT_take (i := 0) rfl (by kernel_rfl) (fun _ _ _ h => h) (Or.inl ⟨by rfl, fun w hSw => by (try dsimp only at hSw); first | (go_simp; done) | (go_simp; with_reducible rfl)⟩) (by assumption) ?_
  (try simp only [Act.put, List.setIfInBounds_toArray, List.set_cons_zero, List.set_cons_succ])
  refine wpT_take (i := 1) rfl (by kernel_rfl) (fun _ _ _ h => h) (Or.inl ⟨by rfl, fun w hSw => by (try dsimp only at hSw); first | (go_simp; done) | (go_simp; with_reducible rfl)⟩) (by assumption) ?_
  (try simp only [Act.put, List.setIfInBounds_toArray, List.set_cons_zero, List.set_cons_succ])
  refine wpT_take (i := 2) rfl (by kernel_rfl) (fun _ _ _ h => h) (Or.inl ⟨by rfl, fun w hSw => by (try dsimp only at hSw); first | (go_simp; done) | (go_simp; with_reducible rfl)⟩) (by assumption) ?_
  (try simp only [Act.put, List.setIfInBounds_toArray, List.set_cons_zero, List.set_cons_succ])
  refine wpT_take (i := 3) rfl (by kernel_rfl) (fun _ _ _ h => h) (Or.inl ⟨by rfl, fun w hSw => by (try dsimp only at hSw); first | (go_simp; done) | (go_simp; with_reducible rfl)⟩) (by assumption) ?_
  (try simp only [Act.put, List.setIfInBounds_toArray, List.set_cons_zero, List.set_cons_succ])
  refine wpT_take (i := 4) rfl (by kernel_rfl) (fun _ _ _ h => h) (Or.inl ⟨by rfl, fun w hSw => by (try dsimp only at hSw); first | (go_simp; done) | (go_simp; with_reducible rfl)⟩) (by assumption) ?_
  (try simp only [Act.put, List.setIfInBounds_toArray, List.set_cons_zero, List.set_cons_succ])
  refine wpT_take (i := 5) rfl (by kernel_rfl) (fun _ _ _ h => h) (Or.inl ⟨by rfl, fun w hSw => by (try dsimp only at hSw); first | (go_simp; done) | (go_simp; with_reducible rfl)⟩) (by assumption) ?_
  (try simp only [Act.put, List.setIfInBounds_toArray, List.set_cons_zero, List.set_cons_succ])
  refine wpT_take (i := 6) rfl (by kernel_rfl) (fun _ _ _ h => h) (Or.inl ⟨by rfl, fun w hSw => by (try dsimp only at hSw); first | (go_simp; done) | (go_simp; with_reducible rfl)⟩) (by assumption) ?_
  (try simp only [Act.put, List.setIfInBounds_toArray, List.set_cons_zero, List.set_cons_succ])
  refine wpT_take (i := 7) rfl (by kernel_rfl) (fun _ _ _ h => h) (Or.inl ⟨by rfl, fun w hSw => by (try dsimp only at hSw); first | (go_simp; done) | (go_simp; with_reducible rfl)⟩) (by assumption) ?_
  (try simp only [Act.put, List.setIfInBounds_toArray, List.set_cons_zero, List.set_cons_succ])
  refine wpT_take (i := 8) rfl (by kernel_rfl) (fun _ _ _ h => h) (Or.inl ⟨by rfl, fun w hSw => by (try dsimp only at hSw); first | (go_simp; done) | (go_simp; with_reducible rfl)⟩) (by assumption) ?_
  (try simp only [Act.put, List.setIfInBounds_toArray, List.set_cons_zero, List.set_cons_succ])
  refine wpT_one (i := 9) rfl (by kernel_rfl) (fun K hK => ?_)
  go_simp; go_at_call 99; refine HD.out.mono ?_; rintro e wd ⟨v', bs', rfl, r', f', u', s'⟩; obtain ⟨A', c', rfl, _, _, _⟩ := r'.use; have oB := (u'.far w2.heap.size (lt_of_cells R_o) hno.1).trans R_o; have pB := (u'.far pb (lt_of_cells hcur) hbn).trans hcur; have rB := (u'.far (w.heap.size + 1) (lt_of_cells R_res) hnx.1).trans R_res; have pF := blk_free pB; have g_9 := (blk_cells pB _).trans hcell; have o_9 : wd.cell? ⟨w2.heap.size, 0, none⟩ = some (.slice (some ⟨pb, po, none⟩) x.tables.length c2) := blk_cells oB 0
  clear hHeld; refine hK.out _ _ (show _ from ⟨o_9, g_9⟩) (fun hHeld => ?_)
  clear hK K
  (try simp only [Act.put, List.setIfInBounds_toArray, List.set_cons_zero, List.set_cons_succ])
  refine wpT_take (i := 10) rfl (by kernel_rfl) (fun _ _ _ h => h) (Or.inl ⟨by rfl, fun w hSw => by (try dsimp only at hSw); first | (go_simp; done) | (go_simp; with_reducible rfl)⟩) (by assumption) ?_
  (try simp only [Act.put, List.setIfInBounds_toArray, List.set_cons_zero, List.set_cons_succ])
  refine wpT_done (by kernel_rfl) ?_
  simp only [List.drop_succ_cons, List.drop_zero]
  clear hHeld
  have oS := (blk_far (p := ⟨pb, po + m, none⟩) hne1 (.slice A' FL.length c')).trans oB; have rS := (blk_far (p := ⟨pb, po + m, none⟩) hne2 (.slice A' FL.length c')).trans rB
  have oc0 := blk_cells oS 0; have oc1 := blk_cells oS 1; have rc0 := blk_cells rS 0; have rc1 := blk_cells rS 1; have rf := blk_free rS
  have hwd := hw3.drew.trans (u'.below w.heap.size hw3.size (fun b hb => by have := hin.out b (hsub.out b hb); omega))
  have hwS := hwd.setCell (p := ⟨pb, po + m, none⟩) (by have := hin.out _ hbm; show w.heap.size ≤ pb; omega) (.slice A' FL.length c')
  have hN := hclose.out (wd.setCell ⟨pb, po + m, none⟩ (.slice A' FL.length c')) _ [.slice A' FL.length c'] FL bs' (((Upd.of (Below.refl _ _).drew).trans u' (fun b hb => List.mem_cons_of_mem _ hb)).set (p := ⟨pb, po + m, none⟩) (by simp) rfl (.slice A' FL.length c')) (blk_set pB (po + m) (.slice A' FL.length c')) rfl (fun j u hu => match j, hu with | 0, hu => (by simp only [List.getElem?_cons_zero, Option.some.injEq] at hu; subst hu; exact Array.getElem?_setIfInBounds_self_of_lt (by omega)) | j + 1, hu => (by simp at hu)) (fun p hp => by rw [Array.getElem?_setIfInBounds_ne (by omega)]) (RowSR.good.upd r' ((Upd.refl [pb] wd).set (p := ⟨pb, po + m, none⟩) (by simp) rfl (.slice A' FL.length c')) (fun b hb hm => by simp at hm; subst hm; exact hbn (s' _ hb)))
  have hNF := f'.upd ((Upd.refl [pb] wd).set (p := ⟨pb, po + m, none⟩) (by simp) rfl (.slice A' FL.length c')); have HNF := hide hNF; clear hNF
  have HN := hide hN; clear hN hclose
  replace R_res := rS
  go_wp2_with fail
  have fin : _ = some (Obj.cells #[.slice (some ⟨pb, po, none⟩) x.tables.length c2, .int .i64 x.next] 49 (0, 0)) := (blk_set (blk_set R_res 0 (.slice (some ⟨pb, po, none⟩) x.tables.length c2)) 1 (.int .i64 x.next))
  have fc := blk_cells fin
  have HU := (((Upd.refl [w.heap.size + 1] (wd.setCell ⟨pb, po + m, none⟩ (.slice A' FL.length c'))).set (p := ⟨w.heap.size + 1, 0, none⟩) (by simp) rfl (.slice (some ⟨pb, po, none⟩) x.tables.length c2)).set (p := ⟨w.heap.size + 1, 1, none⟩) (by simp) rfl (.int .i64 x.next))
  refine bodyPost_ret (v := .tuple #[.agg #[.slice (some ⟨pb, po, none⟩) x.tables.length c2, .int .i64 x.next], .int .i64 0]) (by simp [results, Try.results42, go_sem, fc]) rfl ?_
  rw [hs2.out]
  obtain ⟨bsN, rN, _, fN0⟩ := HN.out; have fN := fN0 HNF.out (fun b hb => .inl (s' b hb))
  have hn : ∀ b ∈ bsN, b ∉ [w.heap.size + 1] := fun b hb hm => by have := (fN.2 b hb).1; have := hres.out; simp at hm; omega
  exact ⟨[.slice (some ⟨pb, po, none⟩) x.tables.length c2, .int .i64 x.next], bsN, rfl, ⟨_, bsN, rfl, rfl, hf2, RowSSR.good.upd rN HU hn⟩, (fN.upd HU).mono (by have := hres.out; omega), ((hwS.setCell (p := ⟨w.heap.size + 1, 0, none⟩) (by simp) (.slice (some ⟨pb, po, none⟩) x.tables.length c2)).setCell (p := ⟨w.heap.size + 1, 1, none⟩) (by simp) (.int .i64 x.next))⟩
theorem Below.mono' {w w' : World} {n : Nat} (h : Below n w w') (hn : w.heap.size = n) : Below w.heap.size w w' := by subst hn; exact h
theorem Gr.made' {α : Type} {R : Rd α} {size : Nat} {e : TypeId} {w : World} {n : Nat} (h : w.heap.size = n) : Gr size R e n (w.alloc (.cells #[] e)) (.slice (some ⟨n, 0, none⟩) 0 0) [] [] := by subst h; exact Gr.made w #[] 0 (Nat.le_refl _) (by simp [maxLen]) (by simp)
/-- 's[k:]': where it begins hangs on whether anything is left. -/
theorem SlR.drop2 {α : Type} {R : Rd α} {size : Nat} {w : World} {bs : List Nat} {b o n c : Nat} {xs : List α} (h : SlR size R w bs [.slice (some ⟨b, o, none⟩) n c] xs) {k : Nat} (hk : k ≤ xs.length) :
    ∃ A bs', (if c = k then some ⟨b, o, none⟩ else some ⟨b, o + k * size, none⟩ : Option Addr) = A ∧ SlR size R w bs' [.slice A (xs.length - k) (c - k)] (xs.drop k) ∧ ∀ b ∈ bs', b ∈ bs := by
  by_cases hc : c = k
  · obtain ⟨A', c', hv, h1, h2, _⟩ := h
    obtain ⟨rfl, rfl, rfl⟩ : some ⟨b, o, none⟩ = A' ∧ n = xs.length ∧ c = c' := by simpa using hv
    have h0 : xs.drop k = [] := List.drop_eq_nil_of_le (by omega)
    exact ⟨some ⟨b, o, none⟩, [], if_pos hc, ⟨some ⟨b, o, none⟩, c - k, by rw [List.length_drop], by rw [List.length_drop]; omega, by omega, .inl ⟨h0, rfl⟩⟩, fun b hb => by cases hb⟩
  · obtain ⟨bs', h1, h2⟩ := h.drop hk
    exact ⟨_, bs', if_neg hc, h1, h2⟩
theorem RowR.one : ∀ (w : World) bk cs (y : Row), RowR w bk cs y → ∀ u ∈ cs, u.oneCell' = true := by
  rintro w bk cs y ⟨v, b, rfl, rfl, _, r⟩ u hu
  obtain ⟨A, c, rfl, _⟩ := r.use
  simp at hu
  rcases hu with rfl | rfl <;> rfl
theorem size_set (w : World) (p : Addr) (u : Value) : (w.setCell p u).heap.size = w.heap.size := by simp [World.setCell]
set_option maxHeartbeats 8000000 in
theorem spec_l05Drop {w : World}  {bs_x : List Nat} {cs_x : List Value} {x : Store} (H_x : StoreR w bs_x cs_x x) (hk : x.bulk ≤ 1048576) {m k : Nat} (hm : m < x.tables.length) (hkm : k < x.tables[m].length)  :
    Calls Try.prog 96 #[.agg cs_x.toArray, .int .i64 m, .int .i64 k] w (fun e w' => ∃ cs bs, e = .returned (.agg cs.toArray) ∧ StoreR w' bs cs ⟨x.tables.set m (x.tables[m].take k ++ x.tables[m].drop (k + 1)), x.next⟩ ∧ (∀ b ∈ bs, w.heap.size ≤ b) ∧ Below w.heap.size w w') := by
  have H0_x := H_x
  obtain ⟨x_v0, x_b0, rfl, rfl, hf_x, x_r0⟩ := H_x
  obtain ⟨A_x0, c_x0, rfl, hlc_x0, hcm_x0, hel_x0⟩ := x_r0.use
  have hbx := (((Below.refl w.heap.size w).alloc (Nat.le_refl _) (.cells #[.slice A_x0 x.tables.length c_x0, .int .i64 x.next] 49)).alloc (by simp; try omega) (.cells #[.slice none 0 0, .int .i64 0] 49))
  obtain ⟨q_x, q_res⟩ := two_at (Below.refl ((w.alloc (.cells #[.slice A_x0 x.tables.length c_x0, .int .i64 x.next] 49)).alloc (.cells #[.slice none 0 0, .int .i64 0] 49)).heap.size _)
  have R_res : World.heap ((w.alloc (.cells #[.slice A_x0 x.tables.length c_x0, .int .i64 x.next] 49)).alloc (.cells #[.slice none 0 0, .int .i64 0] 49)) = World.heap ((w.alloc (.cells #[.slice A_x0 x.tables.length c_x0, .int .i64 x.next] 49)).alloc (.cells #[.slice none 0 0, .int .i64 0] 49)) := rfl
  clear R_res
  have R_res : (World.heap ((w.alloc (.cells #[.slice A_x0 x.tables.length c_x0, .int .i64 x.next] 49)).alloc (.cells #[.slice none 0 0, .int .i64 0] 49)))[w.heap.size + 1]? = some (.cells #[.slice none 0 0, .int .i64 0] 49 (0, 0)) := by simpa using blk_new ((w.alloc (.cells #[.slice A_x0 x.tables.length c_x0, .int .i64 x.next] 49))) #[.slice none 0 0, .int .i64 0] 49
  have R_free := blk_free R_res
  have R_x : (World.heap ((w.alloc (.cells #[.slice A_x0 x.tables.length c_x0, .int .i64 x.next] 49)).alloc (.cells #[.slice none 0 0, .int .i64 0] 49)))[w.heap.size]? = some (.cells #[.slice A_x0 x.tables.length c_x0, .int .i64 x.next] 49 (0, 0)) := by simpa using blk_old (blk_new w #[.slice A_x0 x.tables.length c_x0, .int .i64 x.next] 49) (.cells #[.slice none 0 0, .int .i64 0] 49)
  have R_free_x := blk_free R_x
  have HK := hide hk; clear hk hel_x0; have HT := Store.tab_le HK.out hm; have HTL := RowS.len_le HT; clear HT
  obtain ⟨ij, ji, jz, js, jby⟩ := info_parts RowS.info
  go_enter Try.func96, Try.ntmps96
  go_wp2_with fail
  refine (spec_l05Own (StoreR.good.nxt hbx H0_x) HK.out).mono ?_; rintro e w1 ⟨cs2, bs2, rfl, r2, f2, hb1⟩; replace q_x := box_on q_x rfl hb1; replace q_res := box_on q_res rfl hb1; have hw1 := nxt hbx hb1; replace R_res := blk_on R_res hb1; replace R_free := blk_free R_res; replace R_x := blk_on R_x hb1; replace R_free_x := blk_free R_x
  have r20 := r2; obtain ⟨w2v, w2b, hw2b, rfl, hf2, w2r⟩ := r2; subst hw2b; have w2r0 := w2r; obtain ⟨A2, c2, rfl, _, _, _⟩ := w2r.use
  have hin : ∀ b ∈ bs2, w.heap.size + 1 < b := fun b hb => by have := (f2.2 b hb).1; simp at this; omega
  have xB := blk_set (blk_set R_x 0 (.slice A2 x.tables.length c2)) 1 (.int .i64 x.next)
  have x_0 := blk_cells xB 0; have x_1 := blk_cells xB 1; have x_f := blk_free xB
  have rB := (blk_far (p := ⟨w.heap.size, 1, none⟩) (by simp) (.int .i64 x.next)).trans ((blk_far (p := ⟨w.heap.size, 0, none⟩) (by simp) (.slice A2 x.tables.length c2)).trans R_res)
  have r_0 := blk_cells rB 0; have r_1 := blk_cells rB 1; have r_f := blk_free rB
  have HUx := (((Upd.refl [w.heap.size] w1).set (p := ⟨w.heap.size, 0, none⟩) (by simp) rfl (.slice A2 x.tables.length c2)).set (p := ⟨w.heap.size, 1, none⟩) (by simp) rfl (.int .i64 x.next))
  have hsg := RowSSR.good.upd w2r0 HUx (fun b hb hm => by have := hin b hb; simp at hm; omega); have hfg := f2.upd HUx
  have hszA : (World.heap ((w1.setCell ⟨w.heap.size, 0, none⟩ (.slice A2 x.tables.length c2)).setCell ⟨w.heap.size, 1, none⟩ (.int .i64 x.next))).size = w1.heap.size := by rw [size_set, size_set]
  have hwA := (hw1.setCell (p := ⟨w.heap.size, 0, none⟩) (by simp) (.slice A2 x.tables.length c2)).setCell (p := ⟨w.heap.size, 1, none⟩) (by simp) (.int .i64 x.next)
  obtain ⟨pb, po, pbk, pes, pcur, pe, hA2, hcur, hbm, hbn, hsub, hpes, hpc, hpR, hpF, hclose⟩ := SlR.put RowSR.good hsg hfg hm; subst hA2
  have hclose := hide hclose; have hsub := hide hsub; have hpR0 := hpR; obtain ⟨pA', pc, hpv, hplc, hpcm, hpel⟩ : ∃ A c, pes = [.slice A x.tables[m].length c] ∧ x.tables[m].length ≤ c ∧ c ≤ 9223372036854775807 ∧ ∃ b o, A = some ⟨b, o, none⟩ := (by obtain ⟨A, c, h, h2, h3, h4⟩ := hpR; refine ⟨A, c, h, h2, by unfold maxLen at h3; omega, ?_⟩; rcases h4 with ⟨h4, _⟩ | ⟨b, o, bss, rfl, _⟩; (rw [h4] at hkm; exact absurd hkm (by simp)); exact ⟨b, o, rfl⟩); obtain ⟨qb, qo, rfl⟩ := hpel; subst hpv
  have hcell := hpc 0 _ rfl; simp only [Nat.mul_one, Nat.add_zero] at hcell hclose
  have g_0 := (blk_cells hcur _).trans hcell; have hpl : po + m < pcur.size := (Array.getElem?_eq_some_iff.1 hcell).1; have pF := blk_free hcur
  have hres := lt_of_cells R_res; replace hres : w.heap.size < w1.heap.size ∧ w.heap.size + 1 < w1.heap.size := ⟨by omega, hres⟩
  have hne1 : w.heap.size ≠ pb := by have := hin _ hbm; omega
  have hne2 : w.heap.size + 1 ≠ pb := by have := hin _ hbm; omega
  have hpblt := lt_of_cells hcur; rw [hszA] at hpblt; have hpkl : ∀ b ∈ pbk, b < w1.heap.size := fun b hb => by have := RowSR.good.lt hpR0 b hb; rw [hszA] at this; exact this
  have HPK := hide hpkl; clear hpkl hpc
  have e1 := ((Below.refl w1.heap.size ((w1.setCell ⟨w.heap.size, 0, none⟩ (.slice (some ⟨pb, po, none⟩) x.tables.length c2)).setCell ⟨w.heap.size, 1, none⟩ (.int .i64 x.next))).drew).alloc (by rw [show (World.drew ((w1.setCell ⟨w.heap.size, 0, none⟩ (.slice (some ⟨pb, po, none⟩) x.tables.length c2)).setCell ⟨w.heap.size, 1, none⟩ (.int .i64 x.next))).heap.size = w1.heap.size from hszA]; exact Nat.le_refl _) (.cells #[] 62)
  have hGm := hide (Gr.made' (size := 2) (R := RowR) (e := 62) (w := World.drew ((w1.setCell ⟨w.heap.size, 0, none⟩ (.slice (some ⟨pb, po, none⟩) x.tables.length c2)).setCell ⟨w.heap.size, 1, none⟩ (.int .i64 x.next))) (n := w1.heap.size) hszA)
  have hS0 := RowSR.good.below' e1 hpR0 HPK.out; obtain ⟨bT, hT, hTs⟩ := hS0.take (k := k) (by omega); have HTk := hide hT; have HTs := hide hTs; clear hT hTs hS0
  have hlt1 : (x.tables[m].take k).length = k := by rw [List.length_take]; omega
  have HLT := hide hlt1; clear hlt1
  have x_00 : World.cell? ((w1.setCell ⟨w.heap.size, 0, none⟩ (.slice (some ⟨pb, po, none⟩) x.tables.length c2)).setCell ⟨w.heap.size, 1, none⟩ (.int .i64 x.next)) ⟨w.heap.size, 0, none⟩ = some (.slice (some ⟨pb, po, none⟩) x.tables.length c2) := x_0
  obtain ⟨AD, hAD⟩ : ∃ A, (if pc = k + 1 then some ⟨qb, qo, none⟩ else some ⟨qb, qo + (k + 1) * 2, none⟩ : Option Addr) = A := ⟨_, rfl⟩
  have hkc : k ≤ pc := (by omega); have hkc1 : k + 1 ≤ pc := (by omega); have hkl1 : k + 1 ≤ x.tables[m].length := hkm; have hwr : IntKind.i64.wrap ((k : Int) + 1) = (k : Int) + 1 := by simp [IntKind.wrap, IntKind.bits, IntKind.signed]; omega
  have htn : ((k : Int) + 1).toNat = k + 1 := (by omega); have hi0 : (0 : Int) ≤ (k : Int) + 1 := (by omega); have hi1 : (k : Int) + 1 ≤ x.tables[m].length := by omega
  go_wp2_with fail
  refine wp_region_tail (fun w' => w'.cell? ⟨w.heap.size, 0, none⟩ = some (.slice (some ⟨pb, po, none⟩) x.tables.length c2) ∧ w'.cell? ⟨pb, po + m, none⟩ = some (.slice (some ⟨qb, qo, none⟩) x.tables[m].length pc)) 22 (by kernel_rfl) (by decide) (show _ from ⟨x_00, g_0⟩) (fun hHeld => ?_)
  refine wpT_take (i := 0) rfl (by kernel_rfl) (fun _ _ _ h => h) (Or.inl ⟨by rfl, fun w hSw => by (try dsimp only at hSw); first | (go_simp; done) | (go_simp; with_reducible rfl)⟩) (by assumption) ?_
  (try simp only [Act.put, List.setIfInBounds_toArray, List.set_cons_zero, List.set_cons_succ])
  refine wpT_take (i := 1) rfl (by kernel_rfl) (fun _ _ _ h => h) (Or.inl ⟨by rfl, fun w hSw => by (try dsimp only at hSw); first | (go_simp; done) | (go_simp; with_reducible rfl)⟩) (by assumption) ?_
  (try simp only [Act.put, List.setIfInBounds_toArray, List.set_cons_zero, List.set_cons_succ])
  refine wpT_take (i := 2) rfl (by kernel_rfl) (fun _ _ _ h => h) (Or.inl ⟨by rfl, fun w hSw => by (try dsimp only at hSw); first | (go_simp; done) | (go_simp; with_reducible rfl)⟩) (by assumption) ?_
  (try simp only [Act.put, List.setIfInBounds_toArray, List.set_cons_zero, List.set_cons_succ])
  refine wpT_take (i := 4) rfl (by kernel_rfl) (fun _ _ _ h => h) (Or.inl ⟨by rfl, fun w hSw => by (try dsimp only at hSw); first | (go_simp; done) | (go_simp; with_reducible rfl)⟩) (by assumption) ?_
  (try simp only [Act.put, List.setIfInBounds_toArray, List.set_cons_zero, List.set_cons_succ])
  refine wpT_take (i := 5) rfl (by kernel_rfl) (fun _ _ _ h => h) (Or.inl ⟨by rfl, fun w hSw => by (try dsimp only at hSw); first | (go_simp; done) | (go_simp; with_reducible rfl)⟩) (by assumption) ?_
  (try simp only [Act.put, List.setIfInBounds_toArray, List.set_cons_zero, List.set_cons_succ])
  refine wpT_take (i := 6) rfl (by kernel_rfl) (fun _ _ _ h => h) (Or.inl ⟨by rfl, fun w hSw => by (try dsimp only at hSw); first | (go_simp; done) | (go_simp; with_reducible rfl)⟩) (by assumption) ?_
  (try simp only [Act.put, List.setIfInBounds_toArray, List.set_cons_zero, List.set_cons_succ])
  refine wpT_take (i := 7) rfl (by kernel_rfl) (fun _ _ _ h => h) (Or.inl ⟨by rfl, fun w hSw => by (try dsimp only at hSw); first | (go_simp; done) | (go_simp; with_reducible rfl)⟩) (by assumption) ?_
  (try simp only [Act.put, List.setIfInBounds_toArray, List.set_cons_zero, List.set_cons_succ])
  refine wpT_take (i := 8) rfl (by kernel_rfl) (fun _ _ _ h => h) (Or.inl ⟨by rfl, fun w hSw => by (try dsimp only at hSw); first | (go_simp; done) | (go_simp; with_reducible rfl)⟩) (by assumption) ?_
  (try simp only [Act.put, List.setIfInBounds_toArray, List.set_cons_zero, List.set_cons_succ])
  refine wpT_take (i := 9) rfl (by kernel_rfl) (fun _ _ _ h => h) (Or.inl ⟨by rfl, fun w hSw => by (try dsimp only at hSw); first | (go_simp; done) | (go_simp; with_reducible rfl)⟩) (by assumption) ?_
  (try simp only [Act.put, List.setIfInBounds_toArray, List.set_cons_zero, List.set_cons_succ])
  refine wpT_take (i := 10) rfl (by kernel_rfl) (fun _ _ _ h => h) (Or.inl ⟨by rfl, fun w hSw => by (try dsimp only at hSw); first | (go_simp; done) | (go_simp; with_reducible rfl)⟩) (by assumption) ?_
  (try simp only [Act.put, List.setIfInBounds_toArray, List.set_cons_zero, List.set_cons_succ])
  refine wpT_take (i := 12) rfl (by kernel_rfl) (fun _ _ _ h => h) (Or.inl ⟨by rfl, fun w hSw => by (try dsimp only at hSw); first | (go_simp; done) | (go_simp; with_reducible rfl)⟩) (by assumption) ?_
  (try simp only [Act.put, List.setIfInBounds_toArray, List.set_cons_zero, List.set_cons_succ])
  refine wpT_take (i := 13) rfl (by kernel_rfl) (fun _ _ _ h => h) (Or.inl ⟨by rfl, fun w hSw => by (try dsimp only at hSw); first | (go_simp; done) | (go_simp; with_reducible rfl)⟩) (by assumption) ?_
  (try simp only [Act.put, List.setIfInBounds_toArray, List.set_cons_zero, List.set_cons_succ])
  refine wpT_take (i := 14) rfl (by kernel_rfl) (fun _ _ _ h => h) (Or.inl ⟨by rfl, fun w hSw => by (try dsimp only at hSw); first | (go_simp; done) | (go_simp; with_reducible rfl)⟩) (by assumption) ?_
  (try simp only [Act.put, List.setIfInBounds_toArray, List.set_cons_zero, List.set_cons_succ])
  refine wpT_take (i := 15) rfl (by kernel_rfl) (fun _ _ _ h => h) (Or.inl ⟨by rfl, fun w hSw => by (try dsimp only at hSw); first | (go_simp; done) | (go_simp; with_reducible rfl)⟩) (by assumption) ?_
  (try simp only [Act.put, List.setIfInBounds_toArray, List.set_cons_zero, List.set_cons_succ])
  refine wpT_take (i := 16) rfl (by kernel_rfl) (fun _ _ _ h => h) (Or.inl ⟨by rfl, fun w hSw => by (try dsimp only at hSw); first | (go_simp; done) | (go_simp; with_reducible rfl)⟩) (by assumption) ?_
  (try simp only [Act.put, List.setIfInBounds_toArray, List.set_cons_zero, List.set_cons_succ])
  refine wpT_take (i := 17) rfl (by kernel_rfl) (fun _ _ _ h => h) (Or.inl ⟨by rfl, fun w hSw => by (try dsimp only at hSw); first | (go_simp; done) | (go_simp; with_reducible rfl)⟩) (by assumption) ?_
  (try simp only [Act.put, List.setIfInBounds_toArray, List.set_cons_zero, List.set_cons_succ])
  refine wpT_take (i := 18) rfl (by kernel_rfl) (fun _ _ _ h => h) (Or.inl ⟨by rfl, fun w hSw => by (try dsimp only at hSw); first | (go_simp; done) | (go_simp; with_reducible rfl)⟩) (by assumption) ?_
  (try simp only [Act.put, List.setIfInBounds_toArray, List.set_cons_zero, List.set_cons_succ])
  refine wpT_take (i := 19) rfl (by kernel_rfl) (fun _ _ _ h => h) (Or.inl ⟨by rfl, fun w hSw => by (try dsimp only at hSw); first | (go_simp; done) | (go_simp; with_reducible rfl)⟩) (by assumption) ?_
  (try simp only [Act.put, List.setIfInBounds_toArray, List.set_cons_zero, List.set_cons_succ])
  refine wpT_one (i := 3) rfl (by kernel_rfl) (fun K hK => ?_)
  go_simp
  clear hHeld; refine hK.out _ _ (show _ from ⟨cell_al x_00 _, cell_al g_0 _⟩) (fun hHeld => ?_)
  clear hK K
  (try simp only [Act.put, List.setIfInBounds_toArray, List.set_cons_zero, List.set_cons_succ])
  refine wpT_one (i := 11) rfl (by kernel_rfl) (fun K hK => ?_)
  refine step_append_sl RowR.good rfl _ _ 125 rfl Try.underlying125 ji jz js jby rfl (by decide) rfl hGm.out HTk.out rfl RowR.one (fun b hb hv => by have h1 := HPK.out b (HTs.out b hb); have h9 : w1.heap.size = b := (by injection hv); omega) (by rw [HLT.out]; have h00 : ([] : List Row).length = 0 := rfl; omega) (by rw [HLT.out]; have h00 : ([] : List Row).length = 0 := rfl; omega) (by simp [World.drew, World.setCell]) ?_; intro v2 w2 bss2 hA; have hb2 := hA.below w1.heap.size _ e1 (Nat.le_refl _); have x_2 := (hb2.cell (p := ⟨w.heap.size, 0, none⟩) hres.1).trans x_00; have g_2 := (hb2.cell (p := ⟨pb, po + m, none⟩) hpblt).trans g_0; have hz2 := hb2.size; rw [hszA] at hz2; obtain ⟨A9, bD, hA9, hD, hDs⟩ := (RowSR.good.below' hb2 hpR0 HPK.out).drop2 (k := k + 1) hkl1; rw [hAD] at hA9; subst hA9; have HD := hide hD; have HDs := hide hDs; clear hD hDs
  clear hHeld; refine hK.out _ _ (show _ from ⟨x_2, g_2⟩) (fun hHeld => ?_)
  clear hK K
  (try simp only [Act.put, List.setIfInBounds_toArray, List.set_cons_zero, List.set_cons_succ])
  refine wpT_one (i := 20) rfl (by kernel_rfl) (fun K hK => ?_)
  refine step_append_sl RowR.good rfl _ _ 125 rfl Try.underlying125 ji jz js jby rfl (by decide) (by rfl) hA.gr HD.out (by rfl) RowR.one (fun b hb hv => by have := (hA.gr.blk b hv).1; have := HPK.out b (HDs.out b hb); omega) (by simp [List.length_take, List.length_drop]; omega) (by simp [List.length_take, List.length_drop]; omega) hz2 ?_; intro v3 w3 bss3 hA3; have hb3 := hA3.below w1.heap.size _ hb2 (Nat.le_refl _); obtain ⟨O3, n3, cO3, hv3⟩ : ∃ A n c, v3 = .slice A n c := (by obtain ⟨A, c, h, _⟩ := hA3.gr.form; exact ⟨A, _, c, h⟩); subst hv3; have x_3 := (hb3.cell (p := ⟨w.heap.size, 0, none⟩) hres.1).trans x_00; have g_3 := (hb3.cell (p := ⟨pb, po + m, none⟩) hpblt).trans g_0; have pB := (hb3.block pb hpblt).trans hcur; have pF3 := blk_free pB; have xB3 := (hb3.block w.heap.size hres.1).trans xB; have rB3 := (hb3.block (w.heap.size + 1) hres.2).trans rB
  clear hHeld; refine hK.out _ _ (show _ from ⟨x_3, g_3⟩) (fun hHeld => ?_)
  clear hK K
  (try simp only [Act.put, List.setIfInBounds_toArray, List.set_cons_zero, List.set_cons_succ])
  refine wpT_take (i := 21) rfl (by kernel_rfl) (fun _ _ _ h => h) (Or.inl ⟨by rfl, fun w hSw => by (try dsimp only at hSw); first | (go_simp; done) | (go_simp; with_reducible rfl)⟩) (by assumption) ?_
  (try simp only [Act.put, List.setIfInBounds_toArray, List.set_cons_zero, List.set_cons_succ])
  refine wpT_done (by kernel_rfl) ?_
  simp only [List.drop_succ_cons, List.drop_zero]
  clear hHeld
  have oS := (blk_far (p := ⟨pb, po + m, none⟩) hne1 (.slice O3 n3 cO3)).trans xB3; have rS := (blk_far (p := ⟨pb, po + m, none⟩) hne2 (.slice O3 n3 cO3)).trans rB3
  have oc0 := blk_cells oS 0; have oc1 := blk_cells oS 1; have rc0 := blk_cells rS 0; have rc1 := blk_cells rS 1; have rf := blk_free rS
  have hw3 := hwA.trans (hb3.mono (by have := hres.1; omega))
  have hwS := hw3.setCell (p := ⟨pb, po + m, none⟩) (by have := hin _ hbm; show w.heap.size ≤ pb; omega) (.slice O3 n3 cO3)
  obtain ⟨bs3, r3, _, hs3⟩ := hA3.gr.done
  have hn3 : ∀ b ∈ bs3, b ∉ [pb] := fun b hb hm => by simp at hm; subst hm; rcases hs3 _ hb with h | h; (rw [List.flatten_append, List.mem_append, List.nil_append] at h; rcases h with h | h; exact hbn (HTs.out _ (hA.sub _ h)); exact hbn (HDs.out _ (hA3.sub _ h))); (have := (hA3.gr.blk _ h).1; omega)
  have hN := hclose.out (w3.setCell ⟨pb, po + m, none⟩ (.slice O3 n3 cO3)) _ [.slice O3 n3 cO3] (x.tables[m].take k ++ x.tables[m].drop (k + 1)) bs3 ((Upd.of (Below.mono' hb3 hszA)).set (p := ⟨pb, po + m, none⟩) (by simp) rfl (.slice O3 n3 cO3)) (blk_set pB (po + m) (.slice O3 n3 cO3)) rfl (fun j u hu => match j, hu with | 0, hu => (by simp only [List.getElem?_cons_zero, Option.some.injEq] at hu; subst hu; exact Array.getElem?_setIfInBounds_self_of_lt (by omega)) | j + 1, hu => (by simp at hu)) (fun p hp => by rw [Array.getElem?_setIfInBounds_ne (by omega)]) (RowSR.good.upd r3 ((Upd.refl [pb] w3).set (p := ⟨pb, po + m, none⟩) (by simp) rfl (.slice O3 n3 cO3)) hn3)
  have HN := hide hN; clear hN hclose
  replace R_res := rS
  go_wp2_with fail
  have fin : _ = some (Obj.cells #[.slice (some ⟨pb, po, none⟩) x.tables.length c2, .int .i64 x.next] 49 (0, 0)) := (blk_set (blk_set R_res 0 (.slice (some ⟨pb, po, none⟩) x.tables.length c2)) 1 (.int .i64 x.next))
  have fc := blk_cells fin
  have HU := (((Upd.refl [w.heap.size + 1] (w3.setCell ⟨pb, po + m, none⟩ (.slice O3 n3 cO3))).set (p := ⟨w.heap.size + 1, 0, none⟩) (by simp) rfl (.slice (some ⟨pb, po, none⟩) x.tables.length c2)).set (p := ⟨w.heap.size + 1, 1, none⟩) (by simp) rfl (.int .i64 x.next))
  refine bodyPost_ret (v := .agg #[.slice (some ⟨pb, po, none⟩) x.tables.length c2, .int .i64 x.next]) (by simp [results, Try.results96, go_sem, fc]) rfl ?_
  obtain ⟨bsN, rN, sN, _⟩ := HN.out
  have hn0 : ∀ b ∈ bsN, w.heap.size + 1 < b := fun b hb => by rcases sN _ hb with h | h; (exact hin _ h); rcases hs3 _ h with h | h; (rw [List.flatten_append, List.mem_append, List.nil_append] at h; rcases h with h | h; exact hin _ (hsub.out _ (HTs.out _ (hA.sub _ h))); exact hin _ (hsub.out _ (HDs.out _ (hA3.sub _ h)))); (have := (hA3.gr.blk _ h).1; omega)
  have hn : ∀ b ∈ bsN, b ∉ [w.heap.size + 1] := fun b hb hm => by have := hn0 b hb; simp at hm; omega
  exact ⟨[.slice (some ⟨pb, po, none⟩) x.tables.length c2, .int .i64 x.next], bsN, rfl, ⟨_, bsN, rfl, rfl, hf2, RowSSR.good.upd rN HU hn⟩, fun b hb => by have := hn0 b hb; omega, ((hwS.setCell (p := ⟨w.heap.size + 1, 0, none⟩) (by simp) (.slice (some ⟨pb, po, none⟩) x.tables.length c2)).setCell (p := ⟨w.heap.size + 1, 1, none⟩) (by simp) (.int .i64 x.next))⟩
theorem filter_lb {l : List Row} {id : Int} (hr : rising l = true) (h : hasId l id = true) : l.filter (fun r => !(r.id == id)) = l.take (lbOf l id) ++ l.drop (lbOf l id + 1) := by
  obtain ⟨_, hlb⟩ := rowIdx_lb hr h
  rw [hasId_lb hr hlb rfl] at h
  have he := eq_of_beq h
  generalize lbOf l id = k at hlb h he
  have hl : l = l.take k ++ l[k] :: l.drop (k + 1) := by rw [← List.drop_eq_getElem_cons hlb, List.take_append_drop]
  have h1 : (l.take k).filter (fun r => !(r.id == id)) = l.take k := by
    rw [List.filter_eq_self]
    intro x hx
    obtain ⟨j, hj, rfl⟩ := List.getElem_of_mem hx
    rw [List.length_take] at hj
    rw [List.getElem_take]
    have := rising_lt hr (show j < k by omega) hlb
    rw [Bool.not_eq_true', beq_eq_false_iff_ne]; omega
  have h2 : (l.drop (k + 1)).filter (fun r => !(r.id == id)) = l.drop (k + 1) := by
    rw [List.filter_eq_self]
    intro x hx
    obtain ⟨j, hj, rfl⟩ := List.getElem_of_mem hx
    rw [List.length_drop] at hj
    rw [List.getElem_drop]
    have := rising_lt hr (show k < k + 1 + j by omega) (by omega)
    rw [Bool.not_eq_true', beq_eq_false_iff_ne]; omega
  have h3 : l.filter (fun r => !(r.id == id)) = (l.take k ++ l[k] :: l.drop (k + 1)).filter (fun r => !(r.id == id)) := by rw [← hl]
  rw [h3, List.filter_append, List.filter_cons, h1, h2, h]
  rfl
theorem dropAns_wt {x : Store} (h : x.bulk ≤ 1048576) (n id : Int) : Store.wtV (dropAns x n id).1 ≤ 8388608 := by
  have h9 : RowSS.wt x.tables ≤ 8388608 := by have := Store.wtV_le x; have e : Store.wtV x = RowSS.wt x.tables := rfl; omega
  unfold dropAns
  split
  · rename_i h1
    obtain ⟨m, rfl, hm, ht, hr⟩ := tblCode_zero h1
    rw [ht, Int.toNat_natCast]
    cases h5 : hasId x.tables[m] id
    · exact h9
    · show RowSS.wt (x.tables.set m _) ≤ _
      refine Nat.le_trans ?_ h9
      have hf : ∀ (l : List Row) (p : Row → Bool), RowS.wt (l.filter p) ≤ RowS.wt l := by
        intro l p
        unfold RowS.wt
        induction l with
        | nil => simp
        | cons a l ih => rw [List.filter_cons]; split <;> simp <;> omega
      have hs : ∀ (ts : List (List Row)) (m : Nat) (hm : m < ts.length) (l : List Row), RowS.wt l ≤ RowS.wt ts[m] → RowSS.wt (ts.set m l) ≤ RowSS.wt ts := by
        intro ts
        unfold RowSS.wt
        induction ts with
        | nil => intro m hm; simp at hm
        | cons a ts ih =>
          intro m hm l hl
          match m with
          | 0 => simp at hl ⊢; omega
          | m + 1 => have := ih m (by simpa using hm) l (by simpa using hl); simp at this ⊢; omega
      exact hs _ m hm _ (hf _ _)
  · simp [Store.wtV, RowSS.wt]
set_option maxHeartbeats 8000000 in
theorem spec_DropRow {w : World}  {bs_x : List Nat} {cs_x : List Value} {x : Store} (H_x : StoreR w bs_x cs_x x) (n : Int) (id : Int) (hk : x.bulk ≤ 1048576) :
    Calls Try.prog 41 #[.agg cs_x.toArray, .int .i64 n, .int .i64 id] w (SeeP StoreR w (dropAns x n id).1 (dropAns x n id).2) := by
  have H0_x := H_x
  obtain ⟨x_v0, x_b0, rfl, rfl, hf_x, x_r0⟩ := H_x
  obtain ⟨A_x0, c_x0, rfl, hlc_x0, hcm_x0, hel_x0⟩ := x_r0.use
  have hbx := (((Below.refl w.heap.size w).alloc (Nat.le_refl _) (.cells #[.slice A_x0 x.tables.length c_x0, .int .i64 x.next] 49)).alloc (by simp; try omega) (.cells #[.slice none 0 0, .int .i64 0] 49))
  obtain ⟨q_x, q_res⟩ := two_at (Below.refl ((w.alloc (.cells #[.slice A_x0 x.tables.length c_x0, .int .i64 x.next] 49)).alloc (.cells #[.slice none 0 0, .int .i64 0] 49)).heap.size _)
  have R_res : World.heap ((w.alloc (.cells #[.slice A_x0 x.tables.length c_x0, .int .i64 x.next] 49)).alloc (.cells #[.slice none 0 0, .int .i64 0] 49)) = World.heap ((w.alloc (.cells #[.slice A_x0 x.tables.length c_x0, .int .i64 x.next] 49)).alloc (.cells #[.slice none 0 0, .int .i64 0] 49)) := rfl
  clear R_res
  have R_res : (World.heap ((w.alloc (.cells #[.slice A_x0 x.tables.length c_x0, .int .i64 x.next] 49)).alloc (.cells #[.slice none 0 0, .int .i64 0] 49)))[w.heap.size + 1]? = some (.cells #[.slice none 0 0, .int .i64 0] 49 (0, 0)) := by simpa using blk_new ((w.alloc (.cells #[.slice A_x0 x.tables.length c_x0, .int .i64 x.next] 49))) #[.slice none 0 0, .int .i64 0] 49
  have R_free := blk_free R_res
  have HK := hide hk; clear hk
  go_enter Try.func41, Try.ntmps41
  go_wp2_with fail
  refine (spec_l05Plain (StoreR.good.nxt hbx H0_x)).mono ?_; rintro e w1 ⟨rfl, hb1⟩; replace q_x := box_on q_x rfl hb1; replace q_res := box_on q_res rfl hb1; have hw1 := nxt hbx hb1; replace R_res := blk_on R_res hb1; replace R_free := blk_free R_res
  cases h2 : x.tables.all rising
  · have hs : Hid (dropAns x n id = (⟨[], 0⟩, 1)) := by show _ = _; unfold dropAns tblCode; rw [h2]; rfl
    clear hel_x0
    go_wp2_with fail
    have fin : _ = some (Obj.cells #[.slice none 0 0, .int .i64 0] 49 (0, 0)) := (blk_set (blk_set R_res 0 (.slice none 0 0)) 1 (.int .i64 0))
    have fc := blk_cells fin
    have HU := (((Upd.refl [w.heap.size + 1] w1).set (p := ⟨w.heap.size + 1, 0, none⟩) (by simp) rfl (.slice none 0 0)).set (p := ⟨w.heap.size + 1, 1, none⟩) (by simp) rfl (.int .i64 0))
    refine bodyPost_ret (v := .tuple #[.agg #[.slice none 0 0, .int .i64 0], .int .i64 (1)]) (by simp [results, Try.results41, go_sem, fc]) rfl ?_
    rw [hs.out]
    exact ⟨[.slice none 0 0, .int .i64 0], [], rfl, zeroStore, ((hw1.setCell (p := ⟨w.heap.size + 1, 0, none⟩) (by simp) (.slice none 0 0)).setCell (p := ⟨w.heap.size + 1, 1, none⟩) (by simp) (.int .i64 0))⟩
  go_wp2_with fail
  refine (spec_l01In _ _ _ _).mono ?_; rintro e w2 ⟨rfl, rfl⟩
  cases h3 : inB n 0 ((x.tables.length : Int) - 1)
  · have hs : Hid (dropAns x n id = (⟨[], 0⟩, 10)) := by show _ = _; unfold dropAns tblCode; rw [h2, h3]; rfl
    clear hel_x0
    go_wp2_with fail
    have fin : _ = some (Obj.cells #[.slice none 0 0, .int .i64 0] 49 (0, 0)) := (blk_set (blk_set R_res 0 (.slice none 0 0)) 1 (.int .i64 0))
    have fc := blk_cells fin
    have HU := (((Upd.refl [w.heap.size + 1] w1).set (p := ⟨w.heap.size + 1, 0, none⟩) (by simp) rfl (.slice none 0 0)).set (p := ⟨w.heap.size + 1, 1, none⟩) (by simp) rfl (.int .i64 0))
    refine bodyPost_ret (v := .tuple #[.agg #[.slice none 0 0, .int .i64 0], .int .i64 (10)]) (by simp [results, Try.results41, go_sem, fc]) rfl ?_
    rw [hs.out]
    exact ⟨[.slice none 0 0, .int .i64 0], [], rfl, zeroStore, ((hw1.setCell (p := ⟨w.heap.size + 1, 0, none⟩) (by simp) (.slice none 0 0)).setCell (p := ⟨w.heap.size + 1, 1, none⟩) (by simp) (.int .i64 0))⟩
  have h1 : tblCode x n = 0 := by unfold tblCode; rw [h2, h3]; rfl
  clear h2 h3
  obtain ⟨m, rfl, hm, ht, hr⟩ := tblCode_zero h1
  have hrm := hr _ (List.getElem_mem hm)
  have hs0 : Hid (dropAns x m id = cond (hasId x.tables[m] id) (⟨x.tables.set m (x.tables[m].filter fun r => !(r.id == id)), x.next⟩, 0) (x, 5)) := by show _ = _; unfold dropAns; rw [if_pos h1, ht, Int.toNat_natCast]
  clear h1 ht hr
  obtain ⟨gb, go, gbk, ges, rfl, ghbl, ghcl, ghcell, gR, ghbk⟩ := hel_x0 m hm
  obtain ⟨gA, gc, ghlc, rfl⟩ : ∃ A0 c0, x.tables[m].length ≤ c0 ∧ ges = [.slice A0 x.tables[m].length c0] := by obtain ⟨A0, c0, h, h2, _⟩ := gR; exact ⟨A0, c0, h2, h⟩
  have g_0 := (hw1.cell (p := ⟨gb, _, none⟩) ghbl).trans (ghcell 0 _ rfl)
  simp only [Nat.add_zero, Nat.mul_one] at g_0
  clear hel_x0
  go_wp2_with fail
  refine (spec_l05Place (RowSR.good.nxt hw1 gR) id).mono ?_; rintro e w3 ⟨rfl, hb3⟩; replace q_x := box_on q_x rfl hb3; replace q_res := box_on q_res rfl hb3; have hw3 := nxt hw1 hb3; replace R_res := blk_on R_res hb3; replace R_free := blk_free R_res
  clear g_0
  have hres := hide (lt_of_cells R_res)
  cases h5 : hasId x.tables[m] id
  · have hs : Hid (dropAns x m id = (x, 5)) := by show _ = _; rw [hs0.out, h5]; rfl
    have hi := hide (rowIdx_none h5)
    have hd : decide (rowIdx x.tables[m] id < 0) = true := decide_eq_true (by rw [hi.out]; omega)
    clear hi
    go_wp2_with fail
    refine (spec_l05Own (StoreR.good.nxt hw3 H0_x) HK.out).mono ?_; rintro e w4 ⟨cs2, bs2, rfl, r2, f2, hb4⟩; replace q_x := box_on q_x rfl hb4; replace q_res := box_on q_res rfl hb4; have hw4 := nxt hw3 hb4; replace R_res := blk_on R_res hb4; replace R_free := blk_free R_res
    have r20 := r2; obtain ⟨w2v, w2b, _, rfl, _, w2r⟩ := r2; obtain ⟨A2, c2, rfl, _, _, _⟩ := w2r.use
    go_wp2_with fail
    have fin : _ = some (Obj.cells #[.slice A2 x.tables.length c2, .int .i64 x.next] 49 (0, 0)) := (blk_set (blk_set R_res 0 (.slice A2 x.tables.length c2)) 1 (.int .i64 x.next))
    have fc := blk_cells fin
    have HU := (((Upd.refl [w.heap.size + 1] w4).set (p := ⟨w.heap.size + 1, 0, none⟩) (by simp) rfl (.slice A2 x.tables.length c2)).set (p := ⟨w.heap.size + 1, 1, none⟩) (by simp) rfl (.int .i64 x.next))
    refine bodyPost_ret (v := .tuple #[.agg #[.slice A2 x.tables.length c2, .int .i64 x.next], .int .i64 5]) (by simp [results, Try.results41, go_sem, fc]) rfl ?_
    rw [hs.out]
    have hn : ∀ b ∈ bs2, b ∉ [w.heap.size + 1] := fun b hb hm => by have := (f2.2 b hb).1; have := hres.out; simp at hm; omega
    exact ⟨[.slice A2 x.tables.length c2, .int .i64 x.next], bs2, rfl, StoreR.good.upd r20 HU hn, ((hw4.setCell (p := ⟨w.heap.size + 1, 0, none⟩) (by simp) (.slice A2 x.tables.length c2)).setCell (p := ⟨w.heap.size + 1, 1, none⟩) (by simp) (.int .i64 x.next))⟩
  obtain ⟨hix, hlb⟩ := rowIdx_lb hrm h5
  have hs : Hid (dropAns x m id = (⟨x.tables.set m (x.tables[m].take (lbOf x.tables[m] id) ++ x.tables[m].drop (lbOf x.tables[m] id + 1)), x.next⟩, 0)) := by show _ = _; rw [hs0.out, h5, filter_lb hrm h5]; rfl
  clear hs0
  generalize lbOf x.tables[m] id = q at hix hlb hs
  rw [hix]
  have hd : decide ((q : Int) < 0) = false := decide_eq_false (by omega)
  clear hix h5
  go_wp2_with fail
  refine (spec_l05Drop (StoreR.good.nxt hw3 H0_x) HK.out hm hlb).mono ?_; rintro e w5 ⟨cs2, bs2, rfl, r2, s2, hb5⟩; replace q_x := box_on q_x rfl hb5; replace q_res := box_on q_res rfl hb5; have hw5 := nxt hw3 hb5; replace R_res := blk_on R_res hb5; replace R_free := blk_free R_res
  have r20 := r2; obtain ⟨w2v, w2b, hw2, rfl, _, w2r⟩ := r2; obtain ⟨A2, n2, c2, rfl⟩ : ∃ A n c, w2v = .slice A n c := by obtain ⟨A, c, h, _⟩ := w2r; exact ⟨A, _, c, by simpa using h⟩
  go_wp2_with fail
  have fin : _ = some (Obj.cells #[.slice A2 n2 c2, .int .i64 x.next] 49 (0, 0)) := (blk_set (blk_set R_res 0 (.slice A2 n2 c2)) 1 (.int .i64 x.next))
  have fc := blk_cells fin
  have HU := (((Upd.refl [w.heap.size + 1] w5).set (p := ⟨w.heap.size + 1, 0, none⟩) (by simp) rfl (.slice A2 n2 c2)).set (p := ⟨w.heap.size + 1, 1, none⟩) (by simp) rfl (.int .i64 x.next))
  refine bodyPost_ret (v := .tuple #[.agg #[.slice A2 n2 c2, .int .i64 x.next], .int .i64 0]) (by simp [results, Try.results41, go_sem, fc]) rfl ?_
  rw [hs.out]
  have hn : ∀ b ∈ bs2, b ∉ [w.heap.size + 1] := fun b hb hm => by have := s2 b hb; have := hres.out; simp at hm; omega
  exact ⟨[.slice A2 n2 c2, .int .i64 x.next], bs2, rfl, StoreR.good.upd r20 HU hn, ((hw5.setCell (p := ⟨w.heap.size + 1, 0, none⟩) (by simp) (.slice A2 n2 c2)).setCell (p := ⟨w.heap.size + 1, 1, none⟩) (by simp) (.int .i64 x.next))⟩
end Go.Proofs.Ythbebbnidgeaeaa
