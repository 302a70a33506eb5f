/- A row behind mutations. No statement is proved here; no conditions. Written by a program (gen50.py). -/
import Derived.Test.YthglchopajdmhaaGreatMutsL
import Derived.Test.YthglchopajdmhaaGreatCopy
import Derived.Test.YthglchopajdmhaaGreatDrawn
namespace Go.Proofs.YthglchopajdmhaaGreat
open Go.ChangeShapes Go.WideShapes Go.ChangeAt Go.RowKit Go.Deep
set_option maxRecDepth 100000
set_option linter.unusedVariables false
set_option linter.unusedSimpArgs false

theorem box_lo {w1 w2 : World} {b B : Nat} {cs : Array Value} (q : ∀ j, w1.cell? ⟨b, j, none⟩ = cs[j]?) (hb : Below B w1 w2) (hlt : b < B) (j : Nat) : w2.cell? ⟨b, j, none⟩ = cs[j]? := by
  rw [← q j]; exact World.cell?_of_block (w := w1) (hb.block b hlt)
theorem zeroRowR {w : World} : RowR w [] [.int .i64 0, .slice none 0 0] ⟨0, []⟩ := ⟨_, [], rfl, rfl, (rfl : (Lit.int .i64 0).wf = true), nil_row (by omega)⟩
set_option maxHeartbeats 16000000 in
theorem impl_mutateRow {w : World}  {bs_t : List Nat} {cs_t : List Value} {t : Table} (H_t : TableR w bs_t cs_t t) {bs_r : List Nat} {cs_r : List Value} {r : Row} (H_r : RowR w bs_r cs_r r) {bs_l : List Nat} {v_l : Value} {l : List Mut} (H_l : MutSR w bs_l [v_l] l) (hb : r.bulk ≤ 1048576) (htb : tblOK t = true) (hcl : cellsIn t r = true) (hgo : ∀ n (hn : n < l.length), MGo t l[n]) :
    Calls Tryz.prog 35 #[.agg cs_t.toArray, .agg cs_r.toArray, v_l] w (OutP RowR w (mutRowL t r l).1 (mutRowL t r l).2) := by
  have H0_l := H_l
  obtain ⟨A_l, c_l, rfl, hlc_l, hcm_l, hel_l⟩ := H_l.use
  have H0_t := H_t
  obtain ⟨t_v1, t_b1, t_v2, t_b2, rfl, rfl, hf_t, t_r1, t_r2⟩ := H_t
  obtain ⟨A_t1, c_t1, rfl, hlc_t1, hcm_t1, hel_t1⟩ := t_r1.use
  obtain ⟨A_t2, c_t2, rfl, hlc_t2, hcm_t2, hel_t2⟩ := t_r2.use
  have H0_r := H_r
  obtain ⟨r_v1, r_b1, rfl, rfl, hf_r, r_r1⟩ := H_r
  obtain ⟨A_r1, c_r1, rfl, hlc_r1, hcm_r1, hel_r1⟩ := r_r1.use
  have hbx := ((((Below.refl w.heap.size w).alloc (Nat.le_refl _) (.cells #[.string t.name, .slice A_t1 t.columns.length c_t1, .slice A_t2 t.unique.length c_t2, .bool t.root] 40)).alloc (by simp; try omega) (.cells #[.int .i64 r.id, .slice A_r1 r.cells.length c_r1] 35)).alloc (by simp; try omega) (.cells #[.int .i64 0, .slice none 0 0] 35))
  obtain ⟨q_t, q_r, q_res⟩ := three_at (Below.refl (((w.alloc (.cells #[.string t.name, .slice A_t1 t.columns.length c_t1, .slice A_t2 t.unique.length c_t2, .bool t.root] 40)).alloc (.cells #[.int .i64 r.id, .slice A_r1 r.cells.length c_r1] 35)).alloc (.cells #[.int .i64 0, .slice none 0 0] 35)).heap.size _)
  have R_res : World.heap (((w.alloc (.cells #[.string t.name, .slice A_t1 t.columns.length c_t1, .slice A_t2 t.unique.length c_t2, .bool t.root] 40)).alloc (.cells #[.int .i64 r.id, .slice A_r1 r.cells.length c_r1] 35)).alloc (.cells #[.int .i64 0, .slice none 0 0] 35)) = World.heap (((w.alloc (.cells #[.string t.name, .slice A_t1 t.columns.length c_t1, .slice A_t2 t.unique.length c_t2, .bool t.root] 40)).alloc (.cells #[.int .i64 r.id, .slice A_r1 r.cells.length c_r1] 35)).alloc (.cells #[.int .i64 0, .slice none 0 0] 35)) := rfl
  clear R_res
  have R_res : (World.heap (((w.alloc (.cells #[.string t.name, .slice A_t1 t.columns.length c_t1, .slice A_t2 t.unique.length c_t2, .bool t.root] 40)).alloc (.cells #[.int .i64 r.id, .slice A_r1 r.cells.length c_r1] 35)).alloc (.cells #[.int .i64 0, .slice none 0 0] 35)))[w.heap.size + 1 + 1]? = some (.cells #[.int .i64 0, .slice none 0 0] 35 (0, 0)) := by simpa using blk_new (((w.alloc (.cells #[.string t.name, .slice A_t1 t.columns.length c_t1, .slice A_t2 t.unique.length c_t2, .bool t.root] 40)).alloc (.cells #[.int .i64 r.id, .slice A_r1 r.cells.length c_r1] 35))) #[.int .i64 0, .slice none 0 0] 35
  have R_free := blk_free R_res
  have HGO := hide hgo; have HTB := hide htb; have hRG := hide (mrun_good htb (RG.start hcl) hgo); have HB := hide hb; clear hgo htb hcl hb hel_r1 hel_t2
  go_enter Tryz.func35, Tryz.ntmps35
  go_wp2_with fail
  refine (impl_copyRow (RowR.good.nxt hbx H0_r) HB.out).mono ?_; rintro e w1 ⟨cs2, bs2, rfl, r2, f2, hb1⟩; replace q_t := box_on q_t rfl hb1; replace q_r := box_on q_r rfl hb1; replace q_res := box_on q_res rfl hb1; have hw1 := nxt hbx hb1; replace R_res := blk_on R_res hb1; replace R_free := blk_free R_res
  obtain ⟨v2, b2, hb2e, rfl, hf2, s2⟩ := r2; subst hb2e; have s20 := s2; obtain ⟨OA, oc, rfl, _, _, _⟩ := s2.use
  have hlo : w.heap.size + 1 + 1 < w1.heap.size := lt_of_cells R_res
  have hin0 : ∀ b ∈ bs2, w.heap.size + 1 + 1 + 1 ≤ b ∧ b < w1.heap.size := fun b hb => ⟨by have := (f2.2 b hb).1; simp at this; omega, f2.lt b hb⟩
  have ho : Below w1.heap.size w1 (w1.alloc (.cells #[.int .i64 r.id, .slice OA r.cells.length oc] 35)) := (Below.refl _ _).alloc (Nat.le_refl _) _
  have oB := blk_new w1 #[.int .i64 r.id, .slice OA r.cells.length oc] 35
  replace q_t := box_on q_t rfl ho; replace R_res := blk_on R_res ho
  have hS0 := hide (AtomSSR.good.nxt ho s20); have hF0 : Hid (Fr (w.heap.size + 1 + 1 + 1) (w1.alloc (.cells #[.int .i64 r.id, .slice OA r.cells.length oc] 35)) bs2) := (f2.below ho).mono (by simp)
  have hw0 := nxt hw1 ho
  have hno : Hid (w1.heap.size ∉ bs2) := fun hm => by have := (hin0 _ hm).2; omega
  have hz0 : (World.heap (w1.alloc (.cells #[.int .i64 r.id, .slice OA r.cells.length oc] 35))).size = w1.heap.size + 1 := by simp
  replace R_free := blk_free R_res
  have HOB : w1.heap.size < (World.heap (w1.alloc (.cells #[.int .i64 r.id, .slice OA r.cells.length oc] 35))).size := lt_of_cells oB
  go_wp2_with fail
  go_loopw [18] (fun i wr => ∃ (k : Nat) (bs : List Nat), k ≤ l.length ∧ i = .int .i64 k ∧ Hid ((mrun t r.cells l k).2 = 0) ∧ Hid (AtomSSR wr bs [.slice OA r.cells.length oc] (mrun t r.cells l k).1) ∧ Hid (Fr (w.heap.size + 1 + 1 + 1) wr bs) ∧ Hid (w1.heap.size ∉ bs) ∧ Hid (wr.heap[w1.heap.size]? = some (.cells #[.int .i64 r.id, .slice OA r.cells.length oc] 35 (0, 0))) ∧ Below (w.heap.size + 1 + 1 + 1) (w1.alloc (.cells #[.int .i64 r.id, .slice OA r.cells.length oc] 35)) wr) (fun i _ => l.length - (intOf i).toNat)
  case atStart => exact ⟨0, bs2, Nat.zero_le _, rfl, rfl, hS0.out, hF0.out, hno.out, oB, Below.refl _ _⟩
  case round =>
    clear hS0 hF0 hno oB s20 f2; obtain ⟨k1, bs, hk1, rfl, hz, hS, hF, hno, hoB, hLB⟩ := hrel; obtain ⟨wl, rfl⟩ : ∃ w' : World, w' = wr := ⟨_, rfl⟩
    replace q_t := box_lo q_t hLB (by omega); replace R_res := (hLB.block (w.heap.size + 1 + 1) (by omega)).trans R_res; replace R_free := blk_free R_res; have hwl := hw0.trans (hLB.mono (by omega))
    have oC := hoB.out; have o_0 := blk_cells oC 0; have o_1 := blk_cells oC 1; have hol := lt_of_cells oC; have hlz := hLB.size
    by_cases hlt1 : k1 < l.length
    · obtain ⟨j, hj, hje, hty⟩ := (HGO.out k1 hlt1).col; have HJE := hide hje; have HTY := hide hty; clear hje hty
      have hG := hide (hRG.out k1 (by omega) hz.out); have hjr0 : j < (mrun t r.cells l k1).1.length := (by rw [hG.out.len]; exact hj); have hjr : j < r.cells.length := (by obtain ⟨A', c', hv, _⟩ := hS.out; have := hv; simp at this; omega)
      obtain ⟨gb, go, gbk, ges, rfl, ghbl, ghcl, ghcell, gR, ghbk⟩ := hel_l k1 hlt1
      have gR0 := gR
      obtain ⟨gv2, gb2, _, ghes, ghf, gr2⟩ := gR
      subst ghes
      obtain ⟨gA2, gc2, rfl, ghlc2, ghcm2, ghel2⟩ := gr2.use
      have g_0 := (hwl.cell (p := ⟨gb, _, none⟩) ghbl).trans (ghcell 0 _ rfl)
      have g_1 := (hwl.cell (p := ⟨gb, _, none⟩) ghbl).trans (ghcell 1 _ rfl)
      have g_2 := (hwl.cell (p := ⟨gb, _, none⟩) ghbl).trans (ghcell 2 _ rfl)
      simp only [Nat.add_zero] at g_0 g_1 g_2
      clear ghcell ghcl
      replace q_t := box_on q_t rfl ((Below.refl (World.heap (wl)).size (wl)).alloc (Nat.le_refl _) (.cells #[.string l[k1].column, .int .i64 l[k1].func, .slice gA2 l[k1].value.length gc2] 67))
      have q_v := blk_cells (blk_new (wl) #[.string l[k1].column, .int .i64 l[k1].func, .slice gA2 l[k1].value.length gc2] 67)
      have hn1 := (hwl).alloc (hwl).size (.cells #[.string l[k1].column, .int .i64 l[k1].func, .slice gA2 l[k1].value.length gc2] 67)
      go_wp2_with fail
      refine (impl_columnAt (TableR.good.nxt hn1 H0_t) l[k1].column).mono ?_; rw [HJE.out]; rintro e w2 ⟨rfl, hb2⟩; replace q_t := box_on q_t rfl hb2; replace q_v := box_on q_v rfl hb2; have hw2 := nxt hn1 hb2
      clear g_0 g_1 g_2
      have hbW : Below wl.heap.size wl w2 := nxt ((Below.refl wl.heap.size wl).alloc (Nat.le_refl _) (.cells #[.string l[k1].column, .int .i64 l[k1].func, .slice gA2 l[k1].value.length gc2] 67)) hb2
      have oW := blk_on oC hbW; replace R_res := blk_on R_res hbW; have hWs := hbW.size; have hSW := hide (AtomSSR.good.nxt hbW hS.out); have hFW := hide (hF.out.below hbW)
      obtain ⟨pb, po, pbk, pes, pcur, pe, hA2, hcur, hbm, hbn, hsub, hpes, hpc, hpR, hpF, hclose⟩ := SlR.put AtomSR.good hSW.out hFW.out hjr0; subst hA2
      have hclose := hide hclose; have hsub := hide hsub; obtain ⟨pv, rfl⟩ : ∃ v, pes = [v] := (by match pes, hpes with | [v], _ => exact ⟨v, rfl⟩); have hpR0 := hpR; obtain ⟨pA, pc, rfl, _, _, _⟩ := hpR.use; have HPR := hide hpR0; clear hpR0
      have hcell := hpc 0 _ rfl; simp only [Nat.mul_one, Nat.add_zero] at hcell
      have p_0 := (blk_cells hcur _).trans hcell; have hpl : po + j < pcur.size := (Array.getElem?_eq_some_iff.1 hcell).1; have hpblt := lt_of_cells hcur
      have hne : w1.heap.size ≠ pb := fun h => hno.out (h ▸ hbm); have hlop : (w.heap.size + 1 + 1 + 1) ≤ pb := (hFW.out.2 pb hbm).1; have HFD := hide (fun b (hb : b ∈ pbk) => (hFW.out.2 b (hsub.out b hb)))
      clear hpc hpes
      obtain ⟨cb, co, cbk, ces, rfl, chbl, chcl, chcell, cR, chbk⟩ := hel_t1 j hj
      obtain ⟨_, ches, chf⟩ := cR
      subst ches
      have c_0 := (hw2.cell (p := ⟨cb, _, none⟩) chbl).trans (chcell 0 _ rfl)
      have c_1 := (hw2.cell (p := ⟨cb, _, none⟩) chbl).trans (chcell 1 _ rfl)
      have c_2 := (hw2.cell (p := ⟨cb, _, none⟩) chbl).trans (chcell 2 _ rfl)
      have c_3 := (hw2.cell (p := ⟨cb, _, none⟩) chbl).trans (chcell 3 _ rfl)
      have c_4 := (hw2.cell (p := ⟨cb, _, none⟩) chbl).trans (chcell 4 _ rfl)
      have c_5 := (hw2.cell (p := ⟨cb, _, none⟩) chbl).trans (chcell 5 _ rfl)
      have c_6 := (hw2.cell (p := ⟨cb, _, none⟩) chbl).trans (chcell 6 _ rfl)
      have c_7 := (hw2.cell (p := ⟨cb, _, none⟩) chbl).trans (chcell 7 _ rfl)
      simp only [Nat.add_zero] at c_0 c_1 c_2 c_3 c_4 c_5 c_6 c_7
      clear chcell chcl
      clear hel_t1
      have oW1 := blk_cells oW 1
      have hrl : (mrun t r.cells l k1).1.length = r.cells.length := (by obtain ⟨A', c', hv, _⟩ := hSW.out; have := hv; simp at this; omega); have HRL := hide hrl; clear hrl
      have hdl := hide (mcell_at hj HJE.out hjr0); have hmok := hide (hG.out.mok (HGO.out k1 hlt1) hj hjr0 HTY.out)
      go_wp2_with fail
      obtain ⟨mc, hmc⟩ : ∃ mc, mcell t (mrun t r.cells l k1).1 l[k1] = mc := ⟨_, rfl⟩; have HMC := hide hmc; have HDL := hide (hdl.out.symm.trans hmc); clear hmc
      refine wp_region_tail (fun w' => w'.cell? ⟨w.heap.size, 1, none⟩ = some (.slice (some ⟨cb, co, none⟩) t.columns.length c_t1) ∧ w'.cell? ⟨cb, co + j * 8, none⟩ = some (.string t.columns[j].name) ∧ w'.cell? ⟨cb, co + j * 8 + 1, none⟩ = some (.int .i64 t.columns[j].kind) ∧ w'.cell? ⟨cb, co + j * 8 + 2, none⟩ = some (.int .i64 t.columns[j].min) ∧ w'.cell? ⟨cb, co + j * 8 + 3, none⟩ = some (.int .i64 t.columns[j].max) ∧ w'.cell? ⟨cb, co + j * 8 + 4, none⟩ = some (.int .i64 t.columns[j].low) ∧ w'.cell? ⟨cb, co + j * 8 + 5, none⟩ = some (.int .i64 t.columns[j].high) ∧ w'.cell? ⟨cb, co + j * 8 + 6, none⟩ = some (.string t.columns[j].ref) ∧ w'.cell? ⟨cb, co + j * 8 + 7, none⟩ = some (.bool t.columns[j].strong) ∧ w'.cell? ⟨w1.heap.size, 1, none⟩ = some (.slice (some ⟨pb, po, none⟩) r.cells.length oc) ∧ w'.cell? ⟨pb, po + j, none⟩ = some (.slice pA (mrun t r.cells l k1).1[j].length pc) ∧ w'.cell? ⟨wl.heap.size, 0, none⟩ = some (.string l[k1].column) ∧ w'.cell? ⟨wl.heap.size, 1, none⟩ = some (.int .i64 l[k1].func) ∧ w'.cell? ⟨wl.heap.size, 2, none⟩ = some (.slice gA2 l[k1].value.length gc2)) 16 (by kernel_rfl) (by decide) (show _ from ⟨box_cell q_t 1 rfl, c_0, c_1, c_2, c_3, c_4, c_5, c_6, c_7, oW1, p_0, box_cell q_v 0 rfl, box_cell q_v 1 rfl, box_cell q_v 2 rfl⟩) (fun hHeld => ?_)
      refine wpT_take (i := 0) rfl (by kernel_rfl) (fun _ _ _ h => h) (Or.inl ⟨by rfl, fun w hSw => by (try dsimp only at hSw); first | (go_simp; done) | (go_simp; with_reducible rfl)⟩) (by assumption) ?_
      (try simp only [Act.put, List.setIfInBounds_toArray, List.set_cons_zero, List.set_cons_succ])
      refine wpT_take (i := 1) rfl (by kernel_rfl) (fun _ _ _ h => h) (Or.inl ⟨by rfl, fun w hSw => by (try dsimp only at hSw); first | (go_simp; done) | (go_simp; with_reducible rfl)⟩) (by assumption) ?_
      (try simp only [Act.put, List.setIfInBounds_toArray, List.set_cons_zero, List.set_cons_succ])
      refine wpT_take (i := 2) rfl (by kernel_rfl) (fun _ _ _ h => h) (Or.inl ⟨by rfl, fun w hSw => by (try dsimp only at hSw); first | (go_simp; done) | (go_simp; with_reducible rfl)⟩) (by assumption) ?_
      (try simp only [Act.put, List.setIfInBounds_toArray, List.set_cons_zero, List.set_cons_succ])
      refine wpT_take (i := 3) rfl (by kernel_rfl) (fun _ _ _ h => h) (Or.inl ⟨by rfl, fun w hSw => by (try dsimp only at hSw); first | (go_simp; done) | (go_simp; with_reducible rfl)⟩) (by assumption) ?_
      (try simp only [Act.put, List.setIfInBounds_toArray, List.set_cons_zero, List.set_cons_succ])
      refine wpT_take (i := 4) rfl (by kernel_rfl) (fun _ _ _ h => h) (Or.inl ⟨by rfl, fun w hSw => by (try dsimp only at hSw); first | (go_simp; done) | (go_simp; with_reducible rfl)⟩) (by assumption) ?_
      (try simp only [Act.put, List.setIfInBounds_toArray, List.set_cons_zero, List.set_cons_succ])
      refine wpT_take (i := 5) rfl (by kernel_rfl) (fun _ _ _ h => h) (Or.inl ⟨by rfl, fun w hSw => by (try dsimp only at hSw); first | (go_simp; done) | (go_simp; with_reducible rfl)⟩) (by assumption) ?_
      (try simp only [Act.put, List.setIfInBounds_toArray, List.set_cons_zero, List.set_cons_succ])
      refine wpT_take (i := 6) rfl (by kernel_rfl) (fun _ _ _ h => h) (Or.inl ⟨by rfl, fun w hSw => by (try dsimp only at hSw); first | (go_simp; done) | (go_simp; with_reducible rfl)⟩) (by assumption) ?_
      (try simp only [Act.put, List.setIfInBounds_toArray, List.set_cons_zero, List.set_cons_succ])
      refine wpT_take (i := 7) rfl (by kernel_rfl) (fun _ _ _ h => h) (Or.inl ⟨by rfl, fun w hSw => by (try dsimp only at hSw); first | (go_simp; done) | (go_simp; with_reducible rfl)⟩) (by assumption) ?_
      (try simp only [Act.put, List.setIfInBounds_toArray, List.set_cons_zero, List.set_cons_succ])
      refine wpT_take (i := 8) rfl (by kernel_rfl) (fun _ _ _ h => h) (Or.inl ⟨by rfl, fun w hSw => by (try dsimp only at hSw); first | (go_simp; done) | (go_simp; with_reducible rfl)⟩) (by assumption) ?_
      (try simp only [Act.put, List.setIfInBounds_toArray, List.set_cons_zero, List.set_cons_succ])
      refine wpT_take (i := 9) rfl (by kernel_rfl) (fun _ _ _ h => h) (Or.inl ⟨by rfl, fun w hSw => by (try dsimp only at hSw); first | (go_simp; done) | (go_simp; with_reducible rfl)⟩) (by assumption) ?_
      (try simp only [Act.put, List.setIfInBounds_toArray, List.set_cons_zero, List.set_cons_succ])
      refine wpT_take (i := 10) rfl (by kernel_rfl) (fun _ _ _ h => h) (Or.inl ⟨by rfl, fun w hSw => by (try dsimp only at hSw); first | (go_simp; done) | (go_simp; with_reducible rfl)⟩) (by assumption) ?_
      (try simp only [Act.put, List.setIfInBounds_toArray, List.set_cons_zero, List.set_cons_succ])
      refine wpT_one (i := 11) rfl (by kernel_rfl) (fun K hK => ?_)
      go_simp; go_at_call 66; refine (impl_mutate t.columns[j] (AtomSR.good.nxt (Below.refl _ _).drew HPR.out) (MutR.good.nxt hw2.drew gR0) hmok.out).mono ?_; rw [HDL.out]; rintro e w9 ⟨v9, bs9, rfl, r9, f9, hb9⟩; have hb9' : Below (World.heap w2).size w2 w9 := (Below.refl _ _).drew.trans hb9; have r90 := hide r9; obtain ⟨A9, c9, rfl, _, _, _⟩ := r9.use; clear r9
      clear hHeld; refine hK.out _ _ (show _ from ⟨cell_on (box_cell q_t 1 rfl) hb9', cell_on (c_0) hb9', cell_on (c_1) hb9', cell_on (c_2) hb9', cell_on (c_3) hb9', cell_on (c_4) hb9', cell_on (c_5) hb9', cell_on (c_6) hb9', cell_on (c_7) hb9', cell_on (oW1) hb9', cell_on (p_0) hb9', cell_on (box_cell q_v 0 rfl) hb9', cell_on (box_cell q_v 1 rfl) hb9', cell_on (box_cell q_v 2 rfl) hb9'⟩) (fun hHeld => ?_)
      clear hK K
      (try simp only [Act.put, List.setIfInBounds_toArray, List.set_cons_zero, List.set_cons_succ])
      refine wpT_take (i := 12) rfl (by kernel_rfl) (fun _ _ _ h => h) (Or.inl ⟨by rfl, fun w hSw => by (try dsimp only at hSw); first | (go_simp; done) | (go_simp; with_reducible rfl)⟩) (by assumption) ?_
      (try simp only [Act.put, List.setIfInBounds_toArray, List.set_cons_zero, List.set_cons_succ])
      refine wpT_take (i := 13) rfl (by kernel_rfl) (fun _ _ _ h => h) (Or.inl ⟨by rfl, fun w hSw => by (try dsimp only at hSw); first | (go_simp; done) | (go_simp; with_reducible rfl)⟩) (by assumption) ?_
      (try simp only [Act.put, List.setIfInBounds_toArray, List.set_cons_zero, List.set_cons_succ])
      refine wpT_take (i := 14) rfl (by kernel_rfl) (fun _ _ _ h => h) (Or.inl ⟨by rfl, fun w hSw => by (try dsimp only at hSw); first | (go_simp; done) | (go_simp; with_reducible rfl)⟩) (by assumption) ?_
      (try simp only [Act.put, List.setIfInBounds_toArray, List.set_cons_zero, List.set_cons_succ])
      refine wpT_take (i := 15) rfl (by kernel_rfl) (fun _ _ _ h => h) (Or.inl ⟨by rfl, fun w hSw => by (try dsimp only at hSw); first | (go_simp; done) | (go_simp; with_reducible rfl)⟩) (by assumption) ?_
      (try simp only [Act.put, List.setIfInBounds_toArray, List.set_cons_zero, List.set_cons_succ])
      refine wpT_done (by kernel_rfl) ?_
      simp only [List.drop_succ_cons, List.drop_zero]
      clear hHeld
      have hw9 := nxt hw2 hb9'; replace q_t := box_on q_t rfl hb9'; replace R_res := blk_on R_res hb9'; replace R_free := blk_free R_res; have oW9 := blk_on oW hb9'; have pcur9 := blk_on hcur hb9'; have hs9 := hb9'.size
      by_cases h5 : ¬ mc.2 = 0
      · have hr : Hid (mutRowL t r l = (⟨0, []⟩, mc.2)) := by show _ = _; exact mutRowL_bad hlt1 hz.out (by rw [HMC.out]) h5
        have h6 : (mc.2 != 0) = true := by simp [h5]
        clear h5
        have rc0 := blk_cells R_res 0; have rc1 := blk_cells R_res 1
        go_wp2_with fail
        have fin : _ = some (Obj.cells #[.int .i64 0, .slice none 0 0] 35 (0, 0)) := (blk_set (blk_set R_res 0 (.int .i64 0)) 1 (.slice none 0 0))
        have fc := blk_cells fin
        have HUr := (((Upd.refl [w.heap.size + 1 + 1] (w9)).set (p := ⟨w.heap.size + 1 + 1, 0, none⟩) (by simp) rfl (.int .i64 0)).set (p := ⟨w.heap.size + 1 + 1, 1, none⟩) (by simp) rfl (.slice none 0 0))
        refine bodyPost_ret (v := .tuple #[.agg #[.int .i64 0, .slice none 0 0], .int .i64 mc.2]) (by simp [results, Tryz.results35, go_sem, fc]) rfl ?_
        rw [hr.out]
        exact ⟨[.int .i64 0, .slice none 0 0], _, rfl, zeroRowR, Fr.nil _ _, ((hw9.setCell (p := ⟨w.heap.size + 1 + 1, 0, none⟩) (by simp; try omega) (.int .i64 0)).setCell (p := ⟨w.heap.size + 1 + 1, 1, none⟩) (by simp; try omega) (.slice none 0 0))⟩
      have h5 := Decidable.not_not.1 h5; have h6 : (mc.2 != 0) = false := by simp [h5]
      have hm0 : (mcell t (mrun t r.cells l k1).1 l[k1]).2 = 0 := by rw [HMC.out]; exact h5
      have hnx : Hid (mrun t r.cells l (k1 + 1) = ((mrun t r.cells l k1).1.set j mc.1, 0)) := by show _ = _; rw [mrun_succ hz.out hlt1, mnext_good hm0, HJE.out, HMC.out]; rfl
      clear h5 hm0
      have n_f := blk_free pcur9; have n_0 := (blk_cells pcur9 _).trans hcell; have m_1 := blk_cells oW9 1
      have HUp := (Upd.refl [pb] w9).set (p := ⟨pb, po + j, none⟩) (by simp) rfl (.slice A9 mc.1.length c9)
      have hn9 : ∀ b ∈ bs9, (World.heap w2).size ≤ b := fun b hb => (f9.2 b hb).1
      have hN := hclose.out (w9.setCell ⟨pb, po + j, none⟩ (.slice A9 mc.1.length c9)) _ [.slice A9 mc.1.length c9] mc.1 bs9 (((Upd.of hb9').set (p := ⟨pb, po + j, none⟩) (by simp) rfl (.slice A9 mc.1.length c9)).wide (fun x hx => hx)) (blk_set pcur9 (po + j) (.slice A9 mc.1.length c9)) rfl (fun q u hu => match q, hu with | 0, hu => (by simp only [List.getElem?_cons_zero, Option.some.injEq] at hu; subst hu; simp only [Nat.mul_one, Nat.add_zero]; exact Array.getElem?_setIfInBounds_self_of_lt hpl) | q + 1, hu => (by simp at hu)) (fun p hp => by rw [Array.getElem?_setIfInBounds_ne (by omega)]) (AtomSR.good.upd r90.out HUp (fun b hb hm => by have := hn9 b hb; simp at hm; omega))
      obtain ⟨bsN, rN, sN, fN⟩ := hN; have fN2 := fN ((f9.upd HUp).mono (show (w.heap.size + 1 + 1 + 1) ≤ (World.heap w2).size by omega)) (fun x hx => Or.inr (hn9 x hx))
      have hRN := hide (show AtomSSR (w9.setCell ⟨pb, po + j, none⟩ (.slice A9 mc.1.length c9)) bsN [.slice (some ⟨pb, po, none⟩) r.cells.length oc] (mrun t r.cells l (k1 + 1)).1 from by rw [hnx.out]; exact rN); have hFN := hide fN2; have hz2 : Hid ((mrun t r.cells l (k1 + 1)).2 = 0) := by show _ = _; rw [hnx.out]
      have hnoN : Hid (w1.heap.size ∉ bsN) := fun hm => by rcases sN _ hm with h | h; exact hno.out h; (have := hn9 _ h; omega)
      have oN : Hid ((World.heap (w9.setCell ⟨pb, po + j, none⟩ (.slice A9 mc.1.length c9)))[w1.heap.size]? = some (.cells #[.int .i64 r.id, .slice (some ⟨pb, po, none⟩) r.cells.length oc] 35 (0, 0))) := (blk_far (p := ⟨pb, po + j, none⟩) hne (.slice A9 mc.1.length c9)).trans oW9
      have hLN := ((hLB.trans (hbW.mono (show (w.heap.size + 1 + 1 + 1) ≤ wl.heap.size by omega))).trans (hb9'.mono (show (w.heap.size + 1 + 1 + 1) ≤ (World.heap w2).size by omega))).setCell (p := ⟨pb, po + j, none⟩) hlop (.slice A9 mc.1.length c9)
      clear hclose rN sN fN fN2 hn9
      go_wp2_with fail
      go_roundw
      case rel => exact ⟨k1 + 1, bsN, hlt1, by go_num, hz2, hRN, hFN, hnoN, oN, hLN⟩
      case measure => simp [intOf]; omega
    · obtain rfl : k1 = l.length := by omega
      have hr : Hid (mutRowL t r l = (⟨r.id, (mrun t r.cells l l.length).1⟩, 0)) := by show _ = _; exact mutRowL_good hz.out
      have hF9 := hF.out; have hnr : ∀ b ∈ bs, b ∉ [w.heap.size + 1 + 1] := fun b hb hm => by have := (hF9.2 b hb).1; simp at hm; omega
      clear hel_t1 hel_l
      have HF9 := hide hF9; clear hF9
      have rc0 := blk_cells R_res 0; have rc1 := blk_cells R_res 1
      go_wp2_with fail
      have fin : _ = some (Obj.cells #[.int .i64 r.id, .slice OA r.cells.length oc] 35 (0, 0)) := (blk_set (blk_set R_res 0 (.int .i64 r.id)) 1 (.slice OA r.cells.length oc))
      have fc := blk_cells fin
      have HUr := (((Upd.refl [w.heap.size + 1 + 1] (wl)).set (p := ⟨w.heap.size + 1 + 1, 0, none⟩) (by simp) rfl (.int .i64 r.id)).set (p := ⟨w.heap.size + 1 + 1, 1, none⟩) (by simp) rfl (.slice OA r.cells.length oc))
      refine bodyPost_ret (v := .tuple #[.agg #[.int .i64 r.id, .slice OA r.cells.length oc], .int .i64 0]) (by simp [results, Tryz.results35, go_sem, fc]) rfl ?_
      rw [hr.out]
      exact ⟨[.int .i64 r.id, .slice OA r.cells.length oc], _, rfl, ⟨_, bs, rfl, rfl, hf2, AtomSSR.good.upd hS.out HUr hnr⟩, (HF9.out.upd HUr).mono (by omega), ((hwl.setCell (p := ⟨w.heap.size + 1 + 1, 0, none⟩) (by simp; try omega) (.int .i64 r.id)).setCell (p := ⟨w.heap.size + 1 + 1, 1, none⟩) (by simp; try omega) (.slice OA r.cells.length oc))⟩
set_option maxHeartbeats 16000000 in
theorem spec_l07Row {w : World}  {bs_t : List Nat} {cs_t : List Value} {t : Table} (H_t : TableR w bs_t cs_t t) {bs_r : List Nat} {cs_r : List Value} {r : Row} (H_r : RowR w bs_r cs_r r) {bs_l : List Nat} {v_l : Value} {l : List Mut} (H_l : MutSR w bs_l [v_l] l) (hb : r.bulk ≤ 1048576) (htb : tblOK t = true) (hcl : cellsIn t r = true) (hgo : ∀ n (hn : n < l.length), MGo t l[n]) :
    Calls Tryz.prog 26 #[.agg cs_t.toArray, .agg cs_r.toArray, v_l] w (OutP RowR w (mutRowL t r l).1 (mutRowL t r l).2) := by
  have H0_l := H_l
  obtain ⟨A_l, c_l, rfl, hlc_l, hcm_l, hel_l⟩ := H_l.use
  have H0_t := H_t
  obtain ⟨t_v1, t_b1, t_v2, t_b2, rfl, rfl, hf_t, t_r1, t_r2⟩ := H_t
  obtain ⟨A_t1, c_t1, rfl, hlc_t1, hcm_t1, hel_t1⟩ := t_r1.use
  obtain ⟨A_t2, c_t2, rfl, hlc_t2, hcm_t2, hel_t2⟩ := t_r2.use
  have H0_r := H_r
  obtain ⟨r_v1, r_b1, rfl, rfl, hf_r, r_r1⟩ := H_r
  obtain ⟨A_r1, c_r1, rfl, hlc_r1, hcm_r1, hel_r1⟩ := r_r1.use
  have hbx := ((((Below.refl w.heap.size w).alloc (Nat.le_refl _) (.cells #[.string t.name, .slice A_t1 t.columns.length c_t1, .slice A_t2 t.unique.length c_t2, .bool t.root] 40)).alloc (by simp; try omega) (.cells #[.int .i64 r.id, .slice A_r1 r.cells.length c_r1] 35)).alloc (by simp; try omega) (.cells #[.int .i64 0, .slice none 0 0] 35))
  obtain ⟨q_t, q_r, q_res⟩ := three_at (Below.refl (((w.alloc (.cells #[.string t.name, .slice A_t1 t.columns.length c_t1, .slice A_t2 t.unique.length c_t2, .bool t.root] 40)).alloc (.cells #[.int .i64 r.id, .slice A_r1 r.cells.length c_r1] 35)).alloc (.cells #[.int .i64 0, .slice none 0 0] 35)).heap.size _)
  have R_res : World.heap (((w.alloc (.cells #[.string t.name, .slice A_t1 t.columns.length c_t1, .slice A_t2 t.unique.length c_t2, .bool t.root] 40)).alloc (.cells #[.int .i64 r.id, .slice A_r1 r.cells.length c_r1] 35)).alloc (.cells #[.int .i64 0, .slice none 0 0] 35)) = World.heap (((w.alloc (.cells #[.string t.name, .slice A_t1 t.columns.length c_t1, .slice A_t2 t.unique.length c_t2, .bool t.root] 40)).alloc (.cells #[.int .i64 r.id, .slice A_r1 r.cells.length c_r1] 35)).alloc (.cells #[.int .i64 0, .slice none 0 0] 35)) := rfl
  clear R_res
  have R_res : (World.heap (((w.alloc (.cells #[.string t.name, .slice A_t1 t.columns.length c_t1, .slice A_t2 t.unique.length c_t2, .bool t.root] 40)).alloc (.cells #[.int .i64 r.id, .slice A_r1 r.cells.length c_r1] 35)).alloc (.cells #[.int .i64 0, .slice none 0 0] 35)))[w.heap.size + 1 + 1]? = some (.cells #[.int .i64 0, .slice none 0 0] 35 (0, 0)) := by simpa using blk_new (((w.alloc (.cells #[.string t.name, .slice A_t1 t.columns.length c_t1, .slice A_t2 t.unique.length c_t2, .bool t.root] 40)).alloc (.cells #[.int .i64 r.id, .slice A_r1 r.cells.length c_r1] 35))) #[.int .i64 0, .slice none 0 0] 35
  have R_free := blk_free R_res
  have HGO := hide hgo; have HTB := hide htb; have hRG := hide (mrun_good htb (RG.start hcl) hgo); have HB := hide hb; clear hgo htb hcl hb hel_r1 hel_t2
  have R_r : (World.heap (((w.alloc (.cells #[.string t.name, .slice A_t1 t.columns.length c_t1, .slice A_t2 t.unique.length c_t2, .bool t.root] 40)).alloc (.cells #[.int .i64 r.id, .slice A_r1 r.cells.length c_r1] 35)).alloc (.cells #[.int .i64 0, .slice none 0 0] 35)))[w.heap.size + 1]? = some (.cells #[.int .i64 r.id, .slice A_r1 r.cells.length c_r1] 35 (0, 0)) := by simpa using blk_old (blk_new ((w.alloc (.cells #[.string t.name, .slice A_t1 t.columns.length c_t1, .slice A_t2 t.unique.length c_t2, .bool t.root] 40))) #[.int .i64 r.id, .slice A_r1 r.cells.length c_r1] 35) (.cells #[.int .i64 0, .slice none 0 0] 35)
  have R_free_r := blk_free R_r
  go_enter Tryz.func26, Tryz.ntmps26
  go_wp2_with fail
  refine (spec_l05OwnRow (RowR.good.nxt hbx H0_r) HB.out).mono ?_; rintro e w1 ⟨cs2, bs2, rfl, r2, f2, hb1⟩; replace q_t := box_on q_t rfl hb1; replace q_r := box_on q_r rfl hb1; replace q_res := box_on q_res rfl hb1; have hw1 := nxt hbx hb1; replace R_res := blk_on R_res hb1; replace R_free := blk_free R_res; replace R_r := blk_on R_r hb1; replace R_free_r := blk_free R_r
  obtain ⟨v2, b2, hb2e, rfl, hf2, s2⟩ := r2; subst hb2e; have s20 := s2; obtain ⟨OA, oc, rfl, _, _, _⟩ := s2.use
  have hlo : w.heap.size + 1 + 1 < w1.heap.size := lt_of_cells R_res
  have hin0 : ∀ b ∈ bs2, w.heap.size + 1 + 1 + 1 ≤ b ∧ b < w1.heap.size := fun b hb => ⟨by have := (f2.2 b hb).1; simp at this; omega, f2.lt b hb⟩
  have R_fr2 := R_free_r; have R_fr3 := blk_free R_r
  go_wp2_with fail
  have oB : (World.heap ((w1.setCell ⟨w.heap.size + 1, 0, none⟩ (.int .i64 r.id)).setCell ⟨w.heap.size + 1, 1, none⟩ (.slice OA r.cells.length oc)))[w.heap.size + 1]? = some (.cells #[.int .i64 r.id, .slice OA r.cells.length oc] 35 (0, 0)) := blk_set (blk_set R_r 0 (.int .i64 r.id)) 1 (.slice OA r.cells.length oc)
  have HU0 := (((Upd.refl [w.heap.size + 1] w1).set (p := ⟨w.heap.size + 1, 0, none⟩) (by simp) rfl (.int .i64 r.id)).set (p := ⟨w.heap.size + 1, 1, none⟩) (by simp) rfl (.slice OA r.cells.length oc))
  replace q_t := box_upd q_t rfl HU0 (by simp); replace R_res := (HU0.far (w.heap.size + 1 + 1) (by omega) (by simp)).trans R_res
  have hS0 := hide (AtomSSR.good.upd s20 HU0 (fun b hb hm => by have := (hin0 b hb).1; simp at hm; omega)); have hF0 : Hid (Fr (w.heap.size + 1 + 1 + 1) ((w1.setCell ⟨w.heap.size + 1, 0, none⟩ (.int .i64 r.id)).setCell ⟨w.heap.size + 1, 1, none⟩ (.slice OA r.cells.length oc)) bs2) := (f2.upd HU0).mono (by simp)
  have hw0 := (hw1.setCell (p := ⟨w.heap.size + 1, 0, none⟩) (by simp) (.int .i64 r.id)).setCell (p := ⟨w.heap.size + 1, 1, none⟩) (by simp) (.slice OA r.cells.length oc)
  have hno : Hid (w.heap.size + 1 ∉ bs2) := fun hm => by have := (hin0 _ hm).1; omega
  have hz0 : (World.heap ((w1.setCell ⟨w.heap.size + 1, 0, none⟩ (.int .i64 r.id)).setCell ⟨w.heap.size + 1, 1, none⟩ (.slice OA r.cells.length oc))).size = w1.heap.size := by simp [World.setCell]
  clear R_r R_free_r q_r
  replace R_free := blk_free R_res
  have HOB : w.heap.size + 1 < (World.heap ((w1.setCell ⟨w.heap.size + 1, 0, none⟩ (.int .i64 r.id)).setCell ⟨w.heap.size + 1, 1, none⟩ (.slice OA r.cells.length oc))).size := lt_of_cells oB
  go_loopw [8] (fun i wr => ∃ (k : Nat) (bs : List Nat), k ≤ l.length ∧ i = .int .i64 k ∧ Hid ((mrun t r.cells l k).2 = 0) ∧ Hid (AtomSSR wr bs [.slice OA r.cells.length oc] (mrun t r.cells l k).1) ∧ Hid (Fr (w.heap.size + 1 + 1 + 1) wr bs) ∧ Hid (w.heap.size + 1 ∉ bs) ∧ Hid (wr.heap[w.heap.size + 1]? = some (.cells #[.int .i64 r.id, .slice OA r.cells.length oc] 35 (0, 0))) ∧ Below (w.heap.size + 1 + 1 + 1) ((w1.setCell ⟨w.heap.size + 1, 0, none⟩ (.int .i64 r.id)).setCell ⟨w.heap.size + 1, 1, none⟩ (.slice OA r.cells.length oc)) wr) (fun i _ => l.length - (intOf i).toNat)
  case atStart => exact ⟨0, bs2, Nat.zero_le _, rfl, rfl, hS0.out, hF0.out, hno.out, oB, Below.refl _ _⟩
  case round =>
    clear hS0 hF0 hno oB s20 f2; obtain ⟨k1, bs, hk1, rfl, hz, hS, hF, hno, hoB, hLB⟩ := hrel; obtain ⟨wl, rfl⟩ : ∃ w' : World, w' = wr := ⟨_, rfl⟩
    replace q_t := box_lo q_t hLB (by omega); replace R_res := (hLB.block (w.heap.size + 1 + 1) (by omega)).trans R_res; replace R_free := blk_free R_res; have hwl := hw0.trans (hLB.mono (by omega))
    have oC := hoB.out; have o_0 := blk_cells oC 0; have o_1 := blk_cells oC 1; have hol := lt_of_cells oC; have hlz := hLB.size
    by_cases hlt1 : k1 < l.length
    · obtain ⟨j, hj, hje, hty⟩ := (HGO.out k1 hlt1).col; have HJE := hide hje; have HTY := hide hty; clear hje hty
      have hG := hide (hRG.out k1 (by omega) hz.out); have hjr0 : j < (mrun t r.cells l k1).1.length := (by rw [hG.out.len]; exact hj); have hjr : j < r.cells.length := (by obtain ⟨A', c', hv, _⟩ := hS.out; have := hv; simp at this; omega)
      obtain ⟨gb, go, gbk, ges, rfl, ghbl, ghcl, ghcell, gR, ghbk⟩ := hel_l k1 hlt1
      have gR0 := gR
      obtain ⟨gv2, gb2, _, ghes, ghf, gr2⟩ := gR
      subst ghes
      obtain ⟨gA2, gc2, rfl, ghlc2, ghcm2, ghel2⟩ := gr2.use
      have g_0 := Fw.cell ((hwl.cell (p := ⟨gb, _, none⟩) ghbl).trans (ghcell 0 _ rfl))
      have g_1 := Fw.cell ((hwl.cell (p := ⟨gb, _, none⟩) ghbl).trans (ghcell 1 _ rfl))
      have g_2 := Fw.cell ((hwl.cell (p := ⟨gb, _, none⟩) ghbl).trans (ghcell 2 _ rfl))
      simp only [Nat.add_zero] at g_0 g_1 g_2
      have A1 := fun (i : Fw wl) => spec_l04Column (TableR.good.nxt (nxt hwl i.h) H0_t) l[k1].column; rw [HJE.out] at A1; have A1 := hide A1
      go_wp2_with fail
      have q_tF0 := Fw.cell (box_cell q_t 0 rfl)
      have q_tF1 := Fw.cell (box_cell q_t 1 rfl)
      have q_tF2 := Fw.cell (box_cell q_t 2 rfl)
      have q_tF3 := Fw.cell (box_cell q_t 3 rfl)
      refine region_quiet (by kernel_rfl) (by kernel_rfl) ?_
      repeat (go_big_quiet_step ((first | (go_at_call 53; exact quiet_of (A1.out _)))))
      refine wpQuiet_nil ?_; intro w2 hb2; replace q_t := box_on q_t rfl hb2; have hw2 := nxt hwl hb2; clear q_tF0 q_tF1 q_tF2 q_tF3 g_0 g_1 g_2
      have hbW : Below wl.heap.size wl w2 := hb2
      have oW := blk_on oC hbW; replace R_res := blk_on R_res hbW; have hWs := hbW.size; have hSW := hide (AtomSSR.good.nxt hbW hS.out); have hFW := hide (hF.out.below hbW)
      obtain ⟨pb, po, pbk, pes, pcur, pe, hA2, hcur, hbm, hbn, hsub, hpes, hpc, hpR, hpF, hclose⟩ := SlR.put AtomSR.good hSW.out hFW.out hjr0; subst hA2
      have hclose := hide hclose; have hsub := hide hsub; obtain ⟨pv, rfl⟩ : ∃ v, pes = [v] := (by match pes, hpes with | [v], _ => exact ⟨v, rfl⟩); have hpR0 := hpR; obtain ⟨pA, pc, rfl, _, _, _⟩ := hpR.use; have HPR := hide hpR0; clear hpR0
      have hcell := hpc 0 _ rfl; simp only [Nat.mul_one, Nat.add_zero] at hcell
      have p_0 := (blk_cells hcur _).trans hcell; have hpl : po + j < pcur.size := (Array.getElem?_eq_some_iff.1 hcell).1; have hpblt := lt_of_cells hcur
      have hne : w.heap.size + 1 ≠ pb := fun h => hno.out (h ▸ hbm); have hlop : (w.heap.size + 1 + 1 + 1) ≤ pb := (hFW.out.2 pb hbm).1; have HFD := hide (fun b (hb : b ∈ pbk) => (hFW.out.2 b (hsub.out b hb)))
      clear hpc hpes
      obtain ⟨cb, co, cbk, ces, rfl, chbl, chcl, chcell, cR, chbk⟩ := hel_t1 j hj
      obtain ⟨_, ches, chf⟩ := cR
      subst ches
      have c_0 := (hw2.cell (p := ⟨cb, _, none⟩) chbl).trans (chcell 0 _ rfl)
      have c_1 := (hw2.cell (p := ⟨cb, _, none⟩) chbl).trans (chcell 1 _ rfl)
      have c_2 := (hw2.cell (p := ⟨cb, _, none⟩) chbl).trans (chcell 2 _ rfl)
      have c_3 := (hw2.cell (p := ⟨cb, _, none⟩) chbl).trans (chcell 3 _ rfl)
      have c_4 := (hw2.cell (p := ⟨cb, _, none⟩) chbl).trans (chcell 4 _ rfl)
      have c_5 := (hw2.cell (p := ⟨cb, _, none⟩) chbl).trans (chcell 5 _ rfl)
      have c_6 := (hw2.cell (p := ⟨cb, _, none⟩) chbl).trans (chcell 6 _ rfl)
      have c_7 := (hw2.cell (p := ⟨cb, _, none⟩) chbl).trans (chcell 7 _ rfl)
      simp only [Nat.add_zero] at c_0 c_1 c_2 c_3 c_4 c_5 c_6 c_7
      clear chcell chcl
      clear hel_t1
      have oW1 := blk_cells oW 1
      have g_0 := (hw2.cell (p := ⟨gb, _, none⟩) ghbl).trans (ghcell 0 _ rfl)
      have g_1 := (hw2.cell (p := ⟨gb, _, none⟩) ghbl).trans (ghcell 1 _ rfl)
      have g_2 := (hw2.cell (p := ⟨gb, _, none⟩) ghbl).trans (ghcell 2 _ rfl)
      simp only [Nat.add_zero] at g_0 g_1 g_2
      have hrl : (mrun t r.cells l k1).1.length = r.cells.length := (by obtain ⟨A', c', hv, _⟩ := hSW.out; have := hv; simp at this; omega); have HRL := hide hrl; clear hrl
      have hdl := hide (mcell_at hj HJE.out hjr0); have hmok := hide (hG.out.mok (HGO.out k1 hlt1) hj hjr0 HTY.out)
      go_wp2_with fail
      obtain ⟨mc, hmc⟩ : ∃ mc, mcell t (mrun t r.cells l k1).1 l[k1] = mc := ⟨_, rfl⟩; have HMC := hide hmc; have HDL := hide (hdl.out.symm.trans hmc); clear hmc
      refine wp_region_tail (fun w' => w'.cell? ⟨w.heap.size, 1, none⟩ = some (.slice (some ⟨cb, co, none⟩) t.columns.length c_t1) ∧ w'.cell? ⟨cb, co + j * 8, none⟩ = some (.string t.columns[j].name) ∧ w'.cell? ⟨cb, co + j * 8 + 1, none⟩ = some (.int .i64 t.columns[j].kind) ∧ w'.cell? ⟨cb, co + j * 8 + 2, none⟩ = some (.int .i64 t.columns[j].min) ∧ w'.cell? ⟨cb, co + j * 8 + 3, none⟩ = some (.int .i64 t.columns[j].max) ∧ w'.cell? ⟨cb, co + j * 8 + 4, none⟩ = some (.int .i64 t.columns[j].low) ∧ w'.cell? ⟨cb, co + j * 8 + 5, none⟩ = some (.int .i64 t.columns[j].high) ∧ w'.cell? ⟨cb, co + j * 8 + 6, none⟩ = some (.string t.columns[j].ref) ∧ w'.cell? ⟨cb, co + j * 8 + 7, none⟩ = some (.bool t.columns[j].strong) ∧ w'.cell? ⟨w.heap.size + 1, 1, none⟩ = some (.slice (some ⟨pb, po, none⟩) r.cells.length oc) ∧ w'.cell? ⟨pb, po + j, none⟩ = some (.slice pA (mrun t r.cells l k1).1[j].length pc) ∧ w'.cell? ⟨gb, go + k1 * 3, none⟩ = some (.string l[k1].column) ∧ w'.cell? ⟨gb, go + k1 * 3 + 1, none⟩ = some (.int .i64 l[k1].func) ∧ w'.cell? ⟨gb, go + k1 * 3 + 2, none⟩ = some (.slice gA2 l[k1].value.length gc2)) 19 (by kernel_rfl) (by decide) (show _ from ⟨box_cell q_t 1 rfl, c_0, c_1, c_2, c_3, c_4, c_5, c_6, c_7, oW1, p_0, g_0, g_1, g_2⟩) (fun hHeld => ?_)
      refine wpT_take (i := 0) rfl (by kernel_rfl) (fun _ _ _ h => h) (Or.inl ⟨by rfl, fun w hSw => by (try dsimp only at hSw); first | (go_simp; done) | (go_simp; with_reducible rfl)⟩) (by assumption) ?_
      (try simp only [Act.put, List.setIfInBounds_toArray, List.set_cons_zero, List.set_cons_succ])
      refine wpT_take (i := 1) rfl (by kernel_rfl) (fun _ _ _ h => h) (Or.inl ⟨by rfl, fun w hSw => by (try dsimp only at hSw); first | (go_simp; done) | (go_simp; with_reducible rfl)⟩) (by assumption) ?_
      (try simp only [Act.put, List.setIfInBounds_toArray, List.set_cons_zero, List.set_cons_succ])
      refine wpT_take (i := 2) rfl (by kernel_rfl) (fun _ _ _ h => h) (Or.inl ⟨by rfl, fun w hSw => by (try dsimp only at hSw); first | (go_simp; done) | (go_simp; with_reducible rfl)⟩) (by assumption) ?_
      (try simp only [Act.put, List.setIfInBounds_toArray, List.set_cons_zero, List.set_cons_succ])
      refine wpT_take (i := 3) rfl (by kernel_rfl) (fun _ _ _ h => h) (Or.inl ⟨by rfl, fun w hSw => by (try dsimp only at hSw); first | (go_simp; done) | (go_simp; with_reducible rfl)⟩) (by assumption) ?_
      (try simp only [Act.put, List.setIfInBounds_toArray, List.set_cons_zero, List.set_cons_succ])
      refine wpT_take (i := 4) rfl (by kernel_rfl) (fun _ _ _ h => h) (Or.inl ⟨by rfl, fun w hSw => by (try dsimp only at hSw); first | (go_simp; done) | (go_simp; with_reducible rfl)⟩) (by assumption) ?_
      (try simp only [Act.put, List.setIfInBounds_toArray, List.set_cons_zero, List.set_cons_succ])
      refine wpT_take (i := 5) rfl (by kernel_rfl) (fun _ _ _ h => h) (Or.inl ⟨by rfl, fun w hSw => by (try dsimp only at hSw); first | (go_simp; done) | (go_simp; with_reducible rfl)⟩) (by assumption) ?_
      (try simp only [Act.put, List.setIfInBounds_toArray, List.set_cons_zero, List.set_cons_succ])
      refine wpT_take (i := 6) rfl (by kernel_rfl) (fun _ _ _ h => h) (Or.inl ⟨by rfl, fun w hSw => by (try dsimp only at hSw); first | (go_simp; done) | (go_simp; with_reducible rfl)⟩) (by assumption) ?_
      (try simp only [Act.put, List.setIfInBounds_toArray, List.set_cons_zero, List.set_cons_succ])
      refine wpT_take (i := 7) rfl (by kernel_rfl) (fun _ _ _ h => h) (Or.inl ⟨by rfl, fun w hSw => by (try dsimp only at hSw); first | (go_simp; done) | (go_simp; with_reducible rfl)⟩) (by assumption) ?_
      (try simp only [Act.put, List.setIfInBounds_toArray, List.set_cons_zero, List.set_cons_succ])
      refine wpT_take (i := 8) rfl (by kernel_rfl) (fun _ _ _ h => h) (Or.inl ⟨by rfl, fun w hSw => by (try dsimp only at hSw); first | (go_simp; done) | (go_simp; with_reducible rfl)⟩) (by assumption) ?_
      (try simp only [Act.put, List.setIfInBounds_toArray, List.set_cons_zero, List.set_cons_succ])
      refine wpT_take (i := 9) rfl (by kernel_rfl) (fun _ _ _ h => h) (Or.inl ⟨by rfl, fun w hSw => by (try dsimp only at hSw); first | (go_simp; done) | (go_simp; with_reducible rfl)⟩) (by assumption) ?_
      (try simp only [Act.put, List.setIfInBounds_toArray, List.set_cons_zero, List.set_cons_succ])
      refine wpT_take (i := 10) rfl (by kernel_rfl) (fun _ _ _ h => h) (Or.inl ⟨by rfl, fun w hSw => by (try dsimp only at hSw); first | (go_simp; done) | (go_simp; with_reducible rfl)⟩) (by assumption) ?_
      (try simp only [Act.put, List.setIfInBounds_toArray, List.set_cons_zero, List.set_cons_succ])
      refine wpT_take (i := 11) rfl (by kernel_rfl) (fun _ _ _ h => h) (Or.inl ⟨by rfl, fun w hSw => by (try dsimp only at hSw); first | (go_simp; done) | (go_simp; with_reducible rfl)⟩) (by assumption) ?_
      (try simp only [Act.put, List.setIfInBounds_toArray, List.set_cons_zero, List.set_cons_succ])
      refine wpT_take (i := 12) rfl (by kernel_rfl) (fun _ _ _ h => h) (Or.inl ⟨by rfl, fun w hSw => by (try dsimp only at hSw); first | (go_simp; done) | (go_simp; with_reducible rfl)⟩) (by assumption) ?_
      (try simp only [Act.put, List.setIfInBounds_toArray, List.set_cons_zero, List.set_cons_succ])
      refine wpT_take (i := 13) rfl (by kernel_rfl) (fun _ _ _ h => h) (Or.inl ⟨by rfl, fun w hSw => by (try dsimp only at hSw); first | (go_simp; done) | (go_simp; with_reducible rfl)⟩) (by assumption) ?_
      (try simp only [Act.put, List.setIfInBounds_toArray, List.set_cons_zero, List.set_cons_succ])
      refine wpT_one (i := 14) rfl (by kernel_rfl) (fun K hK => ?_)
      go_simp; go_at_call 54; refine (spec_l07Mutate t.columns[j] (AtomSR.good.nxt (Below.refl _ _).drew HPR.out) (MutR.good.nxt hw2.drew gR0) hmok.out).mono ?_; rw [HDL.out]; rintro e w9 ⟨v9, bs9, rfl, r9, f9, hb9⟩; have hb9' : Below (World.heap w2).size w2 w9 := (Below.refl _ _).drew.trans hb9; have r90 := hide r9; obtain ⟨A9, c9, rfl, _, _, _⟩ := r9.use; clear r9
      clear hHeld; refine hK.out _ _ (show _ from ⟨cell_on (box_cell q_t 1 rfl) hb9', cell_on (c_0) hb9', cell_on (c_1) hb9', cell_on (c_2) hb9', cell_on (c_3) hb9', cell_on (c_4) hb9', cell_on (c_5) hb9', cell_on (c_6) hb9', cell_on (c_7) hb9', cell_on (oW1) hb9', cell_on (p_0) hb9', cell_on (g_0) hb9', cell_on (g_1) hb9', cell_on (g_2) hb9'⟩) (fun hHeld => ?_)
      clear hK K
      (try simp only [Act.put, List.setIfInBounds_toArray, List.set_cons_zero, List.set_cons_succ])
      refine wpT_take (i := 15) rfl (by kernel_rfl) (fun _ _ _ h => h) (Or.inl ⟨by rfl, fun w hSw => by (try dsimp only at hSw); first | (go_simp; done) | (go_simp; with_reducible rfl)⟩) (by assumption) ?_
      (try simp only [Act.put, List.setIfInBounds_toArray, List.set_cons_zero, List.set_cons_succ])
      refine wpT_take (i := 16) rfl (by kernel_rfl) (fun _ _ _ h => h) (Or.inl ⟨by rfl, fun w hSw => by (try dsimp only at hSw); first | (go_simp; done) | (go_simp; with_reducible rfl)⟩) (by assumption) ?_
      (try simp only [Act.put, List.setIfInBounds_toArray, List.set_cons_zero, List.set_cons_succ])
      refine wpT_take (i := 17) rfl (by kernel_rfl) (fun _ _ _ h => h) (Or.inl ⟨by rfl, fun w hSw => by (try dsimp only at hSw); first | (go_simp; done) | (go_simp; with_reducible rfl)⟩) (by assumption) ?_
      (try simp only [Act.put, List.setIfInBounds_toArray, List.set_cons_zero, List.set_cons_succ])
      refine wpT_take (i := 18) rfl (by kernel_rfl) (fun _ _ _ h => h) (Or.inl ⟨by rfl, fun w hSw => by (try dsimp only at hSw); first | (go_simp; done) | (go_simp; with_reducible rfl)⟩) (by assumption) ?_
      (try simp only [Act.put, List.setIfInBounds_toArray, List.set_cons_zero, List.set_cons_succ])
      refine wpT_done (by kernel_rfl) ?_
      simp only [List.drop_succ_cons, List.drop_zero]
      clear hHeld
      have hw9 := nxt hw2 hb9'; replace q_t := box_on q_t rfl hb9'; replace R_res := blk_on R_res hb9'; replace R_free := blk_free R_res; have oW9 := blk_on oW hb9'; have pcur9 := blk_on hcur hb9'; have hs9 := hb9'.size
      by_cases h5 : ¬ mc.2 = 0
      · have hr : Hid (mutRowL t r l = (⟨0, []⟩, mc.2)) := by show _ = _; exact mutRowL_bad hlt1 hz.out (by rw [HMC.out]) h5
        have h6 : (mc.2 != 0) = true := by simp [h5]
        clear h5
        have rc0 := blk_cells R_res 0; have rc1 := blk_cells R_res 1
        go_wp2_with fail
        have fin : _ = some (Obj.cells #[.int .i64 0, .slice none 0 0] 35 (0, 0)) := (blk_set (blk_set R_res 0 (.int .i64 0)) 1 (.slice none 0 0))
        have fc := blk_cells fin
        have HUr := (((Upd.refl [w.heap.size + 1 + 1] (w9)).set (p := ⟨w.heap.size + 1 + 1, 0, none⟩) (by simp) rfl (.int .i64 0)).set (p := ⟨w.heap.size + 1 + 1, 1, none⟩) (by simp) rfl (.slice none 0 0))
        refine bodyPost_ret (v := .tuple #[.agg #[.int .i64 0, .slice none 0 0], .int .i64 mc.2]) (by simp [results, Tryz.results26, go_sem, fc]) rfl ?_
        rw [hr.out]
        exact ⟨[.int .i64 0, .slice none 0 0], _, rfl, zeroRowR, Fr.nil _ _, ((hw9.setCell (p := ⟨w.heap.size + 1 + 1, 0, none⟩) (by simp; try omega) (.int .i64 0)).setCell (p := ⟨w.heap.size + 1 + 1, 1, none⟩) (by simp; try omega) (.slice none 0 0))⟩
      have h5 := Decidable.not_not.1 h5; have h6 : (mc.2 != 0) = false := by simp [h5]
      have hm0 : (mcell t (mrun t r.cells l k1).1 l[k1]).2 = 0 := by rw [HMC.out]; exact h5
      have hnx : Hid (mrun t r.cells l (k1 + 1) = ((mrun t r.cells l k1).1.set j mc.1, 0)) := by show _ = _; rw [mrun_succ hz.out hlt1, mnext_good hm0, HJE.out, HMC.out]; rfl
      clear h5 hm0
      have n_f := blk_free pcur9; have n_0 := (blk_cells pcur9 _).trans hcell; have m_1 := blk_cells oW9 1
      have HUp := (Upd.refl [pb] w9).set (p := ⟨pb, po + j, none⟩) (by simp) rfl (.slice A9 mc.1.length c9)
      have hn9 : ∀ b ∈ bs9, (World.heap w2).size ≤ b := fun b hb => (f9.2 b hb).1
      have hN := hclose.out (w9.setCell ⟨pb, po + j, none⟩ (.slice A9 mc.1.length c9)) _ [.slice A9 mc.1.length c9] mc.1 bs9 (((Upd.of hb9').set (p := ⟨pb, po + j, none⟩) (by simp) rfl (.slice A9 mc.1.length c9)).wide (fun x hx => hx)) (blk_set pcur9 (po + j) (.slice A9 mc.1.length c9)) rfl (fun q u hu => match q, hu with | 0, hu => (by simp only [List.getElem?_cons_zero, Option.some.injEq] at hu; subst hu; simp only [Nat.mul_one, Nat.add_zero]; exact Array.getElem?_setIfInBounds_self_of_lt hpl) | q + 1, hu => (by simp at hu)) (fun p hp => by rw [Array.getElem?_setIfInBounds_ne (by omega)]) (AtomSR.good.upd r90.out HUp (fun b hb hm => by have := hn9 b hb; simp at hm; omega))
      obtain ⟨bsN, rN, sN, fN⟩ := hN; have fN2 := fN ((f9.upd HUp).mono (show (w.heap.size + 1 + 1 + 1) ≤ (World.heap w2).size by omega)) (fun x hx => Or.inr (hn9 x hx))
      have hRN := hide (show AtomSSR (w9.setCell ⟨pb, po + j, none⟩ (.slice A9 mc.1.length c9)) bsN [.slice (some ⟨pb, po, none⟩) r.cells.length oc] (mrun t r.cells l (k1 + 1)).1 from by rw [hnx.out]; exact rN); have hFN := hide fN2; have hz2 : Hid ((mrun t r.cells l (k1 + 1)).2 = 0) := by show _ = _; rw [hnx.out]
      have hnoN : Hid (w.heap.size + 1 ∉ bsN) := fun hm => by rcases sN _ hm with h | h; exact hno.out h; (have := hn9 _ h; omega)
      have oN : Hid ((World.heap (w9.setCell ⟨pb, po + j, none⟩ (.slice A9 mc.1.length c9)))[w.heap.size + 1]? = some (.cells #[.int .i64 r.id, .slice (some ⟨pb, po, none⟩) r.cells.length oc] 35 (0, 0))) := (blk_far (p := ⟨pb, po + j, none⟩) hne (.slice A9 mc.1.length c9)).trans oW9
      have hLN := ((hLB.trans (hbW.mono (show (w.heap.size + 1 + 1 + 1) ≤ wl.heap.size by omega))).trans (hb9'.mono (show (w.heap.size + 1 + 1 + 1) ≤ (World.heap w2).size by omega))).setCell (p := ⟨pb, po + j, none⟩) hlop (.slice A9 mc.1.length c9)
      clear hclose rN sN fN fN2 hn9
      go_wp2_with fail
      go_roundw
      case rel => exact ⟨k1 + 1, bsN, hlt1, by go_num, hz2, hRN, hFN, hnoN, oN, hLN⟩
      case measure => simp [intOf]; omega
    · obtain rfl : k1 = l.length := by omega
      have hr : Hid (mutRowL t r l = (⟨r.id, (mrun t r.cells l l.length).1⟩, 0)) := by show _ = _; exact mutRowL_good hz.out
      have hF9 := hF.out; have hnr : ∀ b ∈ bs, b ∉ [w.heap.size + 1 + 1] := fun b hb hm => by have := (hF9.2 b hb).1; simp at hm; omega
      clear hel_t1 hel_l
      have HF9 := hide hF9; clear hF9
      have rc0 := blk_cells R_res 0; have rc1 := blk_cells R_res 1
      go_wp2_with fail
      have fin : _ = some (Obj.cells #[.int .i64 r.id, .slice OA r.cells.length oc] 35 (0, 0)) := (blk_set (blk_set R_res 0 (.int .i64 r.id)) 1 (.slice OA r.cells.length oc))
      have fc := blk_cells fin
      have HUr := (((Upd.refl [w.heap.size + 1 + 1] (wl)).set (p := ⟨w.heap.size + 1 + 1, 0, none⟩) (by simp) rfl (.int .i64 r.id)).set (p := ⟨w.heap.size + 1 + 1, 1, none⟩) (by simp) rfl (.slice OA r.cells.length oc))
      refine bodyPost_ret (v := .tuple #[.agg #[.int .i64 r.id, .slice OA r.cells.length oc], .int .i64 0]) (by simp [results, Tryz.results26, go_sem, fc]) rfl ?_
      rw [hr.out]
      exact ⟨[.int .i64 r.id, .slice OA r.cells.length oc], _, rfl, ⟨_, bs, rfl, rfl, hf2, AtomSSR.good.upd hS.out HUr hnr⟩, (HF9.out.upd HUr).mono (by omega), ((hwl.setCell (p := ⟨w.heap.size + 1 + 1, 0, none⟩) (by simp; try omega) (.int .i64 r.id)).setCell (p := ⟨w.heap.size + 1 + 1, 1, none⟩) (by simp; try omega) (.slice OA r.cells.length oc))⟩
end Go.Proofs.YthglchopajdmhaaGreat
