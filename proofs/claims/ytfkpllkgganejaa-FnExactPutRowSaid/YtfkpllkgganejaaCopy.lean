/- Copies of rows and stores, in the program. No statement is proved here; no conditions. Written by a program (gen22.py). -/
import Derived.Test.YtfkpllkgganejaaDrawn
import Derived.Test.YtfkpllkgganejaaStart
import Derived.Test.YtfkpllkgganejaaBox
import Derived.Deep.RegionHeld3
namespace Go.Proofs.Ytfkpllkgganejaa
open Go.ChangeShapes Go.WideShapes Go.ChangeAt Go.RowKit Go.Deep
set_option maxRecDepth 100000
set_option linter.unusedVariables false
set_option linter.unusedSimpArgs false

theorem bulkL_len {α : Type} (f : α → Nat) (xs : List α) : xs.length ≤ bulkL f xs := Nat.le_add_right _ _
theorem bulkL_mem {α : Type} (f : α → Nat) {xs : List α} {x : α} (h : x ∈ xs) : f x ≤ bulkL f xs := by
  unfold bulkL
  induction xs with
  | nil => cases h
  | cons a l ih =>
    simp only [List.map_cons, List.sum_cons, List.length_cons]
    rcases List.mem_cons.1 h with rfl | h
    · omega
    · have := ih h; omega
theorem bulkL_at {α : Type} (f : α → Nat) {xs : List α} {k : Nat} (h : k < xs.length) {n : Nat} (hn : bulkL f xs ≤ n) : f xs[k] ≤ n := Nat.le_trans (bulkL_mem f (List.getElem_mem h)) hn
theorem take_step {α : Type} {xs : List α} {k : Nat} (h : k < xs.length) : xs.take (k + 1) = xs.take k ++ [xs[k]] := by rw [List.take_add_one, List.getElem?_eq_getElem h]; rfl
theorem Row.cells_le {r : Row} {n : Nat} (h : r.bulk ≤ n) : r.cells.length ≤ n ∧ ∀ k (hk : k < r.cells.length), r.cells[k].length ≤ n := by
  have h1 : bulkL AtomS.bulk r.cells ≤ n := h
  exact ⟨Nat.le_trans (bulkL_len _ _) h1, fun k hk => Nat.le_trans (bulkL_len _ _) (bulkL_at _ hk h1)⟩
set_option maxHeartbeats 4000000 in
theorem impl_copyRow {w : World}  {bs_r : List Nat} {cs_r : List Value} {r : Row} (H_r : RowR w bs_r cs_r r) (hk : r.bulk ≤ 1048576) :
    Calls Try.prog 28 #[.agg cs_r.toArray] w (ToP RowR w r) := by
  have H0_r := H_r
  obtain ⟨r_v1, r_b1, rfl, rfl, hf_r, r_r1⟩ := H_r
  obtain ⟨A_r1, c_r1, rfl, hlc_r1, hcm_r1, hel_r1⟩ := r_r1.use
  have hbx := (((Below.refl w.heap.size w).alloc (Nat.le_refl _) (.cells #[.int .i64 r.id, .slice A_r1 r.cells.length c_r1] 38)).alloc (by simp; try omega) (.cells #[.int .i64 0, .slice none 0 0] 38))
  obtain ⟨q_r, q_res⟩ := two_at (Below.refl ((w.alloc (.cells #[.int .i64 r.id, .slice A_r1 r.cells.length c_r1] 38)).alloc (.cells #[.int .i64 0, .slice none 0 0] 38)).heap.size _)
  have R_res : World.heap ((w.alloc (.cells #[.int .i64 r.id, .slice A_r1 r.cells.length c_r1] 38)).alloc (.cells #[.int .i64 0, .slice none 0 0] 38)) = World.heap ((w.alloc (.cells #[.int .i64 r.id, .slice A_r1 r.cells.length c_r1] 38)).alloc (.cells #[.int .i64 0, .slice none 0 0] 38)) := rfl
  clear R_res
  have R_res : (World.heap ((w.alloc (.cells #[.int .i64 r.id, .slice A_r1 r.cells.length c_r1] 38)).alloc (.cells #[.int .i64 0, .slice none 0 0] 38)))[w.heap.size + 1]? = some (.cells #[.int .i64 0, .slice none 0 0] 38 (0, 0)) := by simpa using blk_new ((w.alloc (.cells #[.int .i64 r.id, .slice A_r1 r.cells.length c_r1] 38))) #[.int .i64 0, .slice none 0 0] 38
  have R_free := blk_free R_res
  have R_r : (World.heap ((w.alloc (.cells #[.int .i64 r.id, .slice A_r1 r.cells.length c_r1] 38)).alloc (.cells #[.int .i64 0, .slice none 0 0] 38)))[w.heap.size]? = some (.cells #[.int .i64 r.id, .slice A_r1 r.cells.length c_r1] 38 (0, 0)) := by simpa using blk_old (blk_new w #[.int .i64 r.id, .slice A_r1 r.cells.length c_r1] 38) (.cells #[.int .i64 0, .slice none 0 0] 38)
  have R_free_r := blk_free R_r
  have HK := hide (Row.cells_le hk); clear hk
  go_enter Try.func28, Try.ntmps28
  go_wp2_with fail
  have hG1 := hide (Own.made' (size := 1) (R := AtomSR) (e := 68) (w := ((w.alloc (.cells #[.int .i64 r.id, .slice A_r1 r.cells.length c_r1] 38)).alloc (.cells #[.int .i64 0, .slice none 0 0] 38))) (n := w.heap.size + 1 + 1) (by simp))
  obtain ⟨ii1, hi1, hz1, hs1, hby1⟩ := info_parts AtomSS.info
  go_loopw [3, 10] (fun o i wr => ∃ (k : Nat) (v : Value), k ≤ r.cells.length ∧ i = .int .i64 k ∧ o = v ∧ Hid (Own 1 AtomSR 68 (World.heap (((w.alloc (.cells #[.int .i64 r.id, .slice A_r1 r.cells.length c_r1] 38)).alloc (.cells #[.int .i64 0, .slice none 0 0] 38)))).size wr v (r.cells.take k)) ∧ Below (World.heap (((w.alloc (.cells #[.int .i64 r.id, .slice A_r1 r.cells.length c_r1] 38)).alloc (.cells #[.int .i64 0, .slice none 0 0] 38)))).size (((w.alloc (.cells #[.int .i64 r.id, .slice A_r1 r.cells.length c_r1] 38)).alloc (.cells #[.int .i64 0, .slice none 0 0] 38))) wr) (fun _ i _ => r.cells.length - (intOf i).toNat)
  case atStart => exact ⟨0, _, Nat.zero_le _, rfl, rfl, hG1, (Below.refl _ _).alloc (Nat.le_refl _) _⟩
  case round =>
    clear hG1
    obtain ⟨k1, v1_, hk1, rfl, hov1, hG1, hb1001⟩ := hrel; replace hov1 := hov1.symm; subst hov1
    obtain ⟨wl1, rfl⟩ : ∃ w' : World, w' = wr := ⟨_, rfl⟩
    obtain ⟨O1, cO1, hv1, hlO1, hcO1⟩ := hG1.out.form
    replace q_r := box_on q_r rfl hb1001
    replace q_res := box_on q_res rfl hb1001
    have hwl1 := nxt hbx hb1001
    replace R_res := blk_on R_res hb1001; replace R_free := blk_free R_res; replace R_r := blk_on R_r hb1001; replace R_free_r := blk_free R_r
    have hz0_1 := Below.refl (World.heap wl1).size wl1
    by_cases hlt1 : k1 < r.cells.length
    · obtain ⟨gb, go, gbk, ges, rfl, ghbl, ghcl, ghcell, gR, ghbk⟩ := hel_r1 k1 hlt1
      obtain ⟨gA, gc, ghlc, rfl⟩ : ∃ A0 c0, r.cells[k1].length ≤ c0 ∧ ges = [.slice A0 r.cells[k1].length c0] := by obtain ⟨A0, c0, h, h2, _⟩ := gR; exact ⟨A0, c0, h2, h⟩
      have g_0 := (hwl1.cell (p := ⟨gb, _, none⟩) ghbl).trans (ghcell 0 _ rfl)
      simp only [Nat.add_zero, Nat.mul_one] at g_0
      clear ghcell ghcl
      clear hel_r1
      go_wp2_with fail
      refine (slices_CloneA (AtomSR.good.nxt hwl1 gR) (HK.out.2 _ hlt1)).mono ?_; rintro e w1 ⟨v2, bs2, rfl, r2, f2, hb1⟩; replace q_r := box_on q_r rfl hb1; replace q_res := box_on q_res rfl hb1; have hw1 := nxt hwl1 hb1; have hl0_1 := nxt hb1001 hb1; have hl1_1 := nxt hz0_1 hb1; replace R_res := blk_on R_res hb1; replace R_free := blk_free R_res; replace R_r := blk_on R_r hb1; replace R_free_r := blk_free R_r
      have r20 := r2; obtain ⟨A2, c2, rfl, _, _, _⟩ := r2.use
      have hst1 : Hid (r.cells.take (k1 + 1) = r.cells.take k1 ++ [r.cells[k1]]) := by show _ = _; exact take_step hlt1
      have hsz1 := (hl0_1).size; have hlo1 := (hl0_1).size
      have hbd1 : Hid ((r.cells.take k1).length ≤ 1048576) := by show _ ≤ _; (try rw [List.length_take]); have := HK.out.1; omega
      have hvv1 := hide hv1; have hll1 := hide hlO1; clear hv1 hlO1 hcO1
      go_wp2_with (at_builtin; refine wpList_append_own AtomSR.good rfl _ _ 36 rfl Try.underlying36 hi1 hz1 hs1 hby1 rfl (by decide) (v := v1_) rfl hG1.out hl1_1 (cy := [.slice A2 r.cells[k1].length c2]) (y := r.cells[k1]) r20 f2 rfl rfl (fun u hu => by simp at hu; (try rcases hu with rfl | rfl) <;> first | rfl | (subst hu; rfl)) (by have := hbd1.out; omega) (by have := hbd1.out; omega) hb1001.size ?_; intro v' w' hO hB hsw hold hown)
      go_roundw
      case rel => exact ⟨k1 + 1, v', hlt1, by go_num, rfl, by rw [hst1.out]; exact hO, hB _ _ hl0_1 (Nat.le_refl _)⟩
      case measure => simp [intOf]; omega
    · obtain rfl : k1 = r.cells.length := by omega
      have hG2 := hG1.out; rw [List.take_length] at hG2; rw [List.take_length] at hv1; subst hv1
      have HG := hide hG2; clear hG2 hG1 hlO1 hel_r1
      by_cases hp : 0 < r.cells.length
      · have hd : decide ((0 : Int) < r.cells.length) = true := decide_eq_true (by omega)
        go_wp2
        have fin : _ = some (Obj.cells #[.int .i64 r.id, .slice O1 r.cells.length cO1] 38 (0, 0)) := (blk_set (blk_set ((blk_far (p := ⟨w.heap.size, 1, none⟩) (by simp) (.slice O1 r.cells.length cO1)).trans ((blk_far (p := ⟨w.heap.size, 1, none⟩) (by simp) (.slice none 0 0)).trans R_res)) 0 (.int .i64 r.id)) 1 (.slice O1 r.cells.length cO1))
        have fc := blk_cells fin
        have HU := (((((Upd.refl [w.heap.size, w.heap.size + 1] wl1).set (p := ⟨w.heap.size, 1, none⟩) (by simp) rfl (.slice none 0 0)).set (p := ⟨w.heap.size, 1, none⟩) (by simp) rfl (.slice O1 r.cells.length cO1)).set (p := ⟨w.heap.size + 1, 0, none⟩) (by simp) rfl (.int .i64 r.id)).set (p := ⟨w.heap.size + 1, 1, none⟩) (by simp) rfl (.slice O1 r.cells.length cO1))
        refine bodyPost_ret (v := .agg #[.int .i64 r.id, .slice O1 r.cells.length cO1]) (by simp [results, Try.results28, go_sem, fc]) rfl ?_
        obtain ⟨bs', q1, q2⟩ := HG.out.done
        have hn : ∀ b ∈ bs', b ∉ [w.heap.size, w.heap.size + 1] := fun b hb hm => by have := (q2.2 b hb).1; simp at this hm; omega
        exact ⟨[.int .i64 r.id, .slice O1 r.cells.length cO1], bs', rfl, ⟨_, bs', rfl, rfl, hf_r, AtomSSR.good.upd q1 HU hn⟩, (q2.upd HU).mono (by simp; omega), ((((hwl1.setCell (p := ⟨w.heap.size, 1, none⟩) (by simp) (.slice none 0 0)).setCell (p := ⟨w.heap.size, 1, none⟩) (by simp) (.slice O1 r.cells.length cO1)).setCell (p := ⟨w.heap.size + 1, 0, none⟩) (by simp) (.int .i64 r.id)).setCell (p := ⟨w.heap.size + 1, 1, none⟩) (by simp) (.slice O1 r.cells.length cO1))⟩
      · have hd : decide ((0 : Int) < r.cells.length) = false := decide_eq_false (by omega)
        go_wp2
        have fin : _ = some (Obj.cells #[.int .i64 r.id, .slice none 0 0] 38 (0, 0)) := (blk_set (blk_set ((blk_far (p := ⟨w.heap.size, 1, none⟩) (by simp) (.slice none 0 0)).trans R_res) 0 (.int .i64 r.id)) 1 (.slice none 0 0))
        have fc := blk_cells fin
        have HU := ((((Upd.refl [w.heap.size, w.heap.size + 1] wl1).set (p := ⟨w.heap.size, 1, none⟩) (by simp) rfl (.slice none 0 0)).set (p := ⟨w.heap.size + 1, 0, none⟩) (by simp) rfl (.int .i64 r.id)).set (p := ⟨w.heap.size + 1, 1, none⟩) (by simp) rfl (.slice none 0 0))
        refine bodyPost_ret (v := .agg #[.int .i64 r.id, .slice none 0 0]) (by simp [results, Try.results28, go_sem, fc]) rfl ?_
        exact ⟨[.int .i64 r.id, .slice none 0 0], [], rfl, ⟨_, [], rfl, rfl, hf_r, by rw [show r.cells = [] from List.eq_nil_of_length_eq_zero (by omega)]; exact nil_row (by omega)⟩, Fr.nil _ _, (((hwl1.setCell (p := ⟨w.heap.size, 1, none⟩) (by simp) (.slice none 0 0)).setCell (p := ⟨w.heap.size + 1, 0, none⟩) (by simp) (.int .i64 r.id)).setCell (p := ⟨w.heap.size + 1, 1, none⟩) (by simp) (.slice none 0 0))⟩
set_option maxHeartbeats 4000000 in
theorem impl_copyRows {w : World}  {bs_l : List Nat} {v_l : Value} {l : List Row} (H_l : RowSR w bs_l [v_l] l) (hk : RowS.bulk l ≤ 1048576) :
    Calls Try.prog 43 #[v_l] w (ToS RowSR w l) := by
  have H0_l := H_l
  obtain ⟨A_l, c_l, rfl, hlc_l, hcm_l, hel_l⟩ := H_l.use
  have HK := hide hk; clear hk
  go_enter Try.func43, Try.ntmps43
  go_wp2_with fail
  have hG1 := hide (Own.made' (size := 2) (R := RowR) (e := 38) (w := w) (n := w.heap.size) (by simp))
  obtain ⟨ii1, hi1, hz1, hs1, hby1⟩ := info_parts RowS.info
  go_loopw [3, 9] (fun o i wr => ∃ (k : Nat) (v : Value), k ≤ l.length ∧ i = .int .i64 k ∧ o = v ∧ Hid (Own 2 RowR 38 (World.heap (w)).size wr v (l.take k)) ∧ Below (World.heap (w)).size (w) wr) (fun _ i _ => l.length - (intOf i).toNat)
  case atStart => exact ⟨0, _, Nat.zero_le _, rfl, rfl, hG1, (Below.refl _ _).alloc (Nat.le_refl _) _⟩
  case round =>
    clear hG1
    obtain ⟨k1, v1_, hk1, rfl, hov1, hG1, hb1001⟩ := hrel; replace hov1 := hov1.symm; subst hov1
    obtain ⟨wl1, rfl⟩ : ∃ w' : World, w' = wr := ⟨_, rfl⟩
    obtain ⟨O1, cO1, hv1, hlO1, hcO1⟩ := hG1.out.form
    have hwl1 := nxt (Below.refl w.heap.size w) hb1001
    have hz0_1 := Below.refl (World.heap wl1).size wl1
    by_cases hlt1 : k1 < l.length
    · obtain ⟨gb, go, gbk, ges, rfl, ghbl, ghcl, ghcell, gR, ghbk⟩ := hel_l k1 hlt1
      have gR0 := gR
      obtain ⟨gv1, gb1, _, ghes, ghf, gr1⟩ := gR
      subst ghes
      obtain ⟨gA1, gc1, rfl, ghlc1, ghcm1, ghel1⟩ := gr1.use
      have g_0 := (hwl1.cell (p := ⟨gb, _, none⟩) ghbl).trans (ghcell 0 _ rfl)
      have g_1 := (hwl1.cell (p := ⟨gb, _, none⟩) ghbl).trans (ghcell 1 _ rfl)
      simp only [Nat.add_zero] at g_0 g_1
      clear ghcell ghcl
      clear hel_l
      have q_v1 := blk_cells (blk_new (wl1) #[.int .i64 l[k1].id, .slice gA1 l[k1].cells.length gc1] 38)
      have hn1 := (hwl1).alloc (hwl1).size (.cells #[.int .i64 l[k1].id, .slice gA1 l[k1].cells.length gc1] 38)
      have hc1_0 := (hb1001).alloc (hb1001).size (.cells #[.int .i64 l[k1].id, .slice gA1 l[k1].cells.length gc1] 38)
      have hc1_1 := (hz0_1).alloc (hz0_1).size (.cells #[.int .i64 l[k1].id, .slice gA1 l[k1].cells.length gc1] 38)
      go_wp2_with fail
      refine (impl_copyRow (RowR.good.nxt hn1 gR0) (bulkL_at _ hlt1 HK.out)).mono ?_; rintro e w1 ⟨cs2, bs2, rfl, r2, f2, hb1⟩; replace q_v1 := box_on q_v1 rfl hb1; have hw1 := nxt hn1 hb1; have hl0_1 := nxt hc1_0 hb1; have hl1_1 := nxt hc1_1 hb1
      have r20 := r2; obtain ⟨w2v, w2b, _, rfl, _, w2r⟩ := r2; obtain ⟨A2, c2, rfl, _, _, _⟩ := w2r.use
      have hst1 : Hid (l.take (k1 + 1) = l.take k1 ++ [l[k1]]) := by show _ = _; exact take_step hlt1
      have hsz1 := (hl0_1).size; have hlo1 := (hl0_1).size
      have hbd1 : Hid ((l.take k1).length ≤ 1048576) := by show _ ≤ _; (try rw [List.length_take]); have := Nat.le_trans (bulkL_len _ _) HK.out; omega
      have hvv1 := hide hv1; have hll1 := hide hlO1; clear hv1 hlO1 hcO1
      go_wp2_with (at_builtin; refine wpList_append_own RowR.good rfl _ _ 50 rfl Try.underlying50 hi1 hz1 hs1 hby1 rfl (by decide) (v := v1_) rfl hG1.out hl1_1 (cy := [.int .i64 l[k1].id, .slice A2 l[k1].cells.length c2]) (y := l[k1]) r20 (f2.mono (by simp)) rfl rfl (fun u hu => by simp at hu; (try rcases hu with rfl | rfl) <;> first | rfl | (subst hu; rfl)) (by have := hbd1.out; omega) (by have := hbd1.out; omega) hb1001.size ?_; intro v' w' hO hB hsw hold hown)
      go_roundw
      case rel => exact ⟨k1 + 1, v', hlt1, by go_num, rfl, by rw [hst1.out]; exact hO, hB _ _ hl0_1 (Nat.le_refl _)⟩
      case measure => simp [intOf]; omega
    · obtain rfl : k1 = l.length := by omega
      have hG2 := hG1.out; rw [List.take_length] at hG2; have HG := hide hG2; clear hG2 hG1 hel_l
      go_wp2
      go_ret
      obtain ⟨bs', q1, q2⟩ := HG.out.done
      exact ⟨_, bs', rfl, q1, q2, hwl1⟩
set_option maxHeartbeats 4000000 in
theorem impl_copyStore {w : World}  {bs_x : List Nat} {cs_x : List Value} {x : Store} (H_x : StoreR w bs_x cs_x x) (hk : x.bulk ≤ 1048576) :
    Calls Try.prog 25 #[.agg cs_x.toArray] w (ToP StoreR w x) := by
  have H0_x := H_x
  obtain ⟨x_v0, x_b0, rfl, rfl, hf_x, x_r0⟩ := H_x
  obtain ⟨A_x0, c_x0, rfl, hlc_x0, hcm_x0, hel_x0⟩ := x_r0.use
  have hbx := (((Below.refl w.heap.size w).alloc (Nat.le_refl _) (.cells #[.slice A_x0 x.tables.length c_x0, .int .i64 x.next] 32)).alloc (by simp; try omega) (.cells #[.slice none 0 0, .int .i64 0] 32))
  obtain ⟨q_x, q_res⟩ := two_at (Below.refl ((w.alloc (.cells #[.slice A_x0 x.tables.length c_x0, .int .i64 x.next] 32)).alloc (.cells #[.slice none 0 0, .int .i64 0] 32)).heap.size _)
  have R_res : World.heap ((w.alloc (.cells #[.slice A_x0 x.tables.length c_x0, .int .i64 x.next] 32)).alloc (.cells #[.slice none 0 0, .int .i64 0] 32)) = World.heap ((w.alloc (.cells #[.slice A_x0 x.tables.length c_x0, .int .i64 x.next] 32)).alloc (.cells #[.slice none 0 0, .int .i64 0] 32)) := rfl
  clear R_res
  have R_res : (World.heap ((w.alloc (.cells #[.slice A_x0 x.tables.length c_x0, .int .i64 x.next] 32)).alloc (.cells #[.slice none 0 0, .int .i64 0] 32)))[w.heap.size + 1]? = some (.cells #[.slice none 0 0, .int .i64 0] 32 (0, 0)) := by simpa using blk_new ((w.alloc (.cells #[.slice A_x0 x.tables.length c_x0, .int .i64 x.next] 32))) #[.slice none 0 0, .int .i64 0] 32
  have R_free := blk_free R_res
  have HK : Hid (bulkL RowS.bulk x.tables ≤ 1048576) := hk; clear hk
  go_enter Try.func25, Try.ntmps25
  go_wp2_with fail
  have hG1 := hide (Own.made' (size := 1) (R := RowSR) (e := 50) (w := ((w.alloc (.cells #[.slice A_x0 x.tables.length c_x0, .int .i64 x.next] 32)).alloc (.cells #[.slice none 0 0, .int .i64 0] 32))) (n := w.heap.size + 1 + 1) (by simp))
  obtain ⟨ii1, hi1, hz1, hs1, hby1⟩ := info_parts RowSS.info
  go_loopw [3, 10] (fun o i wr => ∃ (k : Nat) (v : Value), k ≤ x.tables.length ∧ i = .int .i64 k ∧ o = v ∧ Hid (Own 1 RowSR 50 (World.heap (((w.alloc (.cells #[.slice A_x0 x.tables.length c_x0, .int .i64 x.next] 32)).alloc (.cells #[.slice none 0 0, .int .i64 0] 32)))).size wr v (x.tables.take k)) ∧ Below (World.heap (((w.alloc (.cells #[.slice A_x0 x.tables.length c_x0, .int .i64 x.next] 32)).alloc (.cells #[.slice none 0 0, .int .i64 0] 32)))).size (((w.alloc (.cells #[.slice A_x0 x.tables.length c_x0, .int .i64 x.next] 32)).alloc (.cells #[.slice none 0 0, .int .i64 0] 32))) wr) (fun _ i _ => x.tables.length - (intOf i).toNat)
  case atStart => exact ⟨0, _, Nat.zero_le _, rfl, rfl, hG1, (Below.refl _ _).alloc (Nat.le_refl _) _⟩
  case round =>
    clear hG1
    obtain ⟨k1, v1_, hk1, rfl, hov1, hG1, hb1001⟩ := hrel; replace hov1 := hov1.symm; subst hov1
    obtain ⟨wl1, rfl⟩ : ∃ w' : World, w' = wr := ⟨_, rfl⟩
    obtain ⟨O1, cO1, hv1, hlO1, hcO1⟩ := hG1.out.form
    replace q_x := box_on q_x rfl hb1001
    replace q_res := box_on q_res rfl hb1001
    have hwl1 := nxt hbx hb1001
    replace R_res := blk_on R_res hb1001; replace R_free := blk_free R_res
    have hz0_1 := Below.refl (World.heap wl1).size wl1
    by_cases hlt1 : k1 < x.tables.length
    · obtain ⟨gb, go, gbk, ges, rfl, ghbl, ghcl, ghcell, gR, ghbk⟩ := hel_x0 k1 hlt1
      obtain ⟨gA, gc, ghlc, rfl⟩ : ∃ A0 c0, x.tables[k1].length ≤ c0 ∧ ges = [.slice A0 x.tables[k1].length c0] := by obtain ⟨A0, c0, h, h2, _⟩ := gR; exact ⟨A0, c0, h2, h⟩
      have g_0 := (hwl1.cell (p := ⟨gb, _, none⟩) ghbl).trans (ghcell 0 _ rfl)
      simp only [Nat.add_zero, Nat.mul_one] at g_0
      clear ghcell ghcl
      clear hel_x0
      go_wp2_with fail
      refine (impl_copyRows (RowSR.good.nxt hwl1 gR) (bulkL_at _ hlt1 HK.out)).mono ?_; rintro e w1 ⟨v2, bs2, rfl, r2, f2, hb1⟩; replace q_x := box_on q_x rfl hb1; replace q_res := box_on q_res rfl hb1; have hw1 := nxt hwl1 hb1; have hl0_1 := nxt hb1001 hb1; have hl1_1 := nxt hz0_1 hb1; replace R_res := blk_on R_res hb1; replace R_free := blk_free R_res
      have r20 := r2; obtain ⟨A2, c2, rfl, _, _, _⟩ := r2.use
      have hst1 : Hid (x.tables.take (k1 + 1) = x.tables.take k1 ++ [x.tables[k1]]) := by show _ = _; exact take_step hlt1
      have hsz1 := (hl0_1).size; have hlo1 := (hl0_1).size
      have hbd1 : Hid ((x.tables.take k1).length ≤ 1048576) := by show _ ≤ _; (try rw [List.length_take]); have := Nat.le_trans (bulkL_len _ _) HK.out; omega
      have hvv1 := hide hv1; have hll1 := hide hlO1; clear hv1 hlO1 hcO1
      go_wp2_with (at_builtin; refine wpList_append_own RowSR.good rfl _ _ 30 rfl Try.underlying30 hi1 hz1 hs1 hby1 rfl (by decide) (v := v1_) rfl hG1.out hl1_1 (cy := [.slice A2 x.tables[k1].length c2]) (y := x.tables[k1]) r20 f2 rfl rfl (fun u hu => by simp at hu; (try rcases hu with rfl | rfl) <;> first | rfl | (subst hu; rfl)) (by have := hbd1.out; omega) (by have := hbd1.out; omega) hb1001.size ?_; intro v' w' hO hB hsw hold hown)
      go_roundw
      case rel => exact ⟨k1 + 1, v', hlt1, by go_num, rfl, by rw [hst1.out]; exact hO, hB _ _ hl0_1 (Nat.le_refl _)⟩
      case measure => simp [intOf]; omega
    · obtain rfl : k1 = x.tables.length := by omega
      have hG2 := hG1.out; rw [List.take_length] at hG2; rw [List.take_length] at hv1; subst hv1
      have HG := hide hG2; clear hG2 hG1 hlO1 hel_x0
      go_wp2
      have fin : _ = some (Obj.cells #[.slice O1 x.tables.length cO1, .int .i64 x.next] 32 (0, 0)) := (blk_set (blk_set R_res 0 (.slice O1 x.tables.length cO1)) 1 (.int .i64 x.next))
      have fc := blk_cells fin
      have HU := (((Upd.refl [w.heap.size + 1] wl1).set (p := ⟨w.heap.size + 1, 0, none⟩) (by simp) rfl (.slice O1 x.tables.length cO1)).set (p := ⟨w.heap.size + 1, 1, none⟩) (by simp) rfl (.int .i64 x.next))
      refine bodyPost_ret (v := .agg #[.slice O1 x.tables.length cO1, .int .i64 x.next]) (by simp [results, Try.results25, go_sem, fc]) rfl ?_
      obtain ⟨bs', q1, q2⟩ := HG.out.done
      have hn : ∀ b ∈ bs', b ∉ [w.heap.size + 1] := fun b hb hm => by have := (q2.2 b hb).1; simp at this hm; omega
      exact ⟨[.slice O1 x.tables.length cO1, .int .i64 x.next], bs', rfl, ⟨_, bs', rfl, rfl, hf_x, RowSSR.good.upd q1 HU hn⟩, (q2.upd HU).mono (by simp; omega), ((hwl1.setCell (p := ⟨w.heap.size + 1, 0, none⟩) (by simp) (.slice O1 x.tables.length cO1)).setCell (p := ⟨w.heap.size + 1, 1, none⟩) (by simp) (.int .i64 x.next))⟩
set_option maxHeartbeats 8000000 in
theorem spec_l05OwnRow {w : World}  {bs_r : List Nat} {cs_r : List Value} {r : Row} (H_r : RowR w bs_r cs_r r) (hk : r.bulk ≤ 1048576) :
    Calls Try.prog 36 #[.agg cs_r.toArray] w (ToP RowR w r) := by
  have H0_r := H_r
  obtain ⟨r_v1, r_b1, rfl, rfl, hf_r, r_r1⟩ := H_r
  obtain ⟨A_r1, c_r1, rfl, hlc_r1, hcm_r1, hel_r1⟩ := r_r1.use
  have hbx := (((Below.refl w.heap.size w).alloc (Nat.le_refl _) (.cells #[.int .i64 r.id, .slice A_r1 r.cells.length c_r1] 38)).alloc (by simp; try omega) (.cells #[.int .i64 0, .slice none 0 0] 38))
  obtain ⟨q_r, q_res⟩ := two_at (Below.refl ((w.alloc (.cells #[.int .i64 r.id, .slice A_r1 r.cells.length c_r1] 38)).alloc (.cells #[.int .i64 0, .slice none 0 0] 38)).heap.size _)
  have R_res : World.heap ((w.alloc (.cells #[.int .i64 r.id, .slice A_r1 r.cells.length c_r1] 38)).alloc (.cells #[.int .i64 0, .slice none 0 0] 38)) = World.heap ((w.alloc (.cells #[.int .i64 r.id, .slice A_r1 r.cells.length c_r1] 38)).alloc (.cells #[.int .i64 0, .slice none 0 0] 38)) := rfl
  clear R_res
  have R_res : (World.heap ((w.alloc (.cells #[.int .i64 r.id, .slice A_r1 r.cells.length c_r1] 38)).alloc (.cells #[.int .i64 0, .slice none 0 0] 38)))[w.heap.size + 1]? = some (.cells #[.int .i64 0, .slice none 0 0] 38 (0, 0)) := by simpa using blk_new ((w.alloc (.cells #[.int .i64 r.id, .slice A_r1 r.cells.length c_r1] 38))) #[.int .i64 0, .slice none 0 0] 38
  have R_free := blk_free R_res
  have HK := hide (Row.cells_le hk); clear hk
  have HL : Hid ((World.heap (((w.alloc (.cells #[.int .i64 r.id, .slice A_r1 r.cells.length c_r1] 38)).alloc (.cells #[.int .i64 0, .slice none 0 0] 38)))).size = w.heap.size + 1 + 1) := by show _ = _; simp
  have hG1 := hide (OwnA.made (size := 1) (R := AtomSR) (e := 68) (w := ((w.alloc (.cells #[.int .i64 r.id, .slice A_r1 r.cells.length c_r1] 38)).alloc (.cells #[.int .i64 0, .slice none 0 0] 38))) (n := w.heap.size + 1 + 1) (out := w.heap.size + 1 + 1 + 1) (by simp) (by omega))
  obtain ⟨ii, hi, hz, hs, hby⟩ := info_parts AtomSS.info; obtain ⟨ij, ji, jz, js, jby⟩ := info_parts AtomS.info
  have B1 : (World.heap ((((w.alloc (.cells #[.int .i64 r.id, .slice A_r1 r.cells.length c_r1] 38)).alloc (.cells #[.int .i64 0, .slice none 0 0] 38)).alloc (.cells #[] 68)).alloc (.cells #[.int .i64 r.id, .slice (some ⟨w.heap.size + 1 + 1, 0, none⟩) 0 0] 38)))[w.heap.size + 1 + 1 + 1]? = some (.cells #[.int .i64 r.id, .slice (some ⟨w.heap.size + 1 + 1, 0, none⟩) 0 0] 38 (0, 0)) := by simpa using blk_new (((w.alloc (.cells #[.int .i64 r.id, .slice A_r1 r.cells.length c_r1] 38)).alloc (.cells #[.int .i64 0, .slice none 0 0] 38)).alloc (.cells #[] 68)) #[.int .i64 r.id, .slice (some ⟨w.heap.size + 1 + 1, 0, none⟩) 0 0] 38
  go_enter Try.func36, Try.ntmps36
  go_wp2_with fail
  go_loopw [4] (fun i wr => ∃ (k : Nat) (v : Value), k ≤ r.cells.length ∧ i = .int .i64 k ∧ Hid (OwnA 1 AtomSR 68 (World.heap (((w.alloc (.cells #[.int .i64 r.id, .slice A_r1 r.cells.length c_r1] 38)).alloc (.cells #[.int .i64 0, .slice none 0 0] 38)))).size (w.heap.size + 1 + 1 + 1) wr v (r.cells.take k)) ∧ Hid (wr.heap[w.heap.size + 1 + 1 + 1]? = some (.cells #[.int .i64 r.id, v] 38 (0, 0))) ∧ Below (World.heap (((w.alloc (.cells #[.int .i64 r.id, .slice A_r1 r.cells.length c_r1] 38)).alloc (.cells #[.int .i64 0, .slice none 0 0] 38)))).size (((w.alloc (.cells #[.int .i64 r.id, .slice A_r1 r.cells.length c_r1] 38)).alloc (.cells #[.int .i64 0, .slice none 0 0] 38))) wr) (fun i _ => r.cells.length - (intOf i).toNat)
  case atStart => exact ⟨0, _, Nat.zero_le _, rfl, OwnA.below AtomSR.good hG1 ((Below.refl _ _).alloc (Nat.le_refl _) _), B1, ((Below.refl _ _).alloc (Nat.le_refl _) _).alloc (by simp) _⟩
  case round =>
    clear hG1 B1; have q_r0 := q_r; obtain ⟨k, v, hk, rfl, hG, hB, hbr⟩ := hrel
    have hwr := nxt hbx hbr
    replace q_r := box_on q_r rfl hbr; replace q_res := box_on q_res rfl hbr; replace R_res := blk_on R_res hbr; replace R_free := blk_free R_res
    have hsz := hbr.size; rw [HL.out] at hsz
    have BF := blk_free hB.out; have hBl := lt_of_cells hB.out
    have c0 : wr.cell? ⟨w.heap.size + 1 + 1 + 1, 0, none⟩ = some (.int .i64 r.id) := blk_cells hB.out 0; have c1 : wr.cell? ⟨w.heap.size + 1 + 1 + 1, 1, none⟩ = some v := blk_cells hB.out 1
    have d1 := box_cell q_r 1 rfl
    by_cases hlt : k < r.cells.length
    · obtain ⟨gb, go, gbk, ges, rfl, ghbl, ghcl, ghcell, gR, ghbk⟩ := hel_r1 k hlt
      obtain ⟨gA, gc, ghlc, rfl⟩ : ∃ A0 c0, r.cells[k].length ≤ c0 ∧ ges = [.slice A0 r.cells[k].length c0] := by obtain ⟨A0, c0, h, h2, _⟩ := gR; exact ⟨A0, c0, h2, h⟩
      have g_0 := (hwr.cell (p := ⟨gb, _, none⟩) ghbl).trans (ghcell 0 _ rfl)
      simp only [Nat.add_zero, Nat.mul_one] at g_0
      clear hel_r1
      have hltb := hide (AtomSR.good.lt gR); have hws := hwr.size
      have hbdk := HK.out.2 k hlt
      have hbdt : Hid ((r.cells.take k).length ≤ 1048576) := by show _ ≤ _; rw [List.length_take]; have := HK.out.1; omega
      have e1 := (Below.refl wr.heap.size wr).drew
      have GR2 := hide (AtomSR.good.nxt (((hwr.drew).alloc hws (.cells #[] 78))) gR)
      go_wp2_with fail
      refine wp_region_tail (fun w' => w'.cell? ⟨w.heap.size + 1 + 1 + 1, 1, none⟩ = some v ∧ w'.cell? ⟨w.heap.size, 1, none⟩ = some (.slice (some ⟨gb, go, none⟩) r.cells.length c_r1) ∧ w'.cell? ⟨gb, go + k, none⟩ = some (.slice gA r.cells[k].length gc)) 12 (by kernel_rfl) (by decide) (show _ from ⟨c1, d1, g_0⟩) (fun hHeld => ?_)
      refine wpT_take (i := 0) rfl (by kernel_rfl) (fun _ _ _ h => h) (Or.inl ⟨by rfl, fun w hSw => by (try dsimp only at hSw); first | (go_simp; done) | (go_simp; with_reducible rfl)⟩) (by assumption) ?_
      (try simp only [Act.put, List.setIfInBounds_toArray, List.set_cons_zero, List.set_cons_succ])
      refine wpT_take (i := 1) rfl (by kernel_rfl) (fun _ _ _ h => h) (Or.inl ⟨by rfl, fun w hSw => by (try dsimp only at hSw); first | (go_simp; done) | (go_simp; with_reducible rfl)⟩) (by assumption) ?_
      (try simp only [Act.put, List.setIfInBounds_toArray, List.set_cons_zero, List.set_cons_succ])
      refine wpT_take (i := 3) rfl (by kernel_rfl) (fun _ _ _ h => h) (Or.inl ⟨by rfl, fun w hSw => by (try dsimp only at hSw); first | (go_simp; done) | (go_simp; with_reducible rfl)⟩) (by assumption) ?_
      (try simp only [Act.put, List.setIfInBounds_toArray, List.set_cons_zero, List.set_cons_succ])
      refine wpT_take (i := 4) rfl (by kernel_rfl) (fun _ _ _ h => h) (Or.inl ⟨by rfl, fun w hSw => by (try dsimp only at hSw); first | (go_simp; done) | (go_simp; with_reducible rfl)⟩) (by assumption) ?_
      (try simp only [Act.put, List.setIfInBounds_toArray, List.set_cons_zero, List.set_cons_succ])
      refine wpT_take (i := 5) rfl (by kernel_rfl) (fun _ _ _ h => h) (Or.inl ⟨by rfl, fun w hSw => by (try dsimp only at hSw); first | (go_simp; done) | (go_simp; with_reducible rfl)⟩) (by assumption) ?_
      (try simp only [Act.put, List.setIfInBounds_toArray, List.set_cons_zero, List.set_cons_succ])
      refine wpT_take (i := 6) rfl (by kernel_rfl) (fun _ _ _ h => h) (Or.inl ⟨by rfl, fun w hSw => by (try dsimp only at hSw); first | (go_simp; done) | (go_simp; with_reducible rfl)⟩) (by assumption) ?_
      (try simp only [Act.put, List.setIfInBounds_toArray, List.set_cons_zero, List.set_cons_succ])
      refine wpT_take (i := 7) rfl (by kernel_rfl) (fun _ _ _ h => h) (Or.inl ⟨by rfl, fun w hSw => by (try dsimp only at hSw); first | (go_simp; done) | (go_simp; with_reducible rfl)⟩) (by assumption) ?_
      (try simp only [Act.put, List.setIfInBounds_toArray, List.set_cons_zero, List.set_cons_succ])
      refine wpT_one (i := 2) rfl (by kernel_rfl) (fun K hK => ?_)
      go_simp
      clear hHeld; refine hK.out _ _ (show _ from ⟨cell_al c1 _, cell_al d1 _, cell_al g_0 _⟩) (fun hHeld => ?_)
      clear hK K
      (try simp only [Act.put, List.setIfInBounds_toArray, List.set_cons_zero, List.set_cons_succ])
      refine wpT_one (i := 8) rfl (by kernel_rfl) (fun K hK => ?_)
      refine step_append_sl AtomR.good rfl _ _ 68 rfl Try.underlying68 ji jz js jby rfl (by decide) rfl (Gr.made (size := 3) (R := AtomR) (e := 78) (lo := wr.heap.size) wr.drew #[] 0 (Nat.le_refl _) (by simp [maxLen]) (by simp)) GR2.out rfl AtomR.one (fun b hb hv => by have h1 := hltb.out b hb; have h9 : wr.heap.size = b := (by injection hv); omega) (by have h00 : ([] : List Atom).length = 0 := rfl; omega) (by have h00 : ([] : List Atom).length = 0 := rfl; omega) (by simp) ?_; intro v2 w2 bss2 hA; have hb2 := hA.below wr.heap.size wr (e1.alloc (Nat.le_refl _) _) (Nat.le_refl _); obtain ⟨bk2, r2, f2, _⟩ := hA.gr.done; replace f2 := f2 (by rw [hA.gr.bss_nil AtomR.flat]; exact Fr.nil _ _); have r2 : AtomSR w2 bk2 [v2] r.cells[k] := r2; have r2f := r2; obtain ⟨A2, cc2, hv2, _, _, _⟩ := r2f.use; subst hv2; clear r2f; have d2 := cell_on d1 hb2; have g_2 := cell_on g_0 hb2; have c2 := cell_on c1 hb2; have hz2 := hb2.size
      clear hHeld; refine hK.out _ _ (show _ from ⟨c2, d2, g_2⟩) (fun hHeld => ?_)
      clear hK K
      (try simp only [Act.put, List.setIfInBounds_toArray, List.set_cons_zero, List.set_cons_succ])
      refine wpT_one (i := 9) rfl (by kernel_rfl) (fun K hK => ?_)
      go_simp
      clear hHeld; refine hK.out _ _ (show _ from ⟨cell_al c2 _, cell_al d2 _, cell_al g_2 _⟩) (fun hHeld => ?_)
      clear hK K
      (try simp only [Act.put, List.setIfInBounds_toArray, List.set_cons_zero, List.set_cons_succ])
      refine wpT_one (i := 10) rfl (by kernel_rfl) (fun K hK => ?_)
      refine step_append_ownA AtomSR.good rfl _ _ 36 rfl Try.underlying36 hi hz hs hby rfl (by decide) (fun _ _ _ _ h => h.oneCell) (v := v) (by rfl) hG.out hb2 hBl (y := r.cells[k]) (cy := [.slice A2 r.cells[k].length cc2]) r2 f2 (by rfl) rfl (by have := hbdt.out; omega) (by have := hbdt.out; omega) hbr.size ?_; intro v3 w3 hO hB3 hz3 hold holdW; obtain ⟨O3, n3, cO3, hv3⟩ : ∃ A n c, v3 = .slice A n c := (by obtain ⟨A, c, h, _⟩ := hO.own.form; exact ⟨A, _, c, h⟩); subst hv3; have hb3 := hB3 _ _ (nxt hbr hb2) (Nat.le_refl _); have BB := hold.trans (blk_on hB.out hb2); have BF := blk_free BB; have c3 : w3.cell? ⟨w.heap.size + 1 + 1 + 1, 1, none⟩ = some v := blk_cells BB 1; have d3 : w3.cell? ⟨w.heap.size, 1, none⟩ = some (.slice (some ⟨gb, go, none⟩) r.cells.length c_r1) := box_cell (box_on q_r0 rfl hb3) 1 rfl; have g_3 : w3.cell? ⟨gb, go + k, none⟩ = some (.slice gA r.cells[k].length gc) := by have := ((nxt hbx hb3).cell (p := ⟨gb, _, none⟩) ghbl).trans (ghcell 0 _ rfl); simpa using this
      clear hHeld; refine hK.out _ _ (show _ from ⟨c3, d3, g_3⟩) (fun hHeld => ?_)
      clear hK K
      (try simp only [Act.put, List.setIfInBounds_toArray, List.set_cons_zero, List.set_cons_succ])
      refine wpT_take (i := 11) rfl (by kernel_rfl) (fun _ _ _ h => h) (Or.inl ⟨by rfl, fun w hSw => by (try dsimp only at hSw); first | (go_simp; done) | (go_simp; with_reducible rfl)⟩) (by assumption) ?_
      (try simp only [Act.put, List.setIfInBounds_toArray, List.set_cons_zero, List.set_cons_succ])
      refine wpT_done (by kernel_rfl) ?_
      simp only [List.drop_succ_cons, List.drop_zero]
      clear hHeld
      go_wp2_with fail
      go_roundw
      case rel => exact ⟨k + 1, _, hlt, by go_num, by rw [take_step hlt]; exact hO.set AtomSR.good 1 (.slice O3 n3 cO3), blk_set BB 1 (.slice O3 n3 cO3), hb3.setCell (p := ⟨w.heap.size + 1 + 1 + 1, 1, none⟩) (by simp) _⟩
      case measure => simp [intOf]; omega
    · obtain rfl : k = r.cells.length := by omega
      have hG2 := hG.out; rw [List.take_length] at hG2; have HG := hide hG2; obtain ⟨O, cO, hv, _, _⟩ := hG2.own.form; subst hv; clear hel_r1 hG hG2
      go_wp2_with fail
      have fin : _ = some (Obj.cells #[.int .i64 r.id, .slice O r.cells.length cO] 38 (0, 0)) := (blk_set (blk_set R_res 0 (.int .i64 r.id)) 1 (.slice O r.cells.length cO))
      have fc := blk_cells fin
      have HU := (((Upd.refl [w.heap.size + 1] wr).set (p := ⟨w.heap.size + 1, 0, none⟩) (by simp) rfl (.int .i64 r.id)).set (p := ⟨w.heap.size + 1, 1, none⟩) (by simp) rfl (.slice O r.cells.length cO))
      refine bodyPost_ret (v := .agg #[.int .i64 r.id, .slice O r.cells.length cO]) (by simp [results, Try.results36, go_sem, fc]) rfl ?_
      obtain ⟨bs', q1, q2⟩ := HG.out.own.done
      have hn : ∀ b ∈ bs', b ∉ [w.heap.size + 1] := fun b hb hm => by have := (q2.2 b hb).1; simp at this hm; omega
      exact ⟨[.int .i64 r.id, .slice O r.cells.length cO], bs', rfl, ⟨_, bs', rfl, rfl, hf_r, AtomSSR.good.upd q1 HU hn⟩, (q2.upd HU).mono (by simp; omega), ((hwr.setCell (p := ⟨w.heap.size + 1, 0, none⟩) (by simp) (.int .i64 r.id)).setCell (p := ⟨w.heap.size + 1, 1, none⟩) (by simp) (.slice O r.cells.length cO))⟩
set_option maxHeartbeats 8000000 in
theorem spec_l05Own {w : World}  {bs_x : List Nat} {cs_x : List Value} {x : Store} (H_x : StoreR w bs_x cs_x x) (hk : x.bulk ≤ 1048576) :
    Calls Try.prog 20 #[.agg cs_x.toArray] w (ToP StoreR w x) := by
  have H0_x := H_x
  obtain ⟨x_v0, x_b0, rfl, rfl, hf_x, x_r0⟩ := H_x
  obtain ⟨A_x0, c_x0, rfl, hlc_x0, hcm_x0, hel_x0⟩ := x_r0.use
  have hbx := (((Below.refl w.heap.size w).alloc (Nat.le_refl _) (.cells #[.slice A_x0 x.tables.length c_x0, .int .i64 x.next] 32)).alloc (by simp; try omega) (.cells #[.slice none 0 0, .int .i64 0] 32))
  obtain ⟨q_x, q_res⟩ := two_at (Below.refl ((w.alloc (.cells #[.slice A_x0 x.tables.length c_x0, .int .i64 x.next] 32)).alloc (.cells #[.slice none 0 0, .int .i64 0] 32)).heap.size _)
  have R_res : World.heap ((w.alloc (.cells #[.slice A_x0 x.tables.length c_x0, .int .i64 x.next] 32)).alloc (.cells #[.slice none 0 0, .int .i64 0] 32)) = World.heap ((w.alloc (.cells #[.slice A_x0 x.tables.length c_x0, .int .i64 x.next] 32)).alloc (.cells #[.slice none 0 0, .int .i64 0] 32)) := rfl
  clear R_res
  have R_res : (World.heap ((w.alloc (.cells #[.slice A_x0 x.tables.length c_x0, .int .i64 x.next] 32)).alloc (.cells #[.slice none 0 0, .int .i64 0] 32)))[w.heap.size + 1]? = some (.cells #[.slice none 0 0, .int .i64 0] 32 (0, 0)) := by simpa using blk_new ((w.alloc (.cells #[.slice A_x0 x.tables.length c_x0, .int .i64 x.next] 32))) #[.slice none 0 0, .int .i64 0] 32
  have R_free := blk_free R_res
  have HK : Hid (bulkL RowS.bulk x.tables ≤ 1048576) := hk; clear hk
  have HL : Hid ((World.heap (((w.alloc (.cells #[.slice A_x0 x.tables.length c_x0, .int .i64 x.next] 32)).alloc (.cells #[.slice none 0 0, .int .i64 0] 32)))).size = w.heap.size + 1 + 1) := by show _ = _; simp
  have hG0 := hide (OwnA.made (size := 1) (R := RowSR) (e := 50) (w := ((w.alloc (.cells #[.slice A_x0 x.tables.length c_x0, .int .i64 x.next] 32)).alloc (.cells #[.slice none 0 0, .int .i64 0] 32))) (n := w.heap.size + 1 + 1) (out := w.heap.size + 1 + 1 + 1) (by simp) (by omega))
  obtain ⟨ij, ji, jz, js, jby⟩ := info_parts RowSS.info
  have B1 : (World.heap ((((w.alloc (.cells #[.slice A_x0 x.tables.length c_x0, .int .i64 x.next] 32)).alloc (.cells #[.slice none 0 0, .int .i64 0] 32)).alloc (.cells #[] 50)).alloc (.cells #[.slice (some ⟨w.heap.size + 1 + 1, 0, none⟩) 0 0, .int .i64 x.next] 32)))[w.heap.size + 1 + 1 + 1]? = some (.cells #[.slice (some ⟨w.heap.size + 1 + 1, 0, none⟩) 0 0, .int .i64 x.next] 32 (0, 0)) := by simpa using blk_new (((w.alloc (.cells #[.slice A_x0 x.tables.length c_x0, .int .i64 x.next] 32)).alloc (.cells #[.slice none 0 0, .int .i64 0] 32)).alloc (.cells #[] 50)) #[.slice (some ⟨w.heap.size + 1 + 1, 0, none⟩) 0 0, .int .i64 x.next] 32
  go_enter Try.func20, Try.ntmps20
  go_wp2_with fail
  go_loopw [4] (fun i wr => ∃ (k : Nat) (v : Value), k ≤ x.tables.length ∧ i = .int .i64 k ∧ Hid (OwnA 1 RowSR 50 (World.heap (((w.alloc (.cells #[.slice A_x0 x.tables.length c_x0, .int .i64 x.next] 32)).alloc (.cells #[.slice none 0 0, .int .i64 0] 32)))).size (w.heap.size + 1 + 1 + 1) wr v (x.tables.take k)) ∧ Hid (wr.heap[w.heap.size + 1 + 1 + 1]? = some (.cells #[v, .int .i64 x.next] 32 (0, 0))) ∧ Below (World.heap (((w.alloc (.cells #[.slice A_x0 x.tables.length c_x0, .int .i64 x.next] 32)).alloc (.cells #[.slice none 0 0, .int .i64 0] 32)))).size (((w.alloc (.cells #[.slice A_x0 x.tables.length c_x0, .int .i64 x.next] 32)).alloc (.cells #[.slice none 0 0, .int .i64 0] 32))) wr) (fun i _ => x.tables.length - (intOf i).toNat)
  case atStart => exact ⟨0, _, Nat.zero_le _, rfl, OwnA.below RowSR.good hG0 ((Below.refl _ _).alloc (Nat.le_refl _) _), B1, ((Below.refl _ _).alloc (Nat.le_refl _) _).alloc (by simp) _⟩
  case round =>
    clear hG0 B1; obtain ⟨kk, vv, hk, rfl, hG, hB, hbr⟩ := hrel; obtain ⟨wo, rfl⟩ : ∃ w' : World, w' = wr := ⟨_, rfl⟩
    have hwo := nxt hbx hbr
    replace q_x := box_on q_x rfl hbr; replace q_res := box_on q_res rfl hbr; replace R_res := blk_on R_res hbr; replace R_free := blk_free R_res
    have hsz := hbr.size; rw [HL.out] at hsz
    have R_out := hB.out; have R_free_out := blk_free R_out; have hBl := lt_of_cells R_out; have q_out := blk_cells R_out; clear hB
    by_cases hlt : kk < x.tables.length
    · obtain ⟨gb, go, gbk, ges, rfl, ghbl, ghcl, ghcell, gR, ghbk⟩ := hel_x0 kk hlt
      obtain ⟨gA, gc, ghlc, rfl⟩ : ∃ A0 c0, x.tables[kk].length ≤ c0 ∧ ges = [.slice A0 x.tables[kk].length c0] := by obtain ⟨A0, c0, h, h2, _⟩ := gR; exact ⟨A0, c0, h2, h⟩
      have g_0 := (hwo.cell (p := ⟨gb, _, none⟩) ghbl).trans (ghcell 0 _ rfl)
      simp only [Nat.add_zero, Nat.mul_one] at g_0
      clear hel_x0
      obtain ⟨gA', gc', hpv, _, _, gel⟩ := gR.use; injection hpv with e1 e2 e3; subst e1; clear e2 e3
      have HKk : Hid (bulkL Row.bulk x.tables[kk] ≤ 1048576) := bulkL_at RowS.bulk hlt HK.out
      go_wp2_with fail
      clear g_0
      have hG1 := hide (Own.made' (size := 2) (R := RowR) (e := 38) (w := wo) (n := wo.heap.size) (by simp))
      obtain ⟨ii1, hi1, hz1, hs1, hby1⟩ := info_parts RowS.info
      go_loopw [5, 6] (fun o i wr => ∃ (k : Nat) (v : Value), k ≤ x.tables[kk].length ∧ i = .int .i64 k ∧ o = v ∧ Hid (Own 2 RowR 38 (World.heap (wo)).size wr v (x.tables[kk].take k)) ∧ Below (World.heap (wo)).size (wo) wr) (fun _ i _ => x.tables[kk].length - (intOf i).toNat)
      case atStart => exact ⟨0, _, Nat.zero_le _, rfl, rfl, hG1, (Below.refl _ _).alloc (Nat.le_refl _) _⟩
      case round =>
        clear hG1
        obtain ⟨k1, v1_, hk1, rfl, hov1, hG1, hb1001⟩ := hrel; replace hov1 := hov1.symm; subst hov1
        obtain ⟨wl1, rfl⟩ : ∃ w' : World, w' = wr := ⟨_, rfl⟩
        obtain ⟨O1, cO1, hv1, hlO1, hcO1⟩ := hG1.out.form
        replace q_x := box_on q_x rfl hb1001
        replace q_res := box_on q_res rfl hb1001
        replace q_out := box_on q_out rfl hb1001
        have hwl1 := nxt hwo hb1001
        replace R_res := blk_on R_res hb1001; replace R_free := blk_free R_res; replace R_out := blk_on R_out hb1001; replace R_free_out := blk_free R_out
        have hz0_1 := Below.refl (World.heap wl1).size wl1
        by_cases hlt1 : k1 < x.tables[kk].length
        · have g_0 := (hwl1.cell (p := ⟨gb, _, none⟩) ghbl).trans (ghcell 0 _ rfl)
          simp only [Nat.add_zero, Nat.mul_one] at g_0
          obtain ⟨eb, eo, ebk, ees, rfl, ehbl, ehcl, ehcell, eR, ehbk⟩ := gel k1 hlt1
          have eR0 := eR
          obtain ⟨ev1, eb1, _, ehes, ehf, er1⟩ := eR
          subst ehes
          obtain ⟨eA1, ec1, rfl, ehlc1, ehcm1, ehel1⟩ := er1.use
          have e_0 := (hwl1.cell (p := ⟨eb, _, none⟩) ehbl).trans (ehcell 0 _ rfl)
          have e_1 := (hwl1.cell (p := ⟨eb, _, none⟩) ehbl).trans (ehcell 1 _ rfl)
          simp only [Nat.add_zero] at e_0 e_1
          clear ehcell ehcl
          clear gel
          go_wp2_with fail
          refine (spec_l05OwnRow (RowR.good.nxt hwl1 eR0) (bulkL_at Row.bulk hlt1 HKk.out)).mono ?_; rintro e w1 ⟨cs2, bs2, rfl, r2, f2, hb1⟩; replace q_x := box_on q_x rfl hb1; replace q_res := box_on q_res rfl hb1; replace q_out := box_on q_out rfl hb1; have hw1 := nxt hwl1 hb1; have hl0_1 := nxt hb1001 hb1; have hl1_1 := nxt hz0_1 hb1; replace R_res := blk_on R_res hb1; replace R_free := blk_free R_res; replace R_out := blk_on R_out hb1; replace R_free_out := blk_free R_out
          clear g_0
          have r20 := r2; obtain ⟨w2v, w2b, _, rfl, _, w2r⟩ := r2; obtain ⟨A2, c2, rfl, _, _, _⟩ := w2r.use
          have hst1 : Hid (x.tables[kk].take (k1 + 1) = x.tables[kk].take k1 ++ [x.tables[kk][k1]]) := by show _ = _; exact take_step hlt1
          have hsz1 := (hl0_1).size; have hlo1 := (hl0_1).size
          have hbd1 : Hid ((x.tables[kk].take k1).length ≤ 1048576) := by show _ ≤ _; (try rw [List.length_take]); have := Nat.le_trans (bulkL_len _ _) HKk.out; omega
          have hvv1 := hide hv1; have hll1 := hide hlO1; clear hv1 hlO1 hcO1
          go_wp2_with (at_builtin; refine wpList_append_own RowR.good rfl _ _ 50 rfl Try.underlying50 hi1 hz1 hs1 hby1 rfl (by decide) (v := v1_) rfl hG1.out hl1_1 (cy := [.int .i64 x.tables[kk][k1].id, .slice A2 x.tables[kk][k1].cells.length c2]) (y := x.tables[kk][k1]) r20 f2 rfl rfl (fun u hu => by simp at hu; (try rcases hu with rfl | rfl) <;> first | rfl | (subst hu; rfl)) (by have := hbd1.out; omega) (by have := hbd1.out; omega) hb1001.size ?_; intro v' w' hO hB hsw hold hown)
          go_roundw
          case rel => exact ⟨k1 + 1, v', hlt1, by go_num, rfl, by rw [hst1.out]; exact hO, hB _ _ hl0_1 (Nat.le_refl _)⟩
          case measure => simp [intOf]; omega
        · obtain rfl : k1 = x.tables[kk].length := by omega
          have g_0 := (hwl1.cell (p := ⟨gb, _, none⟩) ghbl).trans (ghcell 0 _ rfl)
          simp only [Nat.add_zero, Nat.mul_one] at g_0
          have hG2 := hG1.out; rw [List.take_length] at hG2; rw [List.take_length] at hv1; subst hv1; obtain ⟨bs2, r2, f2⟩ := hG2.done; clear hG1 hG2 gel
          have hbdt : Hid ((x.tables.take kk).length ≤ 1048576) := by show _ ≤ _; rw [List.length_take]; have := bulkL_len RowS.bulk x.tables; have := HK.out; omega
          have hwz := hb1001.size
          go_wp2_with (at_builtin; refine wpList_append_ownA RowSR.good rfl _ _ 30 rfl Try.underlying30 ji jz js jby rfl (by decide) (fun _ _ _ _ h => h.oneCell) (v := vv) rfl hG.out hb1001 hBl (y := x.tables[kk]) (cy := [.slice O1 x.tables[kk].length cO1]) r2 f2 rfl rfl (by have := hbdt.out; omega) (by have := hbdt.out; omega) hbr.size ?_; intro v3 w3 hO hB3 hz3 hold holdW; obtain ⟨O3, n3, cO3, hv3⟩ : ∃ A n c, v3 = .slice A n c := (by obtain ⟨A, c, h, _⟩ := hO.own.form; exact ⟨A, _, c, h⟩); subst hv3; have hb3 := hB3 _ _ (nxt hbr hb1001) (Nat.le_refl _); have BB := hold.trans R_out; have BF := blk_free BB; have c3 := blk_cells BB 0)
          go_roundw
          case rel => exact ⟨kk + 1, _, hlt, by go_num, by rw [take_step hlt]; exact hO.set RowSR.good 0 (.slice O3 n3 cO3), blk_set BB 0 (.slice O3 n3 cO3), hb3.setCell (p := ⟨w.heap.size + 1 + 1 + 1, 0, none⟩) (by simp) _⟩
          case measure => simp [intOf]; omega
    · obtain rfl : kk = x.tables.length := by omega
      have hG2 := hG.out; rw [List.take_length] at hG2; have HG := hide hG2; obtain ⟨O, cO, hv, _, _⟩ := hG2.own.form; subst hv; clear hel_x0 hG hG2
      go_wp2_with fail
      have fin : _ = some (Obj.cells #[.slice O x.tables.length cO, .int .i64 x.next] 32 (0, 0)) := (blk_set (blk_set R_res 0 (.slice O x.tables.length cO)) 1 (.int .i64 x.next))
      have fc := blk_cells fin
      have HU := (((Upd.refl [w.heap.size + 1] wo).set (p := ⟨w.heap.size + 1, 0, none⟩) (by simp) rfl (.slice O x.tables.length cO)).set (p := ⟨w.heap.size + 1, 1, none⟩) (by simp) rfl (.int .i64 x.next))
      refine bodyPost_ret (v := .agg #[.slice O x.tables.length cO, .int .i64 x.next]) (by simp [results, Try.results20, go_sem, fc]) rfl ?_
      obtain ⟨bs', q1, q2⟩ := HG.out.own.done
      have hn : ∀ b ∈ bs', b ∉ [w.heap.size + 1] := fun b hb hm => by have := (q2.2 b hb).1; simp at this hm; omega
      exact ⟨[.slice O x.tables.length cO, .int .i64 x.next], bs', rfl, ⟨_, bs', rfl, rfl, hf_x, RowSSR.good.upd q1 HU hn⟩, (q2.upd HU).mono (by simp; omega), ((hwo.setCell (p := ⟨w.heap.size + 1, 0, none⟩) (by simp) (.slice O x.tables.length cO)).setCell (p := ⟨w.heap.size + 1, 1, none⟩) (by simp) (.int .i64 x.next))⟩
end Go.Proofs.Ytfkpllkgganejaa
