/- The item of a key of a value. No statement is proved here; no conditions. Written by a program (gen64.py). -/
import Derived.Test.YthglchopajdmhaaCopyJ
import Derived.Test.YthglchopajdmhaaJsonT
namespace Go.Proofs.Ythglchopajdmhaa
open Go.ChangeShapes Go.WideShapes Go.ChangeAt Go.RowKit Go.Deep
set_option maxRecDepth 100000
set_option linter.unusedVariables false
set_option linter.unusedSimpArgs false

def keyIx (a : Json) (nm : ByteArray) : Int := idxF (fun t => eqS t nm) a.keys
theorem idxF_cases {α : Type} (p : α → Bool) (xs : List α) : idxF p xs = -1 ∨ ∃ k : Nat, idxF p xs = k ∧ k < xs.length := by
  unfold idxF
  split
  · rename_i ha
    exact Or.inr ⟨_, rfl, List.findIdx_lt_length_of_exists (List.any_eq_true.1 ha)⟩
  · exact Or.inl rfl
def zeroJ : Json := ⟨0, 0, ⟨#[]⟩, [], []⟩
theorem zeroJ_R {w : World} : JsonR w [] [.int .i64 0, .int .i64 0, .string ⟨#[]⟩, .slice none 0 0, .slice none 0 0] zeroJ := by
  have h := JsonR.shut (w := w) (a := zeroJ) (b3 := []) (b4 := []) (v3 := .slice none 0 0) (v4 := .slice none 0 0) ⟨rfl, rfl, by decide⟩ (nil_row (by omega)) (nil_row (by omega))
  exact h
def FldP (a : Json) (nm : ByteArray) (w : World) (e : Ending) (w' : World) : Prop :=
  (∃ (k : Nat) (hk : k < a.items.length) (cs : List Value) (bs : List Nat), keyIx a nm = (k : Int) ∧ e = .returned (.tuple #[.agg cs.toArray, .bool true]) ∧ JsonR w bs cs a.items[k] ∧ Below w.heap.size w w') ∨
  (keyIx a nm = -1 ∧ e = .returned (.tuple #[.agg #[.int .i64 0, .int .i64 0, .string ⟨#[]⟩, .slice none 0 0, .slice none 0 0], .bool false]) ∧ Below w.heap.size w w')
set_option maxHeartbeats 8000000 in
theorem impl_field {w : World}  {bs_a : List Nat} {cs_a : List Value} {a : Json} (H_a : JsonR w bs_a cs_a a) (nm : ByteArray) (h5 : a.kind = 5) (hkl : a.keys.length = a.items.length) :
    Calls Try.prog 59 #[.agg cs_a.toArray, .string nm] w (FldP a nm w) := by
  have H0_a := H_a
  obtain ⟨a_v3, a_b3, a_v4, a_b4, rfl, rfl, hf_a, a_r3, a_r4⟩ := H_a.open
  obtain ⟨A_a3, c_a3, rfl, hlc_a3, hcm_a3, hel_a3⟩ := a_r3.use
  obtain ⟨A_a4, c_a4, rfl, hlc_a4, hcm_a4, hel_a4⟩ := a_r4.use
  have hbx := (((Below.refl w.heap.size w).alloc (Nat.le_refl _) (.cells #[.int .i64 a.kind, .int .i64 a.n, .string a.t, .slice A_a3 a.keys.length c_a3, .slice A_a4 a.items.length c_a4] 30)).alloc (by simp; try omega) (.cells #[.int .i64 0, .int .i64 0, .string ⟨#[]⟩, .slice none 0 0, .slice none 0 0] 30))
  obtain ⟨q_a, q_res⟩ := two_at (Below.refl ((w.alloc (.cells #[.int .i64 a.kind, .int .i64 a.n, .string a.t, .slice A_a3 a.keys.length c_a3, .slice A_a4 a.items.length c_a4] 30)).alloc (.cells #[.int .i64 0, .int .i64 0, .string ⟨#[]⟩, .slice none 0 0, .slice none 0 0] 30)).heap.size _)
  have R_res : World.heap ((w.alloc (.cells #[.int .i64 a.kind, .int .i64 a.n, .string a.t, .slice A_a3 a.keys.length c_a3, .slice A_a4 a.items.length c_a4] 30)).alloc (.cells #[.int .i64 0, .int .i64 0, .string ⟨#[]⟩, .slice none 0 0, .slice none 0 0] 30)) = World.heap ((w.alloc (.cells #[.int .i64 a.kind, .int .i64 a.n, .string a.t, .slice A_a3 a.keys.length c_a3, .slice A_a4 a.items.length c_a4] 30)).alloc (.cells #[.int .i64 0, .int .i64 0, .string ⟨#[]⟩, .slice none 0 0, .slice none 0 0] 30)) := rfl
  clear R_res
  have R_res : (World.heap ((w.alloc (.cells #[.int .i64 a.kind, .int .i64 a.n, .string a.t, .slice A_a3 a.keys.length c_a3, .slice A_a4 a.items.length c_a4] 30)).alloc (.cells #[.int .i64 0, .int .i64 0, .string ⟨#[]⟩, .slice none 0 0, .slice none 0 0] 30)))[w.heap.size + 1]? = some (.cells #[.int .i64 0, .int .i64 0, .string ⟨#[]⟩, .slice none 0 0, .slice none 0 0] 30 (0, 0)) := by simpa using blk_new ((w.alloc (.cells #[.int .i64 a.kind, .int .i64 a.n, .string a.t, .slice A_a3 a.keys.length c_a3, .slice A_a4 a.items.length c_a4] 30))) #[.int .i64 0, .int .i64 0, .string ⟨#[]⟩, .slice none 0 0, .slice none 0 0] 30
  have R_free := blk_free R_res
  have hh := hide (idxF_cases (fun t => eqS t nm) a.keys); have hk5 : (a.kind != 5) = false := by rw [h5]; rfl
  clear h5
  have HKL := hide hkl; clear hkl
  go_enter Try.func59, Try.ntmps59
  go_wp2_with fail
  refine (slices_IndexS (StringSR.good.nxt hbx a_r3) nm).mono ?_; rintro e w1 ⟨rfl, hb1⟩; replace q_a := box_on q_a rfl hb1; replace q_res := box_on q_res rfl hb1; have hw1 := nxt hbx hb1; replace R_res := blk_on R_res hb1; replace R_free := blk_free R_res
  rcases hh.out with hh1 | ⟨k, hh1, hkl⟩
  · have hix := hide hh1; rw [hh1]; clear hh hh1
    have hd : decide ((-1 : Int) < 0) = true := by decide
    go_wp2_with fail
    have fin : _ = some (Obj.cells #[.int .i64 0, .int .i64 0, .string ⟨#[]⟩, .slice none 0 0, .slice none 0 0] 30 (0, 0)) := (blk_set (blk_set (blk_set (blk_set (blk_set R_res 0 (.int .i64 0)) 1 (.int .i64 0)) 2 (.string ⟨#[]⟩)) 3 (.slice none 0 0)) 4 (.slice none 0 0))
    have fc := blk_cells fin
    have HU := ((((((Upd.refl [w.heap.size + 1] w1).set (p := ⟨w.heap.size + 1, 0, none⟩) (by simp) rfl (.int .i64 0)).set (p := ⟨w.heap.size + 1, 1, none⟩) (by simp) rfl (.int .i64 0)).set (p := ⟨w.heap.size + 1, 2, none⟩) (by simp) rfl (.string ⟨#[]⟩)).set (p := ⟨w.heap.size + 1, 3, none⟩) (by simp) rfl (.slice none 0 0)).set (p := ⟨w.heap.size + 1, 4, none⟩) (by simp) rfl (.slice none 0 0))
    refine bodyPost_ret (v := .tuple #[.agg #[.int .i64 0, .int .i64 0, .string ⟨#[]⟩, .slice none 0 0, .slice none 0 0], .bool false]) (by simp [results, Try.results59, go_sem, fc]) rfl ?_
    exact Or.inr ⟨hix.out, rfl, (((((hw1.setCell (p := ⟨w.heap.size + 1, 0, none⟩) (by simp) (.int .i64 0)).setCell (p := ⟨w.heap.size + 1, 1, none⟩) (by simp) (.int .i64 0)).setCell (p := ⟨w.heap.size + 1, 2, none⟩) (by simp) (.string ⟨#[]⟩)).setCell (p := ⟨w.heap.size + 1, 3, none⟩) (by simp) (.slice none 0 0)).setCell (p := ⟨w.heap.size + 1, 4, none⟩) (by simp) (.slice none 0 0))⟩
  · have hix := hide hh1; rw [hh1]; clear hh hh1; have hki : k < a.items.length := by have := HKL.out; omega
    have hd : decide ((k : Int) < 0) = false := decide_eq_false (by omega)
    obtain ⟨gb, go, gbk, ges, rfl, ghbl, ghcl, ghcell, gR, ghbk⟩ := hel_a4 k hki
    have gR0 := gR
    obtain ⟨gv3, gb3, gv4, gb4, _, ghes, ghf, gr3, gr4⟩ := gR.open
    subst ghes
    obtain ⟨gA3, gc3, rfl, ghlc3, ghcm3, ghel3⟩ := gr3.use
    obtain ⟨gA4, gc4, rfl, ghlc4, ghcm4, ghel4⟩ := gr4.use
    have g_0 := (hw1.cell (p := ⟨gb, _, none⟩) ghbl).trans (ghcell 0 _ rfl)
    have g_1 := (hw1.cell (p := ⟨gb, _, none⟩) ghbl).trans (ghcell 1 _ rfl)
    have g_2 := (hw1.cell (p := ⟨gb, _, none⟩) ghbl).trans (ghcell 2 _ rfl)
    have g_3 := (hw1.cell (p := ⟨gb, _, none⟩) ghbl).trans (ghcell 3 _ rfl)
    have g_4 := (hw1.cell (p := ⟨gb, _, none⟩) ghbl).trans (ghcell 4 _ rfl)
    simp only [Nat.add_zero] at g_0 g_1 g_2 g_3 g_4
    clear hel_a3 hel_a4
    go_wp2_with fail
    have fin : _ = some (Obj.cells #[.int .i64 a.items[k].kind, .int .i64 a.items[k].n, .string a.items[k].t, .slice gA3 a.items[k].keys.length gc3, .slice gA4 a.items[k].items.length gc4] 30 (0, 0)) := (blk_set (blk_set (blk_set (blk_set (blk_set R_res 0 (.int .i64 a.items[k].kind)) 1 (.int .i64 a.items[k].n)) 2 (.string a.items[k].t)) 3 (.slice gA3 a.items[k].keys.length gc3)) 4 (.slice gA4 a.items[k].items.length gc4))
    have fc := blk_cells fin
    have HU := ((((((Upd.refl [w.heap.size + 1] w1).set (p := ⟨w.heap.size + 1, 0, none⟩) (by simp) rfl (.int .i64 a.items[k].kind)).set (p := ⟨w.heap.size + 1, 1, none⟩) (by simp) rfl (.int .i64 a.items[k].n)).set (p := ⟨w.heap.size + 1, 2, none⟩) (by simp) rfl (.string a.items[k].t)).set (p := ⟨w.heap.size + 1, 3, none⟩) (by simp) rfl (.slice gA3 a.items[k].keys.length gc3)).set (p := ⟨w.heap.size + 1, 4, none⟩) (by simp) rfl (.slice gA4 a.items[k].items.length gc4))
    refine bodyPost_ret (v := .tuple #[.agg #[.int .i64 a.items[k].kind, .int .i64 a.items[k].n, .string a.items[k].t, .slice gA3 a.items[k].keys.length gc3, .slice gA4 a.items[k].items.length gc4], .bool true]) (by simp [results, Try.results59, go_sem, fc]) rfl ?_
    exact Or.inl ⟨k, hki, [.int .i64 a.items[k].kind, .int .i64 a.items[k].n, .string a.items[k].t, .slice gA3 a.items[k].keys.length gc3, .slice gA4 a.items[k].items.length gc4], _, hix.out, rfl, gR0, (((((hw1.setCell (p := ⟨w.heap.size + 1, 0, none⟩) (by simp) (.int .i64 a.items[k].kind)).setCell (p := ⟨w.heap.size + 1, 1, none⟩) (by simp) (.int .i64 a.items[k].n)).setCell (p := ⟨w.heap.size + 1, 2, none⟩) (by simp) (.string a.items[k].t)).setCell (p := ⟨w.heap.size + 1, 3, none⟩) (by simp) (.slice gA3 a.items[k].keys.length gc3)).setCell (p := ⟨w.heap.size + 1, 4, none⟩) (by simp) (.slice gA4 a.items[k].items.length gc4))⟩
set_option maxHeartbeats 8000000 in
theorem spec_l01Field {w : World}  {bs_a : List Nat} {cs_a : List Value} {a : Json} (H_a : JsonR w bs_a cs_a a) (nm : ByteArray) (hkl : a.keys.length = a.items.length) :
    Calls Try.prog 56 #[.agg cs_a.toArray, .string nm] w (FldP a nm w) := by
  have H0_a := H_a
  obtain ⟨a_v3, a_b3, a_v4, a_b4, rfl, rfl, hf_a, a_r3, a_r4⟩ := H_a.open
  obtain ⟨A_a3, c_a3, rfl, hlc_a3, hcm_a3, hel_a3⟩ := a_r3.use
  obtain ⟨A_a4, c_a4, rfl, hlc_a4, hcm_a4, hel_a4⟩ := a_r4.use
  have hbx := (((Below.refl w.heap.size w).alloc (Nat.le_refl _) (.cells #[.int .i64 a.kind, .int .i64 a.n, .string a.t, .slice A_a3 a.keys.length c_a3, .slice A_a4 a.items.length c_a4] 30)).alloc (by simp; try omega) (.cells #[.int .i64 0, .int .i64 0, .string ⟨#[]⟩, .slice none 0 0, .slice none 0 0] 30))
  obtain ⟨q_a, q_res⟩ := two_at (Below.refl ((w.alloc (.cells #[.int .i64 a.kind, .int .i64 a.n, .string a.t, .slice A_a3 a.keys.length c_a3, .slice A_a4 a.items.length c_a4] 30)).alloc (.cells #[.int .i64 0, .int .i64 0, .string ⟨#[]⟩, .slice none 0 0, .slice none 0 0] 30)).heap.size _)
  have R_res : World.heap ((w.alloc (.cells #[.int .i64 a.kind, .int .i64 a.n, .string a.t, .slice A_a3 a.keys.length c_a3, .slice A_a4 a.items.length c_a4] 30)).alloc (.cells #[.int .i64 0, .int .i64 0, .string ⟨#[]⟩, .slice none 0 0, .slice none 0 0] 30)) = World.heap ((w.alloc (.cells #[.int .i64 a.kind, .int .i64 a.n, .string a.t, .slice A_a3 a.keys.length c_a3, .slice A_a4 a.items.length c_a4] 30)).alloc (.cells #[.int .i64 0, .int .i64 0, .string ⟨#[]⟩, .slice none 0 0, .slice none 0 0] 30)) := rfl
  clear R_res
  have R_res : (World.heap ((w.alloc (.cells #[.int .i64 a.kind, .int .i64 a.n, .string a.t, .slice A_a3 a.keys.length c_a3, .slice A_a4 a.items.length c_a4] 30)).alloc (.cells #[.int .i64 0, .int .i64 0, .string ⟨#[]⟩, .slice none 0 0, .slice none 0 0] 30)))[w.heap.size + 1]? = some (.cells #[.int .i64 0, .int .i64 0, .string ⟨#[]⟩, .slice none 0 0, .slice none 0 0] 30 (0, 0)) := by simpa using blk_new ((w.alloc (.cells #[.int .i64 a.kind, .int .i64 a.n, .string a.t, .slice A_a3 a.keys.length c_a3, .slice A_a4 a.items.length c_a4] 30))) #[.int .i64 0, .int .i64 0, .string ⟨#[]⟩, .slice none 0 0, .slice none 0 0] 30
  have R_free := blk_free R_res
  have HKL := hide hkl; clear hkl
  go_enter Try.func56, Try.ntmps56
  go_wp2_with fail
  go_loopw [6] (fun i wr => ∃ k : Nat, k ≤ a.keys.length ∧ i = .int .i64 k ∧ Hid (∀ j (hj : j < a.keys.length), j < k → eqS a.keys[j] nm = false) ∧ Below (World.heap (((w.alloc (.cells #[.int .i64 a.kind, .int .i64 a.n, .string a.t, .slice A_a3 a.keys.length c_a3, .slice A_a4 a.items.length c_a4] 30)).alloc (.cells #[.int .i64 0, .int .i64 0, .string ⟨#[]⟩, .slice none 0 0, .slice none 0 0] 30)))).size (((w.alloc (.cells #[.int .i64 a.kind, .int .i64 a.n, .string a.t, .slice A_a3 a.keys.length c_a3, .slice A_a4 a.items.length c_a4] 30)).alloc (.cells #[.int .i64 0, .int .i64 0, .string ⟨#[]⟩, .slice none 0 0, .slice none 0 0] 30))) wr) (fun i _ => a.keys.length - (intOf i).toNat)
  case atStart => exact ⟨0, Nat.zero_le _, rfl, fun _ _ h => absurd h (Nat.not_lt_zero _), Below.refl _ _⟩
  case round =>
    obtain ⟨k1, hk1, rfl, hn1_, hb1001⟩ := hrel
    obtain ⟨wl1, rfl⟩ : ∃ w' : World, w' = wr := ⟨_, rfl⟩
    replace q_a := box_on q_a rfl hb1001
    replace q_res := box_on q_res rfl hb1001
    have hwl1 := nxt hbx hb1001
    replace R_res := blk_on R_res hb1001; replace R_free := blk_free R_res
    by_cases hlt1 : k1 < a.keys.length
    · obtain ⟨pb, po, pbk, pes, rfl, phbl, phcl, phcell, pR, phbk⟩ := hel_a3 k1 hlt1
      obtain ⟨_, phes, psz⟩ := pR; subst phes
      have p_0 := (hwl1.cell (p := ⟨pb, _, none⟩) phbl).trans (phcell 0 _ rfl)
      simp only [Nat.add_zero, Nat.mul_one] at p_0
      clear phcell phcl
      have hq : (a.keys[k1].toList == nm.toList) = eqS a.keys[k1] nm := rfl
      cases h5 : eqS a.keys[k1] nm
      · have hn2 := hide (all_step (p := fun t => !eqS t nm) hlt1 (fun j h1 h2 => by rw [hn1_.out j h1 h2]; rfl) (by rw [h5]; rfl))
        have hn3 : Hid (∀ j (hj : j < a.keys.length), j < k1 + 1 → eqS a.keys[j] nm = false) := fun j h1 h2 => by have := hn2.out j h1 h2; simpa using this
        rw [h5] at hq; clear h5 hn2
        go_wp2_with fail
        go_roundw
        case rel => exact ⟨k1 + 1, hlt1, by go_num, hn3, hb1001⟩
        case measure => simp [intOf]; omega
      · have hix : Hid (keyIx a nm = (k1 : Int)) := by show _ = _; unfold keyIx; exact idxF_at (p := fun t => eqS t nm) hlt1 hn1_.out h5
        rw [h5] at hq; clear h5; have hki : k1 < a.items.length := by have := HKL.out; omega
        obtain ⟨gb, go, gbk, ges, rfl, ghbl, ghcl, ghcell, gR, ghbk⟩ := hel_a4 k1 hki
        have gR0 := gR
        obtain ⟨gv3, gb3, gv4, gb4, _, ghes, ghf, gr3, gr4⟩ := gR.open
        subst ghes
        obtain ⟨gA3, gc3, rfl, ghlc3, ghcm3, ghel3⟩ := gr3.use
        obtain ⟨gA4, gc4, rfl, ghlc4, ghcm4, ghel4⟩ := gr4.use
        have g_0 := (hwl1.cell (p := ⟨gb, _, none⟩) ghbl).trans (ghcell 0 _ rfl)
        have g_1 := (hwl1.cell (p := ⟨gb, _, none⟩) ghbl).trans (ghcell 1 _ rfl)
        have g_2 := (hwl1.cell (p := ⟨gb, _, none⟩) ghbl).trans (ghcell 2 _ rfl)
        have g_3 := (hwl1.cell (p := ⟨gb, _, none⟩) ghbl).trans (ghcell 3 _ rfl)
        have g_4 := (hwl1.cell (p := ⟨gb, _, none⟩) ghbl).trans (ghcell 4 _ rfl)
        simp only [Nat.add_zero] at g_0 g_1 g_2 g_3 g_4
        clear hel_a3 hel_a4
        go_wp2_with fail
        have fin : _ = some (Obj.cells #[.int .i64 a.items[k1].kind, .int .i64 a.items[k1].n, .string a.items[k1].t, .slice gA3 a.items[k1].keys.length gc3, .slice gA4 a.items[k1].items.length gc4] 30 (0, 0)) := (blk_set (blk_set (blk_set (blk_set (blk_set R_res 0 (.int .i64 a.items[k1].kind)) 1 (.int .i64 a.items[k1].n)) 2 (.string a.items[k1].t)) 3 (.slice gA3 a.items[k1].keys.length gc3)) 4 (.slice gA4 a.items[k1].items.length gc4))
        have fc := blk_cells fin
        have HU := ((((((Upd.refl [w.heap.size + 1] wl1).set (p := ⟨w.heap.size + 1, 0, none⟩) (by simp) rfl (.int .i64 a.items[k1].kind)).set (p := ⟨w.heap.size + 1, 1, none⟩) (by simp) rfl (.int .i64 a.items[k1].n)).set (p := ⟨w.heap.size + 1, 2, none⟩) (by simp) rfl (.string a.items[k1].t)).set (p := ⟨w.heap.size + 1, 3, none⟩) (by simp) rfl (.slice gA3 a.items[k1].keys.length gc3)).set (p := ⟨w.heap.size + 1, 4, none⟩) (by simp) rfl (.slice gA4 a.items[k1].items.length gc4))
        refine bodyPost_ret (v := .tuple #[.agg #[.int .i64 a.items[k1].kind, .int .i64 a.items[k1].n, .string a.items[k1].t, .slice gA3 a.items[k1].keys.length gc3, .slice gA4 a.items[k1].items.length gc4], .bool true]) (by simp [results, Try.results56, go_sem, fc]) rfl ?_
        exact Or.inl ⟨k1, hki, [.int .i64 a.items[k1].kind, .int .i64 a.items[k1].n, .string a.items[k1].t, .slice gA3 a.items[k1].keys.length gc3, .slice gA4 a.items[k1].items.length gc4], _, hix.out, rfl, gR0, (((((hwl1.setCell (p := ⟨w.heap.size + 1, 0, none⟩) (by simp) (.int .i64 a.items[k1].kind)).setCell (p := ⟨w.heap.size + 1, 1, none⟩) (by simp) (.int .i64 a.items[k1].n)).setCell (p := ⟨w.heap.size + 1, 2, none⟩) (by simp) (.string a.items[k1].t)).setCell (p := ⟨w.heap.size + 1, 3, none⟩) (by simp) (.slice gA3 a.items[k1].keys.length gc3)).setCell (p := ⟨w.heap.size + 1, 4, none⟩) (by simp) (.slice gA4 a.items[k1].items.length gc4))⟩
    · obtain rfl : k1 = a.keys.length := by omega
      have hix : Hid (keyIx a nm = -1) := by show _ = _; unfold keyIx; exact idxF_none (p := fun t => eqS t nm) hn1_.out
      clear hel_a3 hel_a4
      go_wp2_with fail
      have fin : _ = some (Obj.cells #[.int .i64 0, .int .i64 0, .string ⟨#[]⟩, .slice none 0 0, .slice none 0 0] 30 (0, 0)) := (blk_set (blk_set (blk_set (blk_set (blk_set R_res 0 (.int .i64 0)) 1 (.int .i64 0)) 2 (.string ⟨#[]⟩)) 3 (.slice none 0 0)) 4 (.slice none 0 0))
      have fc := blk_cells fin
      have HU := ((((((Upd.refl [w.heap.size + 1] wl1).set (p := ⟨w.heap.size + 1, 0, none⟩) (by simp) rfl (.int .i64 0)).set (p := ⟨w.heap.size + 1, 1, none⟩) (by simp) rfl (.int .i64 0)).set (p := ⟨w.heap.size + 1, 2, none⟩) (by simp) rfl (.string ⟨#[]⟩)).set (p := ⟨w.heap.size + 1, 3, none⟩) (by simp) rfl (.slice none 0 0)).set (p := ⟨w.heap.size + 1, 4, none⟩) (by simp) rfl (.slice none 0 0))
      refine bodyPost_ret (v := .tuple #[.agg #[.int .i64 0, .int .i64 0, .string ⟨#[]⟩, .slice none 0 0, .slice none 0 0], .bool false]) (by simp [results, Try.results56, go_sem, fc]) rfl ?_
      exact Or.inr ⟨hix.out, rfl, (((((hwl1.setCell (p := ⟨w.heap.size + 1, 0, none⟩) (by simp) (.int .i64 0)).setCell (p := ⟨w.heap.size + 1, 1, none⟩) (by simp) (.int .i64 0)).setCell (p := ⟨w.heap.size + 1, 2, none⟩) (by simp) (.string ⟨#[]⟩)).setCell (p := ⟨w.heap.size + 1, 3, none⟩) (by simp) (.slice none 0 0)).setCell (p := ⟨w.heap.size + 1, 4, none⟩) (by simp) (.slice none 0 0))⟩
theorem impl_isText {w : World} (s : ByteArray) (hs : s.size ≤ 9223372036854775807) :
    Calls Try.prog 58 #[.string s] w fun e w' => e = .returned (.bool (decide ((s.size : Int) ≤ 65536))) ∧ Below w.heap.size w w' := by
  go_enter Try.func58, Try.ntmps58
  go_wp2_with fail
  go_ret
  exact ⟨rfl, Below.refl _ _⟩
end Go.Proofs.Ythglchopajdmhaa
