/- FieldOf of both. No statement is proved here; no conditions. Written by a program (gen64.py). -/
import Derived.Test.YthglchopajdmhaaFieldJ
import Derived.Test.YthglchopajdmhaaOwnJ
import Derived.Test.YthglchopajdmhaaMarkJ
namespace Go.Proofs.Ythglchopajdmhaa
open Go.ChangeShapes Go.WideShapes Go.ChangeAt Go.RowKit Go.Deep
set_option maxRecDepth 100000
set_option linter.unusedVariables false
set_option linter.unusedSimpArgs false

def fieldAns (a : Json) (nm : ByteArray) : Json × Int :=
  cond (decide ((nm.size : Int) ≤ 65536)) (cond (okJ a) (cond (a.kind != 5) (zeroJ, 9) (if keyIx a nm < 0 then (zeroJ, 5) else (a.items.getD (keyIx a nm).toNat zeroJ, 0))) (zeroJ, 1)) (zeroJ, 2)
theorem good_keys {d : Nat} {a : Json} (h : goodJ d a = true) (h5 : a.kind = 5) : a.keys.length = a.items.length := by
  cases d with
  | zero => cases h
  | succ d =>
    have h1 := (good_parts h).1
    unfold partOK at h1
    rw [h5] at h1
    have h2 : ((a.n == 0) && (a.t.toList.isEmpty && (((a.keys.length : Int) == (a.items.length : Int)) && keysOK a.keys))) = true := h1
    simp only [Bool.and_eq_true, beq_iff_eq] at h2
    omega
theorem fieldAns_wt {a : Json} {n : Nat} (nm : ByteArray) (h : Json.bulk a ≤ n) : Json.bulk (fieldAns a nm).1 ≤ n ∨ (fieldAns a nm).1 = zeroJ := by
  unfold fieldAns
  cases decide ((nm.size : Int) ≤ 65536)
  · exact Or.inr rfl
  cases okJ a
  · exact Or.inr rfl
  cases a.kind != 5
  · show Json.bulk (if _ then _ else _ : Json × Int).1 ≤ n ∨ (if _ then _ else _ : Json × Int).1 = zeroJ
    split
    · exact Or.inr rfl
    · by_cases hl : (keyIx a nm).toNat < a.items.length
      · refine Or.inl ?_
        show Json.bulk (a.items.getD _ _) ≤ n
        simp only [List.getD, List.getElem?_eq_getElem hl, Option.getD_some]
        exact (Json.bulk_items h).2.2 _ hl
      · refine Or.inr ?_
        show a.items.getD _ _ = zeroJ
        simp [List.getD, hl]
  · exact Or.inr rfl
theorem fieldAns_wtV {a : Json} (h : Json.bulk a ≤ 1048576) (nm : ByteArray) : Json.wtV (fieldAns a nm).1 ≤ 8388608 := by
  rcases fieldAns_wt nm h with h | h
  · have := Json.wtV_le (fieldAns a nm).1; omega
  · rw [h]; show StringS.wt [] + JsonS.wt [] ≤ _; simp [StringS.wt, JsonS.wt]
set_option maxHeartbeats 8000000 in
theorem impl_FieldOf {w : World}  {bs_a : List Nat} {cs_a : List Value} {a : Json} (H_a : JsonR w bs_a cs_a a) (nm : ByteArray) (hs : nm.size ≤ 9223372036854775807) (hk : a.bulk ≤ 1048576) :
    Calls Try.prog 23 #[.agg cs_a.toArray, .string nm] w (OutP JsonR w (fieldAns a nm).1 (fieldAns a nm).2) := by
  have H0_a := H_a
  obtain ⟨a_v3, a_b3, a_v4, a_b4, rfl, rfl, hf_a, a_r3, a_r4⟩ := H_a.open
  obtain ⟨A_a3, c_a3, rfl, hlc_a3, hcm_a3, hel_a3⟩ := a_r3.use
  obtain ⟨A_a4, c_a4, rfl, hlc_a4, hcm_a4, hel_a4⟩ := a_r4.use
  have hbx := (((Below.refl w.heap.size w).alloc (Nat.le_refl _) (.cells #[.int .i64 a.kind, .int .i64 a.n, .string a.t, .slice A_a3 a.keys.length c_a3, .slice A_a4 a.items.length c_a4] 30)).alloc (by simp; try omega) (.cells #[.int .i64 0, .int .i64 0, .string ⟨#[]⟩, .slice none 0 0, .slice none 0 0] 30))
  obtain ⟨q_a, q_res⟩ := two_at (Below.refl ((w.alloc (.cells #[.int .i64 a.kind, .int .i64 a.n, .string a.t, .slice A_a3 a.keys.length c_a3, .slice A_a4 a.items.length c_a4] 30)).alloc (.cells #[.int .i64 0, .int .i64 0, .string ⟨#[]⟩, .slice none 0 0, .slice none 0 0] 30)).heap.size _)
  have R_res : World.heap ((w.alloc (.cells #[.int .i64 a.kind, .int .i64 a.n, .string a.t, .slice A_a3 a.keys.length c_a3, .slice A_a4 a.items.length c_a4] 30)).alloc (.cells #[.int .i64 0, .int .i64 0, .string ⟨#[]⟩, .slice none 0 0, .slice none 0 0] 30)) = World.heap ((w.alloc (.cells #[.int .i64 a.kind, .int .i64 a.n, .string a.t, .slice A_a3 a.keys.length c_a3, .slice A_a4 a.items.length c_a4] 30)).alloc (.cells #[.int .i64 0, .int .i64 0, .string ⟨#[]⟩, .slice none 0 0, .slice none 0 0] 30)) := rfl
  clear R_res
  have R_res : (World.heap ((w.alloc (.cells #[.int .i64 a.kind, .int .i64 a.n, .string a.t, .slice A_a3 a.keys.length c_a3, .slice A_a4 a.items.length c_a4] 30)).alloc (.cells #[.int .i64 0, .int .i64 0, .string ⟨#[]⟩, .slice none 0 0, .slice none 0 0] 30)))[w.heap.size + 1]? = some (.cells #[.int .i64 0, .int .i64 0, .string ⟨#[]⟩, .slice none 0 0, .slice none 0 0] 30 (0, 0)) := by simpa using blk_new ((w.alloc (.cells #[.int .i64 a.kind, .int .i64 a.n, .string a.t, .slice A_a3 a.keys.length c_a3, .slice A_a4 a.items.length c_a4] 30))) #[.int .i64 0, .int .i64 0, .string ⟨#[]⟩, .slice none 0 0, .slice none 0 0] 30
  have R_free := blk_free R_res
  have HK := hide (Json.bulk_items hk); clear hk hel_a3 hel_a4
  have hres := hide (lt_of_cells R_res)
  go_enter Try.func23, Try.ntmps23
  go_wp2_with fail
  refine (impl_isText nm hs).mono ?_; rintro e w1 ⟨rfl, hb1⟩; replace q_a := box_on q_a rfl hb1; replace q_res := box_on q_res rfl hb1; have hw1 := nxt hbx hb1; replace R_res := blk_on R_res hb1; replace R_free := blk_free R_res
  cases h1 : decide ((nm.size : Int) ≤ 65536)
  · have hs : Hid (fieldAns a nm = (zeroJ, 2)) := by show _ = _; unfold fieldAns; rw [h1]; rfl
    go_wp2_with fail
    have fin : _ = some (Obj.cells #[.int .i64 0, .int .i64 0, .string ⟨#[]⟩, .slice none 0 0, .slice none 0 0] 30 (0, 0)) := (blk_set (blk_set (blk_set (blk_set (blk_set R_res 0 (.int .i64 0)) 1 (.int .i64 0)) 2 (.string ⟨#[]⟩)) 3 (.slice none 0 0)) 4 (.slice none 0 0))
    have fc := blk_cells fin
    have HU := ((((((Upd.refl [w.heap.size + 1] w1).set (p := ⟨w.heap.size + 1, 0, none⟩) (by simp) rfl (.int .i64 0)).set (p := ⟨w.heap.size + 1, 1, none⟩) (by simp) rfl (.int .i64 0)).set (p := ⟨w.heap.size + 1, 2, none⟩) (by simp) rfl (.string ⟨#[]⟩)).set (p := ⟨w.heap.size + 1, 3, none⟩) (by simp) rfl (.slice none 0 0)).set (p := ⟨w.heap.size + 1, 4, none⟩) (by simp) rfl (.slice none 0 0))
    refine bodyPost_ret (v := .tuple #[.agg #[.int .i64 0, .int .i64 0, .string ⟨#[]⟩, .slice none 0 0, .slice none 0 0], .int .i64 2]) (by simp [results, Try.results23, go_sem, fc]) rfl ?_
    rw [hs.out]
    exact ⟨[.int .i64 0, .int .i64 0, .string ⟨#[]⟩, .slice none 0 0, .slice none 0 0], [], rfl, zeroJ_R, Fr.nil _ _, (((((hw1.setCell (p := ⟨w.heap.size + 1, 0, none⟩) (by simp) (.int .i64 0)).setCell (p := ⟨w.heap.size + 1, 1, none⟩) (by simp) (.int .i64 0)).setCell (p := ⟨w.heap.size + 1, 2, none⟩) (by simp) (.string ⟨#[]⟩)).setCell (p := ⟨w.heap.size + 1, 3, none⟩) (by simp) (.slice none 0 0)).setCell (p := ⟨w.heap.size + 1, 4, none⟩) (by simp) (.slice none 0 0))⟩
  have H1 := hide h1; clear h1
  go_wp2_with fail
  refine (impl_JsonOK (JsonR.good.nxt hw1 H0_a)).mono ?_; rintro e w2 ⟨rfl, hb2⟩; replace q_a := box_on q_a rfl hb2; replace q_res := box_on q_res rfl hb2; have hw2 := nxt hw1 hb2; replace R_res := blk_on R_res hb2; replace R_free := blk_free R_res
  cases h2 : okJ a
  · have hs : Hid (fieldAns a nm = (zeroJ, 1)) := by show _ = _; unfold fieldAns; rw [H1.out, h2]; rfl
    go_wp2_with fail
    have fin : _ = some (Obj.cells #[.int .i64 0, .int .i64 0, .string ⟨#[]⟩, .slice none 0 0, .slice none 0 0] 30 (0, 0)) := (blk_set (blk_set (blk_set (blk_set (blk_set R_res 0 (.int .i64 0)) 1 (.int .i64 0)) 2 (.string ⟨#[]⟩)) 3 (.slice none 0 0)) 4 (.slice none 0 0))
    have fc := blk_cells fin
    have HU := ((((((Upd.refl [w.heap.size + 1] w2).set (p := ⟨w.heap.size + 1, 0, none⟩) (by simp) rfl (.int .i64 0)).set (p := ⟨w.heap.size + 1, 1, none⟩) (by simp) rfl (.int .i64 0)).set (p := ⟨w.heap.size + 1, 2, none⟩) (by simp) rfl (.string ⟨#[]⟩)).set (p := ⟨w.heap.size + 1, 3, none⟩) (by simp) rfl (.slice none 0 0)).set (p := ⟨w.heap.size + 1, 4, none⟩) (by simp) rfl (.slice none 0 0))
    refine bodyPost_ret (v := .tuple #[.agg #[.int .i64 0, .int .i64 0, .string ⟨#[]⟩, .slice none 0 0, .slice none 0 0], .int .i64 1]) (by simp [results, Try.results23, go_sem, fc]) rfl ?_
    rw [hs.out]
    exact ⟨[.int .i64 0, .int .i64 0, .string ⟨#[]⟩, .slice none 0 0, .slice none 0 0], [], rfl, zeroJ_R, Fr.nil _ _, (((((hw2.setCell (p := ⟨w.heap.size + 1, 0, none⟩) (by simp) (.int .i64 0)).setCell (p := ⟨w.heap.size + 1, 1, none⟩) (by simp) (.int .i64 0)).setCell (p := ⟨w.heap.size + 1, 2, none⟩) (by simp) (.string ⟨#[]⟩)).setCell (p := ⟨w.heap.size + 1, 3, none⟩) (by simp) (.slice none 0 0)).setCell (p := ⟨w.heap.size + 1, 4, none⟩) (by simp) (.slice none 0 0))⟩
  have hg := hide (okJ_good h2).1; have H2 := hide h2; clear h2
  cases h3 : (a.kind != 5)
  · have h5 : a.kind = 5 := by simpa using h3
    have hkl := good_keys hg.out h5
    have H3 := hide h3
    have HC := hide (impl_field (JsonR.good.nxt hw2 H0_a) nm h5 hkl); clear h5 hkl
    go_wp2_with fail
    clear h3
    refine HC.out.mono ?_; rintro e w3 hpost; clear HC
    rcases hpost with ⟨k, hki, cs1, bs1, hix, rfl, jR, hb3⟩ | ⟨hix, rfl, hb3⟩
    · replace q_a := box_on q_a rfl hb3
      replace q_res := box_on q_res rfl hb3
      have hw3 := nxt hw2 hb3
      replace R_res := blk_on R_res hb3; replace R_free := blk_free R_res
      have hresn := hide (lt_of_cells R_res)
      have hitem := hide (JsonR.good.nxt hb3 jR)
      obtain ⟨jv3, jb3, jv4, jb4, _, rfl, _, jr3, jr4⟩ := jR.open; obtain ⟨jA3, jc3, rfl, _, _, _⟩ := jr3.use; obtain ⟨jA4, jc4, rfl, _, _, _⟩ := jr4.use; clear jr3 jr4
      have hs : Hid (fieldAns a nm = (a.items[k], 0)) := by show _ = _; unfold fieldAns; rw [H1.out, H2.out, H3.out, hix, Int.toNat_natCast]; simp only [cond_true, cond_false]; rw [if_neg (by omega)]; simp [List.getD, hki]
      have hgk := hide ((good_parts hg.out).2 k hki)
      replace q_a := box_on q_a rfl ((Below.refl (World.heap (w3)).size (w3)).alloc (Nat.le_refl _) (.cells #[.int .i64 a.items[k].kind, .int .i64 a.items[k].n, .string a.items[k].t, .slice jA3 a.items[k].keys.length jc3, .slice jA4 a.items[k].items.length jc4] 30))
      replace q_res := box_on q_res rfl ((Below.refl (World.heap (w3)).size (w3)).alloc (Nat.le_refl _) (.cells #[.int .i64 a.items[k].kind, .int .i64 a.items[k].n, .string a.items[k].t, .slice jA3 a.items[k].keys.length jc3, .slice jA4 a.items[k].items.length jc4] 30))
      replace R_res := blk_on R_res ((Below.refl (World.heap (w3)).size (w3)).alloc (Nat.le_refl _) (.cells #[.int .i64 a.items[k].kind, .int .i64 a.items[k].n, .string a.items[k].t, .slice jA3 a.items[k].keys.length jc3, .slice jA4 a.items[k].items.length jc4] 30)); replace R_free := blk_free R_res
      have q_o := blk_cells (blk_new (w3) #[.int .i64 a.items[k].kind, .int .i64 a.items[k].n, .string a.items[k].t, .slice jA3 a.items[k].keys.length jc3, .slice jA4 a.items[k].items.length jc4] 30)
      have hn1 := (hw3).alloc (hw3).size (.cells #[.int .i64 a.items[k].kind, .int .i64 a.items[k].n, .string a.items[k].t, .slice jA3 a.items[k].keys.length jc3, .slice jA4 a.items[k].items.length jc4] 30)
      go_wp2_with fail
      refine (impl_copyJson 11 (JsonR.good.nxt ((Below.refl (World.heap w3).size w3).alloc (Nat.le_refl _) (.cells #[.int .i64 a.items[k].kind, .int .i64 a.items[k].n, .string a.items[k].t, .slice jA3 a.items[k].keys.length jc3, .slice jA4 a.items[k].items.length jc4] 30)) hitem.out) hgk.out (HK.out.2.2 k hki)).mono ?_; rintro e w4 ⟨cs2, bs2, rfl, r2, f2, hb4⟩; replace q_a := box_on q_a rfl hb4; replace q_res := box_on q_res rfl hb4; replace q_o := box_on q_o rfl hb4; have hw4 := nxt hn1 hb4; replace R_res := blk_on R_res hb4; replace R_free := blk_free R_res
      have r20 := r2; obtain ⟨uv3, ub3, uv4, ub4, _, rfl, _, ur3, ur4⟩ := r2.open; obtain ⟨uA3, uc3, rfl, _, _, _⟩ := ur3.use; obtain ⟨uA4, uc4, rfl, _, _, _⟩ := ur4.use; clear r2 ur3 ur4
      go_wp2_with fail
      have fin : _ = some (Obj.cells #[.int .i64 a.items[k].kind, .int .i64 a.items[k].n, .string a.items[k].t, .slice uA3 a.items[k].keys.length uc3, .slice uA4 a.items[k].items.length uc4] 30 (0, 0)) := (blk_set (blk_set (blk_set (blk_set (blk_set R_res 0 (.int .i64 a.items[k].kind)) 1 (.int .i64 a.items[k].n)) 2 (.string a.items[k].t)) 3 (.slice uA3 a.items[k].keys.length uc3)) 4 (.slice uA4 a.items[k].items.length uc4))
      have fc := blk_cells fin
      have HU := ((((((Upd.refl [w.heap.size + 1] w4).set (p := ⟨w.heap.size + 1, 0, none⟩) (by simp) rfl (.int .i64 a.items[k].kind)).set (p := ⟨w.heap.size + 1, 1, none⟩) (by simp) rfl (.int .i64 a.items[k].n)).set (p := ⟨w.heap.size + 1, 2, none⟩) (by simp) rfl (.string a.items[k].t)).set (p := ⟨w.heap.size + 1, 3, none⟩) (by simp) rfl (.slice uA3 a.items[k].keys.length uc3)).set (p := ⟨w.heap.size + 1, 4, none⟩) (by simp) rfl (.slice uA4 a.items[k].items.length uc4))
      refine bodyPost_ret (v := .tuple #[.agg #[.int .i64 a.items[k].kind, .int .i64 a.items[k].n, .string a.items[k].t, .slice uA3 a.items[k].keys.length uc3, .slice uA4 a.items[k].items.length uc4], .int .i64 0]) (by simp [results, Try.results23, go_sem, fc]) rfl ?_
      rw [hs.out]
      have hn : ∀ b ∈ bs2, b ∉ [w.heap.size + 1] := fun b hb hm => by have h1 := (f2.2 b hb).1; have h2 := hresn.out; simp at hm h1 h2; omega
      exact ⟨[.int .i64 a.items[k].kind, .int .i64 a.items[k].n, .string a.items[k].t, .slice uA3 a.items[k].keys.length uc3, .slice uA4 a.items[k].items.length uc4], bs2, rfl, JsonR.good.upd r20 HU hn, (f2.upd HU).mono (by have h3 := hw3.size; simp; omega), (((((hw4.setCell (p := ⟨w.heap.size + 1, 0, none⟩) (by simp) (.int .i64 a.items[k].kind)).setCell (p := ⟨w.heap.size + 1, 1, none⟩) (by simp) (.int .i64 a.items[k].n)).setCell (p := ⟨w.heap.size + 1, 2, none⟩) (by simp) (.string a.items[k].t)).setCell (p := ⟨w.heap.size + 1, 3, none⟩) (by simp) (.slice uA3 a.items[k].keys.length uc3)).setCell (p := ⟨w.heap.size + 1, 4, none⟩) (by simp) (.slice uA4 a.items[k].items.length uc4))⟩
    · replace q_a := box_on q_a rfl hb3
      replace q_res := box_on q_res rfl hb3
      have hw3 := nxt hw2 hb3
      replace R_res := blk_on R_res hb3; replace R_free := blk_free R_res
      replace q_a := box_on q_a rfl ((Below.refl (World.heap (w3)).size (w3)).alloc (Nat.le_refl _) (.cells #[.int .i64 0, .int .i64 0, .string ⟨#[]⟩, .slice none 0 0, .slice none 0 0] 30))
      replace q_res := box_on q_res rfl ((Below.refl (World.heap (w3)).size (w3)).alloc (Nat.le_refl _) (.cells #[.int .i64 0, .int .i64 0, .string ⟨#[]⟩, .slice none 0 0, .slice none 0 0] 30))
      replace R_res := blk_on R_res ((Below.refl (World.heap (w3)).size (w3)).alloc (Nat.le_refl _) (.cells #[.int .i64 0, .int .i64 0, .string ⟨#[]⟩, .slice none 0 0, .slice none 0 0] 30)); replace R_free := blk_free R_res
      have q_o := blk_cells (blk_new (w3) #[.int .i64 0, .int .i64 0, .string ⟨#[]⟩, .slice none 0 0, .slice none 0 0] 30)
      have hn2 := (hw3).alloc (hw3).size (.cells #[.int .i64 0, .int .i64 0, .string ⟨#[]⟩, .slice none 0 0, .slice none 0 0] 30)
      have hs : Hid (fieldAns a nm = (zeroJ, 5)) := by show _ = _; unfold fieldAns; rw [H1.out, H2.out, H3.out, hix]; rfl
      go_wp2_with fail
      have fin : _ = some (Obj.cells #[.int .i64 0, .int .i64 0, .string ⟨#[]⟩, .slice none 0 0, .slice none 0 0] 30 (0, 0)) := (blk_set (blk_set (blk_set (blk_set (blk_set R_res 0 (.int .i64 0)) 1 (.int .i64 0)) 2 (.string ⟨#[]⟩)) 3 (.slice none 0 0)) 4 (.slice none 0 0))
      have fc := blk_cells fin
      have HU := ((((((Upd.refl [w.heap.size + 1] ((w3).alloc (.cells #[.int .i64 0, .int .i64 0, .string ⟨#[]⟩, .slice none 0 0, .slice none 0 0] 30))).set (p := ⟨w.heap.size + 1, 0, none⟩) (by simp) rfl (.int .i64 0)).set (p := ⟨w.heap.size + 1, 1, none⟩) (by simp) rfl (.int .i64 0)).set (p := ⟨w.heap.size + 1, 2, none⟩) (by simp) rfl (.string ⟨#[]⟩)).set (p := ⟨w.heap.size + 1, 3, none⟩) (by simp) rfl (.slice none 0 0)).set (p := ⟨w.heap.size + 1, 4, none⟩) (by simp) rfl (.slice none 0 0))
      refine bodyPost_ret (v := .tuple #[.agg #[.int .i64 0, .int .i64 0, .string ⟨#[]⟩, .slice none 0 0, .slice none 0 0], .int .i64 5]) (by simp [results, Try.results23, go_sem, fc]) rfl ?_
      rw [hs.out]
      exact ⟨[.int .i64 0, .int .i64 0, .string ⟨#[]⟩, .slice none 0 0, .slice none 0 0], [], rfl, zeroJ_R, Fr.nil _ _, (((((hn2.setCell (p := ⟨w.heap.size + 1, 0, none⟩) (by simp) (.int .i64 0)).setCell (p := ⟨w.heap.size + 1, 1, none⟩) (by simp) (.int .i64 0)).setCell (p := ⟨w.heap.size + 1, 2, none⟩) (by simp) (.string ⟨#[]⟩)).setCell (p := ⟨w.heap.size + 1, 3, none⟩) (by simp) (.slice none 0 0)).setCell (p := ⟨w.heap.size + 1, 4, none⟩) (by simp) (.slice none 0 0))⟩
  · have hs : Hid (fieldAns a nm = (zeroJ, 9)) := by show _ = _; unfold fieldAns; rw [H1.out, H2.out, h3]; rfl
    go_wp2_with fail
    have fin : _ = some (Obj.cells #[.int .i64 0, .int .i64 0, .string ⟨#[]⟩, .slice none 0 0, .slice none 0 0] 30 (0, 0)) := (blk_set (blk_set (blk_set (blk_set (blk_set R_res 0 (.int .i64 0)) 1 (.int .i64 0)) 2 (.string ⟨#[]⟩)) 3 (.slice none 0 0)) 4 (.slice none 0 0))
    have fc := blk_cells fin
    have HU := ((((((Upd.refl [w.heap.size + 1] w2).set (p := ⟨w.heap.size + 1, 0, none⟩) (by simp) rfl (.int .i64 0)).set (p := ⟨w.heap.size + 1, 1, none⟩) (by simp) rfl (.int .i64 0)).set (p := ⟨w.heap.size + 1, 2, none⟩) (by simp) rfl (.string ⟨#[]⟩)).set (p := ⟨w.heap.size + 1, 3, none⟩) (by simp) rfl (.slice none 0 0)).set (p := ⟨w.heap.size + 1, 4, none⟩) (by simp) rfl (.slice none 0 0))
    refine bodyPost_ret (v := .tuple #[.agg #[.int .i64 0, .int .i64 0, .string ⟨#[]⟩, .slice none 0 0, .slice none 0 0], .int .i64 9]) (by simp [results, Try.results23, go_sem, fc]) rfl ?_
    rw [hs.out]
    exact ⟨[.int .i64 0, .int .i64 0, .string ⟨#[]⟩, .slice none 0 0, .slice none 0 0], [], rfl, zeroJ_R, Fr.nil _ _, (((((hw2.setCell (p := ⟨w.heap.size + 1, 0, none⟩) (by simp) (.int .i64 0)).setCell (p := ⟨w.heap.size + 1, 1, none⟩) (by simp) (.int .i64 0)).setCell (p := ⟨w.heap.size + 1, 2, none⟩) (by simp) (.string ⟨#[]⟩)).setCell (p := ⟨w.heap.size + 1, 3, none⟩) (by simp) (.slice none 0 0)).setCell (p := ⟨w.heap.size + 1, 4, none⟩) (by simp) (.slice none 0 0))⟩
set_option maxHeartbeats 8000000 in
theorem spec_FieldOf {w : World}  {bs_a : List Nat} {cs_a : List Value} {a : Json} (H_a : JsonR w bs_a cs_a a) (nm : ByteArray) (hs : nm.size ≤ 9223372036854775807) (hk : a.bulk ≤ 1048576) :
    Calls Try.prog 22 #[.agg cs_a.toArray, .string nm] w (SeeP JsonR w (fieldAns a nm).1 (fieldAns a nm).2) := by
  have H0_a := H_a
  obtain ⟨a_v3, a_b3, a_v4, a_b4, rfl, rfl, hf_a, a_r3, a_r4⟩ := H_a.open
  obtain ⟨A_a3, c_a3, rfl, hlc_a3, hcm_a3, hel_a3⟩ := a_r3.use
  obtain ⟨A_a4, c_a4, rfl, hlc_a4, hcm_a4, hel_a4⟩ := a_r4.use
  have hbx := (((Below.refl w.heap.size w).alloc (Nat.le_refl _) (.cells #[.int .i64 a.kind, .int .i64 a.n, .string a.t, .slice A_a3 a.keys.length c_a3, .slice A_a4 a.items.length c_a4] 30)).alloc (by simp; try omega) (.cells #[.int .i64 0, .int .i64 0, .string ⟨#[]⟩, .slice none 0 0, .slice none 0 0] 30))
  obtain ⟨q_a, q_res⟩ := two_at (Below.refl ((w.alloc (.cells #[.int .i64 a.kind, .int .i64 a.n, .string a.t, .slice A_a3 a.keys.length c_a3, .slice A_a4 a.items.length c_a4] 30)).alloc (.cells #[.int .i64 0, .int .i64 0, .string ⟨#[]⟩, .slice none 0 0, .slice none 0 0] 30)).heap.size _)
  have R_res : World.heap ((w.alloc (.cells #[.int .i64 a.kind, .int .i64 a.n, .string a.t, .slice A_a3 a.keys.length c_a3, .slice A_a4 a.items.length c_a4] 30)).alloc (.cells #[.int .i64 0, .int .i64 0, .string ⟨#[]⟩, .slice none 0 0, .slice none 0 0] 30)) = World.heap ((w.alloc (.cells #[.int .i64 a.kind, .int .i64 a.n, .string a.t, .slice A_a3 a.keys.length c_a3, .slice A_a4 a.items.length c_a4] 30)).alloc (.cells #[.int .i64 0, .int .i64 0, .string ⟨#[]⟩, .slice none 0 0, .slice none 0 0] 30)) := rfl
  clear R_res
  have R_res : (World.heap ((w.alloc (.cells #[.int .i64 a.kind, .int .i64 a.n, .string a.t, .slice A_a3 a.keys.length c_a3, .slice A_a4 a.items.length c_a4] 30)).alloc (.cells #[.int .i64 0, .int .i64 0, .string ⟨#[]⟩, .slice none 0 0, .slice none 0 0] 30)))[w.heap.size + 1]? = some (.cells #[.int .i64 0, .int .i64 0, .string ⟨#[]⟩, .slice none 0 0, .slice none 0 0] 30 (0, 0)) := by simpa using blk_new ((w.alloc (.cells #[.int .i64 a.kind, .int .i64 a.n, .string a.t, .slice A_a3 a.keys.length c_a3, .slice A_a4 a.items.length c_a4] 30))) #[.int .i64 0, .int .i64 0, .string ⟨#[]⟩, .slice none 0 0, .slice none 0 0] 30
  have R_free := blk_free R_res
  have HK := hide (Json.bulk_items hk); clear hk hel_a3 hel_a4
  have hres := hide (lt_of_cells R_res)
  cases h1 : decide ((nm.size : Int) ≤ 65536)
  · have hp : (65536 : Int) < (nm.size : Int) := by have := of_decide_eq_false h1; omega
    have H1 := hide h1; clear h1
    go_enter Try.func22, Try.ntmps22
    have hs : Hid (fieldAns a nm = (zeroJ, 2)) := by show _ = _; unfold fieldAns; rw [H1.out]; rfl
    go_wp2_with fail
    have fc := blk_cells R_res
    refine bodyPost_ret (v := .tuple #[.agg #[.int .i64 0, .int .i64 0, .string ⟨#[]⟩, .slice none 0 0, .slice none 0 0], .int .i64 2]) (by simp [results, Try.results22, go_sem, fc]) rfl ?_
    rw [hs.out]
    exact ⟨[.int .i64 0, .int .i64 0, .string ⟨#[]⟩, .slice none 0 0, .slice none 0 0], [], rfl, zeroJ_R, hbx⟩
  have hp : ¬ (65536 : Int) < (nm.size : Int) := by have := of_decide_eq_true h1; omega
  have H1 := hide h1; clear h1
  go_enter Try.func22, Try.ntmps22
  go_wp2_with fail
  refine (spec_JsonOK (JsonR.good.nxt hbx H0_a)).mono ?_; rintro e w1 ⟨rfl, hb1⟩; replace q_a := box_on q_a rfl hb1; replace q_res := box_on q_res rfl hb1; have hw1 := nxt hbx hb1; replace R_res := blk_on R_res hb1; replace R_free := blk_free R_res
  cases h2 : okJ a
  · have hs : Hid (fieldAns a nm = (zeroJ, 1)) := by show _ = _; unfold fieldAns; rw [H1.out, h2]; rfl
    go_wp2_with fail
    have fin : _ = some (Obj.cells #[.int .i64 0, .int .i64 0, .string ⟨#[]⟩, .slice none 0 0, .slice none 0 0] 30 (0, 0)) := (blk_set (blk_set (blk_set (blk_set (blk_set R_res 0 (.int .i64 0)) 1 (.int .i64 0)) 2 (.string ⟨#[]⟩)) 3 (.slice none 0 0)) 4 (.slice none 0 0))
    have fc := blk_cells fin
    have HU := ((((((Upd.refl [w.heap.size + 1] w1).set (p := ⟨w.heap.size + 1, 0, none⟩) (by simp) rfl (.int .i64 0)).set (p := ⟨w.heap.size + 1, 1, none⟩) (by simp) rfl (.int .i64 0)).set (p := ⟨w.heap.size + 1, 2, none⟩) (by simp) rfl (.string ⟨#[]⟩)).set (p := ⟨w.heap.size + 1, 3, none⟩) (by simp) rfl (.slice none 0 0)).set (p := ⟨w.heap.size + 1, 4, none⟩) (by simp) rfl (.slice none 0 0))
    refine bodyPost_ret (v := .tuple #[.agg #[.int .i64 0, .int .i64 0, .string ⟨#[]⟩, .slice none 0 0, .slice none 0 0], .int .i64 1]) (by simp [results, Try.results22, go_sem, fc]) rfl ?_
    rw [hs.out]
    exact ⟨[.int .i64 0, .int .i64 0, .string ⟨#[]⟩, .slice none 0 0, .slice none 0 0], [], rfl, zeroJ_R, (((((hw1.setCell (p := ⟨w.heap.size + 1, 0, none⟩) (by simp) (.int .i64 0)).setCell (p := ⟨w.heap.size + 1, 1, none⟩) (by simp) (.int .i64 0)).setCell (p := ⟨w.heap.size + 1, 2, none⟩) (by simp) (.string ⟨#[]⟩)).setCell (p := ⟨w.heap.size + 1, 3, none⟩) (by simp) (.slice none 0 0)).setCell (p := ⟨w.heap.size + 1, 4, none⟩) (by simp) (.slice none 0 0))⟩
  have hg := hide (okJ_good h2).1; have H2 := hide h2; clear h2
  cases h3 : (a.kind != 5)
  · have h5 : a.kind = 5 := by simpa using h3
    have hkl := good_keys hg.out h5
    have H3 := hide h3
    have HC := hide (spec_l01Field (JsonR.good.nxt hw1 H0_a) nm hkl); clear h5 hkl
    go_wp2_with fail
    clear h3
    refine HC.out.mono ?_; rintro e w2 hpost; clear HC
    rcases hpost with ⟨k, hki, cs1, bs1, hix, rfl, jR, hb2⟩ | ⟨hix, rfl, hb2⟩
    · replace q_a := box_on q_a rfl hb2
      replace q_res := box_on q_res rfl hb2
      have hw2 := nxt hw1 hb2
      replace R_res := blk_on R_res hb2; replace R_free := blk_free R_res
      have hresn := hide (lt_of_cells R_res)
      have hitem := hide (JsonR.good.nxt hb2 jR)
      obtain ⟨jv3, jb3, jv4, jb4, _, rfl, _, jr3, jr4⟩ := jR.open; obtain ⟨jA3, jc3, rfl, _, _, _⟩ := jr3.use; obtain ⟨jA4, jc4, rfl, _, _, _⟩ := jr4.use; clear jr3 jr4
      have hs : Hid (fieldAns a nm = (a.items[k], 0)) := by show _ = _; unfold fieldAns; rw [H1.out, H2.out, H3.out, hix, Int.toNat_natCast]; simp only [cond_true, cond_false]; rw [if_neg (by omega)]; simp [List.getD, hki]
      have hgk := hide ((good_parts hg.out).2 k hki)
      replace q_a := box_on q_a rfl ((Below.refl (World.heap (w2)).size (w2)).alloc (Nat.le_refl _) (.cells #[.int .i64 a.items[k].kind, .int .i64 a.items[k].n, .string a.items[k].t, .slice jA3 a.items[k].keys.length jc3, .slice jA4 a.items[k].items.length jc4] 30))
      replace q_res := box_on q_res rfl ((Below.refl (World.heap (w2)).size (w2)).alloc (Nat.le_refl _) (.cells #[.int .i64 a.items[k].kind, .int .i64 a.items[k].n, .string a.items[k].t, .slice jA3 a.items[k].keys.length jc3, .slice jA4 a.items[k].items.length jc4] 30))
      replace R_res := blk_on R_res ((Below.refl (World.heap (w2)).size (w2)).alloc (Nat.le_refl _) (.cells #[.int .i64 a.items[k].kind, .int .i64 a.items[k].n, .string a.items[k].t, .slice jA3 a.items[k].keys.length jc3, .slice jA4 a.items[k].items.length jc4] 30)); replace R_free := blk_free R_res
      have q_o := blk_cells (blk_new (w2) #[.int .i64 a.items[k].kind, .int .i64 a.items[k].n, .string a.items[k].t, .slice jA3 a.items[k].keys.length jc3, .slice jA4 a.items[k].items.length jc4] 30)
      have hn1 := (hw2).alloc (hw2).size (.cells #[.int .i64 a.items[k].kind, .int .i64 a.items[k].n, .string a.items[k].t, .slice jA3 a.items[k].keys.length jc3, .slice jA4 a.items[k].items.length jc4] 30)
      go_wp2_with fail
      refine (spec_l01Own 11 (JsonR.good.nxt ((Below.refl (World.heap w2).size w2).alloc (Nat.le_refl _) (.cells #[.int .i64 a.items[k].kind, .int .i64 a.items[k].n, .string a.items[k].t, .slice jA3 a.items[k].keys.length jc3, .slice jA4 a.items[k].items.length jc4] 30)) hitem.out) hgk.out (HK.out.2.2 k hki)).mono ?_; rintro e w3 ⟨cs2, bs2, rfl, r2, f2, hb3⟩; replace q_a := box_on q_a rfl hb3; replace q_res := box_on q_res rfl hb3; replace q_o := box_on q_o rfl hb3; have hw3 := nxt hn1 hb3; replace R_res := blk_on R_res hb3; replace R_free := blk_free R_res
      have r20 := r2; obtain ⟨uv3, ub3, uv4, ub4, _, rfl, _, ur3, ur4⟩ := r2.open; obtain ⟨uA3, uc3, rfl, _, _, _⟩ := ur3.use; obtain ⟨uA4, uc4, rfl, _, _, _⟩ := ur4.use; clear r2 ur3 ur4
      go_wp2_with fail
      have fin : _ = some (Obj.cells #[.int .i64 a.items[k].kind, .int .i64 a.items[k].n, .string a.items[k].t, .slice uA3 a.items[k].keys.length uc3, .slice uA4 a.items[k].items.length uc4] 30 (0, 0)) := (blk_set (blk_set (blk_set (blk_set (blk_set R_res 0 (.int .i64 a.items[k].kind)) 1 (.int .i64 a.items[k].n)) 2 (.string a.items[k].t)) 3 (.slice uA3 a.items[k].keys.length uc3)) 4 (.slice uA4 a.items[k].items.length uc4))
      have fc := blk_cells fin
      have HU := ((((((Upd.refl [w.heap.size + 1] w3).set (p := ⟨w.heap.size + 1, 0, none⟩) (by simp) rfl (.int .i64 a.items[k].kind)).set (p := ⟨w.heap.size + 1, 1, none⟩) (by simp) rfl (.int .i64 a.items[k].n)).set (p := ⟨w.heap.size + 1, 2, none⟩) (by simp) rfl (.string a.items[k].t)).set (p := ⟨w.heap.size + 1, 3, none⟩) (by simp) rfl (.slice uA3 a.items[k].keys.length uc3)).set (p := ⟨w.heap.size + 1, 4, none⟩) (by simp) rfl (.slice uA4 a.items[k].items.length uc4))
      refine bodyPost_ret (v := .tuple #[.agg #[.int .i64 a.items[k].kind, .int .i64 a.items[k].n, .string a.items[k].t, .slice uA3 a.items[k].keys.length uc3, .slice uA4 a.items[k].items.length uc4], .int .i64 0]) (by simp [results, Try.results22, go_sem, fc]) rfl ?_
      rw [hs.out]
      have hn : ∀ b ∈ bs2, b ∉ [w.heap.size + 1] := fun b hb hm => by have h1 := (f2.2 b hb).1; have h2 := hresn.out; simp at hm h1 h2; omega
      exact ⟨[.int .i64 a.items[k].kind, .int .i64 a.items[k].n, .string a.items[k].t, .slice uA3 a.items[k].keys.length uc3, .slice uA4 a.items[k].items.length uc4], bs2, rfl, JsonR.good.upd r20 HU hn, (((((hw3.setCell (p := ⟨w.heap.size + 1, 0, none⟩) (by simp) (.int .i64 a.items[k].kind)).setCell (p := ⟨w.heap.size + 1, 1, none⟩) (by simp) (.int .i64 a.items[k].n)).setCell (p := ⟨w.heap.size + 1, 2, none⟩) (by simp) (.string a.items[k].t)).setCell (p := ⟨w.heap.size + 1, 3, none⟩) (by simp) (.slice uA3 a.items[k].keys.length uc3)).setCell (p := ⟨w.heap.size + 1, 4, none⟩) (by simp) (.slice uA4 a.items[k].items.length uc4))⟩
    · replace q_a := box_on q_a rfl hb2
      replace q_res := box_on q_res rfl hb2
      have hw2 := nxt hw1 hb2
      replace R_res := blk_on R_res hb2; replace R_free := blk_free R_res
      replace q_a := box_on q_a rfl ((Below.refl (World.heap (w2)).size (w2)).alloc (Nat.le_refl _) (.cells #[.int .i64 0, .int .i64 0, .string ⟨#[]⟩, .slice none 0 0, .slice none 0 0] 30))
      replace q_res := box_on q_res rfl ((Below.refl (World.heap (w2)).size (w2)).alloc (Nat.le_refl _) (.cells #[.int .i64 0, .int .i64 0, .string ⟨#[]⟩, .slice none 0 0, .slice none 0 0] 30))
      replace R_res := blk_on R_res ((Below.refl (World.heap (w2)).size (w2)).alloc (Nat.le_refl _) (.cells #[.int .i64 0, .int .i64 0, .string ⟨#[]⟩, .slice none 0 0, .slice none 0 0] 30)); replace R_free := blk_free R_res
      have q_o := blk_cells (blk_new (w2) #[.int .i64 0, .int .i64 0, .string ⟨#[]⟩, .slice none 0 0, .slice none 0 0] 30)
      have hn2 := (hw2).alloc (hw2).size (.cells #[.int .i64 0, .int .i64 0, .string ⟨#[]⟩, .slice none 0 0, .slice none 0 0] 30)
      have hs : Hid (fieldAns a nm = (zeroJ, 5)) := by show _ = _; unfold fieldAns; rw [H1.out, H2.out, H3.out, hix]; rfl
      go_wp2_with fail
      have fin : _ = some (Obj.cells #[.int .i64 0, .int .i64 0, .string ⟨#[]⟩, .slice none 0 0, .slice none 0 0] 30 (0, 0)) := (blk_set (blk_set (blk_set (blk_set (blk_set R_res 0 (.int .i64 0)) 1 (.int .i64 0)) 2 (.string ⟨#[]⟩)) 3 (.slice none 0 0)) 4 (.slice none 0 0))
      have fc := blk_cells fin
      have HU := ((((((Upd.refl [w.heap.size + 1] ((w2).alloc (.cells #[.int .i64 0, .int .i64 0, .string ⟨#[]⟩, .slice none 0 0, .slice none 0 0] 30))).set (p := ⟨w.heap.size + 1, 0, none⟩) (by simp) rfl (.int .i64 0)).set (p := ⟨w.heap.size + 1, 1, none⟩) (by simp) rfl (.int .i64 0)).set (p := ⟨w.heap.size + 1, 2, none⟩) (by simp) rfl (.string ⟨#[]⟩)).set (p := ⟨w.heap.size + 1, 3, none⟩) (by simp) rfl (.slice none 0 0)).set (p := ⟨w.heap.size + 1, 4, none⟩) (by simp) rfl (.slice none 0 0))
      refine bodyPost_ret (v := .tuple #[.agg #[.int .i64 0, .int .i64 0, .string ⟨#[]⟩, .slice none 0 0, .slice none 0 0], .int .i64 5]) (by simp [results, Try.results22, go_sem, fc]) rfl ?_
      rw [hs.out]
      exact ⟨[.int .i64 0, .int .i64 0, .string ⟨#[]⟩, .slice none 0 0, .slice none 0 0], [], rfl, zeroJ_R, (((((hn2.setCell (p := ⟨w.heap.size + 1, 0, none⟩) (by simp) (.int .i64 0)).setCell (p := ⟨w.heap.size + 1, 1, none⟩) (by simp) (.int .i64 0)).setCell (p := ⟨w.heap.size + 1, 2, none⟩) (by simp) (.string ⟨#[]⟩)).setCell (p := ⟨w.heap.size + 1, 3, none⟩) (by simp) (.slice none 0 0)).setCell (p := ⟨w.heap.size + 1, 4, none⟩) (by simp) (.slice none 0 0))⟩
  · have hs : Hid (fieldAns a nm = (zeroJ, 9)) := by show _ = _; unfold fieldAns; rw [H1.out, H2.out, h3]; rfl
    go_wp2_with fail
    have fin : _ = some (Obj.cells #[.int .i64 0, .int .i64 0, .string ⟨#[]⟩, .slice none 0 0, .slice none 0 0] 30 (0, 0)) := (blk_set (blk_set (blk_set (blk_set (blk_set R_res 0 (.int .i64 0)) 1 (.int .i64 0)) 2 (.string ⟨#[]⟩)) 3 (.slice none 0 0)) 4 (.slice none 0 0))
    have fc := blk_cells fin
    have HU := ((((((Upd.refl [w.heap.size + 1] w1).set (p := ⟨w.heap.size + 1, 0, none⟩) (by simp) rfl (.int .i64 0)).set (p := ⟨w.heap.size + 1, 1, none⟩) (by simp) rfl (.int .i64 0)).set (p := ⟨w.heap.size + 1, 2, none⟩) (by simp) rfl (.string ⟨#[]⟩)).set (p := ⟨w.heap.size + 1, 3, none⟩) (by simp) rfl (.slice none 0 0)).set (p := ⟨w.heap.size + 1, 4, none⟩) (by simp) rfl (.slice none 0 0))
    refine bodyPost_ret (v := .tuple #[.agg #[.int .i64 0, .int .i64 0, .string ⟨#[]⟩, .slice none 0 0, .slice none 0 0], .int .i64 9]) (by simp [results, Try.results22, go_sem, fc]) rfl ?_
    rw [hs.out]
    exact ⟨[.int .i64 0, .int .i64 0, .string ⟨#[]⟩, .slice none 0 0, .slice none 0 0], [], rfl, zeroJ_R, (((((hw1.setCell (p := ⟨w.heap.size + 1, 0, none⟩) (by simp) (.int .i64 0)).setCell (p := ⟨w.heap.size + 1, 1, none⟩) (by simp) (.int .i64 0)).setCell (p := ⟨w.heap.size + 1, 2, none⟩) (by simp) (.string ⟨#[]⟩)).setCell (p := ⟨w.heap.size + 1, 3, none⟩) (by simp) (.slice none 0 0)).setCell (p := ⟨w.heap.size + 1, 4, none⟩) (by simp) (.slice none 0 0))⟩
end Go.Proofs.Ythglchopajdmhaa
