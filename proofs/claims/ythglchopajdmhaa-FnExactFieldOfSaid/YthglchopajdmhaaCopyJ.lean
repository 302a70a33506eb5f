/- Copies of values. No statement is proved here; no conditions. Written by a program (gen60.py). -/
import Derived.Test.YthglchopajdmhaaJsonN
import Derived.Test.YthglchopajdmhaaCopy
import Derived.Test.YthglchopajdmhaaClone
namespace Go.Proofs.Ythglchopajdmhaa
open Go.ChangeShapes Go.WideShapes Go.ChangeAt Go.RowKit Go.Deep
set_option maxRecDepth 100000
set_option linter.unusedVariables false
set_option linter.unusedSimpArgs false

theorem StrR.one : ∀ (w : World) bk cs (y : ByteArray), StrR w bk cs y → ∀ u ∈ cs, u.oneCell' = true := by
  rintro w bk cs y ⟨rfl, rfl, _⟩ u hu
  simp at hu
  subst hu; rfl
theorem StrR.flat : ∀ (w : World) bk cs (y : ByteArray), StrR w bk cs y → bk = [] := fun _ _ _ _ h => h.1
theorem Json.bulk_items {a : Json} {n : Nat} (h : a.bulk ≤ n) : a.keys.length ≤ n ∧ a.items.length ≤ n ∧ ∀ k (hk : k < a.items.length), a.items[k].bulk ≤ n := by
  rw [Json.bulk_eq] at h
  have h1 : a.items.length ≤ JsonS.bulk a.items := bulkL_len _ _
  have h2 : a.keys.length ≤ StringS.bulk a.keys := bulkL_len _ _
  exact ⟨by omega, by omega, fun k hk => by have := bulkL_at Json.bulk hk (n := JsonS.bulk a.items) (Nat.le_refl _); omega⟩
abbrev CJ (F : FuncId) (d : Nat) : Prop := ∀ {w : World} {bs : List Nat} {cs : List Value} {a : Json} (H : JsonR w bs cs a) (hg : goodJ d a = true) (hk : a.bulk ≤ 1048576), Calls Try.prog F #[.agg cs.toArray] w (ToP JsonR w a)
theorem slices_CloneS {w : World} {bs : List Nat} {v : Value} {xs : List ByteArray} (h : StringSR w bs [v] xs) (hn : xs.length ≤ 1048576) :
    Calls Try.prog 99 #[v] w (ToS StringSR w xs) := by
  have h0 := h
  obtain ⟨A, c, rfl, hlc, hcm, hel⟩ := h.use
  clear hel
  rcases A with _ | ⟨b, o, sp⟩
  · obtain ⟨rfl, _⟩ := h0.none_nil
    have hnil : ∀ W, (binOp .eql 22 (.slice none 0 c) (.slice none 0 0)).run Try.prog W = .ok (.bool true) W := fun W => Lib.run_eql_slice_nil (P := Try.prog) W 22 9 none 0 c 0 0 Try.underlying22
    go_enter Try.func99, Try.ntmps99
    go_wp2
    go_ret
    exact ⟨_, [], rfl, ⟨none, 0, rfl, Nat.le_refl _, by simp [maxLen], .inl ⟨rfl, rfl⟩⟩, Fr.nil _ _, Below.refl _ _⟩
  by_cases hsp : sp = none
  · subst hsp
    have hnil : ∀ W, (binOp .eql 22 (.slice (some ⟨b, o, none⟩) xs.length c) (.slice none 0 0)).run Try.prog W = .ok (.bool false) W := fun W => Lib.run_eql_slice_nil (P := Try.prog) W 22 9 (some ⟨b, o, none⟩) xs.length c 0 0 Try.underlying22
    obtain ⟨i, hi, hz, hs, hby⟩ := info_parts StringS.info
    have hB := (Below.refl w.heap.size w).alloc (Nat.le_refl _) (.cells #[] 9)
    have hG := hide (Gr.made (size := 1) (R := StrR) (e := 9) (lo := w.heap.size) w #[] 0 (Nat.le_refl _) (by simp [maxLen]) (by simp))
    have hS := hide (StringSR.good.nxt hB h0)
    have hlt := hide (StringSR.good.lt h0)
    have HN := hide hn
    clear hlc hcm h h0 hn
    go_enter Try.func99, Try.ntmps99
    go_wp2_with (at_builtin; refine wpList_append_grs StrR.good rfl _ _ 22 rfl Try.underlying22 hi hz hs hby rfl (by decide) rfl hG.out hS.out rfl StrR.one (fun b' hb' hv => by have h1 := hlt.out b' hb'; have h9 : w.heap.size = b' := (by injection hv); omega) (by have := HN.out; have h00 : ([] : List ByteArray).length = 0 := rfl; omega) (by have := HN.out; have h00 : ([] : List ByteArray).length = 0 := rfl; omega) (by simp) ?_; intro v' w' bss2 hg' hsub hB' hold hsz hv')
    go_ret
    obtain ⟨bs', q1, q2, q3⟩ := hg'.done
    have h9 := hg'.bss_nil StrR.flat
    exact ⟨_, bs', rfl, q1, q2 (by rw [h9]; exact Fr.nil _ _), hB' _ _ hB (Nat.le_refl _)⟩
  · have hx0 : xs = [] := by
      by_cases hx : xs = []
      · exact hx
      · obtain ⟨A', c', hv, _, _, h3⟩ := h0
        rcases h3 with ⟨h3, _⟩ | ⟨b', o', bss, hA, _⟩
        · exact h3
        · simp at hv; rw [← hv.1] at hA; simp at hA; exact absurd hA.2.2 hsp
    subst hx0
    have hnil : ∀ W, (binOp .eql 22 (.slice (some ⟨b, o, sp⟩) 0 c) (.slice none 0 0)).run Try.prog W = .ok (.bool false) W := fun W => Lib.run_eql_slice_nil (P := Try.prog) W 22 9 (some ⟨b, o, sp⟩) 0 c 0 0 Try.underlying22
    obtain ⟨i, hi, hz, hs, hby⟩ := info_parts StringS.info
    have hB := (Below.refl w.heap.size w).alloc (Nat.le_refl _) (.cells #[] 9)
    have hown := hide (World.ownsRow_made (base := w.heap.size) (e := 9) (size := 1) w #[] 0 (Nat.le_refl _) (by simp [maxLen]) (by simp))
    clear hlc hcm h h0 hn
    go_enter Try.func99, Try.ntmps99
    go_wp2_with (at_builtin; refine wpList_append_own_at _ rfl _ _ 22 rfl w.heap.size 9 i _ 1 16 Try.underlying22 hi hz hs hby rfl (by decide) (.slice (some ⟨w.heap.size, 0, none⟩) 0 0) 0 [] rfl hown.out ⟨b, o, sp⟩ 0 c [] rfl rfl (fun j u hu => by simp at hu) (fun u hu => by simp at hu) (by simp [maxLen]) (by omega) (by simp) ?_; intro v' w' h2 h3 h4 h5)
    go_ret
    have hG : Gr 1 StrR 9 w.heap.size w' v' [] [] := ⟨[], rfl, rfl, by simpa using h2, (fun _ _ => by simp), (fun k x cs bk h => by simp at h)⟩
    obtain ⟨bs', q1, q2, q3⟩ := hG.done
    exact ⟨_, bs', rfl, q1, q2 (Fr.nil _ _), hB.grown h3 (by simp) (fun k hk => by have h9 : w.heap.size = k := (by injection hk); omega)⟩
set_option maxHeartbeats 2000000 in
theorem slices_IndexS {w : World}  {bs_l : List Nat} {v_l : Value} {l : List ByteArray} (H_l : StringSR w bs_l [v_l] l) (s : ByteArray)  :
    Calls Try.prog 98 #[v_l, .string s] w (fun e w' => e = .returned (.int .i64 (idxF (fun t => eqS t s) l)) ∧ Below w.heap.size w w') := by
  have H0_l := H_l
  obtain ⟨A_l, c_l, rfl, hlc_l, hcm_l, hel_l⟩ := H_l.use
  go_enter Try.func98, Try.ntmps98
  go_wp2_with fail
  go_loopw [8] (fun i wr => ∃ k : Nat, k ≤ l.length ∧ i = .int .i64 k ∧ Hid (∀ j (hj : j < l.length), j < k → eqS l[j] s = false) ∧ Below (World.heap (w)).size (w) wr) (fun i _ => l.length - (intOf i).toNat)
  case atStart => exact ⟨0, Nat.zero_le _, rfl, fun _ _ h => absurd h (Nat.not_lt_zero _), Below.refl _ _⟩
  case round =>
    obtain ⟨k1, hk1, rfl, hn1_, hb1001⟩ := hrel
    obtain ⟨wl1, rfl⟩ : ∃ w' : World, w' = wr := ⟨_, rfl⟩
    have hwl1 := nxt (Below.refl w.heap.size w) hb1001
    by_cases hlt1 : k1 < l.length
    · obtain ⟨pb, po, pbk, pes, rfl, phbl, phcl, phcell, pR, phbk⟩ := hel_l k1 hlt1
      obtain ⟨_, phes, psz⟩ := pR; subst phes
      have p_0 := (hwl1.cell (p := ⟨pb, _, none⟩) phbl).trans (phcell 0 _ rfl)
      simp only [Nat.add_zero, Nat.mul_one] at p_0
      clear phcell phcl
      clear hel_l
      have hq : (s.toList == l[k1].toList) = eqS l[k1] s := by unfold eqS; rw [Bool.eq_iff_iff, beq_iff_eq, beq_iff_eq]; exact eq_comm
      cases h5 : eqS l[k1] s
      · have hn2 := hide (all_step (p := fun t => !eqS t s) hlt1 (fun j h1 h2 => by rw [hn1_.out j h1 h2]; rfl) (by rw [h5]; rfl))
        have hn3 : Hid (∀ j (hj : j < l.length), j < k1 + 1 → eqS l[j] s = false) := fun j h1 h2 => by have := hn2.out j h1 h2; simpa using this
        rw [h5] at hq; clear h5 hn2
        go_wp2_with fail
        go_roundw
        case rel => exact ⟨k1 + 1, hlt1, by go_num, hn3, hb1001⟩
        case measure => simp [intOf]; omega
      · have hr := hide (idxF_at (p := fun t => eqS t s) hlt1 hn1_.out h5)
        rw [h5] at hq; clear h5
        go_wp2_with fail
        go_ret
        exact ⟨by rw [hr.out]; rfl, hwl1⟩
    · obtain rfl : k1 = l.length := by omega
      have hr := hide (idxF_none (p := fun t => eqS t s) hn1_.out); clear hel_l
      go_wp2
      go_ret
      exact ⟨by rw [hr.out]; rfl, hwl1⟩
set_option maxHeartbeats 8000000 in
theorem copyJson_step {w : World} {d : Nat} (IH : CJ 60 d) {bs_a : List Nat} {cs_a : List Value} {a : Json} (H_a : JsonR w bs_a cs_a a) (hg : goodJ (d + 1) a = true) (hk : a.bulk ≤ 1048576) :
    Calls Try.prog 60 #[.agg cs_a.toArray] w (ToP JsonR w a) := by
  have H0_a := H_a
  obtain ⟨a_v3, a_b3, a_v4, a_b4, rfl, rfl, hf_a, a_r3, a_r4⟩ := H_a.open
  obtain ⟨A_a3, c_a3, rfl, hlc_a3, hcm_a3, hel_a3⟩ := a_r3.use
  obtain ⟨A_a4, c_a4, rfl, hlc_a4, hcm_a4, hel_a4⟩ := a_r4.use
  have hbx := (((Below.refl w.heap.size w).alloc (Nat.le_refl _) (.cells #[.int .i64 a.kind, .int .i64 a.n, .string a.t, .slice A_a3 a.keys.length c_a3, .slice A_a4 a.items.length c_a4] 30)).alloc (by simp; try omega) (.cells #[.int .i64 0, .int .i64 0, .string ⟨#[]⟩, .slice none 0 0, .slice none 0 0] 30))
  obtain ⟨q_a, q_res⟩ := two_at (Below.refl ((w.alloc (.cells #[.int .i64 a.kind, .int .i64 a.n, .string a.t, .slice A_a3 a.keys.length c_a3, .slice A_a4 a.items.length c_a4] 30)).alloc (.cells #[.int .i64 0, .int .i64 0, .string ⟨#[]⟩, .slice none 0 0, .slice none 0 0] 30)).heap.size _)
  have R_res : World.heap ((w.alloc (.cells #[.int .i64 a.kind, .int .i64 a.n, .string a.t, .slice A_a3 a.keys.length c_a3, .slice A_a4 a.items.length c_a4] 30)).alloc (.cells #[.int .i64 0, .int .i64 0, .string ⟨#[]⟩, .slice none 0 0, .slice none 0 0] 30)) = World.heap ((w.alloc (.cells #[.int .i64 a.kind, .int .i64 a.n, .string a.t, .slice A_a3 a.keys.length c_a3, .slice A_a4 a.items.length c_a4] 30)).alloc (.cells #[.int .i64 0, .int .i64 0, .string ⟨#[]⟩, .slice none 0 0, .slice none 0 0] 30)) := rfl
  clear R_res
  have R_res : (World.heap ((w.alloc (.cells #[.int .i64 a.kind, .int .i64 a.n, .string a.t, .slice A_a3 a.keys.length c_a3, .slice A_a4 a.items.length c_a4] 30)).alloc (.cells #[.int .i64 0, .int .i64 0, .string ⟨#[]⟩, .slice none 0 0, .slice none 0 0] 30)))[w.heap.size + 1]? = some (.cells #[.int .i64 0, .int .i64 0, .string ⟨#[]⟩, .slice none 0 0, .slice none 0 0] 30 (0, 0)) := by simpa using blk_new ((w.alloc (.cells #[.int .i64 a.kind, .int .i64 a.n, .string a.t, .slice A_a3 a.keys.length c_a3, .slice A_a4 a.items.length c_a4] 30))) #[.int .i64 0, .int .i64 0, .string ⟨#[]⟩, .slice none 0 0, .slice none 0 0] 30
  have R_free := blk_free R_res
  have R_a : (World.heap ((w.alloc (.cells #[.int .i64 a.kind, .int .i64 a.n, .string a.t, .slice A_a3 a.keys.length c_a3, .slice A_a4 a.items.length c_a4] 30)).alloc (.cells #[.int .i64 0, .int .i64 0, .string ⟨#[]⟩, .slice none 0 0, .slice none 0 0] 30)))[w.heap.size]? = some (.cells #[.int .i64 a.kind, .int .i64 a.n, .string a.t, .slice A_a3 a.keys.length c_a3, .slice A_a4 a.items.length c_a4] 30 (0, 0)) := by simpa using blk_old (blk_new w #[.int .i64 a.kind, .int .i64 a.n, .string a.t, .slice A_a3 a.keys.length c_a3, .slice A_a4 a.items.length c_a4] 30) (.cells #[.int .i64 0, .int .i64 0, .string ⟨#[]⟩, .slice none 0 0, .slice none 0 0] 30)
  have R_free_a := blk_free R_a
  have HK := hide (Json.bulk_items hk); have hgp := hide (good_parts hg).2; clear hk hg hel_a3
  go_enter Try.func60, Try.ntmps60
  go_wp2_with fail
  refine (slices_CloneS (StringSR.good.nxt hbx a_r3) HK.out.1).mono ?_; rintro e w1 ⟨v2, bs2, rfl, r2, f2, hb1⟩; replace q_a := box_on q_a rfl hb1; replace q_res := box_on q_res rfl hb1; have hw1 := nxt hbx hb1; replace R_res := blk_on R_res hb1; replace R_free := blk_free R_res; replace R_a := blk_on R_a hb1; replace R_free_a := blk_free R_a
  have r20 := r2; obtain ⟨A2, c2, rfl, _, _, _⟩ := r2.use; clear r2
  have hf2 : ∀ b ∈ bs2, b ∉ [w.heap.size] := fun b hb hm => by have := (f2.2 b hb).1; simp at this hm; omega
  have f2l := f2.lt
  have hU1 : Upd [w.heap.size] w1 (w1.setCell ⟨w.heap.size, 3, none⟩ (.slice A2 a.keys.length c2)) := (Upd.refl _ _).set (p := ⟨w.heap.size, 3, none⟩) (by simp) rfl _
  replace r20 := StringSR.good.upd r20 hU1 hf2; replace f2 := f2.upd hU1
  have RB : (World.heap (w1.setCell ⟨w.heap.size, 3, none⟩ (.slice A2 a.keys.length c2)))[w.heap.size]? = some (.cells #[.int .i64 a.kind, .int .i64 a.n, .string a.t, .slice A2 a.keys.length c2, .slice A_a4 a.items.length c_a4] 30 (0, 0)) := blk_set R_a 3 (.slice A2 a.keys.length c2)
  have RR := (blk_far (g := w.heap.size + 1) (w := w1) (p := ⟨w.heap.size, 3, none⟩) (by simp) (.slice A2 a.keys.length c2)).trans R_res
  have R_free1 := R_free; have hwS := hw1.setCell (p := ⟨w.heap.size, 3, none⟩) (by simp) (.slice A2 a.keys.length c2); have hws1 := lt_of_cells R_res
  have q_aS := blk_cells RB; have q_rS := blk_cells RR; have R_fS := blk_free RB; have q_aT := box_on q_aS rfl ((Below.refl (World.heap (w1.setCell ⟨w.heap.size, 3, none⟩ (.slice A2 a.keys.length c2))).size (w1.setCell ⟨w.heap.size, 3, none⟩ (.slice A2 a.keys.length c2))).alloc (Nat.le_refl _) (.cells #[] 30))
  go_wp2_with fail
  clear q_aS q_rS R_fS q_aT
  replace R_a := RB; replace R_res := RR; replace R_free_a := blk_free R_a; replace R_free := blk_free R_res; replace q_a := blk_cells R_a; replace q_res := blk_cells R_res
  have hG1 := hide (Own.made' (size := 5) (R := JsonR) (e := 30) (w := (w1.setCell ⟨w.heap.size, 3, none⟩ (.slice A2 a.keys.length c2))) (n := w1.heap.size) (by simp))
  obtain ⟨ii1, hi1, hz1, hs1, hby1⟩ := info_parts JsonS.info
  go_loopw [3, 14] (fun o i wr => ∃ (k : Nat) (v : Value), k ≤ a.items.length ∧ i = .int .i64 k ∧ o = v ∧ Hid (Own 5 JsonR 30 (World.heap ((w1.setCell ⟨w.heap.size, 3, none⟩ (.slice A2 a.keys.length c2)))).size wr v (a.items.take k)) ∧ Below (World.heap ((w1.setCell ⟨w.heap.size, 3, none⟩ (.slice A2 a.keys.length c2)))).size ((w1.setCell ⟨w.heap.size, 3, none⟩ (.slice A2 a.keys.length c2))) wr) (fun _ i _ => a.items.length - (intOf i).toNat)
  case atStart => exact ⟨0, _, Nat.zero_le _, rfl, rfl, hG1, (Below.refl _ _).alloc (Nat.le_refl _) _⟩
  case round =>
    clear hG1
    obtain ⟨k1, v1_, hk1, rfl, hov1, hG1, hb1001⟩ := hrel; replace hov1 := hov1.symm; subst hov1
    obtain ⟨wl1, rfl⟩ : ∃ w' : World, w' = wr := ⟨_, rfl⟩
    obtain ⟨O1, cO1, hv1, hlO1, hcO1⟩ := hG1.out.form
    replace q_a := box_on q_a rfl hb1001
    replace q_res := box_on q_res rfl hb1001
    have hwl1 := nxt hwS hb1001
    replace R_res := blk_on R_res hb1001; replace R_free := blk_free R_res; replace R_a := blk_on R_a hb1001; replace R_free_a := blk_free R_a
    have hz0_1 := Below.refl (World.heap wl1).size wl1
    by_cases hlt1 : k1 < a.items.length
    · obtain ⟨gb, go, gbk, ges, rfl, ghbl, ghcl, ghcell, gR, ghbk⟩ := hel_a4 k1 hlt1
      have gR0 := gR
      obtain ⟨gv3, gb3, gv4, gb4, _, ghes, ghf, gr3, gr4⟩ := gR.open
      subst ghes
      obtain ⟨gA3, gc3, rfl, ghlc3, ghcm3, ghel3⟩ := gr3.use
      obtain ⟨gA4, gc4, rfl, ghlc4, ghcm4, ghel4⟩ := gr4.use
      have g_0 := (hwl1.cell (p := ⟨gb, _, none⟩) ghbl).trans (ghcell 0 _ rfl)
      have g_1 := (hwl1.cell (p := ⟨gb, _, none⟩) ghbl).trans (ghcell 1 _ rfl)
      have g_2 := (hwl1.cell (p := ⟨gb, _, none⟩) ghbl).trans (ghcell 2 _ rfl)
      have g_3 := (hwl1.cell (p := ⟨gb, _, none⟩) ghbl).trans (ghcell 3 _ rfl)
      have g_4 := (hwl1.cell (p := ⟨gb, _, none⟩) ghbl).trans (ghcell 4 _ rfl)
      simp only [Nat.add_zero] at g_0 g_1 g_2 g_3 g_4
      clear ghcell ghcl
      clear hel_a4
      replace q_a := box_on q_a rfl ((Below.refl (World.heap (wl1)).size (wl1)).alloc (Nat.le_refl _) (.cells #[.int .i64 a.items[k1].kind, .int .i64 a.items[k1].n, .string a.items[k1].t, .slice gA3 a.items[k1].keys.length gc3, .slice gA4 a.items[k1].items.length gc4] 30))
      replace q_res := box_on q_res rfl ((Below.refl (World.heap (wl1)).size (wl1)).alloc (Nat.le_refl _) (.cells #[.int .i64 a.items[k1].kind, .int .i64 a.items[k1].n, .string a.items[k1].t, .slice gA3 a.items[k1].keys.length gc3, .slice gA4 a.items[k1].items.length gc4] 30))
      replace R_res := blk_on R_res ((Below.refl (World.heap (wl1)).size (wl1)).alloc (Nat.le_refl _) (.cells #[.int .i64 a.items[k1].kind, .int .i64 a.items[k1].n, .string a.items[k1].t, .slice gA3 a.items[k1].keys.length gc3, .slice gA4 a.items[k1].items.length gc4] 30)); replace R_free := blk_free R_res; replace R_a := blk_on R_a ((Below.refl (World.heap (wl1)).size (wl1)).alloc (Nat.le_refl _) (.cells #[.int .i64 a.items[k1].kind, .int .i64 a.items[k1].n, .string a.items[k1].t, .slice gA3 a.items[k1].keys.length gc3, .slice gA4 a.items[k1].items.length gc4] 30)); replace R_free_a := blk_free R_a
      have q_v1 := blk_cells (blk_new (wl1) #[.int .i64 a.items[k1].kind, .int .i64 a.items[k1].n, .string a.items[k1].t, .slice gA3 a.items[k1].keys.length gc3, .slice gA4 a.items[k1].items.length gc4] 30)
      have hn1 := (hwl1).alloc (hwl1).size (.cells #[.int .i64 a.items[k1].kind, .int .i64 a.items[k1].n, .string a.items[k1].t, .slice gA3 a.items[k1].keys.length gc3, .slice gA4 a.items[k1].items.length gc4] 30)
      have hc1_0 := (hb1001).alloc (hb1001).size (.cells #[.int .i64 a.items[k1].kind, .int .i64 a.items[k1].n, .string a.items[k1].t, .slice gA3 a.items[k1].keys.length gc3, .slice gA4 a.items[k1].items.length gc4] 30)
      have hc1_1 := (hz0_1).alloc (hz0_1).size (.cells #[.int .i64 a.items[k1].kind, .int .i64 a.items[k1].n, .string a.items[k1].t, .slice gA3 a.items[k1].keys.length gc3, .slice gA4 a.items[k1].items.length gc4] 30)
      go_wp2_with fail
      refine (IH (JsonR.good.nxt hn1 gR0) (hgp.out k1 hlt1) (HK.out.2.2 _ hlt1)).mono ?_; rintro e w2 ⟨cs3, bs3, rfl, r3, f3, hb2⟩; replace q_a := box_on q_a rfl hb2; replace q_res := box_on q_res rfl hb2; replace q_v1 := box_on q_v1 rfl hb2; have hw2 := nxt hn1 hb2; have hl0_2 := nxt hc1_0 hb2; have hl1_2 := nxt hc1_1 hb2; replace R_res := blk_on R_res hb2; replace R_free := blk_free R_res; replace R_a := blk_on R_a hb2; replace R_free_a := blk_free R_a
      have r30 := r3; obtain ⟨u3, ub3, u4, ub4, _, rfl, _, ur3, ur4⟩ := r3.open; obtain ⟨uA3, uc3, rfl, _, _, _⟩ := ur3.use; obtain ⟨uA4, uc4, rfl, _, _, _⟩ := ur4.use; clear r3 ur3 ur4
      have hst1 : Hid (a.items.take (k1 + 1) = a.items.take k1 ++ [a.items[k1]]) := by show _ = _; exact take_step hlt1
      have hsz1 := (hl0_2).size; have hlo1 := (hl0_2).size
      have hbd1 : Hid ((a.items.take k1).length ≤ 1048576) := by show _ ≤ _; (try rw [List.length_take]); have := HK.out.2.1; omega
      have hvv1 := hide hv1; have hll1 := hide hlO1; clear hv1 hlO1 hcO1
      go_wp2_with (at_builtin; refine wpList_append_own JsonR.good rfl _ _ 28 rfl Try.underlying28 hi1 hz1 hs1 hby1 rfl (by decide) (v := v1_) rfl hG1.out hl1_2 (cy := [.int .i64 a.items[k1].kind, .int .i64 a.items[k1].n, .string a.items[k1].t, .slice uA3 a.items[k1].keys.length uc3, .slice uA4 a.items[k1].items.length uc4]) (y := a.items[k1]) r30 (f3.mono (by simp)) rfl rfl (fun u hu => by simp at hu; rcases hu with rfl | rfl | rfl | rfl | rfl <;> rfl) (by have := hbd1.out; omega) (by have := hbd1.out; omega) hb1001.size ?_; intro v' w' hO hB hsw hold hown)
      go_roundw
      case rel => exact ⟨k1 + 1, v', hlt1, by go_num, rfl, by rw [hst1.out]; exact hO, hB _ _ hl0_2 (Nat.le_refl _)⟩
      case measure => simp [intOf]; omega
    · obtain rfl : k1 = a.items.length := by omega
      have hG2 := hG1.out; rw [List.take_length] at hG2; rw [List.take_length] at hv1; subst hv1
      have HG := hide hG2; clear hG2 hG1 hlO1 hel_a4
      replace r20 := StringSR.good.nxt hb1001 r20; replace f2 := f2.below hb1001
      by_cases hp : 0 < a.items.length
      · have hd : decide ((0 : Int) < a.items.length) = true := decide_eq_true (by omega)
        go_wp2
        have fin : _ = some (Obj.cells #[.int .i64 a.kind, .int .i64 a.n, .string a.t, .slice A2 a.keys.length c2, .slice O1 a.items.length cO1] 30 (0, 0)) := (blk_set (blk_set (blk_set (blk_set (blk_set ((blk_far (p := ⟨w.heap.size, 4, none⟩) (by simp) (.slice O1 a.items.length cO1)).trans ((blk_far (p := ⟨w.heap.size, 4, none⟩) (by simp) (.slice none 0 0)).trans R_res)) 0 (.int .i64 a.kind)) 1 (.int .i64 a.n)) 2 (.string a.t)) 3 (.slice A2 a.keys.length c2)) 4 (.slice O1 a.items.length cO1))
        have fc := blk_cells fin
        have HU := ((((((((Upd.refl [w.heap.size, w.heap.size + 1] wl1).set (p := ⟨w.heap.size, 4, none⟩) (by simp) rfl (.slice none 0 0)).set (p := ⟨w.heap.size, 4, none⟩) (by simp) rfl (.slice O1 a.items.length cO1)).set (p := ⟨w.heap.size + 1, 0, none⟩) (by simp) rfl (.int .i64 a.kind)).set (p := ⟨w.heap.size + 1, 1, none⟩) (by simp) rfl (.int .i64 a.n)).set (p := ⟨w.heap.size + 1, 2, none⟩) (by simp) rfl (.string a.t)).set (p := ⟨w.heap.size + 1, 3, none⟩) (by simp) rfl (.slice A2 a.keys.length c2)).set (p := ⟨w.heap.size + 1, 4, none⟩) (by simp) rfl (.slice O1 a.items.length cO1))
        refine bodyPost_ret (v := .agg #[.int .i64 a.kind, .int .i64 a.n, .string a.t, .slice A2 a.keys.length c2, .slice O1 a.items.length cO1]) (by simp [results, Try.results60, go_sem, fc]) rfl ?_
        have hn2 : ∀ b ∈ bs2, b ∉ [w.heap.size, w.heap.size + 1] := fun b hb hm => by have := (f2.2 b hb).1; simp at this hm; omega
        obtain ⟨bs', q1, q2⟩ := HG.out.done
        have hn : ∀ b ∈ bs', b ∉ [w.heap.size, w.heap.size + 1] := fun b hb hm => by have := (q2.2 b hb).1; simp at this hm hws1; omega
        exact ⟨[.int .i64 a.kind, .int .i64 a.n, .string a.t, .slice A2 a.keys.length c2, .slice O1 a.items.length cO1], bs2 ++ bs', rfl, JsonR.shut (a := a) hf_a (StringSR.good.upd r20 HU hn2) (JsonSR.good.upd q1 HU hn), (((f2.upd HU).append (q2.upd HU) (by simp at hws1 ⊢; omega) (fun b hb => by have := f2l b hb; simpa using this)).mono (by simp; omega)), (((((((hwl1.setCell (p := ⟨w.heap.size, 4, none⟩) (by simp) (.slice none 0 0)).setCell (p := ⟨w.heap.size, 4, none⟩) (by simp) (.slice O1 a.items.length cO1)).setCell (p := ⟨w.heap.size + 1, 0, none⟩) (by simp) (.int .i64 a.kind)).setCell (p := ⟨w.heap.size + 1, 1, none⟩) (by simp) (.int .i64 a.n)).setCell (p := ⟨w.heap.size + 1, 2, none⟩) (by simp) (.string a.t)).setCell (p := ⟨w.heap.size + 1, 3, none⟩) (by simp) (.slice A2 a.keys.length c2)).setCell (p := ⟨w.heap.size + 1, 4, none⟩) (by simp) (.slice O1 a.items.length cO1))⟩
      · have hd : decide ((0 : Int) < a.items.length) = false := decide_eq_false (by omega)
        go_wp2
        have fin : _ = some (Obj.cells #[.int .i64 a.kind, .int .i64 a.n, .string a.t, .slice A2 a.keys.length c2, .slice none 0 0] 30 (0, 0)) := (blk_set (blk_set (blk_set (blk_set (blk_set ((blk_far (p := ⟨w.heap.size, 4, none⟩) (by simp) (.slice none 0 0)).trans R_res) 0 (.int .i64 a.kind)) 1 (.int .i64 a.n)) 2 (.string a.t)) 3 (.slice A2 a.keys.length c2)) 4 (.slice none 0 0))
        have fc := blk_cells fin
        have HU := (((((((Upd.refl [w.heap.size, w.heap.size + 1] wl1).set (p := ⟨w.heap.size, 4, none⟩) (by simp) rfl (.slice none 0 0)).set (p := ⟨w.heap.size + 1, 0, none⟩) (by simp) rfl (.int .i64 a.kind)).set (p := ⟨w.heap.size + 1, 1, none⟩) (by simp) rfl (.int .i64 a.n)).set (p := ⟨w.heap.size + 1, 2, none⟩) (by simp) rfl (.string a.t)).set (p := ⟨w.heap.size + 1, 3, none⟩) (by simp) rfl (.slice A2 a.keys.length c2)).set (p := ⟨w.heap.size + 1, 4, none⟩) (by simp) rfl (.slice none 0 0))
        refine bodyPost_ret (v := .agg #[.int .i64 a.kind, .int .i64 a.n, .string a.t, .slice A2 a.keys.length c2, .slice none 0 0]) (by simp [results, Try.results60, go_sem, fc]) rfl ?_
        have hn2 : ∀ b ∈ bs2, b ∉ [w.heap.size, w.heap.size + 1] := fun b hb hm => by have := (f2.2 b hb).1; simp at this hm; omega
        exact ⟨[.int .i64 a.kind, .int .i64 a.n, .string a.t, .slice A2 a.keys.length c2, .slice none 0 0], bs2 ++ [], rfl, JsonR.shut (a := a) hf_a (StringSR.good.upd r20 HU hn2) (by rw [show a.items = [] from List.eq_nil_of_length_eq_zero (by omega)]; exact nil_row (by omega)), (by rw [List.append_nil]; exact (f2.upd HU).mono (by simp; omega)), ((((((hwl1.setCell (p := ⟨w.heap.size, 4, none⟩) (by simp) (.slice none 0 0)).setCell (p := ⟨w.heap.size + 1, 0, none⟩) (by simp) (.int .i64 a.kind)).setCell (p := ⟨w.heap.size + 1, 1, none⟩) (by simp) (.int .i64 a.n)).setCell (p := ⟨w.heap.size + 1, 2, none⟩) (by simp) (.string a.t)).setCell (p := ⟨w.heap.size + 1, 3, none⟩) (by simp) (.slice A2 a.keys.length c2)).setCell (p := ⟨w.heap.size + 1, 4, none⟩) (by simp) (.slice none 0 0))⟩
theorem impl_copyJson : ∀ d, CJ 60 d
  | 0 => fun _ hg _ => by cases hg
  | d + 1 => fun H hg hk => copyJson_step (@impl_copyJson d) H hg hk
end Go.Proofs.Ythglchopajdmhaa
