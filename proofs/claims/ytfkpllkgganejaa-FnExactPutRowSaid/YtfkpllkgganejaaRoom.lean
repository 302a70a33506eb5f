/- Rows that lie in a block known whole. No statement is proved here; no conditions. Written by a program (gen66.py). -/
import Derived.Test.YtfkpllkgganejaaDrop
import Derived.Shelf.Abstract
namespace Go.Proofs.Ytfkpllkgganejaa
open Go.ChangeShapes Go.WideShapes Go.ChangeAt Go.RowKit Go.Deep
set_option maxRecDepth 100000
set_option linter.unusedVariables false
set_option linter.unusedSimpArgs false

theorem flat_get {β : Type} {size : Nat} : ∀ {css : List (List β)} (h : ∀ c ∈ css, c.length = size) {k j : Nat} (hk : k < css.length) (hj : j < size), css.flatten[k * size + j]? = css[k][j]?
  | [], _, _, _, hk, _ => by simp at hk
  | c :: css, h, 0, j, hk, hj => by
    rw [List.flatten_cons, List.getElem?_append_left (by rw [h c (by simp)]; omega)]; simp
  | c :: css, h, k + 1, j, hk, hj => by
    have hc := h c (by simp)
    rw [List.flatten_cons, List.getElem?_append_right (by rw [hc, Nat.add_mul]; omega), hc, show (k + 1) * size + j - size = k * size + j by rw [Nat.add_mul]; omega]
    have := flat_get (fun c' hm => h c' (List.mem_cons_of_mem _ hm)) (k := k) (j := j) (by simpa using hk) hj
    rw [this]; rfl
/-- A slice of rows that lies in a block of its own, known whole. -/
def RowSO : Rd (List Row) := fun w bs cs xs => ∃ v bss, cs = [v] ∧ Gr 2 RowR 38 0 w v bss xs ∧ bs = v.ownBlock.toList ++ bss.flatten
theorem RowSO.good : Good RowSO where
  lt := by
    rintro w bs cs x ⟨v, bss, rfl, h, rfl⟩ b hb
    rcases List.mem_append.1 hb with hb | hb
    · exact (h.blk b (by simpa [Option.mem_def] using hb)).2
    · exact h.lt RowR.good b hb
  keep := by
    rintro w w' bs cs x ⟨v, bss, rfl, h, rfl⟩ hk
    exact ⟨v, bss, rfl, h.keep RowR.good (fun k hv => hk k (List.mem_append_left _ (by simpa [Option.mem_def] using hv))) (fun b hb => hk b (List.mem_append_right _ hb)), rfl⟩
theorem Gr.lo {α : Type} {R : Rd α} {size : Nat} {e : TypeId} {lo lo' : Nat} {w : World} {v : Value} {bss : List (List Nat)} {xs : List α} (h : Gr size R e lo w v bss xs) (hl : ∀ k, v.ownBlock = some k → lo' ≤ k) : Gr size R e lo' w v bss xs := by
  obtain ⟨css, a, b, ⟨c, d⟩, e, f⟩ := h
  refine ⟨css, a, b, ⟨c, ?_⟩, e, f⟩
  rcases d with d | ⟨g, cap, cur, rfl, _, r⟩
  · exact Or.inl d
  · exact Or.inr ⟨g, cap, cur, rfl, hl g rfl, r⟩
theorem Own.room {lo : Nat} {w : World} {v : Value} {xs : List Row} (h : Own 2 RowR 38 lo w v xs) : ∃ bs, RowSO w bs [v] xs ∧ Fr lo w bs := by
  obtain ⟨bss, h, hf⟩ := h
  refine ⟨_, ⟨v, bss, rfl, h.lo (fun _ _ => Nat.zero_le _), rfl⟩, ?_⟩
  obtain ⟨css, _, _, ⟨_, d⟩, e, _⟩ := h
  rcases d with ⟨rfl, _⟩ | ⟨g, cap, cur, rfl, hg, hc, _⟩
  · exact hf
  · have hn : g ∉ bss.flatten := e g rfl
    exact ⟨List.nodup_cons.2 ⟨hn, hf.1⟩, fun b hb => by rcases List.mem_cons.1 hb with rfl | hb; (exact ⟨hg, cur, _, hc⟩); exact hf.2 b hb⟩
theorem RowSO.gr {w : World} {lo : Nat} {bs : List Nat} {v : Value} {xs : List Row} (h : RowSO w bs [v] xs) (hf : Fr lo w bs) : ∃ bss, Gr 2 RowR 38 lo w v bss xs ∧ Fr lo w bss.flatten ∧ bs = v.ownBlock.toList ++ bss.flatten := by
  obtain ⟨v', bss, hv, h, rfl⟩ := h
  obtain rfl : v = v' := by simpa using hv
  exact ⟨bss, h.lo (fun k hk => (hf.2 k (List.mem_append_left _ (by simpa [Option.mem_def] using hk))).1), ⟨(List.nodup_append.1 hf.1).2.1, fun b hb => hf.2 b (List.mem_append_right _ hb)⟩, rfl⟩
theorem RowSO.form {w : World} {bs : List Nat} {v : Value} {xs : List Row} (h : RowSO w bs [v] xs) : ∃ A c, v = .slice A xs.length c ∧ xs.length ≤ c ∧ c ≤ 9223372036854775807 := by
  obtain ⟨v', bss, hv, h, rfl⟩ := h
  obtain rfl : v = v' := by simpa using hv
  exact h.form
theorem RowSO.one : ∀ (w : World) bk cs (y : List Row), RowSO w bk cs y → ∀ u ∈ cs, u.oneCell' = true := by
  rintro w bk cs y ⟨v, bss, rfl, h, rfl⟩ u hu
  obtain ⟨A, c, rfl, _⟩ := h.form
  simp at hu
  subst hu; rfl
/-- As a plain reading: it meets some of these blocks. -/
theorem RowSO.plain {w : World} {bs : List Nat} {cs : List Value} {xs : List Row} (h : RowSO w bs cs xs) : ∃ bs', RowSR w bs' cs xs ∧ bs'.Sublist bs := by
  obtain ⟨v, bss, rfl, h, rfl⟩ := h
  obtain ⟨css, hc, hb, ⟨hl, ho⟩, hn, hel⟩ := h
  rcases ho with ⟨rfl, h0⟩ | ⟨g, cap, cur, rfl, hg, hblk, h1, h2, h3, h4⟩
  · obtain rfl : xs = [] := List.eq_nil_of_length_eq_zero h0
    exact ⟨[], nil_row (by omega), List.nil_sublist _⟩
  · refine ⟨g :: bss.flatten, ⟨_, cap, rfl, h1, h2, Or.inr ⟨g, 0, bss, rfl, lt_of_cells hblk, hb, rfl, fun k x bk hx hbk => ?_⟩⟩, List.Sublist.refl _⟩
    have hk : k < css.length := by have := idx_lt hx; omega
    obtain ⟨hs, hr⟩ := hel k x css[k] bk hx (List.getElem?_eq_getElem hk) hbk
    refine ⟨css[k], hs, fun j u hu => ?_, hr⟩
    have hj : j < 2 := by have := idx_lt hu; omega
    rw [blk_cells hblk, ← Array.getElem?_toList]
    have hfl : css.flatten[k * 2 + j]? = some u := by
      rw [← hu]; exact flat_get (fun c hm => by
        obtain ⟨q, hq, rfl⟩ := List.mem_iff_getElem.1 hm
        exact (hel q xs[q] css[q] (bss[q]) (List.getElem?_eq_getElem (by omega)) (List.getElem?_eq_getElem hq) (List.getElem?_eq_getElem (by omega))).1) hk hj
    rw [Nat.zero_add, ← hfl, ← h4, List.getElem?_take, if_pos (by have := idx_lt hx; omega)]
def RowSSO : Rd (List (List Row)) := SlR 1 RowSO
theorem RowSSO.good : Good RowSSO := SlR.good RowSO.good
/-- Element by element the plain readings. -/
theorem RowSSO.plain {w : World} {bs : List Nat} {cs : List Value} {xs : List (List Row)} (h : RowSSO w bs cs xs) : ∃ bs', RowSSR w bs' cs xs ∧ bs'.Sublist bs := by
  obtain ⟨A, c, rfl, h1, h2, h3⟩ := h
  rcases h3 with ⟨rfl, rfl⟩ | ⟨b, o, bss, rfl, hb, hl, rfl, hel⟩
  · exact ⟨[], ⟨A, c, rfl, h1, h2, Or.inl ⟨rfl, rfl⟩⟩, List.Sublist.refl _⟩
  · have key : ∀ (n : Nat), n ≤ xs.length → ∃ bss' : List (List Nat), bss'.length = n ∧ bss'.flatten.Sublist (bss.take n).flatten ∧ ∀ k x bk, k < n → xs[k]? = some x → bss'[k]? = some bk → ∃ es, es.length = 1 ∧ (∀ j u, es[j]? = some u → w.cell? ⟨b, o + k * 1 + j, none⟩ = some u) ∧ RowSR w bk es x := by
      intro n
      induction n with
      | zero => intro _; exact ⟨[], rfl, by simp, fun k x bk hk => by omega⟩
      | succ n ih =>
        intro hn
        obtain ⟨bss', e1, e2, e3⟩ := ih (by omega)
        obtain ⟨es, f1, f2, f3⟩ := hel n xs[n] bss[n] (List.getElem?_eq_getElem (by omega)) (List.getElem?_eq_getElem (by omega))
        obtain ⟨bk', r, s⟩ := f3.plain
        refine ⟨bss' ++ [bk'], by simp [e1], ?_, fun k x bk hk hx hbk => ?_⟩
        · rw [List.flatten_append, List.take_add_one, List.flatten_append, List.getElem?_eq_getElem (by omega)]
          exact List.Sublist.append e2 (by simpa using s)
        · by_cases hkn : k < n
          · rw [List.getElem?_append_left (by omega)] at hbk
            exact e3 k x bk hkn hx hbk
          · obtain rfl : k = n := by omega
            rw [List.getElem?_append_right (by omega), e1, Nat.sub_self] at hbk
            obtain rfl : bk' = bk := by simpa using hbk
            rw [List.getElem?_eq_getElem (by omega)] at hx
            obtain rfl := Option.some.inj hx
            exact ⟨es, f1, f2, r⟩
    obtain ⟨bss', e1, e2, e3⟩ := key xs.length (Nat.le_refl _)
    rw [List.take_of_length_le (by omega)] at e2
    exact ⟨b :: bss'.flatten, ⟨_, c, rfl, h1, h2, Or.inr ⟨b, o, bss', rfl, hb, e1, rfl, fun k x bk hx hbk => e3 k x bk (idx_lt hx) hx hbk⟩⟩, e2.cons_cons b⟩
theorem Fr.sub {lo : Nat} {w : World} {bs bs' : List Nat} (h : Fr lo w bs) (s : bs'.Sublist bs) : Fr lo w bs' := ⟨h.1.sublist s, fun b hb => h.2 b (s.subset hb)⟩
def StoreO : Rd Store := fun w bs cs x => ∃ v b, cs = [v, .int .i64 x.next] ∧ bs = b ∧ x.fine ∧ RowSSO w b [v] x.tables
theorem StoreO.good : Good StoreO where
  lt := by rintro w bs cs x ⟨v, b, rfl, rfl, _, h⟩; exact RowSSO.good.lt h
  keep := by rintro w w' bs cs x ⟨v, b, rfl, rfl, hf, h⟩ hk; exact ⟨v, _, rfl, rfl, hf, RowSSO.good.keep h hk⟩
theorem StoreO.plain {w : World} {bs : List Nat} {cs : List Value} {x : Store} (h : StoreO w bs cs x) : ∃ bs', StoreR w bs' cs x ∧ bs'.Sublist bs := by
  obtain ⟨v, b, rfl, rfl, hf, h⟩ := h
  obtain ⟨bs', r, s⟩ := h.plain
  exact ⟨bs', ⟨v, bs', rfl, rfl, hf, r⟩, s⟩
set_option maxHeartbeats 4000000 in
theorem impl_copyRowsO {w : World}  {bs_l : List Nat} {v_l : Value} {l : List Row} (H_l : RowSR w bs_l [v_l] l) (hk : RowS.bulk l ≤ 1048576) :
    Calls Try.prog 43 #[v_l] w (ToS RowSO w l) := by
  have H0_l := H_l
  obtain ⟨A_l, c_l, rfl, hlc_l, hcm_l, hel_l⟩ := H_l.use
  have HK := hide hk; clear hk
  go_enter Try.func43, Try.ntmps43
  go_wp2_with fail
  have hG1 := hide (Own.made' (size := 2) (R := RowR) (e := 38) (w := w) (n := w.heap.size) (by simp))
  obtain ⟨ii1, hi1, hz1, hs1, hby1⟩ := info_parts RowS.info
  go_loopw [3, 9] (fun o i wr => ∃ (k : Nat) (v : Value), k ≤ l.length ∧ i = .int .i64 k ∧ o = v ∧ Hid (Own 2 RowR 38 (World.heap (w)).size wr v (l.take k)) ∧ Below (World.heap (w)).size (w) wr) (fun _ i _ => l.length - (intOf i).toNat)
  case atStart => exact ⟨0, _, Nat.zero_le _, rfl, rfl, hG1, (Below.refl _ _).alloc (Nat.le_refl _) _⟩
  case round =>
    clear hG1
    obtain ⟨k1, v1_, hk1, rfl, hov1, hG1, hb1001⟩ := hrel; replace hov1 := hov1.symm; subst hov1
    obtain ⟨wl1, rfl⟩ : ∃ w' : World, w' = wr := ⟨_, rfl⟩
    obtain ⟨O1, cO1, hv1, hlO1, hcO1⟩ := hG1.out.form
    have hwl1 := nxt (Below.refl w.heap.size w) hb1001
    have hz0_1 := Below.refl (World.heap wl1).size wl1
    by_cases hlt1 : k1 < l.length
    · obtain ⟨gb, go, gbk, ges, rfl, ghbl, ghcl, ghcell, gR, ghbk⟩ := hel_l k1 hlt1
      have gR0 := gR
      obtain ⟨gv1, gb1, _, ghes, ghf, gr1⟩ := gR
      subst ghes
      obtain ⟨gA1, gc1, rfl, ghlc1, ghcm1, ghel1⟩ := gr1.use
      have g_0 := (hwl1.cell (p := ⟨gb, _, none⟩) ghbl).trans (ghcell 0 _ rfl)
      have g_1 := (hwl1.cell (p := ⟨gb, _, none⟩) ghbl).trans (ghcell 1 _ rfl)
      simp only [Nat.add_zero] at g_0 g_1
      clear ghcell ghcl
      clear hel_l
      have q_v1 := blk_cells (blk_new (wl1) #[.int .i64 l[k1].id, .slice gA1 l[k1].cells.length gc1] 38)
      have hn1 := (hwl1).alloc (hwl1).size (.cells #[.int .i64 l[k1].id, .slice gA1 l[k1].cells.length gc1] 38)
      have hc1_0 := (hb1001).alloc (hb1001).size (.cells #[.int .i64 l[k1].id, .slice gA1 l[k1].cells.length gc1] 38)
      have hc1_1 := (hz0_1).alloc (hz0_1).size (.cells #[.int .i64 l[k1].id, .slice gA1 l[k1].cells.length gc1] 38)
      go_wp2_with fail
      refine (impl_copyRow (RowR.good.nxt hn1 gR0) (bulkL_at _ hlt1 HK.out)).mono ?_; rintro e w1 ⟨cs2, bs2, rfl, r2, f2, hb1⟩; replace q_v1 := box_on q_v1 rfl hb1; have hw1 := nxt hn1 hb1; have hl0_1 := nxt hc1_0 hb1; have hl1_1 := nxt hc1_1 hb1
      have r20 := r2; obtain ⟨w2v, w2b, _, rfl, _, w2r⟩ := r2; obtain ⟨A2, c2, rfl, _, _, _⟩ := w2r.use
      have hst1 : Hid (l.take (k1 + 1) = l.take k1 ++ [l[k1]]) := by show _ = _; exact take_step hlt1
      have hsz1 := (hl0_1).size; have hlo1 := (hl0_1).size
      have hbd1 : Hid ((l.take k1).length ≤ 1048576) := by show _ ≤ _; (try rw [List.length_take]); have := Nat.le_trans (bulkL_len _ _) HK.out; omega
      have hvv1 := hide hv1; have hll1 := hide hlO1; clear hv1 hlO1 hcO1
      go_wp2_with (at_builtin; refine wpList_append_own RowR.good rfl _ _ 50 rfl Try.underlying50 hi1 hz1 hs1 hby1 rfl (by decide) (v := v1_) rfl hG1.out hl1_1 (cy := [.int .i64 l[k1].id, .slice A2 l[k1].cells.length c2]) (y := l[k1]) r20 (f2.mono (by simp)) rfl rfl (fun u hu => by simp at hu; (try rcases hu with rfl | rfl) <;> first | rfl | (subst hu; rfl)) (by have := hbd1.out; omega) (by have := hbd1.out; omega) hb1001.size ?_; intro v' w' hO hB hsw hold hown)
      go_roundw
      case rel => exact ⟨k1 + 1, v', hlt1, by go_num, rfl, by rw [hst1.out]; exact hO, hB _ _ hl0_1 (Nat.le_refl _)⟩
      case measure => simp [intOf]; omega
    · obtain rfl : k1 = l.length := by omega
      have hG2 := hG1.out; rw [List.take_length] at hG2; have HG := hide hG2; clear hG2 hG1 hel_l
      go_wp2
      go_ret
      obtain ⟨bs', q1, q2⟩ := HG.out.room
      exact ⟨_, bs', rfl, q1, q2, hwl1⟩
set_option maxHeartbeats 4000000 in
theorem impl_copyStoreO {w : World}  {bs_x : List Nat} {cs_x : List Value} {x : Store} (H_x : StoreR w bs_x cs_x x) (hk : x.bulk ≤ 1048576) :
    Calls Try.prog 25 #[.agg cs_x.toArray] w (ToP StoreO w x) := by
  have H0_x := H_x
  obtain ⟨x_v0, x_b0, rfl, rfl, hf_x, x_r0⟩ := H_x
  obtain ⟨A_x0, c_x0, rfl, hlc_x0, hcm_x0, hel_x0⟩ := x_r0.use
  have hbx := (((Below.refl w.heap.size w).alloc (Nat.le_refl _) (.cells #[.slice A_x0 x.tables.length c_x0, .int .i64 x.next] 32)).alloc (by simp; try omega) (.cells #[.slice none 0 0, .int .i64 0] 32))
  obtain ⟨q_x, q_res⟩ := two_at (Below.refl ((w.alloc (.cells #[.slice A_x0 x.tables.length c_x0, .int .i64 x.next] 32)).alloc (.cells #[.slice none 0 0, .int .i64 0] 32)).heap.size _)
  have R_res : World.heap ((w.alloc (.cells #[.slice A_x0 x.tables.length c_x0, .int .i64 x.next] 32)).alloc (.cells #[.slice none 0 0, .int .i64 0] 32)) = World.heap ((w.alloc (.cells #[.slice A_x0 x.tables.length c_x0, .int .i64 x.next] 32)).alloc (.cells #[.slice none 0 0, .int .i64 0] 32)) := rfl
  clear R_res
  have R_res : (World.heap ((w.alloc (.cells #[.slice A_x0 x.tables.length c_x0, .int .i64 x.next] 32)).alloc (.cells #[.slice none 0 0, .int .i64 0] 32)))[w.heap.size + 1]? = some (.cells #[.slice none 0 0, .int .i64 0] 32 (0, 0)) := by simpa using blk_new ((w.alloc (.cells #[.slice A_x0 x.tables.length c_x0, .int .i64 x.next] 32))) #[.slice none 0 0, .int .i64 0] 32
  have R_free := blk_free R_res
  have HK : Hid (bulkL RowS.bulk x.tables ≤ 1048576) := hk; clear hk
  go_enter Try.func25, Try.ntmps25
  go_wp2_with fail
  have hG1 := hide (Own.made' (size := 1) (R := RowSO) (e := 50) (w := ((w.alloc (.cells #[.slice A_x0 x.tables.length c_x0, .int .i64 x.next] 32)).alloc (.cells #[.slice none 0 0, .int .i64 0] 32))) (n := w.heap.size + 1 + 1) (by simp))
  obtain ⟨ii1, hi1, hz1, hs1, hby1⟩ := info_parts RowSS.info
  go_loopw [3, 10] (fun o i wr => ∃ (k : Nat) (v : Value), k ≤ x.tables.length ∧ i = .int .i64 k ∧ o = v ∧ Hid (Own 1 RowSO 50 (World.heap (((w.alloc (.cells #[.slice A_x0 x.tables.length c_x0, .int .i64 x.next] 32)).alloc (.cells #[.slice none 0 0, .int .i64 0] 32)))).size wr v (x.tables.take k)) ∧ Below (World.heap (((w.alloc (.cells #[.slice A_x0 x.tables.length c_x0, .int .i64 x.next] 32)).alloc (.cells #[.slice none 0 0, .int .i64 0] 32)))).size (((w.alloc (.cells #[.slice A_x0 x.tables.length c_x0, .int .i64 x.next] 32)).alloc (.cells #[.slice none 0 0, .int .i64 0] 32))) wr) (fun _ i _ => x.tables.length - (intOf i).toNat)
  case atStart => exact ⟨0, _, Nat.zero_le _, rfl, rfl, hG1, (Below.refl _ _).alloc (Nat.le_refl _) _⟩
  case round =>
    clear hG1
    obtain ⟨k1, v1_, hk1, rfl, hov1, hG1, hb1001⟩ := hrel; replace hov1 := hov1.symm; subst hov1
    obtain ⟨wl1, rfl⟩ : ∃ w' : World, w' = wr := ⟨_, rfl⟩
    obtain ⟨O1, cO1, hv1, hlO1, hcO1⟩ := hG1.out.form
    replace q_x := box_on q_x rfl hb1001
    replace q_res := box_on q_res rfl hb1001
    have hwl1 := nxt hbx hb1001
    replace R_res := blk_on R_res hb1001; replace R_free := blk_free R_res
    have hz0_1 := Below.refl (World.heap wl1).size wl1
    by_cases hlt1 : k1 < x.tables.length
    · obtain ⟨gb, go, gbk, ges, rfl, ghbl, ghcl, ghcell, gR, ghbk⟩ := hel_x0 k1 hlt1
      obtain ⟨gA, gc, ghlc, rfl⟩ : ∃ A0 c0, x.tables[k1].length ≤ c0 ∧ ges = [.slice A0 x.tables[k1].length c0] := by obtain ⟨A0, c0, h, h2, _⟩ := gR; exact ⟨A0, c0, h2, h⟩
      have g_0 := (hwl1.cell (p := ⟨gb, _, none⟩) ghbl).trans (ghcell 0 _ rfl)
      simp only [Nat.add_zero, Nat.mul_one] at g_0
      clear ghcell ghcl
      clear hel_x0
      go_wp2_with fail
      refine (impl_copyRowsO (RowSR.good.nxt hwl1 gR) (bulkL_at _ hlt1 HK.out)).mono ?_; rintro e w1 ⟨v2, bs2, rfl, r2, f2, hb1⟩; replace q_x := box_on q_x rfl hb1; replace q_res := box_on q_res rfl hb1; have hw1 := nxt hwl1 hb1; have hl0_1 := nxt hb1001 hb1; have hl1_1 := nxt hz0_1 hb1; replace R_res := blk_on R_res hb1; replace R_free := blk_free R_res
      have r20 := r2; obtain ⟨A2, c2, hv2_, _, _⟩ := RowSO.form r2; subst hv2_
      have hst1 : Hid (x.tables.take (k1 + 1) = x.tables.take k1 ++ [x.tables[k1]]) := by show _ = _; exact take_step hlt1
      have hsz1 := (hl0_1).size; have hlo1 := (hl0_1).size
      have hbd1 : Hid ((x.tables.take k1).length ≤ 1048576) := by show _ ≤ _; (try rw [List.length_take]); have := Nat.le_trans (bulkL_len _ _) HK.out; omega
      have hvv1 := hide hv1; have hll1 := hide hlO1; clear hv1 hlO1 hcO1
      go_wp2_with (at_builtin; refine wpList_append_own RowSO.good rfl _ _ 30 rfl Try.underlying30 hi1 hz1 hs1 hby1 rfl (by decide) (v := v1_) rfl hG1.out hl1_1 (cy := [.slice A2 x.tables[k1].length c2]) (y := x.tables[k1]) r20 f2 rfl rfl (fun u hu => by simp at hu; (try rcases hu with rfl | rfl) <;> first | rfl | (subst hu; rfl)) (by have := hbd1.out; omega) (by have := hbd1.out; omega) hb1001.size ?_; intro v' w' hO hB hsw hold hown)
      go_roundw
      case rel => exact ⟨k1 + 1, v', hlt1, by go_num, rfl, by rw [hst1.out]; exact hO, hB _ _ hl0_1 (Nat.le_refl _)⟩
      case measure => simp [intOf]; omega
    · obtain rfl : k1 = x.tables.length := by omega
      have hG2 := hG1.out; rw [List.take_length] at hG2; rw [List.take_length] at hv1; subst hv1
      have HG := hide hG2; clear hG2 hG1 hlO1 hel_x0
      go_wp2
      have fin : _ = some (Obj.cells #[.slice O1 x.tables.length cO1, .int .i64 x.next] 32 (0, 0)) := (blk_set (blk_set R_res 0 (.slice O1 x.tables.length cO1)) 1 (.int .i64 x.next))
      have fc := blk_cells fin
      have HU := (((Upd.refl [w.heap.size + 1] wl1).set (p := ⟨w.heap.size + 1, 0, none⟩) (by simp) rfl (.slice O1 x.tables.length cO1)).set (p := ⟨w.heap.size + 1, 1, none⟩) (by simp) rfl (.int .i64 x.next))
      refine bodyPost_ret (v := .agg #[.slice O1 x.tables.length cO1, .int .i64 x.next]) (by simp [results, Try.results25, go_sem, fc]) rfl ?_
      obtain ⟨bs', q1, q2⟩ := HG.out.done
      have hn : ∀ b ∈ bs', b ∉ [w.heap.size + 1] := fun b hb hm => by have := (q2.2 b hb).1; simp at this hm; omega
      exact ⟨[.slice O1 x.tables.length cO1, .int .i64 x.next], bs', rfl, ⟨_, bs', rfl, rfl, hf_x, RowSSO.good.upd q1 HU hn⟩, (q2.upd HU).mono (by simp; omega), ((hwl1.setCell (p := ⟨w.heap.size + 1, 0, none⟩) (by simp) (.slice O1 x.tables.length cO1)).setCell (p := ⟨w.heap.size + 1, 1, none⟩) (by simp) (.int .i64 x.next))⟩
end Go.Proofs.Ytfkpllkgganejaa
