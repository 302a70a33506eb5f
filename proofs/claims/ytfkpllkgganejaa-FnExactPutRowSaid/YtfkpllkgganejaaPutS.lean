/- l05Put of the reference. No statement is proved here; no conditions. Written by a program (gen68.py). -/
import Derived.Test.YtfkpllkgganejaaPutI
namespace Go.Proofs.Ytfkpllkgganejaa
open Go.ChangeShapes Go.WideShapes Go.ChangeAt Go.RowKit Go.Deep
set_option maxRecDepth 100000
set_option linter.unusedVariables false
set_option linter.unusedSimpArgs false

section
variable {α : Type} {R : Rd α} {size : Nat}
theorem Own.sm {e : TypeId} {lo : Nat} {w : World} {v : Value} {xs : List α} (h : Own size R e lo w v xs) (hv : v.ownBlock ≠ none) : ∃ g c, v = .slice (some ⟨g, 0, none⟩) xs.length c := by
  obtain ⟨bss, ⟨css, _, _, ⟨_, ho⟩, _⟩, _⟩ := h
  rcases ho with ⟨rfl, _⟩ | ⟨g, cap, cur, rfl, _⟩
  · exact absurd rfl hv
  · exact ⟨_, _, rfl⟩
end
/-- Rows that lie somewhere, even if there are none. -/
def RowSX : Rd (List Row) := fun w bs cs xs => RowSR w bs cs xs ∧ ∃ b o c, cs = [.slice (some ⟨b, o, none⟩) xs.length c]
theorem RowSX.good : Good RowSX where
  lt := by rintro w bs cs x ⟨h, _⟩; exact RowSR.good.lt h
  keep := by rintro w w' bs cs x ⟨h, h2⟩ hk; exact ⟨RowSR.good.keep h hk, h2⟩
theorem RowSX.one : ∀ (w : World) bk cs (y : List Row), RowSX w bk cs y → ∀ u ∈ cs, u.oneCell' = true := by
  rintro w bk cs y ⟨_, b, o, c, rfl⟩ u hu
  simp at hu
  subst hu; rfl
theorem SlR.imp {α : Type} {size : Nat} {R R' : Rd α} (hi : ∀ (w : World) bs cs x, R w bs cs x → R' w bs cs x) {w : World} {bs : List Nat} {cs : List Value} {xs : List α} (h : SlR size R w bs cs xs) : SlR size R' w bs cs xs := by
  obtain ⟨A, c, rfl, h1, h2, h3⟩ := h
  refine ⟨A, c, rfl, h1, h2, ?_⟩
  rcases h3 with h3 | ⟨b, o, bss, e1, e2, e3, e4, e5⟩
  · exact .inl h3
  · exact .inr ⟨b, o, bss, e1, e2, e3, e4, fun k x bk hx hb => by obtain ⟨es, f1, f2, f3⟩ := e5 k x bk hx hb; exact ⟨es, f1, f2, hi _ _ _ _ f3⟩⟩
def RowSSX : Rd (List (List Row)) := SlR 1 RowSX
theorem RowSSX.good : Good RowSSX := SlR.good RowSX.good
theorem RowSSX.plain {w : World} {bs : List Nat} {cs : List Value} {xs : List (List Row)} (h : RowSSX w bs cs xs) : RowSSR w bs cs xs := SlR.imp (fun _ _ _ _ h => h.1) h
def StoreX : Rd Store := fun w bs cs x => ∃ v b, cs = [v, .int .i64 x.next] ∧ bs = b ∧ x.fine ∧ RowSSX w b [v] x.tables
set_option maxHeartbeats 8000000 in
theorem spec_l05OwnX {w : World}  {bs_x : List Nat} {cs_x : List Value} {x : Store} (H_x : StoreR w bs_x cs_x x) (hk : x.bulk ≤ 1048576) :
    Calls Try.prog 20 #[.agg cs_x.toArray] w (ToP StoreX w x) := by
  have H0_x := H_x
  obtain ⟨x_v0, x_b0, rfl, rfl, hf_x, x_r0⟩ := H_x
  obtain ⟨A_x0, c_x0, rfl, hlc_x0, hcm_x0, hel_x0⟩ := x_r0.use
  have hbx := (((Below.refl w.heap.size w).alloc (Nat.le_refl _) (.cells #[.slice A_x0 x.tables.length c_x0, .int .i64 x.next] 32)).alloc (by simp; try omega) (.cells #[.slice none 0 0, .int .i64 0] 32))
  obtain ⟨q_x, q_res⟩ := two_at (Below.refl ((w.alloc (.cells #[.slice A_x0 x.tables.length c_x0, .int .i64 x.next] 32)).alloc (.cells #[.slice none 0 0, .int .i64 0] 32)).heap.size _)
  have R_res : World.heap ((w.alloc (.cells #[.slice A_x0 x.tables.length c_x0, .int .i64 x.next] 32)).alloc (.cells #[.slice none 0 0, .int .i64 0] 32)) = World.heap ((w.alloc (.cells #[.slice A_x0 x.tables.length c_x0, .int .i64 x.next] 32)).alloc (.cells #[.slice none 0 0, .int .i64 0] 32)) := rfl
  clear R_res
  have R_res : (World.heap ((w.alloc (.cells #[.slice A_x0 x.tables.length c_x0, .int .i64 x.next] 32)).alloc (.cells #[.slice none 0 0, .int .i64 0] 32)))[w.heap.size + 1]? = some (.cells #[.slice none 0 0, .int .i64 0] 32 (0, 0)) := by simpa using blk_new ((w.alloc (.cells #[.slice A_x0 x.tables.length c_x0, .int .i64 x.next] 32))) #[.slice none 0 0, .int .i64 0] 32
  have R_free := blk_free R_res
  have HK : Hid (bulkL RowS.bulk x.tables ≤ 1048576) := hk; clear hk
  have HL : Hid ((World.heap (((w.alloc (.cells #[.slice A_x0 x.tables.length c_x0, .int .i64 x.next] 32)).alloc (.cells #[.slice none 0 0, .int .i64 0] 32)))).size = w.heap.size + 1 + 1) := by show _ = _; simp
  have hG0 := hide (OwnA.made (size := 1) (R := RowSX) (e := 50) (w := ((w.alloc (.cells #[.slice A_x0 x.tables.length c_x0, .int .i64 x.next] 32)).alloc (.cells #[.slice none 0 0, .int .i64 0] 32))) (n := w.heap.size + 1 + 1) (out := w.heap.size + 1 + 1 + 1) (by simp) (by omega))
  obtain ⟨ij, ji, jz, js, jby⟩ := info_parts RowSS.info
  have B1 : (World.heap ((((w.alloc (.cells #[.slice A_x0 x.tables.length c_x0, .int .i64 x.next] 32)).alloc (.cells #[.slice none 0 0, .int .i64 0] 32)).alloc (.cells #[] 50)).alloc (.cells #[.slice (some ⟨w.heap.size + 1 + 1, 0, none⟩) 0 0, .int .i64 x.next] 32)))[w.heap.size + 1 + 1 + 1]? = some (.cells #[.slice (some ⟨w.heap.size + 1 + 1, 0, none⟩) 0 0, .int .i64 x.next] 32 (0, 0)) := by simpa using blk_new (((w.alloc (.cells #[.slice A_x0 x.tables.length c_x0, .int .i64 x.next] 32)).alloc (.cells #[.slice none 0 0, .int .i64 0] 32)).alloc (.cells #[] 50)) #[.slice (some ⟨w.heap.size + 1 + 1, 0, none⟩) 0 0, .int .i64 x.next] 32
  go_enter Try.func20, Try.ntmps20
  go_wp2_with fail
  go_loopw [4] (fun i wr => ∃ (k : Nat) (v : Value), k ≤ x.tables.length ∧ i = .int .i64 k ∧ Hid (OwnA 1 RowSX 50 (World.heap (((w.alloc (.cells #[.slice A_x0 x.tables.length c_x0, .int .i64 x.next] 32)).alloc (.cells #[.slice none 0 0, .int .i64 0] 32)))).size (w.heap.size + 1 + 1 + 1) wr v (x.tables.take k)) ∧ Hid (wr.heap[w.heap.size + 1 + 1 + 1]? = some (.cells #[v, .int .i64 x.next] 32 (0, 0))) ∧ Below (World.heap (((w.alloc (.cells #[.slice A_x0 x.tables.length c_x0, .int .i64 x.next] 32)).alloc (.cells #[.slice none 0 0, .int .i64 0] 32)))).size (((w.alloc (.cells #[.slice A_x0 x.tables.length c_x0, .int .i64 x.next] 32)).alloc (.cells #[.slice none 0 0, .int .i64 0] 32))) wr) (fun i _ => x.tables.length - (intOf i).toNat)
  case atStart => exact ⟨0, _, Nat.zero_le _, rfl, OwnA.below RowSX.good hG0 ((Below.refl _ _).alloc (Nat.le_refl _) _), B1, ((Below.refl _ _).alloc (Nat.le_refl _) _).alloc (by simp) _⟩
  case round =>
    clear hG0 B1; obtain ⟨kk, vv, hk, rfl, hG, hB, hbr⟩ := hrel; obtain ⟨wo, rfl⟩ : ∃ w' : World, w' = wr := ⟨_, rfl⟩
    have hwo := nxt hbx hbr
    replace q_x := box_on q_x rfl hbr; replace q_res := box_on q_res rfl hbr; replace R_res := blk_on R_res hbr; replace R_free := blk_free R_res
    have hsz := hbr.size; rw [HL.out] at hsz
    have R_out := hB.out; have R_free_out := blk_free R_out; have hBl := lt_of_cells R_out; have q_out := blk_cells R_out; clear hB
    by_cases hlt : kk < x.tables.length
    · obtain ⟨gb, go, gbk, ges, rfl, ghbl, ghcl, ghcell, gR, ghbk⟩ := hel_x0 kk hlt
      obtain ⟨gA, gc, ghlc, rfl⟩ : ∃ A0 c0, x.tables[kk].length ≤ c0 ∧ ges = [.slice A0 x.tables[kk].length c0] := by obtain ⟨A0, c0, h, h2, _⟩ := gR; exact ⟨A0, c0, h2, h⟩
      have g_0 := (hwo.cell (p := ⟨gb, _, none⟩) ghbl).trans (ghcell 0 _ rfl)
      simp only [Nat.add_zero, Nat.mul_one] at g_0
      clear hel_x0
      obtain ⟨gA', gc', hpv, _, _, gel⟩ := gR.use; injection hpv with e1 e2 e3; subst e1; clear e2 e3
      have HKk : Hid (bulkL Row.bulk x.tables[kk] ≤ 1048576) := bulkL_at RowS.bulk hlt HK.out
      go_wp2_with fail
      clear g_0
      have hG1 := hide (Own.made' (size := 2) (R := RowR) (e := 38) (w := wo) (n := wo.heap.size) (by simp))
      obtain ⟨ii1, hi1, hz1, hs1, hby1⟩ := info_parts RowS.info
      go_loopw [5, 6] (fun o i wr => ∃ (k : Nat) (v : Value), k ≤ x.tables[kk].length ∧ i = .int .i64 k ∧ o = v ∧ Hid (Own 2 RowR 38 (World.heap (wo)).size wr v (x.tables[kk].take k)) ∧ Hid (v.ownBlock ≠ none) ∧ Below (World.heap (wo)).size (wo) wr) (fun _ i _ => x.tables[kk].length - (intOf i).toNat)
      case atStart => exact ⟨0, _, Nat.zero_le _, rfl, rfl, hG1, (fun h => by cases h), (Below.refl _ _).alloc (Nat.le_refl _) _⟩
      case round =>
        clear hG1
        obtain ⟨k1, v1_, hk1, rfl, hov1, hG1, hI1, hb1001⟩ := hrel; replace hov1 := hov1.symm; subst hov1
        obtain ⟨wl1, rfl⟩ : ∃ w' : World, w' = wr := ⟨_, rfl⟩
        obtain ⟨O1, cO1, hv1, hlO1, hcO1⟩ := hG1.out.form
        replace q_x := box_on q_x rfl hb1001
        replace q_res := box_on q_res rfl hb1001
        replace q_out := box_on q_out rfl hb1001
        have hwl1 := nxt hwo hb1001
        replace R_res := blk_on R_res hb1001; replace R_free := blk_free R_res; replace R_out := blk_on R_out hb1001; replace R_free_out := blk_free R_out
        have hz0_1 := Below.refl (World.heap wl1).size wl1
        by_cases hlt1 : k1 < x.tables[kk].length
        · have g_0 := (hwl1.cell (p := ⟨gb, _, none⟩) ghbl).trans (ghcell 0 _ rfl)
          simp only [Nat.add_zero, Nat.mul_one] at g_0
          obtain ⟨eb, eo, ebk, ees, rfl, ehbl, ehcl, ehcell, eR, ehbk⟩ := gel k1 hlt1
          have eR0 := eR
          obtain ⟨ev1, eb1, _, ehes, ehf, er1⟩ := eR
          subst ehes
          obtain ⟨eA1, ec1, rfl, ehlc1, ehcm1, ehel1⟩ := er1.use
          have e_0 := (hwl1.cell (p := ⟨eb, _, none⟩) ehbl).trans (ehcell 0 _ rfl)
          have e_1 := (hwl1.cell (p := ⟨eb, _, none⟩) ehbl).trans (ehcell 1 _ rfl)
          simp only [Nat.add_zero] at e_0 e_1
          clear ehcell ehcl
          clear gel
          go_wp2_with fail
          refine (spec_l05OwnRow (RowR.good.nxt hwl1 eR0) (bulkL_at Row.bulk hlt1 HKk.out)).mono ?_; rintro e w1 ⟨cs2, bs2, rfl, r2, f2, hb1⟩; replace q_x := box_on q_x rfl hb1; replace q_res := box_on q_res rfl hb1; replace q_out := box_on q_out rfl hb1; have hw1 := nxt hwl1 hb1; have hl0_1 := nxt hb1001 hb1; have hl1_1 := nxt hz0_1 hb1; replace R_res := blk_on R_res hb1; replace R_free := blk_free R_res; replace R_out := blk_on R_out hb1; replace R_free_out := blk_free R_out
          clear g_0
          have r20 := r2; obtain ⟨w2v, w2b, _, rfl, _, w2r⟩ := r2; obtain ⟨A2, c2, rfl, _, _, _⟩ := w2r.use
          have hst1 : Hid (x.tables[kk].take (k1 + 1) = x.tables[kk].take k1 ++ [x.tables[kk][k1]]) := by show _ = _; exact take_step hlt1
          have hsz1 := (hl0_1).size; have hlo1 := (hl0_1).size
          have hbd1 : Hid ((x.tables[kk].take k1).length ≤ 1048576) := by show _ ≤ _; (try rw [List.length_take]); have := Nat.le_trans (bulkL_len _ _) HKk.out; omega
          have hvv1 := hide hv1; have hll1 := hide hlO1; clear hv1 hlO1 hcO1
          go_wp2_with (at_builtin; refine wpList_append_own RowR.good rfl _ _ 50 rfl Try.underlying50 hi1 hz1 hs1 hby1 rfl (by decide) (v := v1_) rfl hG1.out hl1_1 (cy := [.int .i64 x.tables[kk][k1].id, .slice A2 x.tables[kk][k1].cells.length c2]) (y := x.tables[kk][k1]) r20 f2 rfl rfl (fun u hu => by simp at hu; (try rcases hu with rfl | rfl) <;> first | rfl | (subst hu; rfl)) (by have := hbd1.out; omega) (by have := hbd1.out; omega) hb1001.size ?_; intro v' w' hO hB hsw hold hown)
          go_roundw
          case rel => exact ⟨k1 + 1, v', hlt1, by go_num, rfl, by rw [hst1.out]; exact hO, (fun h => by rcases hown with e9 | ⟨q9, e9, _⟩; (exact hI1.out (e9 ▸ h)); (rw [e9] at h; cases h)), hB _ _ hl0_1 (Nat.le_refl _)⟩
          case measure => simp [intOf]; omega
        · obtain rfl : k1 = x.tables[kk].length := by omega
          have g_0 := (hwl1.cell (p := ⟨gb, _, none⟩) ghbl).trans (ghcell 0 _ rfl)
          simp only [Nat.add_zero, Nat.mul_one] at g_0
          have hG2 := hG1.out; rw [List.take_length] at hG2; rw [List.take_length] at hv1; subst hv1; obtain ⟨bs2, r2_, f2⟩ := hG2.done; obtain ⟨g9, c9, hsm⟩ := hG2.sm hI1.out; have r2 : RowSX wl1 bs2 [.slice O1 x.tables[kk].length cO1] x.tables[kk] := ⟨r2_, g9, 0, c9, by rw [hsm]⟩; clear hG1 hG2 gel hsm r2_
          have hbdt : Hid ((x.tables.take kk).length ≤ 1048576) := by show _ ≤ _; rw [List.length_take]; have := bulkL_len RowS.bulk x.tables; have := HK.out; omega
          have hwz := hb1001.size
          go_wp2_with (at_builtin; refine wpList_append_ownA RowSX.good rfl _ _ 30 rfl Try.underlying30 ji jz js jby rfl (by decide) RowSX.one (v := vv) rfl hG.out hb1001 hBl (y := x.tables[kk]) (cy := [.slice O1 x.tables[kk].length cO1]) r2 f2 rfl rfl (by have := hbdt.out; omega) (by have := hbdt.out; omega) hbr.size ?_; intro v3 w3 hO hB3 hz3 hold holdW; obtain ⟨O3, n3, cO3, hv3⟩ : ∃ A n c, v3 = .slice A n c := (by obtain ⟨A, c, h, _⟩ := hO.own.form; exact ⟨A, _, c, h⟩); subst hv3; have hb3 := hB3 _ _ (nxt hbr hb1001) (Nat.le_refl _); have BB := hold.trans R_out; have BF := blk_free BB; have c3 := blk_cells BB 0)
          go_roundw
          case rel => exact ⟨kk + 1, _, hlt, by go_num, by rw [take_step hlt]; exact hO.set RowSX.good 0 (.slice O3 n3 cO3), blk_set BB 0 (.slice O3 n3 cO3), hb3.setCell (p := ⟨w.heap.size + 1 + 1 + 1, 0, none⟩) (by simp) _⟩
          case measure => simp [intOf]; omega
    · obtain rfl : kk = x.tables.length := by omega
      have hG2 := hG.out; rw [List.take_length] at hG2; have HG := hide hG2; obtain ⟨O, cO, hv, _, _⟩ := hG2.own.form; subst hv; clear hel_x0 hG hG2
      go_wp2_with fail
      have fin : _ = some (Obj.cells #[.slice O x.tables.length cO, .int .i64 x.next] 32 (0, 0)) := (blk_set (blk_set R_res 0 (.slice O x.tables.length cO)) 1 (.int .i64 x.next))
      have fc := blk_cells fin
      have HU := (((Upd.refl [w.heap.size + 1] wo).set (p := ⟨w.heap.size + 1, 0, none⟩) (by simp) rfl (.slice O x.tables.length cO)).set (p := ⟨w.heap.size + 1, 1, none⟩) (by simp) rfl (.int .i64 x.next))
      refine bodyPost_ret (v := .agg #[.slice O x.tables.length cO, .int .i64 x.next]) (by simp [results, Try.results20, go_sem, fc]) rfl ?_
      obtain ⟨bs', q1, q2⟩ := HG.out.own.done
      have hn : ∀ b ∈ bs', b ∉ [w.heap.size + 1] := fun b hb hm => by have := (q2.2 b hb).1; simp at this hm; omega
      exact ⟨[.slice O x.tables.length cO, .int .i64 x.next], bs', rfl, ⟨_, bs', rfl, rfl, hf_x, RowSSX.good.upd q1 HU hn⟩, (q2.upd HU).mono (by simp; omega), ((hwo.setCell (p := ⟨w.heap.size + 1, 0, none⟩) (by simp) (.slice O x.tables.length cO)).setCell (p := ⟨w.heap.size + 1, 1, none⟩) (by simp) (.int .i64 x.next))⟩
theorem RowSSX.at {w : World} {bs : List Nat} {A : Option Addr} {n c : Nat} {xs : List (List Row)} (h : RowSSX w bs [.slice A n c] xs) {m : Nat} (hm : m < xs.length) :
    ∃ b o qb qo qc, A = some ⟨b, o, none⟩ ∧ w.cell? ⟨b, o + m, none⟩ = some (.slice (some ⟨qb, qo, none⟩) xs[m].length qc) := by
  obtain ⟨A', c', hv, _, _, h3⟩ := h
  obtain ⟨rfl, rfl, rfl⟩ : A = A' ∧ n = xs.length ∧ c = c' := by simpa using hv
  rcases h3 with ⟨rfl, _⟩ | ⟨b, o, bss, rfl, _, hl, _, hel⟩
  · simp at hm
  · obtain ⟨es, h1, h2, _, qb, qo, qc, rfl⟩ := hel m xs[m] bss[m] (List.getElem?_eq_getElem hm) (List.getElem?_eq_getElem (by omega))
    have := h2 0 _ rfl
    simp only [Nat.mul_one, Nat.add_zero] at this
    exact ⟨b, o, qb, qo, qc, rfl, this⟩
theorem lbOf_stop {l : List Row} {id : Int} {k : Nat} (hk : k ≤ l.length) (h : ∀ j (hj : j < l.length), j < k → l[j].id < id) (hs : ∀ hk : k < l.length, ¬ l[k].id < id) : lbOf l id = k := by
  unfold lbOf
  rcases Nat.lt_or_ge k l.length with h1 | h1
  · rw [List.findIdx_eq h1]
    refine ⟨decide_eq_true (by have := hs h1; omega), fun j hj => ?_⟩
    have := h j (by omega) hj
    exact decide_eq_false (by omega)
  · obtain rfl : k = l.length := by omega
    rw [List.findIdx_eq_length]
    intro x hx
    obtain ⟨j, hj, rfl⟩ := List.getElem_of_mem hx
    have := h j hj hj
    exact decide_eq_false (by omega)
set_option maxHeartbeats 32000000 in
theorem spec_l05Put {w : World}  {bs_x : List Nat} {cs_x : List Value} {x : Store} (H_x : StoreR w bs_x cs_x x) (hk : x.bulk ≤ 1048576) {m : Nat} (hm : m < x.tables.length) {bs_r : List Nat} {cs_r : List Value} {r : Row} (H_r : RowR w bs_r cs_r r) (hk2 : r.bulk ≤ 1048576) (hrm : rising x.tables[m] = true) :
    Calls Try.prog 21 #[.agg cs_x.toArray, .int .i64 m, .agg cs_r.toArray] w (fun e w' => ∃ cs bs, e = .returned (.agg cs.toArray) ∧ StoreR w' bs cs ⟨x.tables.set m (putL x.tables[m] r), x.next⟩ ∧ (∀ b ∈ bs, w.heap.size ≤ b) ∧ Below w.heap.size w w') := by
  have H0_x := H_x
  obtain ⟨x_v0, x_b0, rfl, rfl, hf_x, x_r0⟩ := H_x
  obtain ⟨A_x0, c_x0, rfl, hlc_x0, hcm_x0, hel_x0⟩ := x_r0.use
  have H0_r := H_r
  obtain ⟨r_v1, r_b1, rfl, rfl, hf_r, r_r1⟩ := H_r
  obtain ⟨A_r1, c_r1, rfl, hlc_r1, hcm_r1, hel_r1⟩ := r_r1.use
  have hbx := ((((Below.refl w.heap.size w).alloc (Nat.le_refl _) (.cells #[.slice A_x0 x.tables.length c_x0, .int .i64 x.next] 32)).alloc (by simp; try omega) (.cells #[.int .i64 r.id, .slice A_r1 r.cells.length c_r1] 38)).alloc (by simp; try omega) (.cells #[.slice none 0 0, .int .i64 0] 32))
  obtain ⟨q_x, q_r, q_res⟩ := three_at (Below.refl (((w.alloc (.cells #[.slice A_x0 x.tables.length c_x0, .int .i64 x.next] 32)).alloc (.cells #[.int .i64 r.id, .slice A_r1 r.cells.length c_r1] 38)).alloc (.cells #[.slice none 0 0, .int .i64 0] 32)).heap.size _)
  have R_res : World.heap (((w.alloc (.cells #[.slice A_x0 x.tables.length c_x0, .int .i64 x.next] 32)).alloc (.cells #[.int .i64 r.id, .slice A_r1 r.cells.length c_r1] 38)).alloc (.cells #[.slice none 0 0, .int .i64 0] 32)) = World.heap (((w.alloc (.cells #[.slice A_x0 x.tables.length c_x0, .int .i64 x.next] 32)).alloc (.cells #[.int .i64 r.id, .slice A_r1 r.cells.length c_r1] 38)).alloc (.cells #[.slice none 0 0, .int .i64 0] 32)) := rfl
  clear R_res
  have R_res : (World.heap (((w.alloc (.cells #[.slice A_x0 x.tables.length c_x0, .int .i64 x.next] 32)).alloc (.cells #[.int .i64 r.id, .slice A_r1 r.cells.length c_r1] 38)).alloc (.cells #[.slice none 0 0, .int .i64 0] 32)))[w.heap.size + 1 + 1]? = some (.cells #[.slice none 0 0, .int .i64 0] 32 (0, 0)) := by simpa using blk_new (((w.alloc (.cells #[.slice A_x0 x.tables.length c_x0, .int .i64 x.next] 32)).alloc (.cells #[.int .i64 r.id, .slice A_r1 r.cells.length c_r1] 38))) #[.slice none 0 0, .int .i64 0] 32
  have R_free := blk_free R_res
  have R_x : (World.heap (((w.alloc (.cells #[.slice A_x0 x.tables.length c_x0, .int .i64 x.next] 32)).alloc (.cells #[.int .i64 r.id, .slice A_r1 r.cells.length c_r1] 38)).alloc (.cells #[.slice none 0 0, .int .i64 0] 32)))[w.heap.size]? = some (.cells #[.slice A_x0 x.tables.length c_x0, .int .i64 x.next] 32 (0, 0)) := by simpa using blk_old (blk_old (blk_new w #[.slice A_x0 x.tables.length c_x0, .int .i64 x.next] 32) (.cells #[.int .i64 r.id, .slice A_r1 r.cells.length c_r1] 38)) (.cells #[.slice none 0 0, .int .i64 0] 32)
  have R_free_x := blk_free R_x
  have R_r : (World.heap (((w.alloc (.cells #[.slice A_x0 x.tables.length c_x0, .int .i64 x.next] 32)).alloc (.cells #[.int .i64 r.id, .slice A_r1 r.cells.length c_r1] 38)).alloc (.cells #[.slice none 0 0, .int .i64 0] 32)))[w.heap.size + 1]? = some (.cells #[.int .i64 r.id, .slice A_r1 r.cells.length c_r1] 38 (0, 0)) := by simpa using blk_old (blk_new ((w.alloc (.cells #[.slice A_x0 x.tables.length c_x0, .int .i64 x.next] 32))) #[.int .i64 r.id, .slice A_r1 r.cells.length c_r1] 38) (.cells #[.slice none 0 0, .int .i64 0] 32)
  have R_free_r := blk_free R_r
  have HK := hide hk; have HK2 := hide hk2; have HRM := hide hrm; have HTL := hide (RowS.len_le (Store.tab_le HK.out hm)); clear hk hk2 hrm hel_x0 hel_r1
  obtain ⟨ij, ji, jz, js, jby⟩ := info_parts RowS.info
  go_enter Try.func21, Try.ntmps21
  go_wp2_with fail
  refine (spec_l05OwnX (StoreR.good.nxt hbx H0_x) HK.out).mono ?_; rintro e w1 ⟨cs2, bs2, rfl, r2, f2, hb1⟩; replace q_x := box_on q_x rfl hb1; replace q_r := box_on q_r rfl hb1; replace q_res := box_on q_res rfl hb1; have hw1 := nxt hbx hb1; replace R_res := blk_on R_res hb1; replace R_free := blk_free R_res; replace R_x := blk_on R_x hb1; replace R_free_x := blk_free R_x; replace R_r := blk_on R_r hb1; replace R_free_r := blk_free R_r
  obtain ⟨w2v, w2b, rfl, hw2b, hf2, w2r⟩ := r2; subst hw2b; have w2r0 := w2r; obtain ⟨A2, c2, hv2_, _⟩ := w2r; obtain rfl : w2v = .slice A2 x.tables.length c2 := by simpa using hv2_
  clear hv2_
  have hin : ∀ b ∈ bs2, w.heap.size + 1 + 1 < b := fun b hb => by have := (f2.2 b hb).1; simp at this; omega
  have xB := blk_set (blk_set R_x 0 (.slice A2 x.tables.length c2)) 1 (.int .i64 x.next)
  have x_0 := blk_cells xB 0; have x_1 := blk_cells xB 1; have x_f := blk_free xB
  have rB := (blk_far (p := ⟨w.heap.size, 1, none⟩) (by simp; try omega) (.int .i64 x.next)).trans ((blk_far (p := ⟨w.heap.size, 0, none⟩) (by simp; try omega) (.slice A2 x.tables.length c2)).trans R_res)
  have yB := (blk_far (p := ⟨w.heap.size, 1, none⟩) (by simp; try omega) (.int .i64 x.next)).trans ((blk_far (p := ⟨w.heap.size, 0, none⟩) (by simp; try omega) (.slice A2 x.tables.length c2)).trans R_r)
  have HUx := (((Upd.refl [w.heap.size] w1).set (p := ⟨w.heap.size, 0, none⟩) (by simp) rfl (.slice A2 x.tables.length c2)).set (p := ⟨w.heap.size, 1, none⟩) (by simp) rfl (.int .i64 x.next))
  have hsg := RowSSX.good.upd w2r0 HUx (fun b hb hm => by have := hin b hb; simp at hm; omega); have hfg := f2.upd HUx
  have hszA : (World.heap ((w1.setCell ⟨w.heap.size, 0, none⟩ (.slice A2 x.tables.length c2)).setCell ⟨w.heap.size, 1, none⟩ (.int .i64 x.next))).size = w1.heap.size := by rw [size_set, size_set]
  have hwA := (hw1.setCell (p := ⟨w.heap.size, 0, none⟩) (by simp) (.slice A2 x.tables.length c2)).setCell (p := ⟨w.heap.size, 1, none⟩) (by simp) (.int .i64 x.next)
  obtain ⟨pb, po, qb, qo, pc, hA2, hcell⟩ := RowSSX.at hsg hm; subst hA2
  obtain ⟨pb', po', pbk, pes, pcur, pe, hA2, hcur, hbm, hbn, hsub, hpes, hpc, hpR0, hpF, hclose⟩ := SlR.put RowSR.good hsg.plain hfg hm; cases hA2
  have hpv : pes = [.slice (some ⟨qb, qo, none⟩) x.tables[m].length pc] := by obtain ⟨A, c, h, _⟩ := hpR0; subst h; have := (blk_cells hcur _).trans (hpc 0 _ rfl); simp only [Nat.mul_one, Nat.add_zero] at this; rw [this] at hcell; exact congrArg (fun x => [x]) (Option.some.inj hcell)
  subst hpv
  have HPC : Hid (pcur[po + m]? = some (.slice (some ⟨qb, qo, none⟩) x.tables[m].length pc)) := by show _ = _; rw [← blk_cells hcur]; exact hcell
  have hclose := hide hclose; have hsub := hide hsub
  simp only [Nat.mul_one, Nat.add_zero] at hclose; have hpl : po + m < pcur.size := by have := hpc 0 _ rfl; simp only [Nat.mul_one, Nat.add_zero] at this; exact (Array.getElem?_eq_some_iff.1 this).1
  obtain ⟨hplc, hpcm⟩ : x.tables[m].length ≤ pc ∧ pc ≤ 9223372036854775807 := by obtain ⟨A, c, h, h2, h3, _⟩ := hpR0; injection h with h _; injection h with _ _ h; subst h; unfold maxLen at h3; exact ⟨h2, h3⟩
  have hres := lt_of_cells R_res; replace hres : w.heap.size < w1.heap.size ∧ w.heap.size + 1 < w1.heap.size ∧ w.heap.size + 1 + 1 < w1.heap.size := ⟨by omega, by omega, hres⟩
  have hne1 : w.heap.size ≠ pb := by have := hin _ hbm; omega
  have hne2 : w.heap.size + 1 + 1 ≠ pb := by have := hin _ hbm; omega
  have hpblt := lt_of_cells hcur; rw [hszA] at hpblt; have hpkl : ∀ b ∈ pbk, b < w1.heap.size := fun b hb => by have := RowSR.good.lt hpR0 b hb; rw [hszA] at this; exact this
  have HPK := hide hpkl; have HIN := hide hin; have HRS := hide hres; have HPB := hide hpblt; have XB := hide xB; have RB := hide rB; have YB := hide yB; have HC := hide hcur; have HSG := hide hszA; have HPL := hide hpl; clear hpkl hpc hin hres hpblt hcur hszA hpl hsg hfg w2r0 HUx hpes
  go_wp2_with fail
  clear q_x q_r q_res
  go_loopw [8] (fun i wr => ∃ k : Nat, k ≤ x.tables[m].length ∧ i = .int .i64 k ∧ Hid (∀ j (hj : j < x.tables[m].length), j < k → x.tables[m][j].id < r.id) ∧ Below (World.heap ((w1.setCell ⟨w.heap.size, 0, none⟩ (.slice (some ⟨pb, po, none⟩) x.tables.length c2)).setCell ⟨w.heap.size, 1, none⟩ (.int .i64 x.next))).size ((w1.setCell ⟨w.heap.size, 0, none⟩ (.slice (some ⟨pb, po, none⟩) x.tables.length c2)).setCell ⟨w.heap.size, 1, none⟩ (.int .i64 x.next)) wr) (fun i _ => x.tables[m].length - (intOf i).toNat)
  case atStart => exact ⟨0, Nat.zero_le _, rfl, (fun j _ hj => by omega), Below.refl _ _⟩
  case round =>
    clear xB rB yB x_0 x_1 x_f hcell
    obtain ⟨k, hk, rfl, hI, hbr⟩ := hrel; obtain ⟨wl, rfl⟩ : ∃ w' : World, w' = wr := ⟨_, rfl⟩
    have q_r := blk_cells (blk_on YB.out hbr); have hwl := nxt hwA hbr; have RL := RowSR.good.nxt hbr hpR0
    obtain ⟨pA', pc', hpv, _, _, pel⟩ := RL.use; injection hpv with e1 e2 e3; subst e1; clear e2 e3 RL
    by_cases hgo : ∃ hlt : k < x.tables[m].length, x.tables[m][k].id < r.id
    · obtain ⟨hlt, hgi⟩ := hgo
      obtain ⟨eb, eo, ebk, ees, ehA, ehbl, ehcl, ehcell, eR, ehbk⟩ := pel k hlt
      cases ehA
      have eR0 := eR
      obtain ⟨ev1, eb1, _, ehes, ehf, er1⟩ := eR
      subst ehes
      obtain ⟨eA1, ec1, rfl, ehlc1, ehcm1, ehel1⟩ := er1.use
      have e_0 := Fw.cell (((Below.refl (World.heap wl).size wl).cell (p := ⟨qb, _, none⟩) ehbl).trans (ehcell 0 _ rfl))
      have e_1 := Fw.cell (((Below.refl (World.heap wl).size wl).cell (p := ⟨qb, _, none⟩) ehbl).trans (ehcell 1 _ rfl))
      simp only [Nat.add_zero] at e_0 e_1
      clear pel
      have hd1 : decide (k < x.tables[m].length) = true := decide_eq_true (by omega)
      have hd2 : decide ((k : Int) < (x.tables[m].length : Int)) = true := decide_eq_true (by omega)
      have hI2 : Hid (∀ j (hj : j < x.tables[m].length), j < (k + 1) → x.tables[m][j].id < r.id) := fun j hj hjk => by rcases Nat.lt_or_ge j k with h | h; (exact hI.out j hj h); (obtain rfl : j = k := by omega); exact hgi
      have hg : decide (x.tables[m][k].id < r.id) = true := decide_eq_true hgi; clear hgi hI
      go_wp2_with fail
      have q_rF0 := Fw.cell (box_cell q_r 0 rfl)
      have q_rF1 := Fw.cell (box_cell q_r 1 rfl)
      refine region_quiet (by kernel_rfl) (by kernel_rfl) ?_
      repeat (go_big_quiet_step (fail))
      refine wpQuiet_nil ?_; intro w2 hb2; replace q_r := box_on q_r rfl hb2; have hw2 := nxt hwl hb2; have hl0_2 := nxt hbr hb2; clear q_rF0 q_rF1 e_0 e_1
      go_wp2_with fail
      go_roundw
      case rel => exact ⟨k + 1, hlt, by go_num, hI2, hl0_2⟩
      case measure => simp [intOf]; omega
    · have hlb := hide (lbOf_stop hk hI.out (fun h1 h2 => hgo ⟨h1, h2⟩)); clear hI
      by_cases hlt : k < x.tables[m].length
      · obtain ⟨eb, eo, ebk, ees, ehA, ehbl, ehcl, ehcell, eR, ehbk⟩ := pel k hlt
        cases ehA
        have eR0 := eR
        obtain ⟨ev1, eb1, _, ehes, ehf, er1⟩ := eR
        subst ehes
        obtain ⟨eA1, ec1, rfl, ehlc1, ehcm1, ehel1⟩ := er1.use
        have e_0 := Fw.cell (((Below.refl (World.heap wl).size wl).cell (p := ⟨qb, _, none⟩) ehbl).trans (ehcell 0 _ rfl))
        have e_1 := Fw.cell (((Below.refl (World.heap wl).size wl).cell (p := ⟨qb, _, none⟩) ehbl).trans (ehcell 1 _ rfl))
        simp only [Nat.add_zero] at e_0 e_1
        clear pel
        have hd1 : decide (k < x.tables[m].length) = true := decide_eq_true (by omega)
        have hd2 : decide ((k : Int) < (x.tables[m].length : Int)) = true := decide_eq_true (by omega)
        have hg : decide (x.tables[m][k].id < r.id) = false := decide_eq_false (fun h => hgo ⟨hlt, h⟩); clear hgo
        go_wp2_with fail
        have q_rF0 := Fw.cell (box_cell q_r 0 rfl)
        have q_rF1 := Fw.cell (box_cell q_r 1 rfl)
        refine region_quiet (by kernel_rfl) (by kernel_rfl) ?_
        repeat (go_big_quiet_step (fail))
        refine wpQuiet_nil ?_; intro w3 hb3; replace q_r := box_on q_r rfl hb3; have hw3 := nxt hwl hb3; have hl0_3 := nxt hbr hb3; clear q_rF0 q_rF1 e_0 e_1
        have hkc : k ≤ pc := (by omega); have hAD0 := hide (show (if pc = k then some ⟨qb, qo, none⟩ else some ⟨qb, qo + k * 2, none⟩ : Option Addr) = some ⟨qb, qo + k * 2, none⟩ from if_neg (by omega))
        have hbx2 := Below.refl (World.heap w3).size w3
        have e_0 := Fw.cell ((hb3.cell (p := ⟨qb, _, none⟩) ehbl).trans (ehcell 0 _ rfl))
        have e_1 := Fw.cell ((hb3.cell (p := ⟨qb, _, none⟩) ehbl).trans (ehcell 1 _ rfl))
        simp only [Nat.add_zero] at e_0 e_1; clear hbx2
        cases hq : (x.tables[m][k].id == r.id)
        · have hset : Hid (putL x.tables[m] r = x.tables[m].take k ++ r :: x.tables[m].drop k) := by show _ = _; unfold putL; rw [hlb.out, hasId_lb HRM.out hlt hlb.out, hq]; rfl
          have hq2 : decide (x.tables[m][k].id = r.id) = false := decide_eq_false (fun h => by rw [h] at hq; simp at hq)
          go_wp2_with fail
          have q_rF0 := Fw.cell (box_cell q_r 0 rfl)
          have q_rF1 := Fw.cell (box_cell q_r 1 rfl)
          refine region_quiet (by kernel_rfl) (by kernel_rfl) ?_
          repeat (go_big_quiet_step (fail))
          refine wpQuiet_nil ?_; intro w4 hb4; replace q_r := box_on q_r rfl hb4; have hw4 := nxt hw3 hb4; have hl0_4 := nxt hl0_3 hb4; clear q_rF0 q_rF1 e_0 e_1
          clear hg hq hq2
          have hAD := hAD0.out; clear hAD0
          have HAD := hide hAD; clear hAD
          have hCz := hl0_4.size; rw [HSG.out] at hCz
          have xB2 := blk_on XB.out hl0_4; have rB2 := blk_on RB.out hl0_4; have yB2 := blk_on YB.out hl0_4; have pB2 := blk_on HC.out hl0_4; have RW := RowSR.good.nxt hl0_4 hpR0; have x_0 := blk_cells xB2 0; have y_0 := blk_cells yB2 0; have y_1 := blk_cells yB2 1
          have e1 := ((Below.refl (World.heap w4).size w4).drew).alloc (Nat.le_refl _) (.cells #[] 38)
          have hGm := hide (Gr.made' (size := 2) (R := RowR) (e := 38) (w := World.drew w4) (n := (World.heap w4).size) rfl)
          obtain ⟨bT, hT, hTs⟩ := (RowSR.good.nxt e1 RW).take (k := k) hk; have HTk := hide hT; have HTs := hide hTs; clear hT hTs
          have hlt1 : (x.tables[m].take k).length = k := by rw [List.length_take]; omega
          have HLT := hide hlt1; clear hlt1; have HLD := hide (show (x.tables[m].drop k).length = x.tables[m].length - k from List.length_drop)
          have HW := hide RW; clear RW; have hX0 : w.heap.size < (World.heap w4).size := by have := HRS.out; omega
          have hX1 : w.heap.size + 1 < (World.heap w4).size := by have := HRS.out; omega
          go_wp2_with fail
          refine wp_region_tail (fun w' => w'.cell? ⟨w.heap.size, 0, none⟩ = some (.slice (some ⟨pb, po, none⟩) x.tables.length c2) ∧ w'.cell? ⟨w.heap.size + 1, 0, none⟩ = some (.int .i64 r.id) ∧ w'.cell? ⟨w.heap.size + 1, 1, none⟩ = some (.slice A_r1 r.cells.length c_r1)) 15 (by kernel_rfl) (by decide) (show _ from ⟨x_0, y_0, y_1⟩) (fun hHeld => ?_)
          refine wpT_take (i := 0) rfl (by kernel_rfl) (fun _ _ _ h => h) (Or.inl ⟨by rfl, fun w hSw => by (try dsimp only at hSw); first | (go_simp; done) | (go_simp; with_reducible rfl)⟩) (by assumption) ?_
          (try simp only [Act.put, List.setIfInBounds_toArray, List.set_cons_zero, List.set_cons_succ])
          refine wpT_take (i := 1) rfl (by kernel_rfl) (fun _ _ _ h => h) (Or.inl ⟨by rfl, fun w hSw => by (try dsimp only at hSw); first | (go_simp; done) | (go_simp; with_reducible rfl)⟩) (by assumption) ?_
          (try simp only [Act.put, List.setIfInBounds_toArray, List.set_cons_zero, List.set_cons_succ])
          refine wpT_take (i := 2) rfl (by kernel_rfl) (fun _ _ _ h => h) (Or.inl ⟨by rfl, fun w hSw => by (try dsimp only at hSw); first | (go_simp; done) | (go_simp; with_reducible rfl)⟩) (by assumption) ?_
          (try simp only [Act.put, List.setIfInBounds_toArray, List.set_cons_zero, List.set_cons_succ])
          refine wpT_take (i := 4) rfl (by kernel_rfl) (fun _ _ _ h => h) (Or.inl ⟨by rfl, fun w hSw => by (try dsimp only at hSw); first | (go_simp; done) | (go_simp; with_reducible rfl)⟩) (by assumption) ?_
          (try simp only [Act.put, List.setIfInBounds_toArray, List.set_cons_zero, List.set_cons_succ])
          refine wpT_take (i := 5) rfl (by kernel_rfl) (fun _ _ _ h => h) (Or.inl ⟨by rfl, fun w hSw => by (try dsimp only at hSw); first | (go_simp; done) | (go_simp; with_reducible rfl)⟩) (by assumption) ?_
          (try simp only [Act.put, List.setIfInBounds_toArray, List.set_cons_zero, List.set_cons_succ])
          refine wpT_take (i := 6) rfl (by kernel_rfl) (fun _ _ _ h => h) (Or.inl ⟨by rfl, fun w hSw => by (try dsimp only at hSw); first | (go_simp; done) | (go_simp; with_reducible rfl)⟩) (by assumption) ?_
          (try simp only [Act.put, List.setIfInBounds_toArray, List.set_cons_zero, List.set_cons_succ])
          refine wpT_take (i := 8) rfl (by kernel_rfl) (fun _ _ _ h => h) (Or.inl ⟨by rfl, fun w hSw => by (try dsimp only at hSw); first | (go_simp; done) | (go_simp; with_reducible rfl)⟩) (by assumption) ?_
          (try simp only [Act.put, List.setIfInBounds_toArray, List.set_cons_zero, List.set_cons_succ])
          refine wpT_take (i := 12) rfl (by kernel_rfl) (fun _ _ _ h => h) (Or.inl ⟨by rfl, fun w hSw => by (try dsimp only at hSw); first | (go_simp; done) | (go_simp; with_reducible rfl)⟩) (by assumption) ?_
          (try simp only [Act.put, List.setIfInBounds_toArray, List.set_cons_zero, List.set_cons_succ])
          refine wpT_one (i := 3) rfl (by kernel_rfl) (fun K hK => ?_)
          go_simp; have x_3 := (e1.cell (p := ⟨w.heap.size, 0, none⟩) hX0).trans x_0; have y_3 := (e1.cell (p := ⟨w.heap.size + 1, 0, none⟩) hX1).trans y_0; have z_3 := (e1.cell (p := ⟨w.heap.size + 1, 1, none⟩) hX1).trans y_1
          clear hHeld; refine hK.out _ _ (show _ from ⟨x_3, y_3, z_3⟩) (fun hHeld => ?_)
          clear hK K
          (try simp only [Act.put, List.setIfInBounds_toArray, List.set_cons_zero, List.set_cons_succ])
          refine wpT_one (i := 7) rfl (by kernel_rfl) (fun K hK => ?_)
          refine step_append_sl RowR.good rfl _ _ 50 rfl Try.underlying50 ji jz js jby rfl (by decide) rfl hGm.out HTk.out rfl RowR.one (fun b hb hv => by have h1 := HPK.out b (HTs.out b hb); have h9 : (World.heap w4).size = b := (by injection hv); omega) (by have h00 : ([] : List Row).length = 0 := rfl; have := HLT.out; have := HLD.out; have := HTL.out; (try simp only [List.length_append, List.length_cons, h00, List.length_nil]); omega) (by have h00 : ([] : List Row).length = 0 := rfl; have := HLT.out; have := HLD.out; have := HTL.out; (try simp only [List.length_append, List.length_cons, h00, List.length_nil]); omega) (by simp [World.drew]) ?_; intro v2 u2 bss2 hA; have hb2 := hA.below (World.heap w4).size _ e1 (Nat.le_refl _); have hz2 := hb2.size; have x_7 := (hb2.cell (p := ⟨w.heap.size, 0, none⟩) hX0).trans x_0; have y_7 := (hb2.cell (p := ⟨w.heap.size + 1, 0, none⟩) hX1).trans y_0; have z_7 := (hb2.cell (p := ⟨w.heap.size + 1, 1, none⟩) hX1).trans y_1
          clear hHeld; refine hK.out _ _ (show _ from ⟨x_7, y_7, z_7⟩) (fun hHeld => ?_)
          clear hK K
          (try simp only [Act.put, List.setIfInBounds_toArray, List.set_cons_zero, List.set_cons_succ])
          refine wpT_one (i := 9) rfl (by kernel_rfl) (fun K hK => ?_)
          go_simp; go_at_call 36; refine (spec_l05OwnRow (RowR.good.nxt (nxt hw4 hb2) H0_r) HK2.out).mono ?_; rintro e u9 ⟨cs3, bs3, rfl, r3, f3, hb9⟩; have r30 := r3; obtain ⟨w3v, w3b, _, rfl, _, w3r⟩ := r3; obtain ⟨A3, c3, rfl, _, _, _⟩ := w3r.use; have hbn9 := nxt hb2 hb9; have hz9 := hb9.size; have x_9 := (hbn9.cell (p := ⟨w.heap.size, 0, none⟩) hX0).trans x_0; have y_9 := (hbn9.cell (p := ⟨w.heap.size + 1, 0, none⟩) hX1).trans y_0; have z_9 := (hbn9.cell (p := ⟨w.heap.size + 1, 1, none⟩) hX1).trans y_1
          clear hHeld; refine hK.out _ _ (show _ from ⟨x_9, y_9, z_9⟩) (fun hHeld => ?_)
          clear hK K
          (try simp only [Act.put, List.setIfInBounds_toArray, List.set_cons_zero, List.set_cons_succ])
          refine wpT_one (i := 10) rfl (by kernel_rfl) (fun K hK => ?_)
          go_simp; have hb10 := hbn9.alloc hbn9.size (.cells #[.int .i64 r.id, .slice A3 r.cells.length c3] 38); have hGA := hide (hA.gr.below RowR.good (nxt' hb9 (nxt' ((Below.refl _ _).alloc (Nat.le_refl _) (.cells #[.int .i64 r.id, .slice A3 r.cells.length c3] 38)) (Below.refl _ _)))); have hLit := hide (row_of_one (size := 2) (R := RowR) (cs := [.int .i64 r.id, .slice A3 r.cells.length c3]) (x := r) (blk_new u9 #[.int .i64 r.id, .slice A3 r.cells.length c3] 38) (RowR.good.nxt ((Below.refl _ _).alloc (Nat.le_refl _) (.cells #[.int .i64 r.id, .slice A3 r.cells.length c3] 38)) r30) rfl); have x_10 := (hb10.cell (p := ⟨w.heap.size, 0, none⟩) hX0).trans x_0; have y_10 := (hb10.cell (p := ⟨w.heap.size + 1, 0, none⟩) hX1).trans y_0; have z_10 := (hb10.cell (p := ⟨w.heap.size + 1, 1, none⟩) hX1).trans y_1
          clear hHeld; refine hK.out _ _ (show _ from ⟨x_10, y_10, z_10⟩) (fun hHeld => ?_)
          clear hK K
          (try simp only [Act.put, List.setIfInBounds_toArray, List.set_cons_zero, List.set_cons_succ])
          refine wpT_one (i := 11) rfl (by kernel_rfl) (fun K hK => ?_)
          refine step_append_sl RowR.good rfl _ _ 50 rfl Try.underlying50 ji jz js jby rfl (by decide) (v := v2) (by rfl) hGA.out hLit.out (by rfl) RowR.one (fun b hb hv => by have h1 := (hA.gr.blk b hv).2; rcases List.mem_cons.1 hb with h | h; (subst h; omega); (have := (f3.2 b h).1; omega)) (by have h00 : ([] : List Row).length = 0 := rfl; have := HLT.out; have := HLD.out; have := HTL.out; (try simp only [List.length_append, List.length_cons, h00, List.length_nil]); omega) (by have h00 : ([] : List Row).length = 0 := rfl; have := HLT.out; have := HLD.out; have := HTL.out; (try simp only [List.length_append, List.length_cons, h00, List.length_nil]); omega) hb10.size ?_; intro v3 u11 bss3 hA2; have hb11 := hA2.below (World.heap w4).size _ hb10 (Nat.le_refl _); have hz11 := hA2.size; obtain ⟨A9, bD, hA9, hD, hDs⟩ := (RowSR.good.nxt hb11 HW.out).drop2 (k := k) (by omega); rw [HAD.out] at hA9; subst hA9; have HD := hide hD; have HDs := hide hDs; clear hD hDs; have x_11 := (hb11.cell (p := ⟨w.heap.size, 0, none⟩) hX0).trans x_0; have y_11 := (hb11.cell (p := ⟨w.heap.size + 1, 0, none⟩) hX1).trans y_0; have z_11 := (hb11.cell (p := ⟨w.heap.size + 1, 1, none⟩) hX1).trans y_1
          clear hHeld; refine hK.out _ _ (show _ from ⟨x_11, y_11, z_11⟩) (fun hHeld => ?_)
          clear hK K
          (try simp only [Act.put, List.setIfInBounds_toArray, List.set_cons_zero, List.set_cons_succ])
          refine wpT_one (i := 13) rfl (by kernel_rfl) (fun K hK => ?_)
          refine step_append_sl RowR.good rfl _ _ 50 rfl Try.underlying50 ji jz js jby rfl (by decide) (v := v3) (by rfl) hA2.gr HD.out (by rfl) RowR.one (fun b hb hv => by have := (hA2.gr.blk b hv).1; have := HPK.out b (HDs.out b hb); omega) (by have h00 : ([] : List Row).length = 0 := rfl; have := HLT.out; have := HLD.out; have := HTL.out; (try simp only [List.length_append, List.length_cons, h00, List.length_nil]); omega) (by have h00 : ([] : List Row).length = 0 := rfl; have := HLT.out; have := HLD.out; have := HTL.out; (try simp only [List.length_append, List.length_cons, h00, List.length_nil]); omega) hb11.size ?_; intro v4 u13 bss4 hA4; have hb13 := hA4.below (World.heap w4).size _ hb11 (Nat.le_refl _); obtain ⟨O3, n3, cO3, hv3⟩ : ∃ A n c, v4 = .slice A n c := (by obtain ⟨A, c, h, _⟩ := hA4.gr.form; exact ⟨A, _, c, h⟩); subst hv3; have pB := (hb13.block pb (by have := HPB.out; omega)).trans pB2; have pF3 := blk_free pB; have g_13 := (blk_cells pB (po + m)).trans HPC.out; have xB3 := (hb13.block w.heap.size (by have := HRS.out; omega)).trans xB2; have rB3 := (hb13.block (w.heap.size + 1 + 1) (by have := HRS.out; omega)).trans rB2; have x_13 := (hb13.cell (p := ⟨w.heap.size, 0, none⟩) hX0).trans x_0; have y_13 := (hb13.cell (p := ⟨w.heap.size + 1, 0, none⟩) hX1).trans y_0; have z_13 := (hb13.cell (p := ⟨w.heap.size + 1, 1, none⟩) hX1).trans y_1
          clear hHeld; refine hK.out _ _ (show _ from ⟨x_13, y_13, z_13⟩) (fun hHeld => ?_)
          clear hK K
          (try simp only [Act.put, List.setIfInBounds_toArray, List.set_cons_zero, List.set_cons_succ])
          refine wpT_take (i := 14) rfl (by kernel_rfl) (fun _ _ _ h => h) (Or.inl ⟨by rfl, fun w hSw => by (try dsimp only at hSw); first | (go_simp; done) | (go_simp; with_reducible rfl)⟩) (by assumption) ?_
          (try simp only [Act.put, List.setIfInBounds_toArray, List.set_cons_zero, List.set_cons_succ])
          refine wpT_done (by kernel_rfl) ?_
          simp only [List.drop_succ_cons, List.drop_zero]
          clear hHeld
          have oS := (blk_far (p := ⟨pb, po + m, none⟩) hne1 (.slice O3 n3 cO3)).trans xB3; have rS := (blk_far (p := ⟨pb, po + m, none⟩) hne2 (.slice O3 n3 cO3)).trans rB3
          have oc0 := blk_cells oS 0; have oc1 := blk_cells oS 1; have rc0 := blk_cells rS 0; have rc1 := blk_cells rS 1; have rf := blk_free rS
          have hw3 := nxt hw4 hb13
          have hwS := hw3.setCell (p := ⟨pb, po + m, none⟩) (by have := HIN.out _ hbm; show w.heap.size ≤ pb; omega) (.slice O3 n3 cO3)
          obtain ⟨bs4, r4, _, hs4⟩ := hA4.gr.done
          have hL : (([] : List Row) ++ x.tables[m].take k ++ [r]) ++ x.tables[m].drop k = putL x.tables[m] r := by rw [hset.out]; simp
          rw [hL] at r4
          have hbig : ∀ b ∈ bs4, b ∈ pbk ∨ (World.heap w4).size ≤ b := fun b hb => by rcases hs4 _ hb with h | h; (rw [List.flatten_append, List.mem_append, List.flatten_append, List.mem_append, List.flatten_append, List.mem_append] at h; rcases h with ((h | h) | h) | h; (exact absurd h (by simp)); (exact .inl (HTs.out _ (hA.sub _ h))); (rcases List.mem_cons.1 (hA2.sub _ h) with h | h; (exact .inr (by subst h; omega)); exact .inr (by have := (f3.2 b h).1; omega)); exact .inl (HDs.out _ (hA4.sub _ h))); exact .inr (by have := (hA4.gr.blk _ h).1; omega)
          have hn4 : ∀ b ∈ bs4, b ∉ [pb] := fun b hb hm => by simp at hm; subst hm; rcases hbig _ hb with h | h; (exact hbn h); (have := HPB.out; omega)
          have hN := hclose.out (u13.setCell ⟨pb, po + m, none⟩ (.slice O3 n3 cO3)) _ [.slice O3 n3 cO3] (putL x.tables[m] r) bs4 ((Upd.of (nxt hl0_4 hb13)).set (p := ⟨pb, po + m, none⟩) (by simp) rfl (.slice O3 n3 cO3)) (blk_set pB (po + m) (.slice O3 n3 cO3)) rfl (fun j u hu => match j, hu with | 0, hu => (by simp only [List.getElem?_cons_zero, Option.some.injEq] at hu; subst hu; exact Array.getElem?_setIfInBounds_self_of_lt HPL.out) | j + 1, hu => (by simp at hu)) (fun p hp => by rw [Array.getElem?_setIfInBounds_ne (by omega)]) (RowSR.good.upd r4 ((Upd.refl [pb] u13).set (p := ⟨pb, po + m, none⟩) (by simp) rfl (.slice O3 n3 cO3)) hn4)
          have HN := hide hN; have HBG := hide hbig; clear hN hbig hn4 hL
          have R_res := rS
          go_wp2_with fail
          have fin : _ = some (Obj.cells #[.slice (some ⟨pb, po, none⟩) x.tables.length c2, .int .i64 x.next] 32 (0, 0)) := (blk_set (blk_set R_res 0 (.slice (some ⟨pb, po, none⟩) x.tables.length c2)) 1 (.int .i64 x.next))
          have fc := blk_cells fin
          have HU := (((Upd.refl [w.heap.size + 1 + 1] (u13.setCell ⟨pb, po + m, none⟩ (.slice O3 n3 cO3))).set (p := ⟨w.heap.size + 1 + 1, 0, none⟩) (by simp) rfl (.slice (some ⟨pb, po, none⟩) x.tables.length c2)).set (p := ⟨w.heap.size + 1 + 1, 1, none⟩) (by simp) rfl (.int .i64 x.next))
          refine bodyPost_ret (v := .agg #[.slice (some ⟨pb, po, none⟩) x.tables.length c2, .int .i64 x.next]) (by simp [results, Try.results21, go_sem, fc]) rfl ?_
          obtain ⟨bsN, rN, sN, _⟩ := HN.out
          have hn0 : ∀ b ∈ bsN, w.heap.size + 1 + 1 < b := fun b hb => by rcases sN _ hb with h | h; (exact HIN.out _ h); rcases HBG.out _ h with h | h; (exact HIN.out _ (hsub.out _ h)); (have := HRS.out; omega)
          have hn : ∀ b ∈ bsN, b ∉ [w.heap.size + 1 + 1] := fun b hb hm => by have := hn0 b hb; simp at hm; omega
          exact ⟨[.slice (some ⟨pb, po, none⟩) x.tables.length c2, .int .i64 x.next], bsN, rfl, ⟨_, bsN, rfl, rfl, hf2, RowSSR.good.upd rN HU hn⟩, fun b hb => by have := hn0 b hb; omega, ((hwS.setCell (p := ⟨w.heap.size + 1 + 1, 0, none⟩) (by simp; try omega) (.slice (some ⟨pb, po, none⟩) x.tables.length c2)).setCell (p := ⟨w.heap.size + 1 + 1, 1, none⟩) (by simp; try omega) (.int .i64 x.next))⟩
        · have hset : Hid (putL x.tables[m] r = x.tables[m].take k ++ r :: x.tables[m].drop (k + 1)) := by show _ = _; unfold putL; rw [hlb.out, hasId_lb HRM.out hlt hlb.out, hq]; rfl
          have hq2 : decide (x.tables[m][k].id = r.id) = true := decide_eq_true (eq_of_beq hq)
          go_wp2_with fail
          have q_rF0 := Fw.cell (box_cell q_r 0 rfl)
          have q_rF1 := Fw.cell (box_cell q_r 1 rfl)
          refine region_quiet (by kernel_rfl) (by kernel_rfl) ?_
          repeat (go_big_quiet_step (fail))
          refine wpQuiet_nil ?_; intro w5 hb5; replace q_r := box_on q_r rfl hb5; have hw5 := nxt hw3 hb5; have hl0_5 := nxt hl0_3 hb5; clear q_rF0 q_rF1 e_0 e_1
          clear hg hq hq2
          obtain ⟨AE, hAE⟩ : ∃ A, (if pc = k + 1 then some ⟨qb, qo, none⟩ else some ⟨qb, qo + (k + 1) * 2, none⟩ : Option Addr) = A := ⟨_, rfl⟩
          have hkc1 : k + 1 ≤ pc := (by omega); have hkl1 : k + 1 ≤ x.tables[m].length := hlt; have hwr : IntKind.i64.wrap ((k : Int) + 1) = (k : Int) + 1 := by simp [IntKind.wrap, IntKind.bits, IntKind.signed]; omega
          have htn : ((k : Int) + 1).toNat = k + 1 := (by omega); have hi0 : (0 : Int) ≤ (k : Int) + 1 := (by omega); have hi1 : (k : Int) + 1 ≤ x.tables[m].length := by omega
          have hCz := hl0_5.size; rw [HSG.out] at hCz
          have xB2 := blk_on XB.out hl0_5; have rB2 := blk_on RB.out hl0_5; have yB2 := blk_on YB.out hl0_5; have pB2 := blk_on HC.out hl0_5; have RW := RowSR.good.nxt hl0_5 hpR0; have x_0 := blk_cells xB2 0; have y_0 := blk_cells yB2 0; have y_1 := blk_cells yB2 1
          have e1 := ((Below.refl (World.heap w5).size w5).drew).alloc (Nat.le_refl _) (.cells #[] 38)
          have hGm := hide (Gr.made' (size := 2) (R := RowR) (e := 38) (w := World.drew w5) (n := (World.heap w5).size) rfl)
          obtain ⟨bT, hT, hTs⟩ := (RowSR.good.nxt e1 RW).take (k := k) hk; have HTk := hide hT; have HTs := hide hTs; clear hT hTs
          have hlt1 : (x.tables[m].take k).length = k := by rw [List.length_take]; omega
          have HLT := hide hlt1; clear hlt1; have HLD := hide (show (x.tables[m].drop (k + 1)).length = x.tables[m].length - (k + 1) from List.length_drop)
          have HW := hide RW; clear RW; have hX0 : w.heap.size < (World.heap w5).size := by have := HRS.out; omega
          have hX1 : w.heap.size + 1 < (World.heap w5).size := by have := HRS.out; omega
          go_wp2_with fail
          refine wp_region_tail (fun w' => w'.cell? ⟨w.heap.size, 0, none⟩ = some (.slice (some ⟨pb, po, none⟩) x.tables.length c2) ∧ w'.cell? ⟨w.heap.size + 1, 0, none⟩ = some (.int .i64 r.id) ∧ w'.cell? ⟨w.heap.size + 1, 1, none⟩ = some (.slice A_r1 r.cells.length c_r1)) 15 (by kernel_rfl) (by decide) (show _ from ⟨x_0, y_0, y_1⟩) (fun hHeld => ?_)
          refine wpT_take (i := 0) rfl (by kernel_rfl) (fun _ _ _ h => h) (Or.inl ⟨by rfl, fun w hSw => by (try dsimp only at hSw); first | (go_simp; done) | (go_simp; with_reducible rfl)⟩) (by assumption) ?_
          (try simp only [Act.put, List.setIfInBounds_toArray, List.set_cons_zero, List.set_cons_succ])
          refine wpT_take (i := 1) rfl (by kernel_rfl) (fun _ _ _ h => h) (Or.inl ⟨by rfl, fun w hSw => by (try dsimp only at hSw); first | (go_simp; done) | (go_simp; with_reducible rfl)⟩) (by assumption) ?_
          (try simp only [Act.put, List.setIfInBounds_toArray, List.set_cons_zero, List.set_cons_succ])
          refine wpT_take (i := 2) rfl (by kernel_rfl) (fun _ _ _ h => h) (Or.inl ⟨by rfl, fun w hSw => by (try dsimp only at hSw); first | (go_simp; done) | (go_simp; with_reducible rfl)⟩) (by assumption) ?_
          (try simp only [Act.put, List.setIfInBounds_toArray, List.set_cons_zero, List.set_cons_succ])
          refine wpT_take (i := 4) rfl (by kernel_rfl) (fun _ _ _ h => h) (Or.inl ⟨by rfl, fun w hSw => by (try dsimp only at hSw); first | (go_simp; done) | (go_simp; with_reducible rfl)⟩) (by assumption) ?_
          (try simp only [Act.put, List.setIfInBounds_toArray, List.set_cons_zero, List.set_cons_succ])
          refine wpT_take (i := 5) rfl (by kernel_rfl) (fun _ _ _ h => h) (Or.inl ⟨by rfl, fun w hSw => by (try dsimp only at hSw); first | (go_simp; done) | (go_simp; with_reducible rfl)⟩) (by assumption) ?_
          (try simp only [Act.put, List.setIfInBounds_toArray, List.set_cons_zero, List.set_cons_succ])
          refine wpT_take (i := 6) rfl (by kernel_rfl) (fun _ _ _ h => h) (Or.inl ⟨by rfl, fun w hSw => by (try dsimp only at hSw); first | (go_simp; done) | (go_simp; with_reducible rfl)⟩) (by assumption) ?_
          (try simp only [Act.put, List.setIfInBounds_toArray, List.set_cons_zero, List.set_cons_succ])
          refine wpT_take (i := 8) rfl (by kernel_rfl) (fun _ _ _ h => h) (Or.inl ⟨by rfl, fun w hSw => by (try dsimp only at hSw); first | (go_simp; done) | (go_simp; with_reducible rfl)⟩) (by assumption) ?_
          (try simp only [Act.put, List.setIfInBounds_toArray, List.set_cons_zero, List.set_cons_succ])
          refine wpT_take (i := 12) rfl (by kernel_rfl) (fun _ _ _ h => h) (Or.inl ⟨by rfl, fun w hSw => by (try dsimp only at hSw); first | (go_simp; done) | (go_simp; with_reducible rfl)⟩) (by assumption) ?_
          (try simp only [Act.put, List.setIfInBounds_toArray, List.set_cons_zero, List.set_cons_succ])
          refine wpT_one (i := 3) rfl (by kernel_rfl) (fun K hK => ?_)
          go_simp; have x_3 := (e1.cell (p := ⟨w.heap.size, 0, none⟩) hX0).trans x_0; have y_3 := (e1.cell (p := ⟨w.heap.size + 1, 0, none⟩) hX1).trans y_0; have z_3 := (e1.cell (p := ⟨w.heap.size + 1, 1, none⟩) hX1).trans y_1
          clear hHeld; refine hK.out _ _ (show _ from ⟨x_3, y_3, z_3⟩) (fun hHeld => ?_)
          clear hK K
          (try simp only [Act.put, List.setIfInBounds_toArray, List.set_cons_zero, List.set_cons_succ])
          refine wpT_one (i := 7) rfl (by kernel_rfl) (fun K hK => ?_)
          refine step_append_sl RowR.good rfl _ _ 50 rfl Try.underlying50 ji jz js jby rfl (by decide) rfl hGm.out HTk.out rfl RowR.one (fun b hb hv => by have h1 := HPK.out b (HTs.out b hb); have h9 : (World.heap w5).size = b := (by injection hv); omega) (by have h00 : ([] : List Row).length = 0 := rfl; have := HLT.out; have := HLD.out; have := HTL.out; (try simp only [List.length_append, List.length_cons, h00, List.length_nil]); omega) (by have h00 : ([] : List Row).length = 0 := rfl; have := HLT.out; have := HLD.out; have := HTL.out; (try simp only [List.length_append, List.length_cons, h00, List.length_nil]); omega) (by simp [World.drew]) ?_; intro v2 u2 bss2 hA; have hb2 := hA.below (World.heap w5).size _ e1 (Nat.le_refl _); have hz2 := hb2.size; have x_7 := (hb2.cell (p := ⟨w.heap.size, 0, none⟩) hX0).trans x_0; have y_7 := (hb2.cell (p := ⟨w.heap.size + 1, 0, none⟩) hX1).trans y_0; have z_7 := (hb2.cell (p := ⟨w.heap.size + 1, 1, none⟩) hX1).trans y_1
          clear hHeld; refine hK.out _ _ (show _ from ⟨x_7, y_7, z_7⟩) (fun hHeld => ?_)
          clear hK K
          (try simp only [Act.put, List.setIfInBounds_toArray, List.set_cons_zero, List.set_cons_succ])
          refine wpT_one (i := 9) rfl (by kernel_rfl) (fun K hK => ?_)
          go_simp; go_at_call 36; refine (spec_l05OwnRow (RowR.good.nxt (nxt hw5 hb2) H0_r) HK2.out).mono ?_; rintro e u9 ⟨cs3, bs3, rfl, r3, f3, hb9⟩; have r30 := r3; obtain ⟨w3v, w3b, _, rfl, _, w3r⟩ := r3; obtain ⟨A3, c3, rfl, _, _, _⟩ := w3r.use; have hbn9 := nxt hb2 hb9; have hz9 := hb9.size; have x_9 := (hbn9.cell (p := ⟨w.heap.size, 0, none⟩) hX0).trans x_0; have y_9 := (hbn9.cell (p := ⟨w.heap.size + 1, 0, none⟩) hX1).trans y_0; have z_9 := (hbn9.cell (p := ⟨w.heap.size + 1, 1, none⟩) hX1).trans y_1
          clear hHeld; refine hK.out _ _ (show _ from ⟨x_9, y_9, z_9⟩) (fun hHeld => ?_)
          clear hK K
          (try simp only [Act.put, List.setIfInBounds_toArray, List.set_cons_zero, List.set_cons_succ])
          refine wpT_one (i := 10) rfl (by kernel_rfl) (fun K hK => ?_)
          go_simp; have hb10 := hbn9.alloc hbn9.size (.cells #[.int .i64 r.id, .slice A3 r.cells.length c3] 38); have hGA := hide (hA.gr.below RowR.good (nxt' hb9 (nxt' ((Below.refl _ _).alloc (Nat.le_refl _) (.cells #[.int .i64 r.id, .slice A3 r.cells.length c3] 38)) (Below.refl _ _)))); have hLit := hide (row_of_one (size := 2) (R := RowR) (cs := [.int .i64 r.id, .slice A3 r.cells.length c3]) (x := r) (blk_new u9 #[.int .i64 r.id, .slice A3 r.cells.length c3] 38) (RowR.good.nxt ((Below.refl _ _).alloc (Nat.le_refl _) (.cells #[.int .i64 r.id, .slice A3 r.cells.length c3] 38)) r30) rfl); have x_10 := (hb10.cell (p := ⟨w.heap.size, 0, none⟩) hX0).trans x_0; have y_10 := (hb10.cell (p := ⟨w.heap.size + 1, 0, none⟩) hX1).trans y_0; have z_10 := (hb10.cell (p := ⟨w.heap.size + 1, 1, none⟩) hX1).trans y_1
          clear hHeld; refine hK.out _ _ (show _ from ⟨x_10, y_10, z_10⟩) (fun hHeld => ?_)
          clear hK K
          (try simp only [Act.put, List.setIfInBounds_toArray, List.set_cons_zero, List.set_cons_succ])
          refine wpT_one (i := 11) rfl (by kernel_rfl) (fun K hK => ?_)
          refine step_append_sl RowR.good rfl _ _ 50 rfl Try.underlying50 ji jz js jby rfl (by decide) (v := v2) (by rfl) hGA.out hLit.out (by rfl) RowR.one (fun b hb hv => by have h1 := (hA.gr.blk b hv).2; rcases List.mem_cons.1 hb with h | h; (subst h; omega); (have := (f3.2 b h).1; omega)) (by have h00 : ([] : List Row).length = 0 := rfl; have := HLT.out; have := HLD.out; have := HTL.out; (try simp only [List.length_append, List.length_cons, h00, List.length_nil]); omega) (by have h00 : ([] : List Row).length = 0 := rfl; have := HLT.out; have := HLD.out; have := HTL.out; (try simp only [List.length_append, List.length_cons, h00, List.length_nil]); omega) hb10.size ?_; intro v3 u11 bss3 hA2; have hb11 := hA2.below (World.heap w5).size _ hb10 (Nat.le_refl _); have hz11 := hA2.size; obtain ⟨A9, bD, hA9, hD, hDs⟩ := (RowSR.good.nxt hb11 HW.out).drop2 (k := (k + 1)) (by omega); rw [hAE] at hA9; subst hA9; have HD := hide hD; have HDs := hide hDs; clear hD hDs; have x_11 := (hb11.cell (p := ⟨w.heap.size, 0, none⟩) hX0).trans x_0; have y_11 := (hb11.cell (p := ⟨w.heap.size + 1, 0, none⟩) hX1).trans y_0; have z_11 := (hb11.cell (p := ⟨w.heap.size + 1, 1, none⟩) hX1).trans y_1
          clear hHeld; refine hK.out _ _ (show _ from ⟨x_11, y_11, z_11⟩) (fun hHeld => ?_)
          clear hK K
          (try simp only [Act.put, List.setIfInBounds_toArray, List.set_cons_zero, List.set_cons_succ])
          refine wpT_one (i := 13) rfl (by kernel_rfl) (fun K hK => ?_)
          refine step_append_sl RowR.good rfl _ _ 50 rfl Try.underlying50 ji jz js jby rfl (by decide) (v := v3) (by rfl) hA2.gr HD.out (by rfl) RowR.one (fun b hb hv => by have := (hA2.gr.blk b hv).1; have := HPK.out b (HDs.out b hb); omega) (by have h00 : ([] : List Row).length = 0 := rfl; have := HLT.out; have := HLD.out; have := HTL.out; (try simp only [List.length_append, List.length_cons, h00, List.length_nil]); omega) (by have h00 : ([] : List Row).length = 0 := rfl; have := HLT.out; have := HLD.out; have := HTL.out; (try simp only [List.length_append, List.length_cons, h00, List.length_nil]); omega) hb11.size ?_; intro v4 u13 bss4 hA4; have hb13 := hA4.below (World.heap w5).size _ hb11 (Nat.le_refl _); obtain ⟨O3, n3, cO3, hv3⟩ : ∃ A n c, v4 = .slice A n c := (by obtain ⟨A, c, h, _⟩ := hA4.gr.form; exact ⟨A, _, c, h⟩); subst hv3; have pB := (hb13.block pb (by have := HPB.out; omega)).trans pB2; have pF3 := blk_free pB; have g_13 := (blk_cells pB (po + m)).trans HPC.out; have xB3 := (hb13.block w.heap.size (by have := HRS.out; omega)).trans xB2; have rB3 := (hb13.block (w.heap.size + 1 + 1) (by have := HRS.out; omega)).trans rB2; have x_13 := (hb13.cell (p := ⟨w.heap.size, 0, none⟩) hX0).trans x_0; have y_13 := (hb13.cell (p := ⟨w.heap.size + 1, 0, none⟩) hX1).trans y_0; have z_13 := (hb13.cell (p := ⟨w.heap.size + 1, 1, none⟩) hX1).trans y_1
          clear hHeld; refine hK.out _ _ (show _ from ⟨x_13, y_13, z_13⟩) (fun hHeld => ?_)
          clear hK K
          (try simp only [Act.put, List.setIfInBounds_toArray, List.set_cons_zero, List.set_cons_succ])
          refine wpT_take (i := 14) rfl (by kernel_rfl) (fun _ _ _ h => h) (Or.inl ⟨by rfl, fun w hSw => by (try dsimp only at hSw); first | (go_simp; done) | (go_simp; with_reducible rfl)⟩) (by assumption) ?_
          (try simp only [Act.put, List.setIfInBounds_toArray, List.set_cons_zero, List.set_cons_succ])
          refine wpT_done (by kernel_rfl) ?_
          simp only [List.drop_succ_cons, List.drop_zero]
          clear hHeld
          have oS := (blk_far (p := ⟨pb, po + m, none⟩) hne1 (.slice O3 n3 cO3)).trans xB3; have rS := (blk_far (p := ⟨pb, po + m, none⟩) hne2 (.slice O3 n3 cO3)).trans rB3
          have oc0 := blk_cells oS 0; have oc1 := blk_cells oS 1; have rc0 := blk_cells rS 0; have rc1 := blk_cells rS 1; have rf := blk_free rS
          have hw3 := nxt hw5 hb13
          have hwS := hw3.setCell (p := ⟨pb, po + m, none⟩) (by have := HIN.out _ hbm; show w.heap.size ≤ pb; omega) (.slice O3 n3 cO3)
          obtain ⟨bs4, r4, _, hs4⟩ := hA4.gr.done
          have hL : (([] : List Row) ++ x.tables[m].take k ++ [r]) ++ x.tables[m].drop (k + 1) = putL x.tables[m] r := by rw [hset.out]; simp
          rw [hL] at r4
          have hbig : ∀ b ∈ bs4, b ∈ pbk ∨ (World.heap w5).size ≤ b := fun b hb => by rcases hs4 _ hb with h | h; (rw [List.flatten_append, List.mem_append, List.flatten_append, List.mem_append, List.flatten_append, List.mem_append] at h; rcases h with ((h | h) | h) | h; (exact absurd h (by simp)); (exact .inl (HTs.out _ (hA.sub _ h))); (rcases List.mem_cons.1 (hA2.sub _ h) with h | h; (exact .inr (by subst h; omega)); exact .inr (by have := (f3.2 b h).1; omega)); exact .inl (HDs.out _ (hA4.sub _ h))); exact .inr (by have := (hA4.gr.blk _ h).1; omega)
          have hn4 : ∀ b ∈ bs4, b ∉ [pb] := fun b hb hm => by simp at hm; subst hm; rcases hbig _ hb with h | h; (exact hbn h); (have := HPB.out; omega)
          have hN := hclose.out (u13.setCell ⟨pb, po + m, none⟩ (.slice O3 n3 cO3)) _ [.slice O3 n3 cO3] (putL x.tables[m] r) bs4 ((Upd.of (nxt hl0_5 hb13)).set (p := ⟨pb, po + m, none⟩) (by simp) rfl (.slice O3 n3 cO3)) (blk_set pB (po + m) (.slice O3 n3 cO3)) rfl (fun j u hu => match j, hu with | 0, hu => (by simp only [List.getElem?_cons_zero, Option.some.injEq] at hu; subst hu; exact Array.getElem?_setIfInBounds_self_of_lt HPL.out) | j + 1, hu => (by simp at hu)) (fun p hp => by rw [Array.getElem?_setIfInBounds_ne (by omega)]) (RowSR.good.upd r4 ((Upd.refl [pb] u13).set (p := ⟨pb, po + m, none⟩) (by simp) rfl (.slice O3 n3 cO3)) hn4)
          have HN := hide hN; have HBG := hide hbig; clear hN hbig hn4 hL
          have R_res := rS
          go_wp2_with fail
          have fin : _ = some (Obj.cells #[.slice (some ⟨pb, po, none⟩) x.tables.length c2, .int .i64 x.next] 32 (0, 0)) := (blk_set (blk_set R_res 0 (.slice (some ⟨pb, po, none⟩) x.tables.length c2)) 1 (.int .i64 x.next))
          have fc := blk_cells fin
          have HU := (((Upd.refl [w.heap.size + 1 + 1] (u13.setCell ⟨pb, po + m, none⟩ (.slice O3 n3 cO3))).set (p := ⟨w.heap.size + 1 + 1, 0, none⟩) (by simp) rfl (.slice (some ⟨pb, po, none⟩) x.tables.length c2)).set (p := ⟨w.heap.size + 1 + 1, 1, none⟩) (by simp) rfl (.int .i64 x.next))
          refine bodyPost_ret (v := .agg #[.slice (some ⟨pb, po, none⟩) x.tables.length c2, .int .i64 x.next]) (by simp [results, Try.results21, go_sem, fc]) rfl ?_
          obtain ⟨bsN, rN, sN, _⟩ := HN.out
          have hn0 : ∀ b ∈ bsN, w.heap.size + 1 + 1 < b := fun b hb => by rcases sN _ hb with h | h; (exact HIN.out _ h); rcases HBG.out _ h with h | h; (exact HIN.out _ (hsub.out _ h)); (have := HRS.out; omega)
          have hn : ∀ b ∈ bsN, b ∉ [w.heap.size + 1 + 1] := fun b hb hm => by have := hn0 b hb; simp at hm; omega
          exact ⟨[.slice (some ⟨pb, po, none⟩) x.tables.length c2, .int .i64 x.next], bsN, rfl, ⟨_, bsN, rfl, rfl, hf2, RowSSR.good.upd rN HU hn⟩, fun b hb => by have := hn0 b hb; omega, ((hwS.setCell (p := ⟨w.heap.size + 1 + 1, 0, none⟩) (by simp; try omega) (.slice (some ⟨pb, po, none⟩) x.tables.length c2)).setCell (p := ⟨w.heap.size + 1 + 1, 1, none⟩) (by simp; try omega) (.int .i64 x.next))⟩
      · have hd1 : decide (k < x.tables[m].length) = false := decide_eq_false (by omega)
        have hd2 : decide ((k : Int) < (x.tables[m].length : Int)) = false := decide_eq_false (by omega)
        clear hgo pel
        go_wp2_with fail
        have q_rF0 := Fw.cell (box_cell q_r 0 rfl)
        have q_rF1 := Fw.cell (box_cell q_r 1 rfl)
        refine region_quiet (by kernel_rfl) (by kernel_rfl) ?_
        repeat (go_big_quiet_step (fail))
        refine wpQuiet_nil ?_; intro w6 hb6; replace q_r := box_on q_r rfl hb6; have hw6 := nxt hwl hb6; have hl0_6 := nxt hbr hb6; clear q_rF0 q_rF1
        obtain ⟨AD, hAD⟩ : ∃ A, (if pc = k then some ⟨qb, qo, none⟩ else some ⟨qb, qo + k * 2, none⟩ : Option Addr) = A := ⟨_, rfl⟩
        have hkc : k ≤ pc := by omega
        have hset : Hid (putL x.tables[m] r = x.tables[m].take k ++ r :: x.tables[m].drop k) := by show _ = _; unfold putL; rw [hlb.out, hasId_end (by rw [hlb.out]; omega)]; rfl
        go_wp2_with fail
        have q_rF0 := Fw.cell (box_cell q_r 0 rfl)
        have q_rF1 := Fw.cell (box_cell q_r 1 rfl)
        refine region_quiet (by kernel_rfl) (by kernel_rfl) ?_
        repeat (go_big_quiet_step (fail))
        refine wpQuiet_nil ?_; intro w7 hb7; replace q_r := box_on q_r rfl hb7; have hw7 := nxt hw6 hb7; have hl0_7 := nxt hl0_6 hb7; clear q_rF0 q_rF1
        have hCz := hl0_7.size; rw [HSG.out] at hCz
        have xB2 := blk_on XB.out hl0_7; have rB2 := blk_on RB.out hl0_7; have yB2 := blk_on YB.out hl0_7; have pB2 := blk_on HC.out hl0_7; have RW := RowSR.good.nxt hl0_7 hpR0; have x_0 := blk_cells xB2 0; have y_0 := blk_cells yB2 0; have y_1 := blk_cells yB2 1
        have e1 := ((Below.refl (World.heap w7).size w7).drew).alloc (Nat.le_refl _) (.cells #[] 38)
        have hGm := hide (Gr.made' (size := 2) (R := RowR) (e := 38) (w := World.drew w7) (n := (World.heap w7).size) rfl)
        obtain ⟨bT, hT, hTs⟩ := (RowSR.good.nxt e1 RW).take (k := k) hk; have HTk := hide hT; have HTs := hide hTs; clear hT hTs
        have hlt1 : (x.tables[m].take k).length = k := by rw [List.length_take]; omega
        have HLT := hide hlt1; clear hlt1; have HLD := hide (show (x.tables[m].drop k).length = x.tables[m].length - k from List.length_drop)
        have HW := hide RW; clear RW; have hX0 : w.heap.size < (World.heap w7).size := by have := HRS.out; omega
        have hX1 : w.heap.size + 1 < (World.heap w7).size := by have := HRS.out; omega
        go_wp2_with fail
        refine wp_region_tail (fun w' => w'.cell? ⟨w.heap.size, 0, none⟩ = some (.slice (some ⟨pb, po, none⟩) x.tables.length c2) ∧ w'.cell? ⟨w.heap.size + 1, 0, none⟩ = some (.int .i64 r.id) ∧ w'.cell? ⟨w.heap.size + 1, 1, none⟩ = some (.slice A_r1 r.cells.length c_r1)) 15 (by kernel_rfl) (by decide) (show _ from ⟨x_0, y_0, y_1⟩) (fun hHeld => ?_)
        refine wpT_take (i := 0) rfl (by kernel_rfl) (fun _ _ _ h => h) (Or.inl ⟨by rfl, fun w hSw => by (try dsimp only at hSw); first | (go_simp; done) | (go_simp; with_reducible rfl)⟩) (by assumption) ?_
        (try simp only [Act.put, List.setIfInBounds_toArray, List.set_cons_zero, List.set_cons_succ])
        refine wpT_take (i := 1) rfl (by kernel_rfl) (fun _ _ _ h => h) (Or.inl ⟨by rfl, fun w hSw => by (try dsimp only at hSw); first | (go_simp; done) | (go_simp; with_reducible rfl)⟩) (by assumption) ?_
        (try simp only [Act.put, List.setIfInBounds_toArray, List.set_cons_zero, List.set_cons_succ])
        refine wpT_take (i := 2) rfl (by kernel_rfl) (fun _ _ _ h => h) (Or.inl ⟨by rfl, fun w hSw => by (try dsimp only at hSw); first | (go_simp; done) | (go_simp; with_reducible rfl)⟩) (by assumption) ?_
        (try simp only [Act.put, List.setIfInBounds_toArray, List.set_cons_zero, List.set_cons_succ])
        refine wpT_take (i := 4) rfl (by kernel_rfl) (fun _ _ _ h => h) (Or.inl ⟨by rfl, fun w hSw => by (try dsimp only at hSw); first | (go_simp; done) | (go_simp; with_reducible rfl)⟩) (by assumption) ?_
        (try simp only [Act.put, List.setIfInBounds_toArray, List.set_cons_zero, List.set_cons_succ])
        refine wpT_take (i := 5) rfl (by kernel_rfl) (fun _ _ _ h => h) (Or.inl ⟨by rfl, fun w hSw => by (try dsimp only at hSw); first | (go_simp; done) | (go_simp; with_reducible rfl)⟩) (by assumption) ?_
        (try simp only [Act.put, List.setIfInBounds_toArray, List.set_cons_zero, List.set_cons_succ])
        refine wpT_take (i := 6) rfl (by kernel_rfl) (fun _ _ _ h => h) (Or.inl ⟨by rfl, fun w hSw => by (try dsimp only at hSw); first | (go_simp; done) | (go_simp; with_reducible rfl)⟩) (by assumption) ?_
        (try simp only [Act.put, List.setIfInBounds_toArray, List.set_cons_zero, List.set_cons_succ])
        refine wpT_take (i := 8) rfl (by kernel_rfl) (fun _ _ _ h => h) (Or.inl ⟨by rfl, fun w hSw => by (try dsimp only at hSw); first | (go_simp; done) | (go_simp; with_reducible rfl)⟩) (by assumption) ?_
        (try simp only [Act.put, List.setIfInBounds_toArray, List.set_cons_zero, List.set_cons_succ])
        refine wpT_take (i := 12) rfl (by kernel_rfl) (fun _ _ _ h => h) (Or.inl ⟨by rfl, fun w hSw => by (try dsimp only at hSw); first | (go_simp; done) | (go_simp; with_reducible rfl)⟩) (by assumption) ?_
        (try simp only [Act.put, List.setIfInBounds_toArray, List.set_cons_zero, List.set_cons_succ])
        refine wpT_one (i := 3) rfl (by kernel_rfl) (fun K hK => ?_)
        go_simp; have x_3 := (e1.cell (p := ⟨w.heap.size, 0, none⟩) hX0).trans x_0; have y_3 := (e1.cell (p := ⟨w.heap.size + 1, 0, none⟩) hX1).trans y_0; have z_3 := (e1.cell (p := ⟨w.heap.size + 1, 1, none⟩) hX1).trans y_1
        clear hHeld; refine hK.out _ _ (show _ from ⟨x_3, y_3, z_3⟩) (fun hHeld => ?_)
        clear hK K
        (try simp only [Act.put, List.setIfInBounds_toArray, List.set_cons_zero, List.set_cons_succ])
        refine wpT_one (i := 7) rfl (by kernel_rfl) (fun K hK => ?_)
        refine step_append_sl RowR.good rfl _ _ 50 rfl Try.underlying50 ji jz js jby rfl (by decide) rfl hGm.out HTk.out rfl RowR.one (fun b hb hv => by have h1 := HPK.out b (HTs.out b hb); have h9 : (World.heap w7).size = b := (by injection hv); omega) (by have h00 : ([] : List Row).length = 0 := rfl; have := HLT.out; have := HLD.out; have := HTL.out; (try simp only [List.length_append, List.length_cons, h00, List.length_nil]); omega) (by have h00 : ([] : List Row).length = 0 := rfl; have := HLT.out; have := HLD.out; have := HTL.out; (try simp only [List.length_append, List.length_cons, h00, List.length_nil]); omega) (by simp [World.drew]) ?_; intro v2 u2 bss2 hA; have hb2 := hA.below (World.heap w7).size _ e1 (Nat.le_refl _); have hz2 := hb2.size; have x_7 := (hb2.cell (p := ⟨w.heap.size, 0, none⟩) hX0).trans x_0; have y_7 := (hb2.cell (p := ⟨w.heap.size + 1, 0, none⟩) hX1).trans y_0; have z_7 := (hb2.cell (p := ⟨w.heap.size + 1, 1, none⟩) hX1).trans y_1
        clear hHeld; refine hK.out _ _ (show _ from ⟨x_7, y_7, z_7⟩) (fun hHeld => ?_)
        clear hK K
        (try simp only [Act.put, List.setIfInBounds_toArray, List.set_cons_zero, List.set_cons_succ])
        refine wpT_one (i := 9) rfl (by kernel_rfl) (fun K hK => ?_)
        go_simp; go_at_call 36; refine (spec_l05OwnRow (RowR.good.nxt (nxt hw7 hb2) H0_r) HK2.out).mono ?_; rintro e u9 ⟨cs3, bs3, rfl, r3, f3, hb9⟩; have r30 := r3; obtain ⟨w3v, w3b, _, rfl, _, w3r⟩ := r3; obtain ⟨A3, c3, rfl, _, _, _⟩ := w3r.use; have hbn9 := nxt hb2 hb9; have hz9 := hb9.size; have x_9 := (hbn9.cell (p := ⟨w.heap.size, 0, none⟩) hX0).trans x_0; have y_9 := (hbn9.cell (p := ⟨w.heap.size + 1, 0, none⟩) hX1).trans y_0; have z_9 := (hbn9.cell (p := ⟨w.heap.size + 1, 1, none⟩) hX1).trans y_1
        clear hHeld; refine hK.out _ _ (show _ from ⟨x_9, y_9, z_9⟩) (fun hHeld => ?_)
        clear hK K
        (try simp only [Act.put, List.setIfInBounds_toArray, List.set_cons_zero, List.set_cons_succ])
        refine wpT_one (i := 10) rfl (by kernel_rfl) (fun K hK => ?_)
        go_simp; have hb10 := hbn9.alloc hbn9.size (.cells #[.int .i64 r.id, .slice A3 r.cells.length c3] 38); have hGA := hide (hA.gr.below RowR.good (nxt' hb9 (nxt' ((Below.refl _ _).alloc (Nat.le_refl _) (.cells #[.int .i64 r.id, .slice A3 r.cells.length c3] 38)) (Below.refl _ _)))); have hLit := hide (row_of_one (size := 2) (R := RowR) (cs := [.int .i64 r.id, .slice A3 r.cells.length c3]) (x := r) (blk_new u9 #[.int .i64 r.id, .slice A3 r.cells.length c3] 38) (RowR.good.nxt ((Below.refl _ _).alloc (Nat.le_refl _) (.cells #[.int .i64 r.id, .slice A3 r.cells.length c3] 38)) r30) rfl); have x_10 := (hb10.cell (p := ⟨w.heap.size, 0, none⟩) hX0).trans x_0; have y_10 := (hb10.cell (p := ⟨w.heap.size + 1, 0, none⟩) hX1).trans y_0; have z_10 := (hb10.cell (p := ⟨w.heap.size + 1, 1, none⟩) hX1).trans y_1
        clear hHeld; refine hK.out _ _ (show _ from ⟨x_10, y_10, z_10⟩) (fun hHeld => ?_)
        clear hK K
        (try simp only [Act.put, List.setIfInBounds_toArray, List.set_cons_zero, List.set_cons_succ])
        refine wpT_one (i := 11) rfl (by kernel_rfl) (fun K hK => ?_)
        refine step_append_sl RowR.good rfl _ _ 50 rfl Try.underlying50 ji jz js jby rfl (by decide) (v := v2) (by rfl) hGA.out hLit.out (by rfl) RowR.one (fun b hb hv => by have h1 := (hA.gr.blk b hv).2; rcases List.mem_cons.1 hb with h | h; (subst h; omega); (have := (f3.2 b h).1; omega)) (by have h00 : ([] : List Row).length = 0 := rfl; have := HLT.out; have := HLD.out; have := HTL.out; (try simp only [List.length_append, List.length_cons, h00, List.length_nil]); omega) (by have h00 : ([] : List Row).length = 0 := rfl; have := HLT.out; have := HLD.out; have := HTL.out; (try simp only [List.length_append, List.length_cons, h00, List.length_nil]); omega) hb10.size ?_; intro v3 u11 bss3 hA2; have hb11 := hA2.below (World.heap w7).size _ hb10 (Nat.le_refl _); have hz11 := hA2.size; obtain ⟨A9, bD, hA9, hD, hDs⟩ := (RowSR.good.nxt hb11 HW.out).drop2 (k := k) (by omega); rw [hAD] at hA9; subst hA9; have HD := hide hD; have HDs := hide hDs; clear hD hDs; have x_11 := (hb11.cell (p := ⟨w.heap.size, 0, none⟩) hX0).trans x_0; have y_11 := (hb11.cell (p := ⟨w.heap.size + 1, 0, none⟩) hX1).trans y_0; have z_11 := (hb11.cell (p := ⟨w.heap.size + 1, 1, none⟩) hX1).trans y_1
        clear hHeld; refine hK.out _ _ (show _ from ⟨x_11, y_11, z_11⟩) (fun hHeld => ?_)
        clear hK K
        (try simp only [Act.put, List.setIfInBounds_toArray, List.set_cons_zero, List.set_cons_succ])
        refine wpT_one (i := 13) rfl (by kernel_rfl) (fun K hK => ?_)
        refine step_append_sl RowR.good rfl _ _ 50 rfl Try.underlying50 ji jz js jby rfl (by decide) (v := v3) (by rfl) hA2.gr HD.out (by rfl) RowR.one (fun b hb hv => by have := (hA2.gr.blk b hv).1; have := HPK.out b (HDs.out b hb); omega) (by have h00 : ([] : List Row).length = 0 := rfl; have := HLT.out; have := HLD.out; have := HTL.out; (try simp only [List.length_append, List.length_cons, h00, List.length_nil]); omega) (by have h00 : ([] : List Row).length = 0 := rfl; have := HLT.out; have := HLD.out; have := HTL.out; (try simp only [List.length_append, List.length_cons, h00, List.length_nil]); omega) hb11.size ?_; intro v4 u13 bss4 hA4; have hb13 := hA4.below (World.heap w7).size _ hb11 (Nat.le_refl _); obtain ⟨O3, n3, cO3, hv3⟩ : ∃ A n c, v4 = .slice A n c := (by obtain ⟨A, c, h, _⟩ := hA4.gr.form; exact ⟨A, _, c, h⟩); subst hv3; have pB := (hb13.block pb (by have := HPB.out; omega)).trans pB2; have pF3 := blk_free pB; have g_13 := (blk_cells pB (po + m)).trans HPC.out; have xB3 := (hb13.block w.heap.size (by have := HRS.out; omega)).trans xB2; have rB3 := (hb13.block (w.heap.size + 1 + 1) (by have := HRS.out; omega)).trans rB2; have x_13 := (hb13.cell (p := ⟨w.heap.size, 0, none⟩) hX0).trans x_0; have y_13 := (hb13.cell (p := ⟨w.heap.size + 1, 0, none⟩) hX1).trans y_0; have z_13 := (hb13.cell (p := ⟨w.heap.size + 1, 1, none⟩) hX1).trans y_1
        clear hHeld; refine hK.out _ _ (show _ from ⟨x_13, y_13, z_13⟩) (fun hHeld => ?_)
        clear hK K
        (try simp only [Act.put, List.setIfInBounds_toArray, List.set_cons_zero, List.set_cons_succ])
        refine wpT_take (i := 14) rfl (by kernel_rfl) (fun _ _ _ h => h) (Or.inl ⟨by rfl, fun w hSw => by (try dsimp only at hSw); first | (go_simp; done) | (go_simp; with_reducible rfl)⟩) (by assumption) ?_
        (try simp only [Act.put, List.setIfInBounds_toArray, List.set_cons_zero, List.set_cons_succ])
        refine wpT_done (by kernel_rfl) ?_
        simp only [List.drop_succ_cons, List.drop_zero]
        clear hHeld
        have oS := (blk_far (p := ⟨pb, po + m, none⟩) hne1 (.slice O3 n3 cO3)).trans xB3; have rS := (blk_far (p := ⟨pb, po + m, none⟩) hne2 (.slice O3 n3 cO3)).trans rB3
        have oc0 := blk_cells oS 0; have oc1 := blk_cells oS 1; have rc0 := blk_cells rS 0; have rc1 := blk_cells rS 1; have rf := blk_free rS
        have hw3 := nxt hw7 hb13
        have hwS := hw3.setCell (p := ⟨pb, po + m, none⟩) (by have := HIN.out _ hbm; show w.heap.size ≤ pb; omega) (.slice O3 n3 cO3)
        obtain ⟨bs4, r4, _, hs4⟩ := hA4.gr.done
        have hL : (([] : List Row) ++ x.tables[m].take k ++ [r]) ++ x.tables[m].drop k = putL x.tables[m] r := by rw [hset.out]; simp
        rw [hL] at r4
        have hbig : ∀ b ∈ bs4, b ∈ pbk ∨ (World.heap w7).size ≤ b := fun b hb => by rcases hs4 _ hb with h | h; (rw [List.flatten_append, List.mem_append, List.flatten_append, List.mem_append, List.flatten_append, List.mem_append] at h; rcases h with ((h | h) | h) | h; (exact absurd h (by simp)); (exact .inl (HTs.out _ (hA.sub _ h))); (rcases List.mem_cons.1 (hA2.sub _ h) with h | h; (exact .inr (by subst h; omega)); exact .inr (by have := (f3.2 b h).1; omega)); exact .inl (HDs.out _ (hA4.sub _ h))); exact .inr (by have := (hA4.gr.blk _ h).1; omega)
        have hn4 : ∀ b ∈ bs4, b ∉ [pb] := fun b hb hm => by simp at hm; subst hm; rcases hbig _ hb with h | h; (exact hbn h); (have := HPB.out; omega)
        have hN := hclose.out (u13.setCell ⟨pb, po + m, none⟩ (.slice O3 n3 cO3)) _ [.slice O3 n3 cO3] (putL x.tables[m] r) bs4 ((Upd.of (nxt hl0_7 hb13)).set (p := ⟨pb, po + m, none⟩) (by simp) rfl (.slice O3 n3 cO3)) (blk_set pB (po + m) (.slice O3 n3 cO3)) rfl (fun j u hu => match j, hu with | 0, hu => (by simp only [List.getElem?_cons_zero, Option.some.injEq] at hu; subst hu; exact Array.getElem?_setIfInBounds_self_of_lt HPL.out) | j + 1, hu => (by simp at hu)) (fun p hp => by rw [Array.getElem?_setIfInBounds_ne (by omega)]) (RowSR.good.upd r4 ((Upd.refl [pb] u13).set (p := ⟨pb, po + m, none⟩) (by simp) rfl (.slice O3 n3 cO3)) hn4)
        have HN := hide hN; have HBG := hide hbig; clear hN hbig hn4 hL
        have R_res := rS
        go_wp2_with fail
        have fin : _ = some (Obj.cells #[.slice (some ⟨pb, po, none⟩) x.tables.length c2, .int .i64 x.next] 32 (0, 0)) := (blk_set (blk_set R_res 0 (.slice (some ⟨pb, po, none⟩) x.tables.length c2)) 1 (.int .i64 x.next))
        have fc := blk_cells fin
        have HU := (((Upd.refl [w.heap.size + 1 + 1] (u13.setCell ⟨pb, po + m, none⟩ (.slice O3 n3 cO3))).set (p := ⟨w.heap.size + 1 + 1, 0, none⟩) (by simp) rfl (.slice (some ⟨pb, po, none⟩) x.tables.length c2)).set (p := ⟨w.heap.size + 1 + 1, 1, none⟩) (by simp) rfl (.int .i64 x.next))
        refine bodyPost_ret (v := .agg #[.slice (some ⟨pb, po, none⟩) x.tables.length c2, .int .i64 x.next]) (by simp [results, Try.results21, go_sem, fc]) rfl ?_
        obtain ⟨bsN, rN, sN, _⟩ := HN.out
        have hn0 : ∀ b ∈ bsN, w.heap.size + 1 + 1 < b := fun b hb => by rcases sN _ hb with h | h; (exact HIN.out _ h); rcases HBG.out _ h with h | h; (exact HIN.out _ (hsub.out _ h)); (have := HRS.out; omega)
        have hn : ∀ b ∈ bsN, b ∉ [w.heap.size + 1 + 1] := fun b hb hm => by have := hn0 b hb; simp at hm; omega
        exact ⟨[.slice (some ⟨pb, po, none⟩) x.tables.length c2, .int .i64 x.next], bsN, rfl, ⟨_, bsN, rfl, rfl, hf2, RowSSR.good.upd rN HU hn⟩, fun b hb => by have := hn0 b hb; omega, ((hwS.setCell (p := ⟨w.heap.size + 1 + 1, 0, none⟩) (by simp; try omega) (.slice (some ⟨pb, po, none⟩) x.tables.length c2)).setCell (p := ⟨w.heap.size + 1 + 1, 1, none⟩) (by simp; try omega) (.int .i64 x.next))⟩
end Go.Proofs.Ytfkpllkgganejaa
