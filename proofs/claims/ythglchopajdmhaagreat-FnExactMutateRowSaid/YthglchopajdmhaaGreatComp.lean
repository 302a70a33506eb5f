/- slices.Compact of atoms. No statement is proved here; no conditions. Written by a program (gen39.py). -/
import Derived.Test.YthglchopajdmhaaGreatSetP
import Derived.Test.YthglchopajdmhaaGreatClone
import Derived.Test.YthglchopajdmhaaGreatDel
import Derived.Test.YthglchopajdmhaaGreatSame
import Derived.Test.YthglchopajdmhaaGreatHas
import Derived.Test.YthglchopajdmhaaGreatApp
import Derived.Shelf.Abstract
namespace Go.Proofs.YthglchopajdmhaaGreat
open Go.ChangeShapes Go.WideShapes Go.ChangeAt Go.RowKit Go.Deep
set_option maxRecDepth 100000
set_option linter.unusedVariables false
set_option linter.unusedSimpArgs false

theorem compA_id {xs : List Atom} (h : ∀ j, j < xs.length → oldB xs j = false) : compA xs = xs := by
  have h1 : compIdx xs xs.length = List.range xs.length := by
    unfold compIdx; rw [List.filter_eq_self]; intro j hj; rw [h j (by simpa using hj)]; rfl
  unfold compA; rw [h1]
  apply List.ext_getElem (by simp)
  intro i h2 h3
  simp only [List.getElem_map, List.getElem_range]
  exact get_d _ _ h3
theorem comp_first {xs : List Atom} {k : Nat} (h : ∀ j, j < k → oldB xs j = false) (h1 : oldB xs k = true) : compIdx xs (k + 1) = List.range k := by
  rw [compIdx_succ, if_pos h1]
  unfold compIdx; rw [List.filter_eq_self]; intro j hj; rw [h j (by simpa using hj)]; rfl
theorem oldB_at {xs : List Atom} {k : Nat} (h0 : 0 < k) (hk : k < xs.length) (hk1 : k - 1 < xs.length) : oldB xs k = decide (xs[k] = xs[k - 1]) := by
  unfold oldB; rw [decide_eq_true h0, Bool.true_and, get_d _ _ hk, get_d _ _ hk1]
theorem comp_some (xs : List Atom) : (compIdx xs xs.length).map (fun q => xs[q]?) = (compA xs).map some := by
  unfold compA; rw [List.map_map]
  apply List.map_congr_left
  intro q hq
  have := compIdx_lt hq
  show xs[q]? = some (xs.getD q default)
  rw [get_d _ _ this, List.getElem?_eq_getElem this]
theorem Cmp.takeAt {size o : Nat} {css : List (List Value)} {cur cur' : Array Value} {idx : List Nat} {jm jj : Nat} (h : Cmp size o css cur idx jm) (hs : ∀ (p : Nat) (cs : List Value), css[p]? = some cs → cs.length = size) (hl : idx.length ≤ jm) {cs : List Value} (hc : css[jj]? = some cs)
    (h1 : ∀ (j : Nat) (u : Value), cs[j]? = some u → cur'[o + idx.length * size + j]? = some u) (h2 : ∀ p, p < o + idx.length * size ∨ o + idx.length * size + size ≤ p → cur'[p]? = cur[p]?) : Cmp size o css cur' (idx ++ [jj]) (jm + 1) := by
  refine ⟨fun q p ds hq hp j u hu => ?_, fun p ds hp hd j u hu => ?_⟩
  · have hjl : j < size := by have := idx_lt hu; rw [hs p ds hp] at this; exact this
    rcases Nat.lt_trichotomy q idx.length with hlt | rfl | hlt
    · rw [List.getElem?_append_left hlt] at hq
      rw [h2 _ (Or.inl (by have := Nat.mul_le_mul_right size (Nat.succ_le_of_lt hlt); rw [Nat.succ_mul] at this; omega))]
      exact h.1 q p ds hq hp j u hu
    · rw [List.getElem?_append_right (Nat.le_refl _), Nat.sub_self, List.getElem?_cons_zero] at hq
      injection hq with hq; subst hq
      rw [hc] at hp; injection hp with hp; subst hp
      exact h1 j u hu
    · rw [List.getElem?_eq_none (by simp; omega)] at hq; cases hq
  · rw [h2 _ (Or.inr (by have := Nat.mul_le_mul_right size (show idx.length + 1 ≤ p by omega); rw [Nat.add_mul, Nat.one_mul] at this; omega))]
    exact h.2 p ds (by omega) hd j u hu
set_option maxHeartbeats 8000000 in
theorem slices_CompactA {w : World} {lo : Nat} {bs : List Nat} {v : Value} {xs : List Atom} (ha : AtomSR w bs [v] xs) (hf : Fr lo w bs) :
    Calls Tryz.prog 110 #[v] w fun e w' => ∃ v' bs', e = .returned v' ∧ AtomSR w' bs' [v'] (compA xs) ∧ Fr lo w' bs' ∧ Upd bs w w' ∧ ∀ x ∈ bs', x ∈ bs := by
  have ha0 := ha
  obtain ⟨A, c, rfl, hlc, hcm, _⟩ := ha.use
  by_cases hs2 : xs.length < 2
  · have hd : decide ((xs.length : Int) < 2) = true := decide_eq_true (by omega)
    have hid : Hid (compA xs = xs) := by
      show _ = _; refine compA_id fun j hj => ?_; unfold oldB
      rcases Nat.eq_zero_or_pos j with rfl | h; rfl
      exact absurd hs2 (by omega)
    go_enter Tryz.func110, Tryz.ntmps110
    go_wp2_with fail
    go_ret
    exact ⟨_, bs, rfl, by rw [hid.out]; exact ha0, hf, Upd.refl _ _, fun x hx => hx⟩
  have hd : decide ((xs.length : Int) < 2) = false := decide_eq_false (by omega)
  obtain ⟨b, o, cur0, e0, css, bss, rfl, hcur0, rfl, hcl, hbl, hsz, hcell, hRd⟩ := SlR.whole ha0 hf (by omega)
  have hX : ∀ p (hp : p < xs.length), css[p]? = some [.int .i64 xs[p].kind, .int .i64 xs[p].n, .string xs[p].t] := fun p hp => by
    obtain ⟨cs, hcs⟩ := idx_some (l := css) (k := p) (by omega)
    obtain ⟨bk, hbk⟩ := idx_some (l := bss) (k := p) (by omega)
    obtain ⟨_, h, _⟩ := hRd p xs[p] cs bk (List.getElem?_eq_getElem hp) hcs hbk
    rw [hcs, h]
  have hcap : o + xs.length * 3 ≤ cur0.size := by
    have h1 := hcell (xs.length - 1) _ (hX _ (by omega)) 2 _ rfl
    have := (Array.getElem?_eq_some_iff.1 h1).1; omega
  have hbn : b ∉ bss.flatten := (List.nodup_cons.1 hf.1).1
  have HS := hide hsz; clear hsz; have HC := hide hcell; clear hcell; have HR := hide hRd; clear hRd; have HL := hide hcl; clear hcl; have HB := hide hbl; clear hbl; have HX := hide hX; clear hX
  go_enter Tryz.func110, Tryz.ntmps110
  go_wp2_with fail
  go_loopw [3] (fun i wr => ∃ k : Nat, 1 ≤ k ∧ k ≤ xs.length ∧ i = .int .i64 k ∧ Hid (∀ j, j < k → oldB xs j = false) ∧ Below w.heap.size w wr) (fun i _ => xs.length - (intOf i).toNat)
  case atStart => exact ⟨1, Nat.le_refl _, by omega, rfl, (fun j hj => by have h0 : j = 0 := (by omega); subst h0; rfl), Below.refl _ _⟩
  case round =>
    obtain ⟨k0, hk01, hk0n, rfl, hno, hbr⟩ := hrel
    obtain ⟨wl, rfl⟩ : ∃ w' : World, w' = wr := ⟨_, rfl⟩
    by_cases hlt : k0 < xs.length
    · have hkm : k0 - 1 < xs.length := by omega
      have hcurl := blk_on hcur0 hbr
      have hold := hide (oldB_at hk01 hlt hkm)
      have c_0 : wl.cell? ⟨b, o + k0 * 3, none⟩ = some (.int .i64 xs[k0].kind) := (blk_cells hcurl _).trans (by have := HC.out (k0) _ (HX.out (k0) (by omega)) 0 _ rfl; simpa using this)
      have c_1 : wl.cell? ⟨b, o + k0 * 3 + 1, none⟩ = some (.int .i64 xs[k0].n) := (blk_cells hcurl _).trans (by have := HC.out (k0) _ (HX.out (k0) (by omega)) 1 _ rfl; simpa using this)
      have c_2 : wl.cell? ⟨b, o + k0 * 3 + 2, none⟩ = some (.string xs[k0].t) := (blk_cells hcurl _).trans (by have := HC.out (k0) _ (HX.out (k0) (by omega)) 2 _ rfl; simpa using this)
      have p_0 : wl.cell? ⟨b, o + (k0 - 1) * 3, none⟩ = some (.int .i64 xs[k0 - 1].kind) := (blk_cells hcurl _).trans (by have := HC.out (k0 - 1) _ (HX.out (k0 - 1) (by omega)) 0 _ rfl; simpa using this)
      have p_1 : wl.cell? ⟨b, o + (k0 - 1) * 3 + 1, none⟩ = some (.int .i64 xs[k0 - 1].n) := (blk_cells hcurl _).trans (by have := HC.out (k0 - 1) _ (HX.out (k0 - 1) (by omega)) 1 _ rfl; simpa using this)
      have p_2 : wl.cell? ⟨b, o + (k0 - 1) * 3 + 2, none⟩ = some (.string xs[k0 - 1].t) := (blk_cells hcurl _).trans (by have := HC.out (k0 - 1) _ (HX.out (k0 - 1) (by omega)) 2 _ rfl; simpa using this)
      have he := eql_atom xs[k0] xs[k0 - 1]
      have hg := grd_atom .eql
      have cF0 := Fw.cell c_0
      have cF1 := Fw.cell c_1
      have cF2 := Fw.cell c_2
      have pF0 := Fw.cell p_0
      have pF1 := Fw.cell p_1
      have pF2 := Fw.cell p_2
      clear c_0 c_1 c_2 p_0 p_1 p_2
      go_wp2_with fail
      refine region_quiet (by kernel_rfl) (by kernel_rfl) ?_
      repeat (go_big_quiet_step (fail))
      refine wpQuiet_nil ?_; intro w1 hb1; have hbw := nxt hbr hb1; clear cF0 cF1 cF2 pF0 pF1 pF2 he hg
      cases hq : decide (xs[k0] = xs[k0 - 1])
      · have hn2 := hide (show ∀ j, j < k0 + 1 → oldB xs j = false from fun j hj => by rcases Nat.lt_or_ge j k0 with h | h; (exact hno.out j h); (have h0 : j = k0 := (by omega); subst h0; rw [hold.out]; exact hq)); clear hq
        go_wp2
        go_roundw
        case rel => exact ⟨k0 + 1, by omega, hlt, by go_num, hn2, hbw⟩
        case measure => simp [intOf]; omega
      · have hkf := comp_first hno.out (by rw [hold.out]; exact hq)
        have hkf2 : (compIdx xs (k0 + 1)).length = k0 := by rw [hkf]; simp
        have HK := hide hkf; clear hkf; have HK2 := hide hkf2; clear hkf2 hq hno hold
        have hck : (c = k0) = False := by simp; omega
        have hi0 : (0 : Int) ≤ (k0 : Int) := by omega
        have hi1 : (k0 : Int) ≤ xs.length := by omega
        have hlc1 : k0 ≤ c := by omega
        go_wp2_with fail
        go_loopw [3, 5] (fun i j wr => ∃ t : Nat, 1 ≤ t ∧ k0 + t ≤ xs.length ∧ j = .int .i64 t ∧ i = .int .i64 (compIdx xs (k0 + t)).length ∧ (compIdx xs (k0 + t)).length < k0 + t ∧ Upd [b] w wr ∧ Hid (∃ cur, wr.heap[b]? = some (.cells cur e0 (0, 0)) ∧ cur.size = cur0.size ∧ Cmp 3 o css cur (compIdx xs (k0 + t)) (k0 + t - 1))) (fun _ j _ => xs.length - k0 - (intOf j).toNat)
        case atStart =>
          refine ⟨1, Nat.le_refl _, hlt, rfl, by rw [HK2.out], by rw [HK2.out]; omega, Upd.of hbw, cur0, blk_on hcur0 hbw, rfl, ?_⟩
          refine ⟨fun q p' cs hq hp' j u hu => ?_, fun p' cs _ hp' => HC.out p' cs hp'⟩
          rw [HK.out] at hq
          have hql := idx_lt hq
          rw [List.getElem?_range (by simpa using hql)] at hq
          injection hq with hq; subst hq
          exact HC.out q cs hp' j u hu
        case round =>
          clear HK HK2 hb1 hbr
          obtain ⟨t, ht0, ht1, rfl, rfl, hil, hU, hH⟩ := hrel
          obtain ⟨wm, rfl⟩ : ∃ w' : World, w' = wr := ⟨_, rfl⟩
          obtain ⟨cur, hcur, hcs0, hcmp⟩ := hH.out
          have hcmp := hide hcmp
          have fz := blk_free hcur
          have hUs := hU.size
          by_cases hlt2 : k0 + t < xs.length
          · have hkm2 : k0 + t - 1 < xs.length := by omega
            have hold := hide (oldB_at (by omega : 0 < k0 + t) hlt2 hkm2)
            have hsub : xs.length - k0 = xs.length - k0 := rfl
            have hts : (t : Int) < ((xs.length - k0 : Nat) : Int) := by omega
            have hts2 : t < xs.length - k0 := by omega
            have c_0 : wm.cell? ⟨b, o + k0 * 3 + t * 3, none⟩ = some (.int .i64 xs[k0 + t].kind) := (blk_cells hcur _).trans (by have := hcmp.out.2 (k0 + t) _ (by omega) (HX.out (k0 + t) (by omega)) 0 _ rfl; rw [show o + k0 * 3 + t * 3 = o + (k0 + t) * 3 + 0 from by omega]; exact this)
            have c_1 : wm.cell? ⟨b, o + k0 * 3 + t * 3 + 1, none⟩ = some (.int .i64 xs[k0 + t].n) := (blk_cells hcur _).trans (by have := hcmp.out.2 (k0 + t) _ (by omega) (HX.out (k0 + t) (by omega)) 1 _ rfl; rw [show o + k0 * 3 + t * 3 + 1 = o + (k0 + t) * 3 + 1 from by omega]; exact this)
            have c_2 : wm.cell? ⟨b, o + k0 * 3 + t * 3 + 2, none⟩ = some (.string xs[k0 + t].t) := (blk_cells hcur _).trans (by have := hcmp.out.2 (k0 + t) _ (by omega) (HX.out (k0 + t) (by omega)) 2 _ rfl; rw [show o + k0 * 3 + t * 3 + 2 = o + (k0 + t) * 3 + 2 from by omega]; exact this)
            have p_0 : wm.cell? ⟨b, o + k0 * 3 + (t - 1) * 3, none⟩ = some (.int .i64 xs[k0 + t - 1].kind) := (blk_cells hcur _).trans (by have := hcmp.out.2 (k0 + t - 1) _ (by omega) (HX.out (k0 + t - 1) (by omega)) 0 _ rfl; rw [show o + k0 * 3 + (t - 1) * 3 = o + (k0 + t - 1) * 3 + 0 from by omega]; exact this)
            have p_1 : wm.cell? ⟨b, o + k0 * 3 + (t - 1) * 3 + 1, none⟩ = some (.int .i64 xs[k0 + t - 1].n) := (blk_cells hcur _).trans (by have := hcmp.out.2 (k0 + t - 1) _ (by omega) (HX.out (k0 + t - 1) (by omega)) 1 _ rfl; rw [show o + k0 * 3 + (t - 1) * 3 + 1 = o + (k0 + t - 1) * 3 + 1 from by omega]; exact this)
            have p_2 : wm.cell? ⟨b, o + k0 * 3 + (t - 1) * 3 + 2, none⟩ = some (.string xs[k0 + t - 1].t) := (blk_cells hcur _).trans (by have := hcmp.out.2 (k0 + t - 1) _ (by omega) (HX.out (k0 + t - 1) (by omega)) 2 _ rfl; rw [show o + k0 * 3 + (t - 1) * 3 + 2 = o + (k0 + t - 1) * 3 + 2 from by omega]; exact this)
            have he := neq_atom xs[k0 + t] xs[k0 + t - 1]
            have hg := grd_atom .neq
            have cF0 := Fw.cell c_0
            have cF1 := Fw.cell c_1
            have cF2 := Fw.cell c_2
            have pF0 := Fw.cell p_0
            have pF1 := Fw.cell p_1
            have pF2 := Fw.cell p_2
            go_wp2_with fail
            refine region_quiet (by kernel_rfl) (by kernel_rfl) ?_
            repeat (go_big_quiet_step (fail))
            refine wpQuiet_nil ?_; intro w2 hb2; clear cF0 cF1 cF2 pF0 pF1 pF2 he hg p_0 p_1 p_2
            have B2 := blk_on hcur hb2
            have fz2 := blk_free B2
            have d_0 := cell_on c_0 hb2
            have d_1 := cell_on c_1 hb2
            have d_2 := cell_on c_2 hb2
            clear c_0 c_1 c_2
            cases hq : decide (xs[k0 + t] = xs[k0 + t - 1])
            · have hks : compIdx xs (k0 + t + 1) = (compIdx xs (k0 + t)) ++ [k0 + t] := by rw [compIdx_succ, hold.out, hq]; rfl
              have HKS := hide hks; clear hks hq
              have hil2 : o + (compIdx xs (k0 + t)).length * 3 + 3 ≤ cur.size := by rw [hcs0]; omega
              obtain ⟨u0, s0⟩ := blk_cell B2 (j := o + (compIdx xs (k0 + t)).length * 3) (by omega)
              obtain ⟨u1, s1⟩ := blk_cell B2 (j := o + (compIdx xs (k0 + t)).length * 3 + 1) (by omega)
              obtain ⟨u2, s2⟩ := blk_cell B2 (j := o + (compIdx xs (k0 + t)).length * 3 + 2) (by omega)
              have hfin := hide (blk_set (blk_set (blk_set (B2) (o + (compIdx xs (k0 + t)).length * 3) (.int .i64 xs[k0 + t].kind)) (o + (compIdx xs (k0 + t)).length * 3 + 1) (.int .i64 xs[k0 + t].n)) (o + (compIdx xs (k0 + t)).length * 3 + 2) (.string xs[k0 + t].t))
              have HU := ((((hU.call hb2).set (p := ⟨b, o + (compIdx xs (k0 + t)).length * 3, none⟩) (by simp) rfl (.int .i64 xs[k0 + t].kind)).set (p := ⟨b, o + (compIdx xs (k0 + t)).length * 3 + 1, none⟩) (by simp) rfl (.int .i64 xs[k0 + t].n)).set (p := ⟨b, o + (compIdx xs (k0 + t)).length * 3 + 2, none⟩) (by simp) rfl (.string xs[k0 + t].t))
              have hc2 := hide (Cmp.takeAt (jj := k0 + t) hcmp.out HS.out (by omega) (HX.out (k0 + t) hlt2) (cur' := (((cur).setIfInBounds (o + (compIdx xs (k0 + t)).length * 3) (.int .i64 xs[k0 + t].kind)).setIfInBounds (o + (compIdx xs (k0 + t)).length * 3 + 1) (.int .i64 xs[k0 + t].n)).setIfInBounds (o + (compIdx xs (k0 + t)).length * 3 + 2) (.string xs[k0 + t].t)) (fun j u hu => match j, hu with
                | 0, hu => by simp only [List.getElem?_cons_zero, List.getElem?_cons_succ, Option.some.injEq] at hu; subst hu; rw [Array.getElem?_setIfInBounds_ne (by omega)]; rw [Array.getElem?_setIfInBounds_ne (by omega)]; exact Array.getElem?_setIfInBounds_self_of_lt (by (try simp); omega)
                | 1, hu => by simp only [List.getElem?_cons_zero, List.getElem?_cons_succ, Option.some.injEq] at hu; subst hu; rw [Array.getElem?_setIfInBounds_ne (by omega)]; exact Array.getElem?_setIfInBounds_self_of_lt (by (try simp); omega)
                | 2, hu => by simp only [List.getElem?_cons_zero, List.getElem?_cons_succ, Option.some.injEq] at hu; subst hu; exact Array.getElem?_setIfInBounds_self_of_lt (by (try simp); omega)
                | j' + 3, hu => by simp at hu) (fun p hp => by rw [Array.getElem?_setIfInBounds_ne (by omega)]; rw [Array.getElem?_setIfInBounds_ne (by omega)]; rw [Array.getElem?_setIfInBounds_ne (by omega)]))
              go_wp2_with fail
              go_roundw
              case rel => exact ⟨t + 1, by omega, hlt2, by go_num, by rw [← Nat.add_assoc, HKS.out, List.length_append]; go_num, by rw [← Nat.add_assoc, HKS.out, List.length_append]; simp; omega, HU, _, hfin.out, by simpa using hcs0, by rw [← Nat.add_assoc, HKS.out, show k0 + t + 1 - 1 = k0 + t - 1 + 1 from by omega]; exact hc2.out⟩
              case measure => simp [intOf]; omega
            · have hks : compIdx xs (k0 + t + 1) = (compIdx xs (k0 + t)) := by rw [compIdx_succ, hold.out, hq]; rfl
              have HKS := hide hks; clear hks hq
              have HU := hU.call hb2; have HB2 := hide B2; clear B2
              go_wp2_with fail
              go_roundw
              case rel => exact ⟨t + 1, by omega, hlt2, by go_num, by rw [← Nat.add_assoc, HKS.out], by rw [← Nat.add_assoc, HKS.out]; omega, HU, cur, HB2.out, hcs0, by rw [← Nat.add_assoc, HKS.out, show k0 + t + 1 - 1 = k0 + t - 1 + 1 from by omega]; exact hcmp.out.skip⟩
              case measure => simp [intOf]; omega
          · obtain ⟨tn, htn⟩ : ∃ tn, tn = k0 + t := ⟨_, rfl⟩
            have hkt : k0 + t = xs.length := by omega
            rw [hkt] at hil hcmp ⊢
            have hsb : ((t : Nat) : Int) = ((xs.length - k0 : Nat) : Int) := by omega
            have hltf : decide ((t : Int) < ((xs.length - k0 : Nat) : Int)) = false := decide_eq_false (by omega)
            have hzc : (Value.cells (.agg #[.int .i64 0, .int .i64 0, .string ⟨#[]⟩])).size = 3 := rfl
            have hrem : 0 < xs.length - (compIdx xs xs.length).length := by omega
            have hcl := fun ty => run_clear_rows (P := Tryz.prog) wm 65 98 ty (.agg #[.int .i64 0, .int .i64 0, .string ⟨#[]⟩]) Tryz.underlying65 (fun _ => by kernel_rfl) (by decide) (by decide) b (o + (compIdx xs xs.length).length * 3) (xs.length - (compIdx xs xs.length).length) (c - (compIdx xs xs.length).length) hrem (fun j hj => by rw [hzc] at hj; obtain ⟨u, hu⟩ := blk_cell hcur (j := o + (compIdx xs xs.length).length * 3 + j) (by rw [hcs0]; omega); rw [hu]; rfl) (fun j hj => fz _)
            clear hzc
            rw [setCells_many] at hcl
            have hlc2 : (compIdx xs xs.length).length < c := by omega
            have hzl : (Builtin.zeroCells (Value.cells (.agg #[.int .i64 0, .int .i64 0, .string ⟨#[]⟩])) (xs.length - (compIdx xs xs.length).length)).toList.length = (xs.length - (compIdx xs xs.length).length) * 3 := by rw [Array.length_toList]; exact size_zeroCells _ _
            have hmn := setMany_at (t := e0) (Builtin.zeroCells (Value.cells (.agg #[.int .i64 0, .int .i64 0, .string ⟨#[]⟩])) (xs.length - (compIdx xs xs.length).length)).toList (o + (compIdx xs xs.length).length * 3) wm cur hcur (by rw [hzl, hcs0]; omega)
            clear hzl
            have HMN := hide hmn; clear hmn
            have HUF := Upd.many (List.mem_singleton.2 rfl) (Builtin.zeroCells (Value.cells (.agg #[.int .i64 0, .int .i64 0, .string ⟨#[]⟩])) (xs.length - (compIdx xs xs.length).length)).toList (o + (compIdx xs xs.length).length * 3) wm hU
            go_wp2
            go_ret
            obtain ⟨cur', m1, m2, m3, m4⟩ := HMN.out
            have hres := Cmp.done (R := AtomR) (c := c) hcmp.out m1 HS.out (fun p hp => m4 p (Or.inl hp)) HL.out HB.out (fun q hq => compIdx_lt hq) (fun k x cs bk h1 h2 h3 => AtomR.good.upd (HR.out k x cs bk h1 h2 h3) HUF (fun x hx hm => hbn (by simp at hm; subst hm; exact List.mem_flatten.2 ⟨bk, List.mem_of_getElem? h3, hx⟩))) (by omega) hcm (comp_some xs)
            exact ⟨_, _, rfl, hres, kept_fr hf HUF HB.out List.filter_sublist, HUF.wide (by simp), kept_in⟩
    · obtain rfl : k0 = xs.length := by omega
      have hid := hide (compA_id hno.out)
      go_wp2
      go_ret
      exact ⟨_, _, rfl, by rw [hid.out]; exact AtomSR.good.nxt hbr ha0, hf.below hbr, Upd.of hbr, fun x hx => hx⟩
end Go.Proofs.YthglchopajdmhaaGreat
