/- What comes of a set by a mutation. No statement is proved here; no conditions. Written by a program (gen46.py). -/
import Derived.Test.YthglchopajdmhaaGreatJoin
import Derived.Test.YthglchopajdmhaaGreatReck
import Derived.Test.YthglchopajdmhaaGreatFits
import Derived.Test.YthglchopajdmhaaGreatMuts
import Derived.Test.YthglchopajdmhaaGreatResult
namespace Go.Proofs.YthglchopajdmhaaGreat
open Go.ChangeShapes Go.WideShapes Go.ChangeAt Go.RowKit Go.Deep
set_option maxRecDepth 100000
set_option linter.unusedVariables false
set_option linter.unusedSimpArgs false

def applyL (f v : Int) (d : List Atom) : List Atom := d.map fun a => ⟨1, num f a.n v, ⟨#[]⟩⟩
def allNum (f v : Int) (d : List Atom) : Bool := d.all fun a => numOK f a.n v
def mv0 (m : Mut) : Int := (m.value.getD 0 default).n
def finM (c : Column) (out : List Atom) : List Atom × Int := cond (fitsCode c out != 0) ([], fitsCode c out) (out, 0)
def mutL (c : Column) (d : List Atom) (m : Mut) : List Atom × Int := if m.func = 6 then finM c (joinA d m.value) else if m.func = 7 then finM c (minusL d m.value) else cond (allNum m.func (mv0 m) d) (finM c (joinA [] (applyL m.func (mv0 m) d))) ([], 4)
theorem atom_bd {a : Atom} (h : atomOK a = true) : -1000000000 ≤ a.n ∧ a.n ≤ 1000000000 := by
  unfold atomOK at h
  by_cases e1 : a.kind = 1
  · rw [e1] at h; simp at h; exact inB_iff.1 h.1
  · by_cases e2 : a.kind = 2
    · rw [e2] at h; simp at h; omega
    · by_cases e3 : a.kind = 3
      · rw [e3] at h; simp at h; have := inB_iff.1 h.1; omega
      · by_cases e4 : a.kind = 4
        · rw [e4] at h; simp at h; have := inB_iff.1 h.1; omega
        · simp [e1, e2, e3, e4] at h
theorem datum_bd {d : List Atom} (h : datumOK d = true) (k : Nat) (hk : k < d.length) : -1000000000 ≤ d[k].n ∧ d[k].n ≤ 1000000000 := atom_bd (datum_all h k hk).1
theorem mv0_at {m : Mut} (h : 0 < m.value.length) : mv0 m = m.value[0].n := by unfold mv0; rw [get_d _ _ h]
theorem num_fine {n : Int} (h : -1000000000 ≤ n ∧ n ≤ 1000000000) : Atom.fine ⟨1, n, ⟨#[]⟩⟩ := by
  refine ⟨rfl, ?_, by show (0 : Nat) ≤ 9223372036854775807; omega⟩
  have h1 : IntKind.i64.min = -9223372036854775808 := rfl
  have h2 : IntKind.i64.max = 9223372036854775807 := rfl
  simp [Lit.wf, h1, h2]; omega
theorem applyL_take {f v : Int} {d : List Atom} {k : Nat} (h : k < d.length) : applyL f v (d.take (k + 1)) = applyL f v (d.take k) ++ [⟨1, num f d[k].n v, ⟨#[]⟩⟩] := by
  unfold applyL; rw [List.take_add_one, List.getElem?_eq_getElem h, List.map_append]; rfl
theorem finM_wt (c : Column) (out : List Atom) : AtomS.wt (finM c out).1 ≤ 3 * out.length := by
  unfold finM; cases fitsCode c out != 0
  · show AtomS.wt out ≤ _; rw [AtomS.wt_len]; exact Nat.le_refl _
  · show AtomS.wt [] ≤ _; rw [AtomS.wt_len]; exact Nat.zero_le _
theorem mutL_wt (c : Column) {d : List Atom} {m : Mut} (hd : datumOK d = true) (hv : datumOK m.value = true) : AtomS.wt (mutL c d m).1 ≤ 48 := by
  have h1 := datumOK_len hd; have h2 := datumOK_len hv
  unfold mutL; split
  · have := finM_wt c (joinA d m.value); have := joinA_len d m.value; omega
  · split
    · have := finM_wt c (minusL d m.value); have := minusL_len d m.value; omega
    · cases allNum m.func (mv0 m) d
      · show AtomS.wt [] ≤ 48; rw [AtomS.wt_len]; decide
      · have := finM_wt c (joinA [] (applyL m.func (mv0 m) d)); have h3 := joinA_len [] (applyL m.func (mv0 m) d)
        have h4 : (applyL m.func (mv0 m) d).length = d.length := by unfold applyL; simp
        show AtomS.wt (finM c (joinA [] (applyL m.func (mv0 m) d))).1 ≤ 48
        simp only [List.length_nil] at h3; omega
structure MOK (d : List Atom) (m : Mut) : Prop where
  d : datumOK d = true
  v : datumOK m.value = true
  f : 1 ≤ m.func ∧ m.func ≤ 7
  one : m.func ≤ 5 → m.value.length = 1
set_option maxHeartbeats 16000000 in
theorem impl_mutate {w : World}  (c : Column) {bs_d : List Nat} {v_d : Value} {d : List Atom} (H_d : AtomSR w bs_d [v_d] d) {bs_m : List Nat} {cs_m : List Value} {m : Mut} (H_m : MutR w bs_m cs_m m) (hok : MOK d m) :
    Calls Tryz.prog 66 #[.agg #[.string c.name, .int .i64 c.kind, .int .i64 c.min, .int .i64 c.max, .int .i64 c.low, .int .i64 c.high, .string c.ref, .bool c.strong], v_d, .agg cs_m.toArray] w (OutS AtomSR w (mutL c d m).1 (mutL c d m).2) := by
  have H0_d := H_d
  obtain ⟨A_d, c_d, rfl, hlc_d, hcm_d, hel_d⟩ := H_d.use
  have H0_m := H_m
  obtain ⟨m_v2, m_b2, rfl, rfl, hf_m, m_r2⟩ := H_m
  obtain ⟨A_m2, c_m2, rfl, hlc_m2, hcm_m2, hel_m2⟩ := m_r2.use
  have hbx := (((Below.refl w.heap.size w).alloc (Nat.le_refl _) (.cells #[.string c.name, .int .i64 c.kind, .int .i64 c.min, .int .i64 c.max, .int .i64 c.low, .int .i64 c.high, .string c.ref, .bool c.strong] 88)).alloc (by simp; try omega) (.cells #[.string m.column, .int .i64 m.func, .slice A_m2 m.value.length c_m2] 67))
  obtain ⟨q_c, q_m⟩ := two_at (Below.refl ((w.alloc (.cells #[.string c.name, .int .i64 c.kind, .int .i64 c.min, .int .i64 c.max, .int .i64 c.low, .int .i64 c.high, .string c.ref, .bool c.strong] 88)).alloc (.cells #[.string m.column, .int .i64 m.func, .slice A_m2 m.value.length c_m2] 67)).heap.size _)
  clear hf_m; have HOK := hide hok; have hdl := datumOK_len hok.d; have hvl := datumOK_len hok.v; clear hok
  by_cases h6 : m.func = 6
  · have k6 : (m.func == 6) = true := by rw [h6]; rfl
    have hM0 : Hid (mutL c d m = finM c (joinA d m.value)) := by show _ = _; unfold mutL; rw [if_pos h6]
    clear h6 hel_d hel_m2
    obtain ⟨ab, hab⟩ : ∃ ab, ab = d ++ m.value := ⟨_, rfl⟩; have hM : Hid (mutL c d m = finM c (setA ab)) := by show _ = _; rw [hM0.out, hab, setA_join (datum_up HOK.out.d)]
    have HAB := hide hab; clear hab hM0
    go_enter Tryz.func66, Tryz.ntmps66
    go_wp2_with fail
    replace q_c := box_on q_c rfl ((Below.refl (World.heap (((w.alloc (.cells #[.string c.name, .int .i64 c.kind, .int .i64 c.min, .int .i64 c.max, .int .i64 c.low, .int .i64 c.high, .string c.ref, .bool c.strong] 88)).alloc (.cells #[.string m.column, .int .i64 m.func, .slice A_m2 m.value.length c_m2] 67)))).size (((w.alloc (.cells #[.string c.name, .int .i64 c.kind, .int .i64 c.min, .int .i64 c.max, .int .i64 c.low, .int .i64 c.high, .string c.ref, .bool c.strong] 88)).alloc (.cells #[.string m.column, .int .i64 m.func, .slice A_m2 m.value.length c_m2] 67)))).alloc (Nat.le_refl _) (.cells #[] 98))
    replace q_m := box_on q_m rfl ((Below.refl (World.heap (((w.alloc (.cells #[.string c.name, .int .i64 c.kind, .int .i64 c.min, .int .i64 c.max, .int .i64 c.low, .int .i64 c.high, .string c.ref, .bool c.strong] 88)).alloc (.cells #[.string m.column, .int .i64 m.func, .slice A_m2 m.value.length c_m2] 67)))).size (((w.alloc (.cells #[.string c.name, .int .i64 c.kind, .int .i64 c.min, .int .i64 c.max, .int .i64 c.low, .int .i64 c.high, .string c.ref, .bool c.strong] 88)).alloc (.cells #[.string m.column, .int .i64 m.func, .slice A_m2 m.value.length c_m2] 67)))).alloc (Nat.le_refl _) (.cells #[] 98))
    have hbk := (hbx).alloc (hbx).size (.cells #[] 98)
    refine (concat_two HAB.out (n := w.heap.size + 1 + 1 + 1) (by simp) (AtomSR.good.nxt hbk H0_d) (AtomSR.good.nxt hbk m_r2) (by omega)).mono ?_; rintro e w2 ⟨v2, bs2, rfl, r2, hb2⟩; have r20 := r2; obtain ⟨A2, c2, rfl, _, _, _⟩ := r2.use
    replace q_c := box_on q_c rfl hb2
    replace q_m := box_on q_m rfl hb2
    have hw2 := nxt hbk hb2
    go_wp2_with fail
    refine (impl_setOf r20 (by rw [HAB.out, List.length_append]; omega)).mono ?_; rintro e w3 ⟨v3, bs3, rfl, r3, f3, hb3⟩; have r30 := r3; obtain ⟨A3, c3, rfl, _, _, _⟩ := r3.use
    have hw2s := hw2.size
    replace q_c := box_on q_c rfl hb3
    replace q_m := box_on q_m rfl hb3
    have hw3 := nxt hw2 hb3
    obtain ⟨out, hout⟩ : ∃ out, out = setA ab := ⟨_, rfl⟩; rw [← hout] at r30 hM ⊢; clear hout
    go_wp2_with fail
    refine (impl_fits (Below.refl _ _) r30 c).mono ?_; rintro e wF ⟨rfl, hbF⟩
    have hwF := nxt hw3 hbF
    by_cases hq : (fitsCode c (out) != 0) = true
    · have hr : Hid (mutL c d m = ([], fitsCode c (out))) := by show _ = _; rw [hM.out]; unfold finM; rw [hq]; rfl
      go_wp2_with fail
      go_ret2
      rw [hr.out]
      exact ⟨_, [], rfl, nil_row (by omega), Fr.nil _ _, hwF⟩
    have hq := (Bool.not_eq_true _).mp hq
    have hr : Hid (mutL c d m = (out, 0)) := by show _ = _; rw [hM.out]; unfold finM; rw [hq]; rfl
    go_wp2_with fail
    go_ret2
    rw [hr.out]
    exact ⟨_, bs3, rfl, AtomSR.good.nxt hbF r30, (f3.below hbF).mono hw2s, hwF⟩
  have k6 : (m.func == 6) = false := by simpa using h6
  by_cases h7 : m.func = 7
  · have k7 : (m.func == 7) = true := by rw [h7]; rfl
    have hM : Hid (mutL c d m = finM c (minusL d m.value)) := by show _ = _; unfold mutL; rw [if_neg h6, if_pos h7]
    clear h6 h7 hel_d hel_m2
    go_enter Tryz.func66, Tryz.ntmps66
    go_wp2_with fail
    replace q_c := box_on q_c rfl ((Below.refl (World.heap (((w.alloc (.cells #[.string c.name, .int .i64 c.kind, .int .i64 c.min, .int .i64 c.max, .int .i64 c.low, .int .i64 c.high, .string c.ref, .bool c.strong] 88)).alloc (.cells #[.string m.column, .int .i64 m.func, .slice A_m2 m.value.length c_m2] 67)))).size (((w.alloc (.cells #[.string c.name, .int .i64 c.kind, .int .i64 c.min, .int .i64 c.max, .int .i64 c.low, .int .i64 c.high, .string c.ref, .bool c.strong] 88)).alloc (.cells #[.string m.column, .int .i64 m.func, .slice A_m2 m.value.length c_m2] 67)))).alloc (Nat.le_refl _) (.cells #[] 98))
    replace q_m := box_on q_m rfl ((Below.refl (World.heap (((w.alloc (.cells #[.string c.name, .int .i64 c.kind, .int .i64 c.min, .int .i64 c.max, .int .i64 c.low, .int .i64 c.high, .string c.ref, .bool c.strong] 88)).alloc (.cells #[.string m.column, .int .i64 m.func, .slice A_m2 m.value.length c_m2] 67)))).size (((w.alloc (.cells #[.string c.name, .int .i64 c.kind, .int .i64 c.min, .int .i64 c.max, .int .i64 c.low, .int .i64 c.high, .string c.ref, .bool c.strong] 88)).alloc (.cells #[.string m.column, .int .i64 m.func, .slice A_m2 m.value.length c_m2] 67)))).alloc (Nat.le_refl _) (.cells #[] 98))
    have hbk := (hbx).alloc (hbx).size (.cells #[] 98)
    refine (impl_less (AtomSR.good.nxt hbk H0_d) (AtomSR.good.nxt hbk m_r2) (by omega)).mono ?_; rintro e w3 ⟨v3, bs3, rfl, r3, f3, hb3⟩; have r30 := r3; obtain ⟨A3, c3, rfl, _, _, _⟩ := r3.use
    have hw2s := (hbk).size
    replace q_c := box_on q_c rfl hb3
    replace q_m := box_on q_m rfl hb3
    have hw3 := nxt hbk hb3
    obtain ⟨out, hout⟩ : ∃ out, out = minusL d m.value := ⟨_, rfl⟩; rw [← hout] at r30 hM ⊢; clear hout
    go_wp2_with fail
    refine (impl_fits (Below.refl _ _) r30 c).mono ?_; rintro e wF ⟨rfl, hbF⟩
    have hwF := nxt hw3 hbF
    by_cases hq : (fitsCode c (out) != 0) = true
    · have hr : Hid (mutL c d m = ([], fitsCode c (out))) := by show _ = _; rw [hM.out]; unfold finM; rw [hq]; rfl
      go_wp2_with fail
      go_ret2
      rw [hr.out]
      exact ⟨_, [], rfl, nil_row (by omega), Fr.nil _ _, hwF⟩
    have hq := (Bool.not_eq_true _).mp hq
    have hr : Hid (mutL c d m = (out, 0)) := by show _ = _; rw [hM.out]; unfold finM; rw [hq]; rfl
    go_wp2_with fail
    go_ret2
    rw [hr.out]
    exact ⟨_, bs3, rfl, AtomSR.good.nxt hbF r30, (f3.below hbF).mono hw2s, hwF⟩
  have k7 : (m.func == 7) = false := by simpa using h7
  have hf5 : Hid (1 ≤ m.func ∧ m.func ≤ 5) := by show _ ∧ _; have := HOK.out.f; omega
  have hv1 := HOK.out.one hf5.out.2; have hv0 : 0 < m.value.length := (by omega)
  have hM0 : Hid (mutL c d m = cond (allNum m.func m.value[0].n d) (finM c (joinA [] (applyL m.func m.value[0].n d))) ([], 4)) := by show _ = _; unfold mutL; rw [if_neg h6, if_neg h7, mv0_at hv0]
  have HV1 := hide hv1; clear hv1 h6 h7
  have hvb := hide (datum_bd HOK.out.v 0 hv0); have hdb := hide (fun k (hk : k < d.length) => datum_bd HOK.out.d k hk)
  go_enter Tryz.func66, Tryz.ntmps66
  go_wp2_with fail
  have hG1 := hide (Own.made' (size := 3) (R := AtomR) (e := 98) (w := ((w.alloc (.cells #[.string c.name, .int .i64 c.kind, .int .i64 c.min, .int .i64 c.max, .int .i64 c.low, .int .i64 c.high, .string c.ref, .bool c.strong] 88)).alloc (.cells #[.string m.column, .int .i64 m.func, .slice A_m2 m.value.length c_m2] 67))) (n := w.heap.size + 1 + 1) (by simp))
  obtain ⟨ii1, hi1, hz1, hs1, hby1⟩ := info_parts AtomS.info
  go_loopw [8, 19] (fun o i wr => ∃ (k : Nat) (v : Value), k ≤ d.length ∧ i = .int .i64 k ∧ o = v ∧ Hid (Own 3 AtomR 98 (World.heap (((w.alloc (.cells #[.string c.name, .int .i64 c.kind, .int .i64 c.min, .int .i64 c.max, .int .i64 c.low, .int .i64 c.high, .string c.ref, .bool c.strong] 88)).alloc (.cells #[.string m.column, .int .i64 m.func, .slice A_m2 m.value.length c_m2] 67)))).size wr v (applyL m.func m.value[0].n (d.take k))) ∧ Hid (∀ j (hj : j < d.length), j < k → numOK m.func d[j].n m.value[0].n = true) ∧ Below (World.heap (((w.alloc (.cells #[.string c.name, .int .i64 c.kind, .int .i64 c.min, .int .i64 c.max, .int .i64 c.low, .int .i64 c.high, .string c.ref, .bool c.strong] 88)).alloc (.cells #[.string m.column, .int .i64 m.func, .slice A_m2 m.value.length c_m2] 67)))).size (((w.alloc (.cells #[.string c.name, .int .i64 c.kind, .int .i64 c.min, .int .i64 c.max, .int .i64 c.low, .int .i64 c.high, .string c.ref, .bool c.strong] 88)).alloc (.cells #[.string m.column, .int .i64 m.func, .slice A_m2 m.value.length c_m2] 67))) wr) (fun _ i _ => d.length - (intOf i).toNat)
  case atStart => exact ⟨0, _, Nat.zero_le _, rfl, rfl, hG1, (fun j _ h => absurd h (Nat.not_lt_zero j)), (Below.refl _ _).alloc (Nat.le_refl _) _⟩
  case round =>
    clear hG1
    obtain ⟨k1, v1_, hk1, rfl, hov1, hG1, hI1, hb1001⟩ := hrel; replace hov1 := hov1.symm; subst hov1
    obtain ⟨wl1, rfl⟩ : ∃ w' : World, w' = wr := ⟨_, rfl⟩
    obtain ⟨O1, cO1, hv1, hlO1, hcO1⟩ := hG1.out.form
    replace q_c := box_on q_c rfl hb1001
    replace q_m := box_on q_m rfl hb1001
    have hwl1 := nxt hbx hb1001
    have hz0_1 := Below.refl (World.heap wl1).size wl1
    by_cases hlt1 : k1 < d.length
    · obtain ⟨gb, go, gbk, ges, rfl, ghbl, ghcl, ghcell, gR, ghbk⟩ := hel_d k1 hlt1
      obtain ⟨_, ghes, ghf⟩ := gR
      subst ghes
      have g_0 := (hwl1.cell (p := ⟨gb, _, none⟩) ghbl).trans (ghcell 0 _ rfl)
      have g_1 := (hwl1.cell (p := ⟨gb, _, none⟩) ghbl).trans (ghcell 1 _ rfl)
      have g_2 := (hwl1.cell (p := ⟨gb, _, none⟩) ghbl).trans (ghcell 2 _ rfl)
      simp only [Nat.add_zero] at g_0 g_1 g_2
      clear ghcell ghcl
      clear hel_d
      go_wp2_with fail
      replace q_c := box_on q_c rfl ((Below.refl (World.heap (wl1)).size (wl1)).alloc (Nat.le_refl _) (.cells #[.int .i64 d[k1].kind, .int .i64 d[k1].n, .string d[k1].t] 98))
      replace q_m := box_on q_m rfl ((Below.refl (World.heap (wl1)).size (wl1)).alloc (Nat.le_refl _) (.cells #[.int .i64 d[k1].kind, .int .i64 d[k1].n, .string d[k1].t] 98))
      have q_v := blk_cells (blk_new (wl1) #[.int .i64 d[k1].kind, .int .i64 d[k1].n, .string d[k1].t] 98)
      have hn1 := (hwl1).alloc (hwl1).size (.cells #[.int .i64 d[k1].kind, .int .i64 d[k1].n, .string d[k1].t] 98)
      have hc1_0 := (hb1001).alloc (hb1001).size (.cells #[.int .i64 d[k1].kind, .int .i64 d[k1].n, .string d[k1].t] 98)
      have hc1_1 := (hz0_1).alloc (hz0_1).size (.cells #[.int .i64 d[k1].kind, .int .i64 d[k1].n, .string d[k1].t] 98)
      clear g_0 g_1 g_2
      obtain ⟨zb, zo, zbk, zes, rfl, zhbl, zhcl, zhcell, zR, zhbk⟩ := hel_m2 0 hv0
      obtain ⟨_, zhes, zhf⟩ := zR
      subst zhes
      have z_0 := Fw.cell ((hn1.cell (p := ⟨zb, _, none⟩) zhbl).trans (zhcell 0 _ rfl))
      have z_1 := Fw.cell ((hn1.cell (p := ⟨zb, _, none⟩) zhbl).trans (zhcell 1 _ rfl))
      have z_2 := Fw.cell ((hn1.cell (p := ⟨zb, _, none⟩) zhbl).trans (zhcell 2 _ rfl))
      simp only [Nat.add_zero] at z_0 z_1 z_2
      clear zhcell zhcl
      simp only [Nat.zero_mul, Nat.add_zero] at z_0 z_1 z_2
      clear hel_m2
      have A0 := hide (fun (i : Fw ((wl1).alloc (.cells #[.int .i64 d[k1].kind, .int .i64 d[k1].n, .string d[k1].t] 98))) => impl_reckon hf5.out (hdb.out k1 hlt1) hvb.out i.W)
      cases h5 : numOK m.func d[k1].n m.value[0].n
      · have hr : Hid (mutL c d m = ([], 4)) := by show _ = _; rw [hM0.out]; unfold allNum; rw [all_false hlt1 h5]; rfl
        have hrec : recV m.func d[k1].n m.value[0].n = (0, 4) := by unfold recV; rw [h5]; rfl
        rw [hrec] at A0; clear hrec h5
        have q_cF0 := Fw.cell (box_cell q_c 0 rfl)
        have q_cF1 := Fw.cell (box_cell q_c 1 rfl)
        have q_cF2 := Fw.cell (box_cell q_c 2 rfl)
        have q_cF3 := Fw.cell (box_cell q_c 3 rfl)
        have q_cF4 := Fw.cell (box_cell q_c 4 rfl)
        have q_cF5 := Fw.cell (box_cell q_c 5 rfl)
        have q_cF6 := Fw.cell (box_cell q_c 6 rfl)
        have q_cF7 := Fw.cell (box_cell q_c 7 rfl)
        have q_mF0 := Fw.cell (box_cell q_m 0 rfl)
        have q_mF1 := Fw.cell (box_cell q_m 1 rfl)
        have q_mF2 := Fw.cell (box_cell q_m 2 rfl)
        have q_vF0 := Fw.cell (box_cell q_v 0 rfl)
        have q_vF1 := Fw.cell (box_cell q_v 1 rfl)
        have q_vF2 := Fw.cell (box_cell q_v 2 rfl)
        refine region_quiet (by kernel_rfl) (by kernel_rfl) ?_
        repeat (go_big_quiet_step ((first | (go_at_call 95; exact quiet_of_eq (A0.out _)))))
        refine wpQuiet_nil ?_; intro w1 hb1; replace q_c := box_on q_c rfl hb1; replace q_m := box_on q_m rfl hb1; replace q_v := box_on q_v rfl hb1; have hw1 := nxt hn1 hb1; have hl0_1 := nxt hc1_0 hb1; have hl1_1 := nxt hc1_1 hb1; clear q_cF0 q_cF1 q_cF2 q_cF3 q_cF4 q_cF5 q_cF6 q_cF7 q_mF0 q_mF1 q_mF2 q_vF0 q_vF1 q_vF2 z_0 z_1 z_2
        go_wp2_with fail
        go_ret2
        rw [hr.out]
        exact ⟨_, [], rfl, nil_row (by omega), Fr.nil _ _, hw1⟩
      have hrec : recV m.func d[k1].n m.value[0].n = (num m.func d[k1].n m.value[0].n, 0) := by unfold recV; rw [h5]; rfl
      rw [hrec] at A0; have hyf := num_fine (numOK_in h5); have hI2 := hide (all_step (p := fun a : Atom => numOK m.func a.n m.value[0].n) hlt1 hI1.out h5); clear hrec h5
      have q_cF0 := Fw.cell (box_cell q_c 0 rfl)
      have q_cF1 := Fw.cell (box_cell q_c 1 rfl)
      have q_cF2 := Fw.cell (box_cell q_c 2 rfl)
      have q_cF3 := Fw.cell (box_cell q_c 3 rfl)
      have q_cF4 := Fw.cell (box_cell q_c 4 rfl)
      have q_cF5 := Fw.cell (box_cell q_c 5 rfl)
      have q_cF6 := Fw.cell (box_cell q_c 6 rfl)
      have q_cF7 := Fw.cell (box_cell q_c 7 rfl)
      have q_mF0 := Fw.cell (box_cell q_m 0 rfl)
      have q_mF1 := Fw.cell (box_cell q_m 1 rfl)
      have q_mF2 := Fw.cell (box_cell q_m 2 rfl)
      have q_vF0 := Fw.cell (box_cell q_v 0 rfl)
      have q_vF1 := Fw.cell (box_cell q_v 1 rfl)
      have q_vF2 := Fw.cell (box_cell q_v 2 rfl)
      refine region_quiet (by kernel_rfl) (by kernel_rfl) ?_
      repeat (go_big_quiet_step ((first | (go_at_call 95; exact quiet_of_eq (A0.out _)))))
      refine wpQuiet_nil ?_; intro w2 hb2; replace q_c := box_on q_c rfl hb2; replace q_m := box_on q_m rfl hb2; replace q_v := box_on q_v rfl hb2; have hw2 := nxt hn1 hb2; have hl0_2 := nxt hc1_0 hb2; have hl1_2 := nxt hc1_1 hb2; clear q_cF0 q_cF1 q_cF2 q_cF3 q_cF4 q_cF5 q_cF6 q_cF7 q_mF0 q_mF1 q_mF2 q_vF0 q_vF1 q_vF2 z_0 z_1 z_2
      have hst1 : Hid (applyL m.func m.value[0].n (d.take (k1 + 1)) = applyL m.func m.value[0].n (d.take k1) ++ [(⟨1, num m.func d[k1].n m.value[0].n, ⟨#[]⟩⟩ : Atom)]) := by show _ = _; exact applyL_take hlt1
      have hsz1 := (hl0_2).size; have hlo1 := (hl0_2).size
      have hbd1 : Hid ((applyL m.func m.value[0].n (d.take k1)).length ≤ 1048576) := by show _ ≤ _; (try rw [List.length_take]); have := (show (applyL m.func m.value[0].n (d.take k1)).length ≤ 8 from by unfold applyL; rw [List.length_map, List.length_take]; omega); omega
      have hvv1 := hide hv1; have hll1 := hide hlO1; clear hv1 hlO1 hcO1
      go_wp2_with (at_builtin; refine wpList_append_own AtomR.good rfl _ _ 65 rfl Tryz.underlying65 hi1 hz1 hs1 hby1 rfl (by decide) (v := v1_) rfl hG1.out hl1_2 (cy := [.int .i64 1, .int .i64 (num m.func d[k1].n m.value[0].n), .string ⟨#[]⟩]) (y := (⟨1, num m.func d[k1].n m.value[0].n, ⟨#[]⟩⟩ : Atom)) (show AtomR _ [] _ _ from ⟨rfl, rfl, hyf⟩) (Fr.nil _ _) rfl rfl (fun u hu => AtomR.one w [] _ (⟨1, num m.func d[k1].n m.value[0].n, ⟨#[]⟩⟩ : Atom) ⟨rfl, rfl, hyf⟩ u hu) (by have := hbd1.out; omega) (by have := hbd1.out; omega) hb1001.size ?_; intro v' w' hO hB hsw hold hown)
      go_roundw
      case rel => exact ⟨k1 + 1, v', hlt1, by go_num, rfl, by rw [hst1.out]; exact hO, hI2, hB _ _ hl0_2 (Nat.le_refl _)⟩
      case measure => simp [intOf]; omega
    · obtain rfl : k1 = d.length := by omega
      have hall : allNum m.func m.value[0].n d = true := all_true (p := fun a : Atom => numOK m.func a.n m.value[0].n) hI1.out
      have hM : Hid (mutL c d m = finM c (setA (applyL m.func m.value[0].n d))) := by show _ = _; rw [hM0.out, hall, setA_join0]; rfl
      clear hall hM0 hI1 hel_d hel_m2
      obtain ⟨n1, hn1⟩ : ∃ n1, (applyL m.func m.value[0].n (d.take d.length)).length = n1 := ⟨_, rfl⟩; rw [hn1] at hv1 hlO1; subst hv1; clear hn1
      have hG2 := hG1.out; rw [List.take_length] at hG2; obtain ⟨bsO, q1, q2⟩ := hG2.done; clear hG2 hG1; have hxl : Hid ((applyL m.func m.value[0].n d).length = d.length) := by show _ = _; unfold applyL; simp
      go_wp2_with fail
      refine (impl_setOf q1 (by rw [hxl.out]; omega)).mono ?_; rintro e w3 ⟨v3, bs3, rfl, r3, f3, hb3⟩; have r30 := r3; obtain ⟨A3, c3, rfl, _, _, _⟩ := r3.use
      have hw2s := (hwl1).size
      replace q_c := box_on q_c rfl hb3
      replace q_m := box_on q_m rfl hb3
      have hw3 := nxt hwl1 hb3
      obtain ⟨out, hout⟩ : ∃ out, out = setA (applyL m.func m.value[0].n d) := ⟨_, rfl⟩; rw [← hout] at r30 hM ⊢; clear hout
      go_wp2_with fail
      refine (impl_fits (Below.refl _ _) r30 c).mono ?_; rintro e wF ⟨rfl, hbF⟩
      have hwF := nxt hw3 hbF
      by_cases hq : (fitsCode c (out) != 0) = true
      · have hr : Hid (mutL c d m = ([], fitsCode c (out))) := by show _ = _; rw [hM.out]; unfold finM; rw [hq]; rfl
        go_wp2_with fail
        go_ret2
        rw [hr.out]
        exact ⟨_, [], rfl, nil_row (by omega), Fr.nil _ _, hwF⟩
      have hq := (Bool.not_eq_true _).mp hq
      have hr : Hid (mutL c d m = (out, 0)) := by show _ = _; rw [hM.out]; unfold finM; rw [hq]; rfl
      go_wp2_with fail
      go_ret2
      rw [hr.out]
      exact ⟨_, bs3, rfl, AtomSR.good.nxt hbF r30, (f3.below hbF).mono hw2s, hwF⟩
set_option maxHeartbeats 16000000 in
theorem spec_l07Mutate {w : World}  (c : Column) {bs_d : List Nat} {v_d : Value} {d : List Atom} (H_d : AtomSR w bs_d [v_d] d) {bs_m : List Nat} {cs_m : List Value} {m : Mut} (H_m : MutR w bs_m cs_m m) (hok : MOK d m) :
    Calls Tryz.prog 54 #[.agg #[.string c.name, .int .i64 c.kind, .int .i64 c.min, .int .i64 c.max, .int .i64 c.low, .int .i64 c.high, .string c.ref, .bool c.strong], v_d, .agg cs_m.toArray] w (OutS AtomSR w (mutL c d m).1 (mutL c d m).2) := by
  have H0_d := H_d
  obtain ⟨A_d, c_d, rfl, hlc_d, hcm_d, hel_d⟩ := H_d.use
  have H0_m := H_m
  obtain ⟨m_v2, m_b2, rfl, rfl, hf_m, m_r2⟩ := H_m
  obtain ⟨A_m2, c_m2, rfl, hlc_m2, hcm_m2, hel_m2⟩ := m_r2.use
  have hbx := (((Below.refl w.heap.size w).alloc (Nat.le_refl _) (.cells #[.string c.name, .int .i64 c.kind, .int .i64 c.min, .int .i64 c.max, .int .i64 c.low, .int .i64 c.high, .string c.ref, .bool c.strong] 88)).alloc (by simp; try omega) (.cells #[.string m.column, .int .i64 m.func, .slice A_m2 m.value.length c_m2] 67))
  obtain ⟨q_c, q_m⟩ := two_at (Below.refl ((w.alloc (.cells #[.string c.name, .int .i64 c.kind, .int .i64 c.min, .int .i64 c.max, .int .i64 c.low, .int .i64 c.high, .string c.ref, .bool c.strong] 88)).alloc (.cells #[.string m.column, .int .i64 m.func, .slice A_m2 m.value.length c_m2] 67)).heap.size _)
  clear hf_m; have HOK := hide hok; have hdl := datumOK_len hok.d; have hvl := datumOK_len hok.v; clear hok
  by_cases h6 : m.func = 6
  · have k6 : (m.func == 6) = true := by rw [h6]; rfl
    have hM0 : Hid (mutL c d m = finM c (joinA d m.value)) := by show _ = _; unfold mutL; rw [if_pos h6]
    clear h6 hel_d hel_m2
    go_enter Tryz.func54, Tryz.ntmps54
    go_wp2_with fail
    replace q_c := box_on q_c rfl ((Below.refl (World.heap (((w.alloc (.cells #[.string c.name, .int .i64 c.kind, .int .i64 c.min, .int .i64 c.max, .int .i64 c.low, .int .i64 c.high, .string c.ref, .bool c.strong] 88)).alloc (.cells #[.string m.column, .int .i64 m.func, .slice A_m2 m.value.length c_m2] 67)))).size (((w.alloc (.cells #[.string c.name, .int .i64 c.kind, .int .i64 c.min, .int .i64 c.max, .int .i64 c.low, .int .i64 c.high, .string c.ref, .bool c.strong] 88)).alloc (.cells #[.string m.column, .int .i64 m.func, .slice A_m2 m.value.length c_m2] 67)))).alloc (Nat.le_refl _) (.cells #[] 98))
    replace q_m := box_on q_m rfl ((Below.refl (World.heap (((w.alloc (.cells #[.string c.name, .int .i64 c.kind, .int .i64 c.min, .int .i64 c.max, .int .i64 c.low, .int .i64 c.high, .string c.ref, .bool c.strong] 88)).alloc (.cells #[.string m.column, .int .i64 m.func, .slice A_m2 m.value.length c_m2] 67)))).size (((w.alloc (.cells #[.string c.name, .int .i64 c.kind, .int .i64 c.min, .int .i64 c.max, .int .i64 c.low, .int .i64 c.high, .string c.ref, .bool c.strong] 88)).alloc (.cells #[.string m.column, .int .i64 m.func, .slice A_m2 m.value.length c_m2] 67)))).alloc (Nat.le_refl _) (.cells #[] 98))
    have hbk := (hbx).alloc (hbx).size (.cells #[] 98)
    refine (spec_l03Join (AtomSR.good.nxt hbk H0_d) (AtomSR.good.nxt hbk m_r2) (by omega) (by omega)).mono ?_; rintro e w2 ⟨v2, bs2, rfl, r2, _, z2, hb2⟩; have r20 := r2; obtain ⟨A2, c2, rfl, _, _, _⟩ := r2.use; have hw2s := (hbk).size
    replace q_c := box_on q_c rfl hb2
    replace q_m := box_on q_m rfl hb2
    have hw2 := nxt hbk hb2
    obtain ⟨out, hout⟩ : ∃ out, out = joinA d m.value := ⟨_, rfl⟩; rw [← hout] at r20 hM0 ⊢; have hM := hM0; clear hout
    go_wp2_with fail
    refine (spec_l04Fits (Below.refl _ _) r20 c).mono ?_; rintro e wF ⟨rfl, hbF⟩
    have hwF := nxt hw2 hbF
    by_cases hq : (fitsCode c (out) != 0) = true
    · have hr : Hid (mutL c d m = ([], fitsCode c (out))) := by show _ = _; rw [hM.out]; unfold finM; rw [hq]; rfl
      go_wp2_with fail
      go_ret2
      rw [hr.out]
      exact ⟨_, [], rfl, nil_row (by omega), Fr.nil _ _, hwF.alloc hwF.size _⟩
    have hq := (Bool.not_eq_true _).mp hq
    have hr : Hid (mutL c d m = (out, 0)) := by show _ = _; rw [hM.out]; unfold finM; rw [hq]; rfl
    go_wp2_with fail
    go_ret2
    rw [hr.out]
    exact ⟨_, bs2, rfl, AtomSR.good.nxt hbF r20, (z2.below hbF).mono hw2s, hwF⟩
  have k6 : (m.func == 6) = false := by simpa using h6
  by_cases h7 : m.func = 7
  · have k7 : (m.func == 7) = true := by rw [h7]; rfl
    have hM : Hid (mutL c d m = finM c (minusL d m.value)) := by show _ = _; unfold mutL; rw [if_neg h6, if_pos h7]
    clear h6 h7 hel_d hel_m2
    go_enter Tryz.func54, Tryz.ntmps54
    go_wp2_with fail
    replace q_c := box_on q_c rfl ((Below.refl (World.heap (((w.alloc (.cells #[.string c.name, .int .i64 c.kind, .int .i64 c.min, .int .i64 c.max, .int .i64 c.low, .int .i64 c.high, .string c.ref, .bool c.strong] 88)).alloc (.cells #[.string m.column, .int .i64 m.func, .slice A_m2 m.value.length c_m2] 67)))).size (((w.alloc (.cells #[.string c.name, .int .i64 c.kind, .int .i64 c.min, .int .i64 c.max, .int .i64 c.low, .int .i64 c.high, .string c.ref, .bool c.strong] 88)).alloc (.cells #[.string m.column, .int .i64 m.func, .slice A_m2 m.value.length c_m2] 67)))).alloc (Nat.le_refl _) (.cells #[] 98))
    replace q_m := box_on q_m rfl ((Below.refl (World.heap (((w.alloc (.cells #[.string c.name, .int .i64 c.kind, .int .i64 c.min, .int .i64 c.max, .int .i64 c.low, .int .i64 c.high, .string c.ref, .bool c.strong] 88)).alloc (.cells #[.string m.column, .int .i64 m.func, .slice A_m2 m.value.length c_m2] 67)))).size (((w.alloc (.cells #[.string c.name, .int .i64 c.kind, .int .i64 c.min, .int .i64 c.max, .int .i64 c.low, .int .i64 c.high, .string c.ref, .bool c.strong] 88)).alloc (.cells #[.string m.column, .int .i64 m.func, .slice A_m2 m.value.length c_m2] 67)))).alloc (Nat.le_refl _) (.cells #[] 98))
    have hbk := (hbx).alloc (hbx).size (.cells #[] 98)
    refine (spec_l03Minus (AtomSR.good.nxt hbk H0_d) (AtomSR.good.nxt hbk m_r2) (by omega)).mono ?_; rintro e w3 ⟨v3, bs3, rfl, r3, f3, hb3⟩; have r30 := r3; obtain ⟨A3, c3, rfl, _, _, _⟩ := r3.use
    have hw2s := (hbk).size
    replace q_c := box_on q_c rfl hb3
    replace q_m := box_on q_m rfl hb3
    have hw3 := nxt hbk hb3
    obtain ⟨out, hout⟩ : ∃ out, out = minusL d m.value := ⟨_, rfl⟩; rw [← hout] at r30 hM ⊢; clear hout
    go_wp2_with fail
    refine (spec_l04Fits (Below.refl _ _) r30 c).mono ?_; rintro e wF ⟨rfl, hbF⟩
    have hwF := nxt hw3 hbF
    by_cases hq : (fitsCode c (out) != 0) = true
    · have hr : Hid (mutL c d m = ([], fitsCode c (out))) := by show _ = _; rw [hM.out]; unfold finM; rw [hq]; rfl
      go_wp2_with fail
      go_ret2
      rw [hr.out]
      exact ⟨_, [], rfl, nil_row (by omega), Fr.nil _ _, hwF.alloc hwF.size _⟩
    have hq := (Bool.not_eq_true _).mp hq
    have hr : Hid (mutL c d m = (out, 0)) := by show _ = _; rw [hM.out]; unfold finM; rw [hq]; rfl
    go_wp2_with fail
    go_ret2
    rw [hr.out]
    exact ⟨_, bs3, rfl, AtomSR.good.nxt hbF r30, (f3.below hbF).mono hw2s, hwF⟩
  have k7 : (m.func == 7) = false := by simpa using h7
  have hf5 : Hid (1 ≤ m.func ∧ m.func ≤ 5) := by show _ ∧ _; have := HOK.out.f; omega
  have hv1 := HOK.out.one hf5.out.2; have hv0 : 0 < m.value.length := (by omega)
  have hM0 : Hid (mutL c d m = cond (allNum m.func m.value[0].n d) (finM c (joinA [] (applyL m.func m.value[0].n d))) ([], 4)) := by show _ = _; unfold mutL; rw [if_neg h6, if_neg h7, mv0_at hv0]
  have HV1 := hide hv1; clear hv1 h6 h7
  have hvb := hide (datum_bd HOK.out.v 0 hv0); have hdb := hide (fun k (hk : k < d.length) => datum_bd HOK.out.d k hk)
  go_enter Tryz.func54, Tryz.ntmps54
  go_wp2_with fail
  replace q_c := box_on q_c rfl ((Below.refl (World.heap (((w.alloc (.cells #[.string c.name, .int .i64 c.kind, .int .i64 c.min, .int .i64 c.max, .int .i64 c.low, .int .i64 c.high, .string c.ref, .bool c.strong] 88)).alloc (.cells #[.string m.column, .int .i64 m.func, .slice A_m2 m.value.length c_m2] 67)))).size (((w.alloc (.cells #[.string c.name, .int .i64 c.kind, .int .i64 c.min, .int .i64 c.max, .int .i64 c.low, .int .i64 c.high, .string c.ref, .bool c.strong] 88)).alloc (.cells #[.string m.column, .int .i64 m.func, .slice A_m2 m.value.length c_m2] 67)))).alloc (Nat.le_refl _) (.cells #[] 98))
  replace q_m := box_on q_m rfl ((Below.refl (World.heap (((w.alloc (.cells #[.string c.name, .int .i64 c.kind, .int .i64 c.min, .int .i64 c.max, .int .i64 c.low, .int .i64 c.high, .string c.ref, .bool c.strong] 88)).alloc (.cells #[.string m.column, .int .i64 m.func, .slice A_m2 m.value.length c_m2] 67)))).size (((w.alloc (.cells #[.string c.name, .int .i64 c.kind, .int .i64 c.min, .int .i64 c.max, .int .i64 c.low, .int .i64 c.high, .string c.ref, .bool c.strong] 88)).alloc (.cells #[.string m.column, .int .i64 m.func, .slice A_m2 m.value.length c_m2] 67)))).alloc (Nat.le_refl _) (.cells #[] 98))
  have hbk := (hbx).alloc (hbx).size (.cells #[] 98)
  have hsm0 : Hid (AtomSR ((((w.alloc (.cells #[.string c.name, .int .i64 c.kind, .int .i64 c.min, .int .i64 c.max, .int .i64 c.low, .int .i64 c.high, .string c.ref, .bool c.strong] 88)).alloc (.cells #[.string m.column, .int .i64 m.func, .slice A_m2 m.value.length c_m2] 67))).alloc (.cells #[] 98)) [] [.slice (some ⟨w.heap.size + 1 + 1, 0, none⟩) 0 0] (joinA [] (applyL m.func m.value[0].n (d.take 0))) ∧ Sm (.slice (some ⟨w.heap.size + 1 + 1, 0, none⟩) 0 0) (joinA [] (applyL m.func m.value[0].n (d.take 0))).length ∧ Fr w.heap.size ((((w.alloc (.cells #[.string c.name, .int .i64 c.kind, .int .i64 c.min, .int .i64 c.max, .int .i64 c.low, .int .i64 c.high, .string c.ref, .bool c.strong] 88)).alloc (.cells #[.string m.column, .int .i64 m.func, .slice A_m2 m.value.length c_m2] 67))).alloc (.cells #[] 98)) []) := ⟨nil_row (by omega), ⟨_, _, _, rfl⟩, Fr.nil _ _⟩
  go_loopw [8, 9] (fun o i wr => ∃ (k : Nat) (v : Value) (bs : List Nat), k ≤ d.length ∧ i = .int .i64 k ∧ o = v ∧ Hid (AtomSR wr bs [v] (joinA [] (applyL m.func m.value[0].n (d.take k))) ∧ Sm v (joinA [] (applyL m.func m.value[0].n (d.take k))).length ∧ Fr w.heap.size wr bs) ∧ Hid (∀ j (hj : j < d.length), j < k → numOK m.func d[j].n m.value[0].n = true) ∧ Below (World.heap ((((w.alloc (.cells #[.string c.name, .int .i64 c.kind, .int .i64 c.min, .int .i64 c.max, .int .i64 c.low, .int .i64 c.high, .string c.ref, .bool c.strong] 88)).alloc (.cells #[.string m.column, .int .i64 m.func, .slice A_m2 m.value.length c_m2] 67))).alloc (.cells #[] 98))).size ((((w.alloc (.cells #[.string c.name, .int .i64 c.kind, .int .i64 c.min, .int .i64 c.max, .int .i64 c.low, .int .i64 c.high, .string c.ref, .bool c.strong] 88)).alloc (.cells #[.string m.column, .int .i64 m.func, .slice A_m2 m.value.length c_m2] 67))).alloc (.cells #[] 98)) wr) (fun _ i _ => d.length - (intOf i).toNat)
  case atStart => exact ⟨0, _, [], Nat.zero_le _, rfl, rfl, hsm0, (fun j _ h => absurd h (Nat.not_lt_zero j)), Below.refl _ _⟩
  case round =>
    clear hsm0; obtain ⟨k1, v, bs, hk, rfl, hov, hG, hI1, hbr⟩ := hrel; replace hov := hov.symm; subst hov; obtain ⟨wl, rfl⟩ : ∃ w' : World, w' = wr := ⟨_, rfl⟩
    replace q_c := box_on q_c rfl hbr
    replace q_m := box_on q_m rfl hbr
    have hwl := nxt hbk hbr
    by_cases hlt1 : k1 < d.length
    · obtain ⟨vb, vo, vc, hvs⟩ := hG.out.2.1; have hGv := hide hG.out; subst hvs; clear hG
      obtain ⟨gb, go, gbk, ges, rfl, ghbl, ghcl, ghcell, gR, ghbk⟩ := hel_d k1 hlt1
      obtain ⟨_, ghes, ghf⟩ := gR
      subst ghes
      have g_0 := Fw.cell ((hwl.cell (p := ⟨gb, _, none⟩) ghbl).trans (ghcell 0 _ rfl))
      have g_1 := Fw.cell ((hwl.cell (p := ⟨gb, _, none⟩) ghbl).trans (ghcell 1 _ rfl))
      have g_2 := Fw.cell ((hwl.cell (p := ⟨gb, _, none⟩) ghbl).trans (ghcell 2 _ rfl))
      simp only [Nat.add_zero] at g_0 g_1 g_2
      clear ghcell ghcl
      clear hel_d
      obtain ⟨zb, zo, zbk, zes, rfl, zhbl, zhcl, zhcell, zR, zhbk⟩ := hel_m2 0 hv0
      obtain ⟨_, zhes, zhf⟩ := zR
      subst zhes
      have z_0 := Fw.cell ((hwl.cell (p := ⟨zb, _, none⟩) zhbl).trans (zhcell 0 _ rfl))
      have z_1 := Fw.cell ((hwl.cell (p := ⟨zb, _, none⟩) zhbl).trans (zhcell 1 _ rfl))
      have z_2 := Fw.cell ((hwl.cell (p := ⟨zb, _, none⟩) zhbl).trans (zhcell 2 _ rfl))
      simp only [Nat.add_zero] at z_0 z_1 z_2
      clear zhcell zhcl
      simp only [Nat.zero_mul, Nat.add_zero] at z_0 z_1 z_2
      clear hel_m2
      have A0 := hide (fun (i : Fw wl) => spec_l07Number hf5.out (hdb.out k1 hlt1) hvb.out i.W)
      cases h5 : numOK m.func d[k1].n m.value[0].n
      · have hr : Hid (mutL c d m = ([], 4)) := by show _ = _; rw [hM0.out]; unfold allNum; rw [all_false hlt1 h5]; rfl
        rw [h5] at A0; clear h5
        go_wp2_with fail
        have q_cF0 := Fw.cell (box_cell q_c 0 rfl)
        have q_cF1 := Fw.cell (box_cell q_c 1 rfl)
        have q_cF2 := Fw.cell (box_cell q_c 2 rfl)
        have q_cF3 := Fw.cell (box_cell q_c 3 rfl)
        have q_cF4 := Fw.cell (box_cell q_c 4 rfl)
        have q_cF5 := Fw.cell (box_cell q_c 5 rfl)
        have q_cF6 := Fw.cell (box_cell q_c 6 rfl)
        have q_cF7 := Fw.cell (box_cell q_c 7 rfl)
        have q_mF0 := Fw.cell (box_cell q_m 0 rfl)
        have q_mF1 := Fw.cell (box_cell q_m 1 rfl)
        have q_mF2 := Fw.cell (box_cell q_m 2 rfl)
        refine region_quiet (by kernel_rfl) (by kernel_rfl) ?_
        repeat (go_big_quiet_step ((first | (go_at_call 78; exact quiet_of_eq (A0.out _)))))
        refine wpQuiet_nil ?_; intro w1 hb1; replace q_c := box_on q_c rfl hb1; replace q_m := box_on q_m rfl hb1; have hw1 := nxt hwl hb1; have hl0_1 := nxt hbr hb1; clear q_cF0 q_cF1 q_cF2 q_cF3 q_cF4 q_cF5 q_cF6 q_cF7 q_mF0 q_mF1 q_mF2 z_0 z_1 z_2 g_0 g_1 g_2
        go_wp2_with fail
        go_ret2
        rw [hr.out]
        exact ⟨_, [], rfl, nil_row (by omega), Fr.nil _ _, hw1.alloc hw1.size _⟩
      have hzz := numOK_z h5; rw [h5, hzz] at A0; have hyf := num_fine (numOK_in h5); have hI2 := hide (all_step (p := fun a : Atom => numOK m.func a.n m.value[0].n) hlt1 hI1.out h5); clear hzz h5
      go_wp2_with fail
      have q_cF0 := Fw.cell (box_cell q_c 0 rfl)
      have q_cF1 := Fw.cell (box_cell q_c 1 rfl)
      have q_cF2 := Fw.cell (box_cell q_c 2 rfl)
      have q_cF3 := Fw.cell (box_cell q_c 3 rfl)
      have q_cF4 := Fw.cell (box_cell q_c 4 rfl)
      have q_cF5 := Fw.cell (box_cell q_c 5 rfl)
      have q_cF6 := Fw.cell (box_cell q_c 6 rfl)
      have q_cF7 := Fw.cell (box_cell q_c 7 rfl)
      have q_mF0 := Fw.cell (box_cell q_m 0 rfl)
      have q_mF1 := Fw.cell (box_cell q_m 1 rfl)
      have q_mF2 := Fw.cell (box_cell q_m 2 rfl)
      refine region_quiet (by kernel_rfl) (by kernel_rfl) ?_
      repeat (go_big_quiet_step ((first | (go_at_call 78; exact quiet_of_eq (A0.out _)))))
      refine wpQuiet_nil ?_; intro w2 hb2; replace q_c := box_on q_c rfl hb2; replace q_m := box_on q_m rfl hb2; have hw2 := nxt hwl hb2; have hl0_2 := nxt hbr hb2; clear q_cF0 q_cF1 q_cF2 q_cF3 q_cF4 q_cF5 q_cF6 q_cF7 q_mF0 q_mF1 q_mF2 z_0 z_1 z_2 g_0 g_1 g_2
      have hst : Hid (joinA [] (applyL m.func m.value[0].n (d.take (k1 + 1))) = putA (joinA [] (applyL m.func m.value[0].n (d.take k1))) (⟨1, num m.func d[k1].n m.value[0].n, ⟨#[]⟩⟩ : Atom)) := by show _ = _; rw [applyL_take hlt1]; unfold joinA; rw [List.foldl_append]; rfl
      have hjl : Hid ((joinA [] (applyL m.func m.value[0].n (d.take k1))).length ≤ 1048576) := by show _ ≤ _; have := joinA_len [] (applyL m.func m.value[0].n (d.take k1)); have h4 : (applyL m.func m.value[0].n (d.take k1)).length ≤ d.length := (by unfold applyL; rw [List.length_map, List.length_take]; omega); simp only [List.length_nil] at this; omega
      go_wp2_with fail
      refine (spec_l03Put (AtomSR.good.nxt hb2 hGv.out.1) (⟨1, num m.func d[k1].n m.value[0].n, ⟨#[]⟩⟩ : Atom) hGv.out.2.1 hyf hjl.out).mono ?_; rintro e w9 ⟨v9, bs9, rfl, r9, s9, z9, hb9⟩; have hls := (hw2).size
      have hc9 := nxt hl0_2 hb9
      have hR9 := hide (show AtomSR w9 bs9 [v9] (joinA [] (applyL m.func m.value[0].n (d.take (k1 + 1)))) ∧ Sm v9 (joinA [] (applyL m.func m.value[0].n (d.take (k1 + 1)))).length ∧ Fr w.heap.size w9 bs9 from by rw [hst.out]; exact ⟨r9, s9, by rcases z9 with h | h; (rw [h]; exact (hGv.out.2.2.below hb2).below hb9); exact h.mono hls⟩); clear r9 s9 z9
      go_wp2_with fail
      go_roundw
      case rel => exact ⟨k1 + 1, v9, bs9, hlt1, by go_num, rfl, hR9, hI2, hc9⟩
      case measure => simp [intOf]; omega
    · obtain rfl : k1 = d.length := by omega
      have hall : allNum m.func m.value[0].n d = true := all_true (p := fun a : Atom => numOK m.func a.n m.value[0].n) hI1.out
      have hM : Hid (mutL c d m = finM c (joinA [] (applyL m.func m.value[0].n d))) := by show _ = _; rw [hM0.out, hall]; rfl
      clear hall hM0 hI1 hel_d hel_m2
      have hG2 := hG.out; rw [List.take_length] at hG2; clear hG; obtain ⟨q1, q2, q3⟩ := hG2; have hz3 := hide q3; clear q3
      obtain ⟨out, hout⟩ : ∃ out, out = joinA [] (applyL m.func m.value[0].n d) := ⟨_, rfl⟩; rw [← hout] at q1 q2 hM; clear hout; obtain ⟨vb, vo, vc, hvs⟩ := q2; subst hvs
      go_wp2_with fail
      refine (spec_l04Fits (Below.refl _ _) q1 c).mono ?_; rintro e wF ⟨rfl, hbF⟩
      have hwF := nxt hwl hbF
      by_cases hq : (fitsCode c (out) != 0) = true
      · have hr : Hid (mutL c d m = ([], fitsCode c (out))) := by show _ = _; rw [hM.out]; unfold finM; rw [hq]; rfl
        go_wp2_with fail
        go_ret2
        rw [hr.out]
        exact ⟨_, [], rfl, nil_row (by omega), Fr.nil _ _, hwF.alloc hwF.size _⟩
      have hq := (Bool.not_eq_true _).mp hq
      have hr : Hid (mutL c d m = (out, 0)) := by show _ = _; rw [hM.out]; unfold finM; rw [hq]; rfl
      go_wp2_with fail
      go_ret2
      rw [hr.out]
      exact ⟨_, bs, rfl, AtomSR.good.nxt hbF q1, (hz3.out.below hbF).mono (Nat.le_refl _), hwF⟩
end Go.Proofs.YthglchopajdmhaaGreat
