/- Sets of atoms. No statement is proved here; no conditions. Written by a program (gen43.py). -/
import Derived.Test.YthglchopajdmhaaGreatSort
import Derived.Test.YthglchopajdmhaaGreatComp
import Derived.Test.YthglchopajdmhaaGreatPut
namespace Go.Proofs.YthglchopajdmhaaGreat
open Go.ChangeShapes Go.WideShapes Go.ChangeAt Go.RowKit Go.Deep
set_option maxRecDepth 100000
set_option linter.unusedVariables false
set_option linter.unusedSimpArgs false

theorem codeL_stop {l : List Atom} {k : Nat} (h : codeL l k = 0) (hs : codeStep l k ≠ 0) : ∀ n, k < n → codeL l n = codeStep l k := by
  have h1 : codeL l (k + 1) = codeStep l k := by show cond (codeL l k == 0) _ _ = _; rw [h]; rfl
  intro n hn
  induction n with
  | zero => omega
  | succ n ih =>
    rcases Nat.lt_or_ge k n with h2 | h2
    · have h3 := ih h2
      show cond (codeL l n == 0) _ _ = _
      rw [h3, beq_eq_false_iff_ne.2 hs]; rfl
    · have : n = k := by omega
      subst this; exact h1
theorem codeL_next {l : List Atom} {k : Nat} (h : codeL l k = 0) (hs : codeStep l k = 0) : codeL l (k + 1) = 0 := by show cond (codeL l k == 0) _ _ = _; rw [h]; exact hs
theorem codeStep_at {l : List Atom} {k : Nat} (h : k < l.length) (h0 : 0 < l.length) : codeStep l k = cond (atomOK l[k]) (cond (l[k].kind == l[0].kind) 0 9) 1 := by
  unfold codeStep kindAt; rw [get_d _ _ h, get_d _ _ h0]
theorem ofAns_bad {l : List Atom} {c : Int} (h : codeL l l.length = c) (hc : c ≠ 0) : ofAns l = ([], c) := by unfold ofAns; rw [h, beq_eq_false_iff_ne.2 hc]; rfl
theorem ofAns_many {l : List Atom} (h : codeL l l.length = 0) (h8 : 8 < (setA l).length) : ofAns l = ([], 6) := by unfold ofAns; rw [h]; show (if _ then _ else _) = _; rw [if_pos h8]
theorem ofAns_good {l : List Atom} (h : codeL l l.length = 0) (h8 : ¬ 8 < (setA l).length) : ofAns l = (setA l, 0) := by unfold ofAns; rw [h]; show (if _ then _ else _) = _; rw [if_neg h8]
def datAns (l : List Atom) : List Atom × Int := if 4096 < l.length then ([], 2) else ofAns l
theorem ofAns_wt (l : List Atom) : AtomS.wt (ofAns l).1 ≤ 24 := by
  unfold ofAns; cases codeL l l.length == 0
  · show AtomS.wt [] ≤ 24; rw [AtomS.wt_len]; decide
  · show AtomS.wt (if _ then _ else _ : List Atom × Int).1 ≤ 24
    split
    · rw [AtomS.wt_len]; decide
    · rw [AtomS.wt_len]; show 3 * (setA l).length ≤ 24; omega
theorem datAns_wt (l : List Atom) : AtomS.wt (datAns l).1 ≤ 24 := by
  unfold datAns; split
  · rw [AtomS.wt_len]; decide
  · exact ofAns_wt l
theorem impl_setOf {w : World} {bs : List Nat} {v : Value} {l : List Atom} (H : AtomSR w bs [v] l) (hn : l.length ≤ 1048576) : Calls Tryz.prog 92 #[v] w (ToS AtomSR w (setA l)) := by
  have H0 := H
  obtain ⟨A, c, rfl, _, _, _⟩ := H.use
  have HN := hide hn; clear hn
  go_enter Tryz.func92, Tryz.ntmps92
  go_wp2_with fail
  refine (slices_CloneA H0 HN.out).mono ?_; rintro e w1 ⟨v1, bs1, rfl, r1, f1, hb1⟩
  have r10 := r1; obtain ⟨A1, c1, rfl, _, _, _⟩ := r1.use
  go_wp2_with fail
  refine (slices_SortFuncA r10 f1 HN.out).mono ?_; rintro e w2 ⟨rfl, r2, f2, u2⟩
  go_wp2_with fail
  refine (slices_CompactA r2 f2).mono ?_; rintro e w3 ⟨v3, bs3, rfl, r3, f3, u3, s3⟩
  have r30 := r3; obtain ⟨A3, c3, rfl, _, _, _⟩ := r30.use
  go_wp2_with fail
  go_ret
  exact ⟨_, bs3, rfl, r3, f3, hb1.trans ((u2.trans u3 (fun _ h => h)).below _ hb1.size (fun b hb => (f1.2 b hb).1))⟩
set_option maxHeartbeats 8000000 in
theorem spec_l03Join {w : World}  {bs_a : List Nat} {v_a : Value} {a : List Atom} (H_a : AtomSR w bs_a [v_a] a) {bs_b : List Nat} {v_b : Value} {b : List Atom} (H_b : AtomSR w bs_b [v_b] b) (hna : a.length ≤ 8192) (hnb : b.length ≤ 8192) :
    Calls Tryz.prog 76 #[v_a, v_b] w (fun e w' => ∃ v' bs', e = .returned v' ∧ AtomSR w' bs' [v'] (joinA a b) ∧ Sm v' (joinA a b).length ∧ Fr w.heap.size w' bs' ∧ Below w.heap.size w w') := by
  have H0_a := H_a
  obtain ⟨A_a, c_a, rfl, hlc_a, hcm_a, hel_a⟩ := H_a.use
  have H0_b := H_b
  obtain ⟨A_b, c_b, rfl, hlc_b, hcm_b, hel_b⟩ := H_b.use
  obtain ⟨ii, ji, jz, js, jby⟩ := info_parts AtomS.info
  have HNA := hide hna; have HNB := hide hnb; clear hna hnb hel_a
  have hGm := hide (madeA (size := 3) (R := AtomR) (e := 98) (w := w) (n := w.heap.size) rfl)
  have e1 := (Below.refl w.heap.size w).alloc (Nat.le_refl _) (.cells #[] 98)
  have hal := hide (AtomSR.good.lt H0_a)
  have HA := hide (AtomSR.good.nxt e1 H0_a)
  go_enter Tryz.func76, Tryz.ntmps76
  go_wp2_with (at_builtin; refine wpList_append_sl AtomR.good rfl _ _ 65 rfl Tryz.underlying65 ji jz js jby rfl (by decide) (v := .slice (some ⟨w.heap.size, 0, none⟩) 0 0) rfl hGm.out HA.out rfl AtomR.one (fun b hb hv => by have h1 := hal.out b hb; have h9 : w.heap.size = b := (by injection hv); omega) (by have h00 : ([] : List Atom).length = 0 := rfl; have := HNA.out; simp only [h00]; omega) (by have h00 : ([] : List Atom).length = 0 := rfl; have := HNA.out; simp only [h00]; omega) (by simp) ?_; intro v2 wA bss2 hA; have hb2 := hA.below w.heap.size _ e1 (Nat.le_refl _); have hz2 := hb2.size; have hsm := hide (hA.gr.sm (hA.some (fun h => by cases h))); obtain ⟨bs2, r2, f2, _⟩ := hA.gr.done; have hF2 := hide (f2 (by rw [hA.gr.bss_nil AtomR.flat]; exact Fr.nil _ _)); clear f2; have hR2 := hide (show AtomSR wA bs2 [v2] (joinA a (b.take 0)) from r2); clear r2)
  clear HA
  go_loopw [5, 6] (fun o i wr => ∃ (k : Nat) (v : Value) (bs : List Nat), k ≤ b.length ∧ i = .int .i64 k ∧ o = v ∧ Hid (AtomSR wr bs [v] (joinA a (b.take k)) ∧ Sm v (joinA a (b.take k)).length ∧ Fr w.heap.size wr bs) ∧ Below (World.heap wA).size wA wr) (fun _ i _ => b.length - (intOf i).toNat)
  case atStart => exact ⟨0, _, bs2, Nat.zero_le _, rfl, rfl, ⟨hR2.out, hsm.out, hF2.out⟩, Below.refl _ _⟩
  case round =>
    clear hR2 hsm hGm hF2; obtain ⟨k, v, bs, hk, rfl, hov, hG, hbr⟩ := hrel; replace hov := hov.symm; subst hov; obtain ⟨wl, rfl⟩ : ∃ w' : World, w' = wr := ⟨_, rfl⟩
    have hwl := nxt hb2 hbr
    by_cases hlt : k < b.length
    · obtain ⟨gb, go, gbk, ges, rfl, ghbl, ghcl, ghcell, gR, ghbk⟩ := hel_b k hlt
      obtain ⟨_, ghes, ghf⟩ := gR
      subst ghes
      have g_0 := (hwl.cell (p := ⟨gb, _, none⟩) ghbl).trans (ghcell 0 _ rfl)
      have g_1 := (hwl.cell (p := ⟨gb, _, none⟩) ghbl).trans (ghcell 1 _ rfl)
      have g_2 := (hwl.cell (p := ⟨gb, _, none⟩) ghbl).trans (ghcell 2 _ rfl)
      simp only [Nat.add_zero] at g_0 g_1 g_2
      clear ghcell ghcl
      clear hel_b
      have hjt := hide (joinA_take a b k hlt)
      have hjl : Hid ((joinA a (b.take k)).length ≤ 1048576) := by show _ ≤ _; have := joinA_len a (b.take k); have := HNA.out; have := HNB.out; rw [List.length_take] at *; omega
      obtain ⟨V0, hV0⟩ : ∃ V : Value, V = v := ⟨_, rfl⟩; obtain ⟨vb, vo, vc, hvs⟩ := hG.out.2.1; subst hvs; clear hV0
      go_wp2_with fail
      refine (spec_l03Put hG.out.1 b[k] hG.out.2.1 ghf hjl.out).mono ?_; rintro e w9 ⟨v9, bs9, rfl, r9, s9, z9, hb9⟩; have hw9 := nxt hbr hb9; have hls := hwl.size; have hR9 := hide (show AtomSR w9 bs9 [v9] (joinA a (b.take (k + 1))) ∧ Sm v9 (joinA a (b.take (k + 1))).length ∧ Fr w.heap.size w9 bs9 from by rw [hjt.out]; exact ⟨r9, s9, by rcases z9 with h | h; (rw [h]; exact hG.out.2.2.below hb9); exact h.mono hls⟩); clear r9 s9 z9
      go_wp2_with fail
      go_roundw
      case rel => exact ⟨k + 1, v9, bs9, hlt, by go_num, rfl, hR9, hw9⟩
      case measure => simp [intOf]; omega
    · obtain rfl : k = b.length := by omega
      have hG2 := hG.out; rw [List.take_length] at hG2; have HG := hide hG2; clear hG2 hG hel_b
      go_wp2
      go_ret
      exact ⟨v, bs, rfl, HG.out.1, HG.out.2.1, HG.out.2.2, hwl⟩
end Go.Proofs.YthglchopajdmhaaGreat
