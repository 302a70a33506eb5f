/- Sets less others, in the program and in the reference. No statement is proved here; no conditions. Written by a program (gen18.py). -/
import Derived.Test.YthglchopajdmhaaGreatDel
import Derived.Test.YthglchopajdmhaaGreatHas
import Derived.Test.YthglchopajdmhaaGreatStart
import Derived.Test.YthglchopajdmhaaGreatMarkT
namespace Go.Proofs.YthglchopajdmhaaGreat
open Go.ChangeShapes Go.WideShapes Go.ChangeAt Go.RowKit Go.Deep
set_option maxRecDepth 100000
set_option linter.unusedVariables false
set_option linter.unusedSimpArgs false

def minusL (a b : List Atom) : List Atom := a.filter fun x => !decide (x ∈ b)
def alike (a b : List Atom) : Bool := ((a.length : Int) == 0) || (((b.length : Int) == 0) || (kindAt a 0 == kindAt b 0))
def twoCode (a b : List Atom) : Int := if 4096 < a.length ∨ 4096 < b.length then 2 else cond (datumOK a && datumOK b) (cond (alike a b) 0 9) 1
def lessAns (a b : List Atom) : List Atom × Int := if twoCode a b = 0 then (minusL a b, 0) else ([], twoCode a b)
theorem AtomS.wt_len (xs : List Atom) : AtomS.wt xs = 3 * xs.length := by
  unfold AtomS.wt
  induction xs with
  | nil => rfl
  | cons x l ih => simp only [List.map_cons, List.sum_cons, List.length_cons, ih]; unfold Atom.wt; omega
theorem datumOK_len {d : List Atom} (h : datumOK d = true) : d.length ≤ 8 := by
  unfold datumOK at h; rw [Bool.and_eq_true] at h; have := of_decide_eq_true h.2; omega
theorem twoCode_zero {a b : List Atom} (h : twoCode a b = 0) : datumOK a = true ∧ datumOK b = true ∧ alike a b = true := by
  unfold twoCode at h
  split at h
  · cases h
  · cases h1 : datumOK a <;> cases h2 : datumOK b <;> cases h3 : alike a b <;> simp [h1, h2, h3] at h ⊢
theorem minusL_len (a b : List Atom) : (minusL a b).length ≤ a.length := List.length_filter_le _ _
theorem lessAns_wt (a b : List Atom) : AtomS.wt (lessAns a b).1 ≤ 24 := by
  unfold lessAns; split
  · rename_i h; have := datumOK_len (twoCode_zero h).1; have := minusL_len a b; show AtomS.wt (minusL a b) ≤ 24; rw [AtomS.wt_len]; omega
  · simp [AtomS.wt]
theorem lessAns_zero {a b : List Atom} (h : twoCode a b = 0) : lessAns a b = (minusL a b, 0) := by unfold lessAns; rw [if_pos h]
theorem lessAns_not {a b : List Atom} (h : ¬ twoCode a b = 0) : lessAns a b = ([], twoCode a b) := by unfold lessAns; rw [if_neg h]
theorem kindAt0 {d : List Atom} (h : 0 < d.length) : kindAt d 0 = d[0].kind := by unfold kindAt; rw [getD_at d 0 h]
theorem clo_less {w : World} {m : Nat} {bs : List Nat} {v : Value} {b : List Atom} (hb : AtomSR w bs [v] b) (q : w.cell? ⟨m, 0, none⟩ = some v) (x : Atom) :
    Calls Tryz.prog 113 #[x.val, .pointer (some ⟨m, 0, none⟩)] w fun e w' => e = .returned (.bool (decide (x ∈ b))) ∧ Below w.heap.size w w' := by
  have hb0 := hb
  obtain ⟨B, c, rfl, _, _, _⟩ := hb.use
  unfold Atom.val
  have hbx := (Below.refl w.heap.size w).alloc (Nat.le_refl _) (.cells #[.int .i64 x.kind, .int .i64 x.n, .string x.t] 98)
  have q1 := (hbx.cell (p := ⟨m, 0, none⟩) (World.block_lt_of_cell? w _ q)).trans q
  go_enter Tryz.func113, Tryz.ntmps113
  go_wp2_with fail
  refine (slices_ContainsA hbx hb0 x).mono ?_; rintro e w1 ⟨rfl, hb1⟩
  go_wp2_with fail
  go_ret
  exact ⟨rfl, nxt hbx hb1⟩
theorem impl_less {w : World} {b1 b2 : List Nat} {v1 v2 : Value} {a b : List Atom} (ha : AtomSR w b1 [v1] a) (hb : AtomSR w b2 [v2] b) (hn : a.length ≤ 1048576) :
    Calls Tryz.prog 94 #[v1, v2] w (ToS AtomSR w (minusL a b)) := by
  have ha0 := ha
  have hb0 := hb
  obtain ⟨A, c, rfl, _, _, _⟩ := ha.use
  obtain ⟨B, d, rfl, _, _, _⟩ := hb.use
  have hbx := (Below.refl w.heap.size w).alloc (Nat.le_refl _) (.cells #[.slice B b.length d] 65)
  have q := blk_cells (blk_new w #[.slice B b.length d] 65)
  have hlt := AtomSR.good.lt hb0
  have HN := hide hn; clear hn
  go_enter Tryz.func94, Tryz.ntmps94
  go_wp2_with fail
  refine (slices_CloneA (AtomSR.good.nxt hbx ha0) HN.out).mono ?_; rintro e w1 ⟨v3, bs3, rfl, r3, f3, hb1⟩
  have q1 := box_on q rfl hb1
  have hw1 := nxt hbx hb1
  have hlo : ∀ x ∈ bs3, w.heap.size + 1 ≤ x := fun x hx => by have := (f3.2 x hx).1; simpa using this
  have r30 := r3
  obtain ⟨C, k, rfl, _, _, _⟩ := r3.use
  go_wp2_with fail
  refine (slices_DeleteFuncAtomS r30 f3 (fun x => decide (x ∈ b)) 113 #[.pointer (some ⟨w.heap.size, 0, none⟩)] (enters_of Tryz.func113 (by kernel_rfl) rfl) (fun x bk es W hU hR => by
    obtain ⟨rfl, rfl, _⟩ := hR
    refine clo_less (AtomSR.good.upd (AtomSR.good.nxt hw1 hb0) hU (fun y hy hm => by have := hlo y hm; have := hlt y hy; omega)) ?_ x
    exact (box_upd q1 rfl hU (fun hm => by have := hlo _ hm; omega) 0))).mono ?_
  rintro e w2 ⟨v4, bs4, rfl, r4, f4, u4, _⟩
  obtain ⟨D, l, rfl, _, _, _⟩ := r4.use
  go_wp2_with fail
  go_ret
  exact ⟨_, bs4, rfl, r4, f4.mono (by simp), hw1.trans (u4.below _ hw1.size (fun x hx => by have := hlo x hx; omega))⟩
set_option maxHeartbeats 4000000 in
theorem spec_l03Minus {w : World}  {bs_a : List Nat} {v_a : Value} {a : List Atom} (H_a : AtomSR w bs_a [v_a] a) {bs_b : List Nat} {v_b : Value} {b : List Atom} (H_b : AtomSR w bs_b [v_b] b) (hn : a.length ≤ 1048576) :
    Calls Tryz.prog 77 #[v_a, v_b] w (ToS AtomSR w (minusL a b)) := by
  have H0_a := H_a
  obtain ⟨A_a, c_a, rfl, hlc_a, hcm_a, hel_a⟩ := H_a.use
  have H0_b := H_b
  obtain ⟨A_b, c_b, rfl, hlc_b, hcm_b, hel_b⟩ := H_b.use
  obtain ⟨ii, hi, hz, hs, hby⟩ := info_parts AtomS.info
  have hG0 := hide (Gr.made (size := 3) (R := AtomR) (e := 98) (lo := w.heap.size) w #[] 0 (Nat.le_refl _) (by simp [maxLen]) (by simp))
  have hB0 := (Below.refl w.heap.size w).alloc (Nat.le_refl _) (.cells #[] 98)
  have HN := hide hn; clear hn hel_b
  go_enter Tryz.func77, Tryz.ntmps77
  go_wp2_with fail
  go_loopw [5, 6] (fun o i wr => ∃ (k : Nat) (v : Value) (bss : List (List Nat)), k ≤ a.length ∧ i = .int .i64 k ∧ o = v ∧ Hid (Gr 3 AtomR 98 w.heap.size wr v bss (minusL (a.take k) b)) ∧ Below w.heap.size w wr) (fun _ i _ => a.length - (intOf i).toNat)
  case atStart => exact ⟨0, _, [], Nat.zero_le _, rfl, rfl, hG0, hB0⟩
  case round =>
    clear hG0
    obtain ⟨k, v, bss, hk, rfl, hov, hG, hbr⟩ := hrel; have hov := hov.symm; subst hov
    obtain ⟨O, cO, hv, _, _⟩ := hG.out.form
    by_cases hlt : k < a.length
    · obtain ⟨gb, go, gbk, ges, rfl, ghbl, ghcl, ghcell, gR, ghbk⟩ := hel_a k hlt
      obtain ⟨_, ghes, ghf⟩ := gR
      subst ghes
      have g_0 := (hbr.cell (p := ⟨gb, _, none⟩) ghbl).trans (ghcell 0 _ rfl)
      have g_1 := (hbr.cell (p := ⟨gb, _, none⟩) ghbl).trans (ghcell 1 _ rfl)
      have g_2 := (hbr.cell (p := ⟨gb, _, none⟩) ghbl).trans (ghcell 2 _ rfl)
      simp only [Nat.add_zero] at g_0 g_1 g_2
      have hgl := hide (minusL_len (a.take k) b)
      have hgv := hide hv; clear hv
      go_wp2_with fail
      refine (spec_l03Has hbr H0_b a[k]).mono ?_; rintro e w2 ⟨rfl, hb2⟩
      have hw2 := nxt hbr hb2
      clear g_0 g_1 g_2
      have g_0 := (hw2.cell (p := ⟨gb, _, none⟩) ghbl).trans (ghcell 0 _ rfl)
      have g_1 := (hw2.cell (p := ⟨gb, _, none⟩) ghbl).trans (ghcell 1 _ rfl)
      have g_2 := (hw2.cell (p := ⟨gb, _, none⟩) ghbl).trans (ghcell 2 _ rfl)
      simp only [Nat.add_zero] at g_0 g_1 g_2
      have hG2 := hide (hG.out.below AtomR.good hb2)
      cases hd : decide (a[k] ∈ b)
      · have hs2 : Hid (minusL (a.take (k + 1)) b = minusL (a.take k) b ++ [a[k]]) := by show _ = _; unfold minusL; rw [List.take_add_one, List.getElem?_eq_getElem hlt, List.filter_append, Option.toList_some, List.filter_cons, hd]; rfl
        have hsz := hw2.size
        have hE := ghf
        go_wp2_with (at_builtin; refine wpList_append_gr AtomR.good rfl _ _ 65 rfl Tryz.underlying65 hi hz hs hby rfl (by decide) (v := v) rfl hG2.out (Below.refl _ _) (bk := []) (cy := [.int .i64 a[k].kind, .int .i64 a[k].n, .string a[k].t]) (y := a[k]) ⟨rfl, rfl, hE⟩ (fun b hb => by cases hb) rfl rfl (fun u hu => AtomR.one w2 [] _ a[k] ⟨rfl, rfl, hE⟩ u hu) (by have := hgl.out; have := HN.out; have := List.length_take_le k a; omega) (by have := hgl.out; have := HN.out; have := List.length_take_le k a; omega) hsz ?_; intro v' w' hg' hB' hold hsz2 hv')
        go_roundw
        case rel => exact ⟨k + 1, v', bss ++ [[]], hlt, by go_num, rfl, by rw [hs2.out]; exact hg', hB' _ _ hw2 (Nat.le_refl _)⟩
        case measure => simp [intOf]; omega
      · have hs2 : Hid (minusL (a.take (k + 1)) b = minusL (a.take k) b) := by show _ = _; unfold minusL; rw [List.take_add_one, List.getElem?_eq_getElem hlt, List.filter_append, Option.toList_some, List.filter_cons, hd]; simp
        go_wp2_with fail
        go_roundw
        case rel => exact ⟨k + 1, v, bss, hlt, by go_num, rfl, by rw [hs2.out]; exact hG2, hw2⟩
        case measure => simp [intOf]; omega
    · obtain rfl : k = a.length := by omega
      have hG2 := hG.out
      rw [List.take_length] at hG2
      have HG := hide hG2; clear hG2 hv
      go_wp2
      go_ret
      obtain ⟨bs', q1, q2, q3⟩ := HG.out.done
      exact ⟨_, bs', rfl, q1, q2 (by rw [HG.out.bss_nil AtomR.flat]; exact Fr.nil _ _), hbr⟩
end Go.Proofs.YthglchopajdmhaaGreat
