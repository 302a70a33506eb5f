/- Sets less others, in the program and in the reference. No statement is proved here; no conditions. Written by a program (gen18.py). -/
import Derived.Test.YthglchopajdmhaaDel
import Derived.Test.YthglchopajdmhaaHas
import Derived.Test.YthglchopajdmhaaStart
import Derived.Test.YthglchopajdmhaaMarkT
namespace Go.Proofs.Ythglchopajdmhaa
open Go.ChangeShapes Go.WideShapes Go.ChangeAt Go.RowKit Go.Deep
set_option maxRecDepth 100000
set_option linter.unusedVariables false
set_option linter.unusedSimpArgs false

def minusL (a b : List Atom) : List Atom := a.filter fun x => !decide (x ∈ b)
def alike (a b : List Atom) : Bool := ((a.length : Int) == 0) || (((b.length : Int) == 0) || (kindAt a 0 == kindAt b 0))
def twoCode (a b : List Atom) : Int := if 4096 < a.length ∨ 4096 < b.length then 2 else cond (datumOK a && datumOK b) (cond (alike a b) 0 9) 1
def lessAns (a b : List Atom) : List Atom × Int := if twoCode a b = 0 then (minusL a b, 0) else ([], twoCode a b)
theorem AtomS.wt_len (xs : List Atom) : AtomS.wt xs = 3 * xs.length := by
  unfold AtomS.wt
  induction xs with
  | nil => rfl
  | cons x l ih => simp only [List.map_cons, List.sum_cons, List.length_cons, ih]; unfold Atom.wt; omega
theorem datumOK_len {d : List Atom} (h : datumOK d = true) : d.length ≤ 8 := by
  unfold datumOK at h; rw [Bool.and_eq_true] at h; have := of_decide_eq_true h.2; omega
theorem twoCode_zero {a b : List Atom} (h : twoCode a b = 0) : datumOK a = true ∧ datumOK b = true ∧ alike a b = true := by
  unfold twoCode at h
  split at h
  · cases h
  · cases h1 : datumOK a <;> cases h2 : datumOK b <;> cases h3 : alike a b <;> simp [h1, h2, h3] at h ⊢
theorem minusL_len (a b : List Atom) : (minusL a b).length ≤ a.length := List.length_filter_le _ _
theorem lessAns_wt (a b : List Atom) : AtomS.wt (lessAns a b).1 ≤ 24 := by
  unfold lessAns; split
  · rename_i h; have := datumOK_len (twoCode_zero h).1; have := minusL_len a b; show AtomS.wt (minusL a b) ≤ 24; rw [AtomS.wt_len]; omega
  · simp [AtomS.wt]
theorem lessAns_zero {a b : List Atom} (h : twoCode a b = 0) : lessAns a b = (minusL a b, 0) := by unfold lessAns; rw [if_pos h]
theorem lessAns_not {a b : List Atom} (h : ¬ twoCode a b = 0) : lessAns a b = ([], twoCode a b) := by unfold lessAns; rw [if_neg h]
theorem kindAt0 {d : List Atom} (h : 0 < d.length) : kindAt d 0 = d[0].kind := by unfold kindAt; rw [getD_at d 0 h]
theorem clo_less {w : World} {m : Nat} {bs : List Nat} {v : Value} {b : List Atom} (hb : AtomSR w bs [v] b) (q : w.cell? ⟨m, 0, none⟩ = some v) (x : Atom) :
    Calls Try.prog 136 #[x.val, .pointer (some ⟨m, 0, none⟩)] w fun e w' => e = .returned (.bool (decide (x ∈ b))) ∧ Below w.heap.size w w' := by
  have hb0 := hb
  obtain ⟨B, c, rfl, _, _, _⟩ := hb.use
  unfold Atom.val
  have hbx := (Below.refl w.heap.size w).alloc (Nat.le_refl _) (.cells #[.int .i64 x.kind, .int .i64 x.n, .string x.t] 90)
  have q1 := (hbx.cell (p := ⟨m, 0, none⟩) (World.block_lt_of_cell? w _ q)).trans q
  go_enter Try.func136, Try.ntmps136
  go_wp2_with fail
  refine (slices_ContainsA hbx hb0 x).mono ?_; rintro e w1 ⟨rfl, hb1⟩
  go_wp2_with fail
  go_ret
  exact ⟨rfl, nxt hbx hb1⟩
theorem impl_less {w : World} {b1 b2 : List Nat} {v1 v2 : Value} {a b : List Atom} (ha : AtomSR w b1 [v1] a) (hb : AtomSR w b2 [v2] b) (hn : a.length ≤ 1048576) :
    Calls Try.prog 117 #[v1, v2] w (ToS AtomSR w (minusL a b)) := by
  have ha0 := ha
  have hb0 := hb
  obtain ⟨A, c, rfl, _, _, _⟩ := ha.use
  obtain ⟨B, d, rfl, _, _, _⟩ := hb.use
  have hbx := (Below.refl w.heap.size w).alloc (Nat.le_refl _) (.cells #[.slice B b.length d] 43)
  have q := blk_cells (blk_new w #[.slice B b.length d] 43)
  have hlt := AtomSR.good.lt hb0
  have HN := hide hn; clear hn
  go_enter Try.func117, Try.ntmps117
  go_wp2_with fail
  refine (slices_CloneA (AtomSR.good.nxt hbx ha0) HN.out).mono ?_; rintro e w1 ⟨v3, bs3, rfl, r3, f3, hb1⟩
  have q1 := box_on q rfl hb1
  have hw1 := nxt hbx hb1
  have hlo : ∀ x ∈ bs3, w.heap.size + 1 ≤ x := fun x hx => by have := (f3.2 x hx).1; simpa using this
  have r30 := r3
  obtain ⟨C, k, rfl, _, _, _⟩ := r3.use
  go_wp2_with fail
  refine (slices_DeleteFuncAtomS r30 f3 (fun x => decide (x ∈ b)) 136 #[.pointer (some ⟨w.heap.size, 0, none⟩)] (enters_of Try.func136 (by kernel_rfl) rfl) (fun x bk es W hU hR => by
    obtain ⟨rfl, rfl, _⟩ := hR
    refine clo_less (AtomSR.good.upd (AtomSR.good.nxt hw1 hb0) hU (fun y hy hm => by have := hlo y hm; have := hlt y hy; omega)) ?_ x
    exact (box_upd q1 rfl hU (fun hm => by have := hlo _ hm; omega) 0))).mono ?_
  rintro e w2 ⟨v4, bs4, rfl, r4, f4, u4, _⟩
  obtain ⟨D, l, rfl, _, _, _⟩ := r4.use
  go_wp2_with fail
  go_ret
  exact ⟨_, bs4, rfl, r4, f4.mono (by simp), hw1.trans (u4.below _ hw1.size (fun x hx => by have := hlo x hx; omega))⟩
set_option maxHeartbeats 4000000 in
theorem spec_l03Minus {w : World}  {bs_a : List Nat} {v_a : Value} {a : List Atom} (H_a : AtomSR w bs_a [v_a] a) {bs_b : List Nat} {v_b : Value} {b : List Atom} (H_b : AtomSR w bs_b [v_b] b) (hn : a.length ≤ 1048576) :
    Calls Try.prog 108 #[v_a, v_b] w (ToS AtomSR w (minusL a b)) := by
  have H0_a := H_a
  obtain ⟨A_a, c_a, rfl, hlc_a, hcm_a, hel_a⟩ := H_a.use
  have H0_b := H_b
  obtain ⟨A_b, c_b, rfl, hlc_b, hcm_b, hel_b⟩ := H_b.use
  obtain ⟨ii, hi, hz, hs, hby⟩ := info_parts AtomS.info
  have hG0 := hide (Gr.made (size := 3) (R := AtomR) (e := 90) (lo := w.heap.size) w #[] 0 (Nat.le_refl _) (by simp [maxLen]) (by simp))
  have hB0 := (Below.refl w.heap.size w).alloc (Nat.le_refl _) (.cells #[] 90)
  have HN := hide hn; clear hn hel_b
  go_enter Try.func108, Try.ntmps108
  go_wp2_with fail
  go_loopw [5, 6] (fun o i wr => ∃ (k : Nat) (v : Value) (bss : List (List Nat)), k ≤ a.length ∧ i = .int .i64 k ∧ o = v ∧ Hid (Gr 3 AtomR 90 w.heap.size wr v bss (minusL (a.take k) b)) ∧ Below w.heap.size w wr) (fun _ i _ => a.length - (intOf i).toNat)
  case atStart => exact ⟨0, _, [], Nat.zero_le _, rfl, rfl, hG0, hB0⟩
  case round =>
    clear hG0
    obtain ⟨k, v, bss, hk, rfl, hov, hG, hbr⟩ := hrel; have hov := hov.symm; subst hov
    obtain ⟨O, cO, hv, _, _⟩ := hG.out.form
    by_cases hlt : k < a.length
    · obtain ⟨gb, go, gbk, ges, rfl, ghbl, ghcl, ghcell, gR, ghbk⟩ := hel_a k hlt
      obtain ⟨_, ghes, ghf⟩ := gR
      subst ghes
      have g_0 := (hbr.cell (p := ⟨gb, _, none⟩) ghbl).trans (ghcell 0 _ rfl)
      have g_1 := (hbr.cell (p := ⟨gb, _, none⟩) ghbl).trans (ghcell 1 _ rfl)
      have g_2 := (hbr.cell (p := ⟨gb, _, none⟩) ghbl).trans (ghcell 2 _ rfl)
      simp only [Nat.add_zero] at g_0 g_1 g_2
      have hgl := hide (minusL_len (a.take k) b)
      have hgv := hide hv; clear hv
      go_wp2_with fail
      refine (spec_l03Has hbr H0_b a[k]).mono ?_; rintro e w2 ⟨rfl, hb2⟩
      have hw2 := nxt hbr hb2
      clear g_0 g_1 g_2
      have g_0 := (hw2.cell (p := ⟨gb, _, none⟩) ghbl).trans (ghcell 0 _ rfl)
      have g_1 := (hw2.cell (p := ⟨gb, _, none⟩) ghbl).trans (ghcell 1 _ rfl)
      have g_2 := (hw2.cell (p := ⟨gb, _, none⟩) ghbl).trans (ghcell 2 _ rfl)
      simp only [Nat.add_zero] at g_0 g_1 g_2
      have hG2 := hide (hG.out.below AtomR.good hb2)
      cases hd : decide (a[k] ∈ b)
      · have hs2 : Hid (minusL (a.take (k + 1)) b = minusL (a.take k) b ++ [a[k]]) := by show _ = _; unfold minusL; rw [List.take_add_one, List.getElem?_eq_getElem hlt, List.filter_append, Option.toList_some, List.filter_cons, hd]; rfl
        have hsz := hw2.size
        have hE := ghf
        go_wp2_with (at_builtin; refine wpList_append_gr AtomR.good rfl _ _ 43 rfl Try.underlying43 hi hz hs hby rfl (by decide) (v := v) rfl hG2.out (Below.refl _ _) (bk := []) (cy := [.int .i64 a[k].kind, .int .i64 a[k].n, .string a[k].t]) (y := a[k]) ⟨rfl, rfl, hE⟩ (fun b hb => by cases hb) rfl rfl (fun u hu => AtomR.one w2 [] _ a[k] ⟨rfl, rfl, hE⟩ u hu) (by have := hgl.out; have := HN.out; have := List.length_take_le k a; omega) (by have := hgl.out; have := HN.out; have := List.length_take_le k a; omega) hsz ?_; intro v' w' hg' hB' hold hsz2 hv')
        go_roundw
        case rel => exact ⟨k + 1, v', bss ++ [[]], hlt, by go_num, rfl, by rw [hs2.out]; exact hg', hB' _ _ hw2 (Nat.le_refl _)⟩
        case measure => simp [intOf]; omega
      · have hs2 : Hid (minusL (a.take (k + 1)) b = minusL (a.take k) b) := by show _ = _; unfold minusL; rw [List.take_add_one, List.getElem?_eq_getElem hlt, List.filter_append, Option.toList_some, List.filter_cons, hd]; simp
        go_wp2_with fail
        go_roundw
        case rel => exact ⟨k + 1, v, bss, hlt, by go_num, rfl, by rw [hs2.out]; exact hG2, hw2⟩
        case measure => simp [intOf]; omega
    · obtain rfl : k = a.length := by omega
      have hG2 := hG.out
      rw [List.take_length] at hG2
      have HG := hide hG2; clear hG2 hv
      go_wp2
      go_ret
      obtain ⟨bs', q1, q2, q3⟩ := HG.out.done
      exact ⟨_, bs', rfl, q1, q2 (by rw [HG.out.bss_nil AtomR.flat]; exact Fr.nil _ _), hbr⟩
set_option maxHeartbeats 2000000 in
theorem impl_areAlike {w : World}  {bs_a : List Nat} {v_a : Value} {a : List Atom} (H_a : AtomSR w bs_a [v_a] a) {bs_b : List Nat} {v_b : Value} {b : List Atom} (H_b : AtomSR w bs_b [v_b] b)  :
    Calls Try.prog 103 #[v_a, v_b] w (fun e w' => e = .returned (.bool (alike a b)) ∧ Below w.heap.size w w') := by
  have H0_a := H_a
  obtain ⟨A_a, c_a, rfl, hlc_a, hcm_a, hel_a⟩ := H_a.use
  have H0_b := H_b
  obtain ⟨A_b, c_b, rfl, hlc_b, hcm_b, hel_b⟩ := H_b.use
  by_cases ha : 0 < a.length
  · have za : ((a.length : Int) == 0) = false := by rw [beq_eq_false_iff_ne]; omega
    by_cases hb : 0 < b.length
    · have zb : ((b.length : Int) == 0) = false := by rw [beq_eq_false_iff_ne]; omega
      obtain ⟨ab, ao, abk, aes, rfl, ahbl, ahcl, ahcell, ⟨_, ahes, _⟩, _⟩ := hel_a 0 ha; subst ahes
      obtain ⟨bb, bo, bbk, bes, rfl, bhbl, bhcl, bhcell, ⟨_, bhes, _⟩, _⟩ := hel_b 0 hb; subst bhes
      clear hel_a hel_b
      have ak := Fw.cell (((Below.refl w.heap.size w).cell (p := ⟨ab, _, none⟩) ahbl).trans (ahcell 0 _ rfl)); simp only [Nat.zero_mul, Nat.add_zero] at ak; clear ahcell ahcl
      have bk := Fw.cell (((Below.refl w.heap.size w).cell (p := ⟨bb, _, none⟩) bhbl).trans (bhcell 0 _ rfl)); simp only [Nat.zero_mul, Nat.add_zero] at bk; clear bhcell bhcl
      have hr : Hid (alike a b = (a[0].kind == b[0].kind)) := by show _ = _; unfold alike; rw [za, zb, kindAt0 ha, kindAt0 hb]; rfl
      go_enter Try.func103, Try.ntmps103
      go_wp2_with fail
      refine region_quiet (by kernel_rfl) (by kernel_rfl) ?_
      repeat (go_big_quiet_step (fail))
      refine wpQuiet_nil ?_; intro w1 hb1; have hw1 := nxt (Below.refl w.heap.size w) hb1; clear ak bk
      go_wp2_with fail
      go_ret
      exact ⟨ret_bool (by rw [hr.out]), hw1⟩
    · have zb : ((b.length : Int) == 0) = true := by rw [beq_iff_eq]; omega
      clear hel_a hel_b
      go_enter Try.func103, Try.ntmps103
      go_wp2_with fail
      refine region_quiet (by kernel_rfl) (by kernel_rfl) ?_
      repeat (go_big_quiet_step (fail))
      refine wpQuiet_nil ?_; intro w2 hb2; have hw2 := nxt (Below.refl w.heap.size w) hb2
      go_wp2_with fail
      go_ret
      exact ⟨ret_bool (by unfold alike; rw [za, zb]; rfl), hw2⟩
  · have za : ((a.length : Int) == 0) = true := by rw [beq_iff_eq]; omega
    clear hel_a hel_b
    go_enter Try.func103, Try.ntmps103
    go_wp2_with fail
    refine region_quiet (by kernel_rfl) (by kernel_rfl) ?_
    repeat (go_big_quiet_step (fail))
    refine wpQuiet_nil ?_; intro w3 hb3; have hw3 := nxt (Below.refl w.heap.size w) hb3
    go_wp2_with fail
    go_ret
    exact ⟨ret_bool (by unfold alike; rw [za]; rfl), hw3⟩
set_option maxHeartbeats 2000000 in
theorem impl_datumsCode {w : World}  {bs_a : List Nat} {v_a : Value} {a : List Atom} (H_a : AtomSR w bs_a [v_a] a) {bs_b : List Nat} {v_b : Value} {b : List Atom} (H_b : AtomSR w bs_b [v_b] b)  :
    Calls Try.prog 74 #[v_a, v_b] w (fun e w' => e = .returned (.int .i64 (twoCode a b)) ∧ Below w.heap.size w w') := by
  have H0_a := H_a
  obtain ⟨A_a, c_a, rfl, hlc_a, hcm_a, hel_a⟩ := H_a.use
  have H0_b := H_b
  obtain ⟨A_b, c_b, rfl, hlc_b, hcm_b, hel_b⟩ := H_b.use
  clear hel_a hel_b
  by_cases hl1 : 4096 < a.length
  · go_enter Try.func74, Try.ntmps74
    go_wp2_with fail
    refine (impl_isListA H0_a).mono ?_; rintro e w1 ⟨rfl, rfl⟩
    have h9 : decide ((a.length : Int) ≤ 4096) = false := decide_eq_false (by omega)
    go_wp2_with fail
    go_ret
    exact ⟨ret_int (by unfold twoCode; rw [if_pos (Or.inl hl1)]), (Below.refl w.heap.size w)⟩
  by_cases hl2 : 4096 < b.length
  · go_enter Try.func74, Try.ntmps74
    go_wp2_with fail
    refine (impl_isListA H0_a).mono ?_; rintro e w1 ⟨rfl, rfl⟩
    have h8 : decide ((a.length : Int) ≤ 4096) = true := decide_eq_true (by omega)
    go_wp2_with fail
    refine (impl_isListA H0_b).mono ?_; rintro e w1 ⟨rfl, rfl⟩
    have h9 : decide ((b.length : Int) ≤ 4096) = false := decide_eq_false (by omega)
    go_wp2_with fail
    go_ret
    exact ⟨ret_int (by unfold twoCode; rw [if_pos (Or.inr hl2)]), (Below.refl w.heap.size w)⟩
  have hl : ¬ (4096 < a.length ∨ 4096 < b.length) := by omega
  have HL := hide hl
  have h1 : (a.length : Int) ≤ 4096 := by omega
  have h2 : (b.length : Int) ≤ 4096 := by omega
  clear hl
  go_enter Try.func74, Try.ntmps74
  go_wp2_with fail
  refine (impl_isListA H0_a).mono ?_; rintro e w1 ⟨rfl, rfl⟩
  go_wp2_with fail
  refine (impl_isListA H0_b).mono ?_; rintro e w2 ⟨rfl, rfl⟩
  go_wp2_with fail
  refine (impl_DatumOK (Below.refl w.heap.size w) H0_a).mono ?_; rintro e w3 ⟨rfl, hb3⟩; have hw3 := nxt (Below.refl w.heap.size w) hb3
  cases d1 : datumOK a
  · go_wp2_with fail
    go_ret
    exact ⟨ret_int (by unfold twoCode; rw [if_neg HL.out, d1]; rfl), hw3⟩
  go_wp2_with fail
  refine (impl_DatumOK hw3 H0_b).mono ?_; rintro e w4 ⟨rfl, hb4⟩; have hw4 := nxt hw3 hb4
  cases d2 : datumOK b
  · go_wp2_with fail
    go_ret
    exact ⟨ret_int (by unfold twoCode; rw [if_neg HL.out, d1, d2]; rfl), hw4⟩
  go_wp2_with fail
  refine (impl_areAlike (AtomSR.good.nxt hw4 H0_a) (AtomSR.good.nxt hw4 H0_b)).mono ?_; rintro e w5 ⟨rfl, hb5⟩; have hw5 := nxt hw4 hb5
  cases d3 : alike a b
  · go_wp2_with fail
    go_ret
    exact ⟨ret_int (by unfold twoCode; rw [if_neg HL.out, d1, d2, d3]; rfl), hw5⟩
  go_wp2_with fail
  go_ret
  exact ⟨ret_int (by unfold twoCode; rw [if_neg HL.out, d1, d2, d3]; rfl), hw5⟩
set_option maxHeartbeats 2000000 in
theorem spec_l03Two {w : World}  {bs_a : List Nat} {v_a : Value} {a : List Atom} (H_a : AtomSR w bs_a [v_a] a) {bs_b : List Nat} {v_b : Value} {b : List Atom} (H_b : AtomSR w bs_b [v_b] b)  :
    Calls Try.prog 73 #[v_a, v_b] w (fun e w' => e = .returned (.int .i64 (twoCode a b)) ∧ Below w.heap.size w w') := by
  have H0_a := H_a
  obtain ⟨A_a, c_a, rfl, hlc_a, hcm_a, hel_a⟩ := H_a.use
  have H0_b := H_b
  obtain ⟨A_b, c_b, rfl, hlc_b, hcm_b, hel_b⟩ := H_b.use
  by_cases hl : 4096 < a.length ∨ 4096 < b.length
  · clear hel_a hel_b
    go_enter Try.func73, Try.ntmps73
    go_wp2
    all_goals
      go_ret
      exact ⟨ret_int (by unfold twoCode; rw [if_pos hl]), (Below.refl w.heap.size w)⟩
  have HL := hide hl
  have h1 : (a.length : Int) ≤ 4096 := by omega
  have h2 : (b.length : Int) ≤ 4096 := by omega
  clear hl
  by_cases ha : 0 < a.length
  · by_cases hb : 0 < b.length
    · obtain ⟨ab, ao, abk, aes, rfl, ahbl, ahcl, ahcell, ⟨_, ahes, _⟩, _⟩ := hel_a 0 ha; subst ahes
      obtain ⟨bb, bo, bbk, bes, rfl, bhbl, bhcl, bhcell, ⟨_, bhes, _⟩, _⟩ := hel_b 0 hb; subst bhes
      have hr : Hid (alike a b = (a[0].kind == b[0].kind)) := by show _ = _; unfold alike; rw [show ((a.length : Int) == 0) = false by rw [beq_eq_false_iff_ne]; omega, show ((b.length : Int) == 0) = false by rw [beq_eq_false_iff_ne]; omega, kindAt0 ha, kindAt0 hb]; rfl
      have la : decide ((0 : Int) < a.length) = true := decide_eq_true (by omega)
      have lb : decide ((0 : Int) < b.length) = true := decide_eq_true (by omega)
      clear hel_a hel_b
      go_enter Try.func73, Try.ntmps73
      go_wp2_with fail
      refine (spec_DatumOK (Below.refl w.heap.size w) H0_a).mono ?_; rintro e w1 ⟨rfl, hb1⟩; have hw1 := nxt (Below.refl w.heap.size w) hb1
      cases d1 : datumOK a
      · go_wp2_with fail
        go_ret
        exact ⟨ret_int (by unfold twoCode; rw [if_neg HL.out, d1]; rfl), hw1⟩
      go_wp2_with fail
      refine (spec_DatumOK hw1 H0_b).mono ?_; rintro e w2 ⟨rfl, hb2⟩; have hw2 := nxt hw1 hb2
      cases d2 : datumOK b
      · go_wp2_with fail
        go_ret
        exact ⟨ret_int (by unfold twoCode; rw [if_neg HL.out, d1, d2]; rfl), hw2⟩
      have D1 := hide d1; have D2 := hide d2; clear d1 d2
      go_wp2_with fail
      have ak := Fw.cell ((hw2.cell (p := ⟨ab, _, none⟩) ahbl).trans (ahcell 0 _ rfl)); simp only [Nat.zero_mul, Nat.add_zero] at ak; clear ahcell ahcl
      have bk := Fw.cell ((hw2.cell (p := ⟨bb, _, none⟩) bhbl).trans (bhcell 0 _ rfl)); simp only [Nat.zero_mul, Nat.add_zero] at bk; clear bhcell bhcl
      refine region_quiet (by kernel_rfl) (by kernel_rfl) ?_
      repeat (go_big_quiet_step (fail))
      refine wpQuiet_nil ?_; intro w3 hb3; have hw3 := nxt hw2 hb3; clear ak bk
      cases hk : (a[0].kind == b[0].kind)
      · have hk2 : (a[0].kind != b[0].kind) = true := by unfold bne; rw [hk]; rfl
        have hr2 := hr.out; rw [hk] at hr2; have HR := hide hr2; clear hr2 hk
        go_wp2_with fail
        go_ret
        exact ⟨ret_int (by unfold twoCode; rw [if_neg HL.out, D1.out, D2.out, HR.out]; rfl), hw3⟩
      · have hk2 : (a[0].kind != b[0].kind) = false := by unfold bne; rw [hk]; rfl
        have hr2 := hr.out; rw [hk] at hr2; have HR := hide hr2; clear hr2 hk
        go_wp2_with fail
        go_ret
        exact ⟨ret_int (by unfold twoCode; rw [if_neg HL.out, D1.out, D2.out, HR.out]; rfl), hw3⟩
    · have hr : Hid (alike a b = true) := by show _ = _; unfold alike; rw [show ((b.length : Int) == 0) = true by rw [beq_iff_eq]; omega]; simp
      have la : decide ((0 : Int) < a.length) = true := decide_eq_true (by omega)
      have lb : decide ((0 : Int) < b.length) = false := decide_eq_false (by omega)
      clear hel_a hel_b
      go_enter Try.func73, Try.ntmps73
      go_wp2_with fail
      refine (spec_DatumOK (Below.refl w.heap.size w) H0_a).mono ?_; rintro e w4 ⟨rfl, hb4⟩; have hw4 := nxt (Below.refl w.heap.size w) hb4
      cases d1 : datumOK a
      · go_wp2_with fail
        go_ret
        exact ⟨ret_int (by unfold twoCode; rw [if_neg HL.out, d1]; rfl), hw4⟩
      go_wp2_with fail
      refine (spec_DatumOK hw4 H0_b).mono ?_; rintro e w5 ⟨rfl, hb5⟩; have hw5 := nxt hw4 hb5
      cases d2 : datumOK b
      · go_wp2_with fail
        go_ret
        exact ⟨ret_int (by unfold twoCode; rw [if_neg HL.out, d1, d2]; rfl), hw5⟩
      have D1 := hide d1; have D2 := hide d2; clear d1 d2
      go_wp2_with fail
      refine region_quiet (by kernel_rfl) (by kernel_rfl) ?_
      repeat (go_big_quiet_step (fail))
      refine wpQuiet_nil ?_; intro w6 hb6; have hw6 := nxt hw5 hb6
      go_wp2_with fail
      go_ret
      exact ⟨ret_int (by unfold twoCode; rw [if_neg HL.out, D1.out, D2.out, hr.out]; rfl), hw6⟩
  · have hr : Hid (alike a b = true) := by show _ = _; unfold alike; rw [show ((a.length : Int) == 0) = true by rw [beq_iff_eq]; omega]; simp
    have la : decide ((0 : Int) < a.length) = false := decide_eq_false (by omega)
    clear hel_a hel_b
    go_enter Try.func73, Try.ntmps73
    go_wp2_with fail
    refine (spec_DatumOK (Below.refl w.heap.size w) H0_a).mono ?_; rintro e w7 ⟨rfl, hb7⟩; have hw7 := nxt (Below.refl w.heap.size w) hb7
    cases d1 : datumOK a
    · go_wp2_with fail
      go_ret
      exact ⟨ret_int (by unfold twoCode; rw [if_neg HL.out, d1]; rfl), hw7⟩
    go_wp2_with fail
    refine (spec_DatumOK hw7 H0_b).mono ?_; rintro e w8 ⟨rfl, hb8⟩; have hw8 := nxt hw7 hb8
    cases d2 : datumOK b
    · go_wp2_with fail
      go_ret
      exact ⟨ret_int (by unfold twoCode; rw [if_neg HL.out, d1, d2]; rfl), hw8⟩
    have D1 := hide d1; have D2 := hide d2; clear d1 d2
    go_wp2_with fail
    refine region_quiet (by kernel_rfl) (by kernel_rfl) ?_
    repeat (go_big_quiet_step (fail))
    refine wpQuiet_nil ?_; intro w9 hb9; have hw9 := nxt hw8 hb9
    go_wp2_with fail
    go_ret
    exact ⟨ret_int (by unfold twoCode; rw [if_neg HL.out, D1.out, D2.out, hr.out]; rfl), hw9⟩
end Go.Proofs.Ythglchopajdmhaa
