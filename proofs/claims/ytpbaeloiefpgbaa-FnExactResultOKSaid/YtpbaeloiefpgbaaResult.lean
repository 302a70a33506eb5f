/- ResultOK, in the program and in the reference. No statement is proved here; no conditions. Written by a program (gen12.py). -/
import Derived.Test.YtpbaeloiefpgbaaFitRow
import Derived.Test.YtpbaeloiefpgbaaBox
namespace Go.Proofs.Ytpbaeloiefpgbaa
open Go.ChangeShapes Go.WideShapes Go.ChangeAt Go.RowKit Go.Deep
set_option maxRecDepth 100000
set_option linter.unusedVariables false
set_option linter.unusedSimpArgs false

section
variable {α : Type} {p : α → Bool} {xs : List α}
theorem all_zero : ∀ j (hj : j < xs.length), j < 0 → p xs[j] = true := fun _ _ h => absurd h (Nat.not_lt_zero _)
theorem all_true (h : ∀ j (hj : j < xs.length), j < xs.length → p xs[j] = true) : xs.all p = true := by
  rw [List.all_eq_true]; intro x hx
  obtain ⟨j, hj, rfl⟩ := List.getElem_of_mem hx
  exact h j hj hj
theorem all_false {k : Nat} (hk : k < xs.length) (h : p xs[k] = false) : xs.all p = false := by
  rw [List.all_eq_false]; exact ⟨xs[k], List.getElem_mem hk, by simp [h]⟩
theorem all_step {k : Nat} (hk : k < xs.length) (h : ∀ j (hj : j < xs.length), j < k → p xs[j] = true) (h1 : p xs[k] = true) : ∀ j (hj : j < xs.length), j < k + 1 → p xs[j] = true := by
  intro j hj hjk
  by_cases hjk' : j = k
  · subst hjk'; exact h1
  · exact h j hj (by omega)
theorem any_not : (xs.any fun x => !p x) = !xs.all p := by
  induction xs with
  | nil => rfl
  | cons a l ih => simp only [List.any_cons, List.all_cons, ih, Bool.not_and]
end
def rowIs (n : Int) (r : Row) : Bool := ((r.cells.length : Int) == n) && r.cells.all datumOK
def resIn (r : Result) : Bool := inB r.count 0 1000 && (inB r.id 0 1000000 && (decide ((r.columns.length : Int) ≤ 7) && (decide ((r.rows.length : Int) ≤ 12) && (r.columns.all nameOK && r.rows.all (rowIs r.columns.length)))))
def resNil (r : Result) : Bool := (r.count == 0) && ((r.id == 0) && (((r.columns.length : Int) == 0) && ((r.rows.length : Int) == 0)))
def resOK (r : Result) : Bool := if r.code = 0 then resIn r else inB r.code 1 19 && resNil r
def resOKs (r : Result) : Bool := inB r.code 0 19 && (resIn r && (decide (r.code = 0) || resNil r))
theorem resOKs_eq (r : Result) : resOKs r = resOK r := by
  unfold resOKs resOK
  by_cases h : r.code = 0
  · rw [if_pos h, decide_eq_true h, h, inB_t (by omega) (by omega)]; simp
  · rw [if_neg h, decide_eq_false h, Bool.false_or]
    cases hn : resNil r
    · simp
    · unfold resNil at hn
      rw [Bool.and_eq_true, Bool.and_eq_true, Bool.and_eq_true] at hn
      obtain ⟨h1, h2, h3, h4⟩ := hn
      have h1 := eq_of_beq h1
      have h2 := eq_of_beq h2
      have h3 : r.columns.length = 0 := by have := eq_of_beq h3; omega
      have h4 : r.rows.length = 0 := by have := eq_of_beq h4; omega
      have e : resIn r = true := by
        unfold resIn
        rw [h1, h2, List.length_eq_zero_iff.1 h3, List.length_eq_zero_iff.1 h4]; decide
      rw [e]
      have : inB r.code 0 19 = inB r.code 1 19 := by unfold inB; congr 1; apply decide_eq_decide.2; omega
      rw [this]; simp
theorem clo_Result1 {w : World} (s : ByteArray) (hs : s.size ≤ 9223372036854775807) :
    Calls Try.prog 109 #[.string s] w fun e w' => e = .returned (.bool (!nameOK s)) ∧ Below w.heap.size w w' := by
  go_enter Try.func109, Try.ntmps109
  go_wp2_with fail
  refine (impl_NameOK s _ hs).mono ?_; rintro e w1 ⟨rfl, rfl⟩
  go_wp2_with fail
  go_ret
  exact ⟨rfl, Below.refl _ _⟩
theorem clo_isRowOf {w : World} {bs : List Nat} {v : Value} {d : List Atom} (hd : AtomSR w bs [v] d) :
    Calls Try.prog 155 #[v] w fun e w' => e = .returned (.bool (!datumOK d)) ∧ Below w.heap.size w w' := by
  have hd0 := hd
  obtain ⟨A, c, rfl, _, _, _⟩ := hd.use
  go_enter Try.func155, Try.ntmps155
  go_wp2_with fail
  refine (impl_DatumOK (Below.refl _ _) hd0).mono ?_; rintro e w1 ⟨rfl, hb1⟩
  go_wp2_with fail
  go_ret
  exact ⟨rfl, hb1⟩
theorem impl_isRowOf {w : World}  {bs_r : List Nat} {cs_r : List Value} {r : Row} (H_r : RowR w bs_r cs_r r) (n : Int)  :
    Calls Try.prog 113 #[.agg cs_r.toArray, .int .i64 n] w (fun e w' => e = .returned (.bool (rowIs n r)) ∧ Below w.heap.size w w') := by
  have H0_r := H_r
  obtain ⟨r_v1, r_b1, rfl, rfl, hf_r, r_r1⟩ := H_r
  obtain ⟨A_r1, c_r1, rfl, hlc_r1, hcm_r1, hel_r1⟩ := r_r1.use
  have hbx := ((Below.refl w.heap.size w).alloc (Nat.le_refl _) (.cells #[.int .i64 r.id, .slice A_r1 r.cells.length c_r1] 71))
  have q_r := blk_cells (blk_new w #[.int .i64 r.id, .slice A_r1 r.cells.length c_r1] 71)
  clear hel_r1
  cases hn : ((r.cells.length : Int) == n)
  · go_enter Try.func113, Try.ntmps113
    go_wp2_with fail
    go_ret
    exact ⟨ret_bool (by unfold rowIs; rw [hn]; rfl), hbx⟩
  go_enter Try.func113, Try.ntmps113
  go_wp2_with fail
  refine (slices_ContainsFuncAtomSS (AtomSSR.good.nxt hbx r_r1) (fun d => !datumOK d) 155 #[] (enters_of Try.func155 (by kernel_rfl) rfl) (fun k hk bk es hR W hW => clo_isRowOf (AtomSR.good.nxt hW hR))).mono ?_; rw [any_not]; rintro e w1 ⟨rfl, hb1⟩; replace q_r := box_on q_r rfl hb1; have hw1 := nxt hbx hb1
  go_wp2_with fail
  go_ret
  exact ⟨ret_bool (by unfold rowIs; rw [hn]; rfl), hw1⟩
theorem clo_Result2 {w : World} {b : Nat} {cs : List Value} {r : Row} {bs : List Nat} {A : Option Addr} {n c : Nat} (hr : RowR w bs cs r) (q : w.cell? ⟨b, 3, none⟩ = some (.slice A n c)) :
    Calls Try.prog 112 #[.agg cs.toArray, .pointer (some ⟨b, 0, none⟩)] w fun e w' => e = .returned (.bool (!rowIs n r)) ∧ Below w.heap.size w w' := by
  have hr0 := hr
  obtain ⟨v1, b1, rfl, rfl, hf, r1⟩ := hr
  obtain ⟨A1, c1, rfl, _, _, _⟩ := r1.use
  have hbx := (Below.refl w.heap.size w).alloc (Nat.le_refl _) (.cells #[.int .i64 r.id, .slice A1 r.cells.length c1] 71)
  have q1 := (hbx.cell (p := ⟨b, 3, none⟩) (World.block_lt_of_cell? w _ q)).trans q
  go_enter Try.func112, Try.ntmps112
  go_wp2_with fail
  refine (impl_isRowOf (RowR.good.nxt hbx hr0) n).mono ?_; rintro e w1 ⟨rfl, hb1⟩
  go_wp2_with fail
  go_ret
  exact ⟨rfl, nxt hbx hb1⟩
set_option maxHeartbeats 4000000 in
theorem impl_ResultOK {w : World}  {bs_r : List Nat} {cs_r : List Value} {r : Result} (H_r : ResultR w bs_r cs_r r)  :
    Calls Try.prog 50 #[.agg cs_r.toArray] w (fun e w' => e = .returned (.bool (resOK r)) ∧ Below w.heap.size w w') := by
  have H0_r := H_r
  obtain ⟨r_v3, r_b3, r_v4, r_b4, rfl, rfl, hf_r, r_r3, r_r4⟩ := H_r
  obtain ⟨A_r3, c_r3, rfl, hlc_r3, hcm_r3, hel_r3⟩ := r_r3.use
  obtain ⟨A_r4, c_r4, rfl, hlc_r4, hcm_r4, hel_r4⟩ := r_r4.use
  have hbx := ((Below.refl w.heap.size w).alloc (Nat.le_refl _) (.cells #[.int .i64 r.code, .int .i64 r.count, .int .i64 r.id, .slice A_r3 r.columns.length c_r3, .slice A_r4 r.rows.length c_r4] 88))
  have q_r := blk_cells (blk_new w #[.int .i64 r.code, .int .i64 r.count, .int .i64 r.id, .slice A_r3 r.columns.length c_r3, .slice A_r4 r.rows.length c_r4] 88)
  clear hel_r3 hel_r4
  by_cases hc : ¬ r.code = 0
  · have hc0 : (r.code != 0) = true := by simp [hc]
    have HC := hide hc
    clear hc
    go_enter Try.func50, Try.ntmps50
    go_wp2_with fail
    refine (impl_within _ _ _ _).mono ?_; rintro e w1 ⟨rfl, rfl⟩
    cases h1 : inB r.code 1 19
    · go_wp2
      go_ret
      exact ⟨ret_bool (by unfold resOK; rw [if_neg HC.out, h1]; rfl), hbx⟩
    have H1 := hide h1; clear h1
    cases e0 : (r.count == 0)
    · go_wp2_with fail
      go_ret
      exact ⟨ret_bool (by unfold resOK resNil; rw [if_neg HC.out, H1.out, e0]; rfl), hbx⟩
    cases e1 : (r.id == 0)
    · go_wp2_with fail
      go_ret
      exact ⟨ret_bool (by unfold resOK resNil; rw [if_neg HC.out, H1.out, e0, e1]; rfl), hbx⟩
    cases e2 : ((r.columns.length : Int) == 0)
    · go_wp2_with fail
      go_ret
      exact ⟨ret_bool (by unfold resOK resNil; rw [if_neg HC.out, H1.out, e0, e1, e2]; rfl), hbx⟩
    cases e3 : ((r.rows.length : Int) == 0)
    · go_wp2_with fail
      go_ret
      exact ⟨ret_bool (by unfold resOK resNil; rw [if_neg HC.out, H1.out, e0, e1, e2, e3]; rfl), hbx⟩
    go_wp2_with fail
    go_ret
    exact ⟨ret_bool (by unfold resOK resNil; rw [if_neg HC.out, H1.out, e0, e1, e2, e3]; rfl), hbx⟩
  have hc := Decidable.not_not.1 hc
  have hc0 : (r.code != 0) = false := by simp [hc]
  have HC := hide hc
  clear hc
  go_enter Try.func50, Try.ntmps50
  go_wp2_with fail
  refine (impl_within _ _ _ _).mono ?_; rintro e w2 ⟨rfl, rfl⟩
  cases h1 : inB r.count 0 1000
  · go_wp2_with fail
    go_ret
    exact ⟨ret_bool (by unfold resOK resIn; rw [if_pos HC.out, h1]; rfl), hbx⟩
  go_wp2_with fail
  refine (impl_within _ _ _ _).mono ?_; rintro e w3 ⟨rfl, rfl⟩
  cases h2 : inB r.id 0 1000000
  · go_wp2_with fail
    go_ret
    exact ⟨ret_bool (by unfold resOK resIn; rw [if_pos HC.out, h1, h2]; rfl), hbx⟩
  have H1 := hide h1; have H2 := hide h2; clear h1 h2
  by_cases h3 : 7 < r.columns.length
  · go_wp2_with fail
    go_ret
    exact ⟨ret_bool (by unfold resOK resIn; rw [if_pos HC.out, H1.out, H2.out, decide_eq_false (by omega)]; rfl), hbx⟩
  by_cases h4 : 12 < r.rows.length
  · go_wp2_with fail
    go_ret
    exact ⟨ret_bool (by unfold resOK resIn; rw [if_pos HC.out, H1.out, H2.out, decide_eq_true (show (r.columns.length : Int) ≤ 7 by omega), decide_eq_false (show ¬ (r.rows.length : Int) ≤ 12 by omega)]; rfl), hbx⟩
  have H3 := hide (decide_eq_true (show (r.columns.length : Int) ≤ 7 by omega))
  have H4 := hide (decide_eq_true (show (r.rows.length : Int) ≤ 12 by omega))
  go_wp2_with fail
  refine (slices_ContainsFuncStringS (StringSR.good.nxt hbx r_r3) (fun s => !nameOK s) 109 #[] (enters_of Try.func109 (by kernel_rfl) rfl) (fun k hk bk es hR W hW => by obtain ⟨_, hes, hs⟩ := hR; injection hes with hes _; subst hes; exact clo_Result1 _ hs)).mono ?_; rw [any_not]; rintro e w4 ⟨rfl, hb4⟩; replace q_r := box_on q_r rfl hb4; have hw4 := nxt hbx hb4
  cases h5 : r.columns.all nameOK
  · go_wp2_with fail
    go_ret
    exact ⟨ret_bool (by unfold resOK resIn; rw [if_pos HC.out, H1.out, H2.out, H3.out, H4.out, h5]; rfl), hw4⟩
  have H5 := hide h5; clear h5
  go_wp2_with fail
  refine (slices_ContainsFuncRowS (RowSR.good.nxt hw4 r_r4) (fun x => !rowIs r.columns.length x) 112 #[.pointer (some ⟨w.heap.size, 0, none⟩)] (enters_of Try.func112 (by kernel_rfl) rfl) (fun k hk bk es hR W hW => clo_Result2 (RowR.good.nxt hW hR) (box_cell (box_on q_r rfl hW) 3 rfl))).mono ?_; rw [any_not]; rintro e w5 ⟨rfl, hb5⟩; replace q_r := box_on q_r rfl hb5; have hw5 := nxt hw4 hb5
  go_wp2_with fail
  go_ret
  exact ⟨ret_bool (by unfold resOK resIn; rw [if_pos HC.out, H1.out, H2.out, H3.out, H4.out, H5.out]; rfl), hw5⟩
set_option maxHeartbeats 8000000 in
theorem spec_ResultOK {w : World}  {bs_r : List Nat} {cs_r : List Value} {r : Result} (H_r : ResultR w bs_r cs_r r)  :
    Calls Try.prog 48 #[.agg cs_r.toArray] w (fun e w' => e = .returned (.bool (resOK r)) ∧ Below w.heap.size w w') := by
  have H0_r := H_r
  obtain ⟨r_v3, r_b3, r_v4, r_b4, rfl, rfl, hf_r, r_r3, r_r4⟩ := H_r
  obtain ⟨A_r3, c_r3, rfl, hlc_r3, hcm_r3, hel_r3⟩ := r_r3.use
  obtain ⟨A_r4, c_r4, rfl, hlc_r4, hcm_r4, hel_r4⟩ := r_r4.use
  have hbx := ((Below.refl w.heap.size w).alloc (Nat.le_refl _) (.cells #[.int .i64 r.code, .int .i64 r.count, .int .i64 r.id, .slice A_r3 r.columns.length c_r3, .slice A_r4 r.rows.length c_r4] 88))
  have q_r := blk_cells (blk_new w #[.int .i64 r.code, .int .i64 r.count, .int .i64 r.id, .slice A_r3 r.columns.length c_r3, .slice A_r4 r.rows.length c_r4] 88)
  rw [← resOKs_eq]
  go_enter Try.func48, Try.ntmps48
  go_wp2_with fail
  refine (spec_l01In _ _ _ _).mono ?_; rintro e w1 ⟨rfl, rfl⟩
  cases h0 : inB r.code 0 19
  · go_wp2_with fail
    go_ret
    exact ⟨ret_bool (by unfold resOKs; rw [h0]; rfl), hbx⟩
  have H0 := hide h0; clear h0
  go_wp2_with fail
  refine (spec_l01In _ _ _ _).mono ?_; rintro e w2 ⟨rfl, rfl⟩
  cases h1 : inB r.count 0 1000
  · go_wp2_with fail
    go_ret
    exact ⟨ret_bool (by unfold resOKs resIn; rw [H0.out, h1]; rfl), hbx⟩
  have H1 := hide h1; clear h1
  go_wp2_with fail
  refine (spec_l01In _ _ _ _).mono ?_; rintro e w3 ⟨rfl, rfl⟩
  cases h2 : inB r.id 0 1000000
  · go_wp2_with fail
    go_ret
    exact ⟨ret_bool (by unfold resOKs resIn; rw [H0.out, H1.out, h2]; rfl), hbx⟩
  have H2 := hide h2; clear h2
  by_cases h4 : 12 < r.rows.length
  · have hf : Hid (resIn r = false) := by show _ = _; unfold resIn; rw [H1.out, H2.out, decide_eq_false (show ¬ (r.rows.length : Int) ≤ 12 by omega)]; simp
    go_wp2_with fail
    go_ret
    exact ⟨ret_bool (by unfold resOKs; rw [hf.out, H0.out]; rfl), hbx⟩
  by_cases h3 : 7 < r.columns.length
  · go_wp2_with fail
    go_ret
    exact ⟨ret_bool (by unfold resOKs resIn; rw [H0.out, H1.out, H2.out, decide_eq_false (show ¬ (r.columns.length : Int) ≤ 7 by omega)]; rfl), hbx⟩
  have HIN : Hid (resIn r = (r.columns.all nameOK && r.rows.all (rowIs r.columns.length))) := by show _ = _; unfold resIn; rw [H1.out, H2.out, decide_eq_true (show (r.columns.length : Int) ≤ 7 by omega), decide_eq_true (show (r.rows.length : Int) ≤ 12 by omega)]; rfl
  go_wp2_with fail
  clear H1 H2
  go_loopw [3] (fun i wr => ∃ k : Nat, k ≤ r.columns.length ∧ i = .int .i64 k ∧ Hid (∀ j (hj : j < r.columns.length), j < k → nameOK r.columns[j] = true) ∧ Below (World.heap ((w.alloc (.cells #[.int .i64 r.code, .int .i64 r.count, .int .i64 r.id, .slice A_r3 r.columns.length c_r3, .slice A_r4 r.rows.length c_r4] 88)))).size ((w.alloc (.cells #[.int .i64 r.code, .int .i64 r.count, .int .i64 r.id, .slice A_r3 r.columns.length c_r3, .slice A_r4 r.rows.length c_r4] 88))) wr) (fun i _ => r.columns.length - (intOf i).toNat)
  case atStart => exact ⟨0, Nat.zero_le _, rfl, all_zero, Below.refl _ _⟩
  case round =>
    obtain ⟨k1, hk1, rfl, hn1_, hb1001⟩ := hrel
    obtain ⟨wl1, rfl⟩ : ∃ w' : World, w' = wr := ⟨_, rfl⟩
    replace q_r := box_on q_r rfl hb1001
    have hwl1 := nxt hbx hb1001
    by_cases hlt1 : k1 < r.columns.length
    · obtain ⟨gb, go, gbk, ges, rfl, ghbl, ghcl, ghcell, gR, ghbk⟩ := hel_r3 k1 hlt1
      obtain ⟨_, ghes, gsz⟩ := gR; subst ghes
      have g_0 := (hwl1.cell (p := ⟨gb, _, none⟩) ghbl).trans (ghcell 0 _ rfl)
      simp only [Nat.add_zero, Nat.mul_one] at g_0
      clear ghcell ghcl
      go_wp2_with fail
      refine (spec_NameOK _ _ gsz).mono ?_; rintro e w4 ⟨rfl, rfl⟩
      cases h5 : nameOK r.columns[k1]
      · go_wp2_with fail
        go_ret
        exact ⟨ret_bool (by unfold resOKs; rw [HIN.out, all_false hlt1 h5, H0.out]; rfl), hwl1⟩
      have hn2 := hide (all_step hlt1 hn1_.out h5); clear h5
      go_wp2_with fail
      go_roundw
      case rel => exact ⟨k1 + 1, hlt1, by go_num, hn2, hb1001⟩
      case measure => simp [intOf]; omega
    · obtain rfl : k1 = r.columns.length := by omega
      have H5 := hide (all_true hn1_.out)
      go_wp2_with fail
      go_loopw [4] (fun i wr => ∃ k : Nat, k ≤ r.rows.length ∧ i = .int .i64 k ∧ Hid (∀ j (hj : j < r.rows.length), j < k → rowIs r.columns.length r.rows[j] = true) ∧ Below (World.heap (wl1)).size (wl1) wr) (fun i _ => r.rows.length - (intOf i).toNat)
      case atStart => exact ⟨0, Nat.zero_le _, rfl, all_zero, Below.refl _ _⟩
      case round =>
        obtain ⟨k2, hk2, rfl, hn2_, hb1002⟩ := hrel
        obtain ⟨wl2, rfl⟩ : ∃ w' : World, w' = wr := ⟨_, rfl⟩
        replace q_r := box_on q_r rfl hb1002
        have hwl2 := nxt hwl1 hb1002
        by_cases hlt2 : k2 < r.rows.length
        · obtain ⟨gb, go, gbk, ges, rfl, ghbl, ghcl, ghcell, gR, ghbk⟩ := hel_r4 k2 hlt2
          have gR0 := gR
          obtain ⟨gv1, gb1, _, ghes, ghf, gr1⟩ := gR
          subst ghes
          obtain ⟨gA1, gc1, rfl, ghlc1, ghcm1, ghel1⟩ := gr1.use
          have g_0 := Fw.cell ((hwl2.cell (p := ⟨gb, _, none⟩) ghbl).trans (ghcell 0 _ rfl))
          have g_1 := Fw.cell ((hwl2.cell (p := ⟨gb, _, none⟩) ghbl).trans (ghcell 1 _ rfl))
          simp only [Nat.add_zero] at g_0 g_1
          go_wp2_with fail
          have q_rF0 := Fw.cell (box_cell q_r 0 rfl)
          have q_rF1 := Fw.cell (box_cell q_r 1 rfl)
          have q_rF2 := Fw.cell (box_cell q_r 2 rfl)
          have q_rF3 := Fw.cell (box_cell q_r 3 rfl)
          have q_rF4 := Fw.cell (box_cell q_r 4 rfl)
          refine region_quiet (by kernel_rfl) (by kernel_rfl) ?_
          repeat (go_big_quiet_step (fail))
          refine wpQuiet_nil ?_; intro w5 hb5; replace q_r := box_on q_r rfl hb5; have hw5 := nxt hwl2 hb5; have hl0_5 := nxt hb1002 hb5; clear q_rF0 q_rF1 q_rF2 q_rF3 q_rF4 g_0 g_1
          have hd6 : ((r.rows[k2].cells.length : Int) != (r.columns.length : Int)) = !((r.rows[k2].cells.length : Int) == (r.columns.length : Int)) := rfl
          cases h6 : ((r.rows[k2].cells.length : Int) != (r.columns.length : Int))
          · rw [h6] at hd6; have HD := hide hd6; clear hd6 h6
            go_wp2_with fail
            go_loopw [5] (fun i wr => ∃ k : Nat, k ≤ r.rows[k2].cells.length ∧ i = .int .i64 k ∧ Hid (∀ j (hj : j < r.rows[k2].cells.length), j < k → datumOK r.rows[k2].cells[j] = true) ∧ Below (World.heap (w5)).size (w5) wr) (fun i _ => r.rows[k2].cells.length - (intOf i).toNat)
            case atStart => exact ⟨0, Nat.zero_le _, rfl, all_zero, Below.refl _ _⟩
            case round =>
              obtain ⟨k3, hk3, rfl, hn3_, hb1003⟩ := hrel
              obtain ⟨wl3, rfl⟩ : ∃ w' : World, w' = wr := ⟨_, rfl⟩
              replace q_r := box_on q_r rfl hb1003
              have hwl3 := nxt hw5 hb1003
              have hl0_1003 := nxt hl0_5 hb1003
              by_cases hlt3 : k3 < r.rows[k2].cells.length
              · have g_0 := (hwl3.cell (p := ⟨gb, _, none⟩) ghbl).trans (ghcell 0 _ rfl)
                have g_1 := (hwl3.cell (p := ⟨gb, _, none⟩) ghbl).trans (ghcell 1 _ rfl)
                simp only [Nat.add_zero] at g_0 g_1
                obtain ⟨eb, eo, ebk, ees, rfl, ehbl, ehcl, ehcell, eR, ehbk⟩ := ghel1 k3 hlt3
                obtain ⟨eA, ec, ehlc, rfl⟩ : ∃ A0 c0, r.rows[k2].cells[k3].length ≤ c0 ∧ ees = [.slice A0 r.rows[k2].cells[k3].length c0] := by obtain ⟨A0, c0, h, h2, _⟩ := eR; exact ⟨A0, c0, h2, h⟩
                have e_0 := (hwl3.cell (p := ⟨eb, _, none⟩) ehbl).trans (ehcell 0 _ rfl)
                simp only [Nat.add_zero, Nat.mul_one] at e_0
                clear ehcell ehcl
                go_wp2_with fail
                refine (spec_DatumOK hwl3 eR).mono ?_; rintro e w6 ⟨rfl, hb6⟩; replace q_r := box_on q_r rfl hb6; have hw6 := nxt hwl3 hb6; have hl0_6 := nxt hl0_1003 hb6; have hl1_6 := nxt hb1003 hb6
                cases h7 : datumOK r.rows[k2].cells[k3]
                · go_wp2_with fail
                  go_ret
                  exact ⟨ret_bool (by unfold resOKs; rw [HIN.out, H5.out, all_false hlt2 (by unfold rowIs; rw [all_false hlt3 h7, Bool.and_false]), H0.out]; rfl), hw6⟩
                have hn3 := hide (all_step hlt3 hn3_.out h7); clear h7
                go_wp2_with fail
                go_roundw
                case rel => exact ⟨k3 + 1, hlt3, by go_num, hn3, hl1_6⟩
                case measure => simp [intOf]; omega
              · obtain rfl : k3 = r.rows[k2].cells.length := by omega
                have g_0 := (hwl3.cell (p := ⟨gb, _, none⟩) ghbl).trans (ghcell 0 _ rfl)
                have g_1 := (hwl3.cell (p := ⟨gb, _, none⟩) ghbl).trans (ghcell 1 _ rfl)
                simp only [Nat.add_zero] at g_0 g_1
                have hn4 := hide (all_step (p := rowIs r.columns.length) hlt2 hn2_.out (by unfold rowIs; rw [all_true hn3_.out, show ((r.rows[k2].cells.length : Int) == (r.columns.length : Int)) = true by have := HD.out; simpa using this]; rfl))
                go_wp2_with fail
                go_roundw
                case rel => exact ⟨k2 + 1, hlt2, by go_num, hn4, hl0_1003⟩
                case measure => simp [intOf]; omega
          · go_wp2_with fail
            go_ret
            exact ⟨ret_bool (by unfold resOKs; rw [HIN.out, H5.out, all_false hlt2 (by unfold rowIs; rw [show ((r.rows[k2].cells.length : Int) == (r.columns.length : Int)) = false by unfold bne at h6; simpa using h6]; rfl), H0.out]; rfl), hw5⟩
        · obtain rfl : k2 = r.rows.length := by omega
          have H6 := hide (all_true hn2_.out)
          cases hc : (r.code == 0)
          · have hc2 : decide (r.code = 0) = false := by simpa using hc
            have HC := hide hc2; clear hc2
            cases e0 : (r.count == 0)
            · go_wp2_with fail
              go_ret
              exact ⟨ret_bool (by unfold resOKs; rw [HIN.out, H5.out, H6.out, H0.out]; unfold resNil; rw [HC.out, e0]; simp), hwl2⟩
            cases e1 : (r.id == 0)
            · go_wp2_with fail
              go_ret
              exact ⟨ret_bool (by unfold resOKs; rw [HIN.out, H5.out, H6.out, H0.out]; unfold resNil; rw [HC.out, e0, e1]; simp), hwl2⟩
            cases e2 : ((r.rows.length : Int) == 0)
            · go_wp2_with fail
              go_ret
              exact ⟨ret_bool (by unfold resOKs; rw [HIN.out, H5.out, H6.out, H0.out]; unfold resNil; rw [HC.out, e0, e1, e2]; simp), hwl2⟩
            cases e3 : ((r.columns.length : Int) == 0)
            · go_wp2_with fail
              go_ret
              exact ⟨ret_bool (by unfold resOKs; rw [HIN.out, H5.out, H6.out, H0.out]; unfold resNil; rw [HC.out, e0, e1, e2, e3]; simp), hwl2⟩
            go_wp2_with fail
            go_ret
            exact ⟨ret_bool (by unfold resOKs; rw [HIN.out, H5.out, H6.out, H0.out]; unfold resNil; rw [HC.out, e0, e1, e2, e3]; simp), hwl2⟩
          · have hc2 : decide (r.code = 0) = true := by simpa using hc
            have HC := hide hc2; clear hc2
            go_wp2_with fail
            go_ret
            exact ⟨ret_bool (by unfold resOKs; rw [HIN.out, H5.out, H6.out, H0.out]; rw [HC.out]; rfl), hwl2⟩
end Go.Proofs.Ytpbaeloiefpgbaa
