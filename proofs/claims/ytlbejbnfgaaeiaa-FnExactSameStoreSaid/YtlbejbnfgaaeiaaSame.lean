/- Equality of rows of data, in the program and in the reference. No statement is proved here; no conditions. Written by a program (gen16.py). -/
import Derived.Test.YtlbejbnfgaaeiaaHas
import Derived.Test.YtlbejbnfgaaeiaaFunc
import Derived.Test.YtlbejbnfgaaeiaaBox
import Derived.Shelf.Abstract
namespace Go.Proofs.Ytlbejbnfgaaeiaa
open Go.ChangeShapes Go.WideShapes Go.ChangeAt Go.RowKit Go.Deep
set_option maxRecDepth 100000
set_option linter.unusedVariables false
set_option linter.unusedSimpArgs false

theorem neq_atom (a b : Atom) (W : World) : (binOp .neq 119 (.agg #[.int .i64 a.kind, .int .i64 a.n, .string a.t]) (.agg #[.int .i64 b.kind, .int .i64 b.n, .string b.t])).run Try.prog W = .ok (.bool (!decide (a = b))) W := by
  rw [run_neq_struct, run_equalIn_struct W 9999 _ _ _ atom_under atom_stood, atom_fields]
  obtain ⟨k1, n1, t1⟩ := a
  obtain ⟨k2, n2, t2⟩ := b
  by_cases h1 : k1 = k2
  · by_cases h2 : n1 = n2
    · by_cases h3 : t1.toList = t2.toList
      · have h4 : t1 = t2 := eqS_iff.1 (by unfold eqS; simp [h3])
        simp [go_sem, h1, h2, h4]
      · have h4 : t1 ≠ t2 := fun h => h3 (by rw [h])
        simp [go_sem, h1, h2, h3, h4]
    · simp [go_sem, h1, h2]
  · simp [go_sem, h1]
section
variable {α : Type} {xs ys : List α}
theorem same_zero : ∀ j (hj : j < xs.length) (hj2 : j < ys.length), j < 0 → xs[j] = ys[j] := fun _ _ _ h => absurd h (Nat.not_lt_zero _)
theorem same_step {k : Nat} (h : ∀ j (hj : j < xs.length) (hj2 : j < ys.length), j < k → xs[j] = ys[j]) (hk : k < xs.length) (hk2 : k < ys.length) (he : xs[k] = ys[k]) : ∀ j (hj : j < xs.length) (hj2 : j < ys.length), j < k + 1 → xs[j] = ys[j] := by
  intro j hj hj2 hjk
  by_cases hjk' : j = k
  · subst hjk'; exact he
  · exact h j hj hj2 (by omega)
end
section
variable {α : Type} [DecidableEq α] {xs ys : List α}
theorem same_all (hl : xs.length = ys.length) (h : ∀ j (hj : j < xs.length) (hj2 : j < ys.length), j < xs.length → xs[j] = ys[j]) : decide (xs = ys) = true := by
  simp only [decide_eq_true_eq]; exact List.ext_getElem hl fun j h1 h2 => h j h1 h2 h1
theorem same_not {k : Nat} (hk : k < xs.length) (hk2 : k < ys.length) (h : decide (xs[k] = ys[k]) = false) : decide (xs = ys) = false := by
  simp only [decide_eq_false_iff_not] at h ⊢; intro he; subst he; exact h rfl
theorem same_len (hl : ¬ xs.length = ys.length) : decide (xs = ys) = false := by
  simp only [decide_eq_false_iff_not]; intro he; subst he; exact hl rfl
end
set_option maxHeartbeats 2000000 in
theorem slices_EqualA {w : World}  {bs_x : List Nat} {v_x : Value} {x : List Atom} (H_x : AtomSR w bs_x [v_x] x) {bs_y : List Nat} {v_y : Value} {y : List Atom} (H_y : AtomSR w bs_y [v_y] y)  :
    Calls Try.prog 117 #[v_x, v_y] w (fun e w' => e = .returned (.bool (decide (x = y))) ∧ Below w.heap.size w w') := by
  have H0_x := H_x
  obtain ⟨A_x, c_x, rfl, hlc_x, hcm_x, hel_x⟩ := H_x.use
  have H0_y := H_y
  obtain ⟨A_y, c_y, rfl, hlc_y, hcm_y, hel_y⟩ := H_y.use
  by_cases hl : ¬ x.length = y.length
  · have hne : ((x.length : Int) != (y.length : Int)) = true := by simp; omega
    clear hel_x hel_y
    go_enter Try.func117, Try.ntmps117
    go_wp2
    go_ret
    exact ⟨ret_bool (by rw [same_len hl]), (Below.refl w.heap.size w)⟩
  have hl := Decidable.not_not.1 hl
  have hne : ((x.length : Int) != (y.length : Int)) = false := by simp; omega
  have HL := hide hl; clear hl
  go_enter Try.func117, Try.ntmps117
  go_wp2_with fail
  clear hne
  go_loopw [13] (fun i wr => ∃ k : Nat, k ≤ x.length ∧ i = .int .i64 k ∧ Hid (∀ j (hj : j < x.length) (hj2 : j < y.length), j < k → x[j] = y[j]) ∧ Below (World.heap (w)).size (w) wr) (fun i _ => x.length - (intOf i).toNat)
  case atStart => exact ⟨0, Nat.zero_le _, rfl, same_zero, Below.refl _ _⟩
  case round =>
    obtain ⟨k1, hk1, rfl, hn1_, hb1001⟩ := hrel
    obtain ⟨wl1, rfl⟩ : ∃ w' : World, w' = wr := ⟨_, rfl⟩
    have hwl1 := nxt (Below.refl w.heap.size w) hb1001
    by_cases hlt1 : k1 < x.length
    · have hk2 : k1 < y.length := by have := HL.out; omega
      obtain ⟨pb, po, pbk, pes, rfl, phbl, phcl, phcell, pR, phbk⟩ := hel_x k1 hlt1
      obtain ⟨_, phes, phf⟩ := pR
      subst phes
      have p_0 := Fw.cell ((hwl1.cell (p := ⟨pb, _, none⟩) phbl).trans (phcell 0 _ rfl))
      have p_1 := Fw.cell ((hwl1.cell (p := ⟨pb, _, none⟩) phbl).trans (phcell 1 _ rfl))
      have p_2 := Fw.cell ((hwl1.cell (p := ⟨pb, _, none⟩) phbl).trans (phcell 2 _ rfl))
      simp only [Nat.add_zero] at p_0 p_1 p_2
      clear phcell phcl
      obtain ⟨qb, qo, qbk, qes, rfl, qhbl, qhcl, qhcell, qR, qhbk⟩ := hel_y k1 hk2
      obtain ⟨_, qhes, qhf⟩ := qR
      subst qhes
      have q_0 := Fw.cell ((hwl1.cell (p := ⟨qb, _, none⟩) qhbl).trans (qhcell 0 _ rfl))
      have q_1 := Fw.cell ((hwl1.cell (p := ⟨qb, _, none⟩) qhbl).trans (qhcell 1 _ rfl))
      have q_2 := Fw.cell ((hwl1.cell (p := ⟨qb, _, none⟩) qhbl).trans (qhcell 2 _ rfl))
      simp only [Nat.add_zero] at q_0 q_1 q_2
      clear qhcell qhcl
      clear hel_x hel_y
      have he := neq_atom x[k1] y[k1]
      have hg := grd_atom .neq
      go_wp2_with fail
      refine region_quiet (by kernel_rfl) (by kernel_rfl) ?_
      repeat (go_big_quiet_step (fail))
      refine wpQuiet_nil ?_; intro w1 hb1; have hw1 := nxt hwl1 hb1; have hl0_1 := nxt hb1001 hb1; clear p_0 p_1 p_2 q_0 q_1 q_2 he hg
      cases hd : decide (x[k1] = y[k1])
      · go_wp2_with fail
        go_ret
        exact ⟨ret_bool (by rw [same_not hlt1 hk2 hd]), hw1⟩
      have hn2 := hide (same_step hn1_.out hlt1 hk2 (of_decide_eq_true hd)); clear hd
      go_wp2_with fail
      go_roundw
      case rel => exact ⟨k1 + 1, hlt1, by go_num, hn2, hl0_1⟩
      case measure => simp [intOf]; omega
    · obtain rfl : k1 = x.length := by omega
      have hr := hide (same_all HL.out hn1_.out)
      go_wp2
      go_ret
      exact ⟨ret_bool (by rw [hr.out]), hwl1⟩
set_option maxHeartbeats 2000000 in
theorem spec_l03Same {w : World}  {bs_x : List Nat} {v_x : Value} {x : List Atom} (H_x : AtomSR w bs_x [v_x] x) {bs_y : List Nat} {v_y : Value} {y : List Atom} (H_y : AtomSR w bs_y [v_y] y)  :
    Calls Try.prog 79 #[v_x, v_y] w (fun e w' => e = .returned (.bool (decide (x = y))) ∧ Below w.heap.size w w') := by
  have H0_x := H_x
  obtain ⟨A_x, c_x, rfl, hlc_x, hcm_x, hel_x⟩ := H_x.use
  have H0_y := H_y
  obtain ⟨A_y, c_y, rfl, hlc_y, hcm_y, hel_y⟩ := H_y.use
  by_cases hl : ¬ x.length = y.length
  · have hne : ((x.length : Int) != (y.length : Int)) = true := by simp; omega
    clear hel_x hel_y
    go_enter Try.func79, Try.ntmps79
    go_wp2
    go_ret
    exact ⟨ret_bool (by rw [same_len hl]), (Below.refl w.heap.size w)⟩
  have hl := Decidable.not_not.1 hl
  have hne : ((x.length : Int) != (y.length : Int)) = false := by simp; omega
  have HL := hide hl; clear hl
  go_enter Try.func79, Try.ntmps79
  go_wp2_with fail
  clear hne
  go_loopw [5] (fun i wr => ∃ k : Nat, k ≤ x.length ∧ i = .int .i64 k ∧ Hid (∀ j (hj : j < x.length) (hj2 : j < y.length), j < k → x[j] = y[j]) ∧ Below (World.heap (w)).size (w) wr) (fun i _ => x.length - (intOf i).toNat)
  case atStart => exact ⟨0, Nat.zero_le _, rfl, same_zero, Below.refl _ _⟩
  case round =>
    obtain ⟨k1, hk1, rfl, hn1_, hb1001⟩ := hrel
    obtain ⟨wl1, rfl⟩ : ∃ w' : World, w' = wr := ⟨_, rfl⟩
    have hwl1 := nxt (Below.refl w.heap.size w) hb1001
    by_cases hlt1 : k1 < x.length
    · have hk2 : k1 < y.length := by have := HL.out; omega
      obtain ⟨pb, po, pbk, pes, rfl, phbl, phcl, phcell, pR, phbk⟩ := hel_x k1 hlt1
      obtain ⟨_, phes, phf⟩ := pR
      subst phes
      have p_0 := Fw.cell ((hwl1.cell (p := ⟨pb, _, none⟩) phbl).trans (phcell 0 _ rfl))
      have p_1 := Fw.cell ((hwl1.cell (p := ⟨pb, _, none⟩) phbl).trans (phcell 1 _ rfl))
      have p_2 := Fw.cell ((hwl1.cell (p := ⟨pb, _, none⟩) phbl).trans (phcell 2 _ rfl))
      simp only [Nat.add_zero] at p_0 p_1 p_2
      clear phcell phcl
      obtain ⟨qb, qo, qbk, qes, rfl, qhbl, qhcl, qhcell, qR, qhbk⟩ := hel_y k1 hk2
      obtain ⟨_, qhes, qhf⟩ := qR
      subst qhes
      have q_0 := Fw.cell ((hwl1.cell (p := ⟨qb, _, none⟩) qhbl).trans (qhcell 0 _ rfl))
      have q_1 := Fw.cell ((hwl1.cell (p := ⟨qb, _, none⟩) qhbl).trans (qhcell 1 _ rfl))
      have q_2 := Fw.cell ((hwl1.cell (p := ⟨qb, _, none⟩) qhbl).trans (qhcell 2 _ rfl))
      simp only [Nat.add_zero] at q_0 q_1 q_2
      clear qhcell qhcl
      clear hel_x hel_y
      have he := neq_atom x[k1] y[k1]
      have hg := grd_atom .neq
      go_wp2_with fail
      refine region_quiet (by kernel_rfl) (by kernel_rfl) ?_
      repeat (go_big_quiet_step (fail))
      refine wpQuiet_nil ?_; intro w1 hb1; have hw1 := nxt hwl1 hb1; have hl0_1 := nxt hb1001 hb1; clear p_0 p_1 p_2 q_0 q_1 q_2 he hg
      cases hd : decide (x[k1] = y[k1])
      · go_wp2_with fail
        go_ret
        exact ⟨ret_bool (by rw [same_not hlt1 hk2 hd]), hw1⟩
      have hn2 := hide (same_step hn1_.out hlt1 hk2 (of_decide_eq_true hd)); clear hd
      go_wp2_with fail
      go_roundw
      case rel => exact ⟨k1 + 1, hlt1, by go_num, hn2, hl0_1⟩
      case measure => simp [intOf]; omega
    · obtain rfl : k1 = x.length := by omega
      have hr := hide (same_all HL.out hn1_.out)
      go_wp2
      go_ret
      exact ⟨ret_bool (by rw [hr.out]), hwl1⟩
set_option maxHeartbeats 2000000 in
theorem slices_EqualFuncAtomSS {w : World}  {bs_x : List Nat} {v_x : Value} {x : List (List Atom)} (H_x : AtomSSR w bs_x [v_x] x) {bs_y : List Nat} {v_y : Value} {y : List (List Atom)} (H_y : AtomSSR w bs_y [v_y] y) (g : Nat) (eg : ∀ args w, (callFunc g args).run Try.prog w = .ok (.enter g args) w) (hp : ∀ (W : World) (a b : List Atom) (b1 b2 : List Nat) (ux uy : Value), Below w.heap.size w W → AtomSR W b1 [ux] a → AtomSR W b2 [uy] b → Calls Try.prog g #[ux, uy] W fun e w' => e = .returned (.bool (decide (a = b))) ∧ Below W.heap.size W w') :
    Calls Try.prog 122 #[v_x, v_y, .func (.func g) #[] #[]] w (fun e w' => e = .returned (.bool (decide (x = y))) ∧ Below w.heap.size w w') := by
  have H0_x := H_x
  obtain ⟨A_x, c_x, rfl, hlc_x, hcm_x, hel_x⟩ := H_x.use
  have H0_y := H_y
  obtain ⟨A_y, c_y, rfl, hlc_y, hcm_y, hel_y⟩ := H_y.use
  by_cases hl : ¬ x.length = y.length
  · have hne : ((x.length : Int) != (y.length : Int)) = true := by simp; omega
    clear hel_x hel_y
    go_enter Try.func122, Try.ntmps122
    go_wp2
    go_ret
    exact ⟨ret_bool (by rw [same_len hl]), (Below.refl w.heap.size w)⟩
  have hl := Decidable.not_not.1 hl
  have hne : ((x.length : Int) != (y.length : Int)) = false := by simp; omega
  have HL := hide hl; clear hl
  go_enter Try.func122, Try.ntmps122
  go_wp2_with fail
  clear hne
  go_loopw [17] (fun i wr => ∃ k : Nat, k ≤ x.length ∧ i = .int .i64 k ∧ Hid (∀ j (hj : j < x.length) (hj2 : j < y.length), j < k → x[j] = y[j]) ∧ Below (World.heap (w)).size (w) wr) (fun i _ => x.length - (intOf i).toNat)
  case atStart => exact ⟨0, Nat.zero_le _, rfl, same_zero, Below.refl _ _⟩
  case round =>
    obtain ⟨k1, hk1, rfl, hn1_, hb1001⟩ := hrel
    obtain ⟨wl1, rfl⟩ : ∃ w' : World, w' = wr := ⟨_, rfl⟩
    have hwl1 := nxt (Below.refl w.heap.size w) hb1001
    by_cases hlt1 : k1 < x.length
    · have hk2 : k1 < y.length := by have := HL.out; omega
      obtain ⟨pb, po, pbk, pes, rfl, phbl, phcl, phcell, pR, phbk⟩ := hel_x k1 hlt1
      obtain ⟨pA, pc, phlc, rfl⟩ : ∃ A0 c0, x[k1].length ≤ c0 ∧ pes = [.slice A0 x[k1].length c0] := by obtain ⟨A0, c0, h, h2, _⟩ := pR; exact ⟨A0, c0, h2, h⟩
      have p_0 := (hwl1.cell (p := ⟨pb, _, none⟩) phbl).trans (phcell 0 _ rfl)
      simp only [Nat.add_zero, Nat.mul_one] at p_0
      clear phcell phcl
      obtain ⟨qb, qo, qbk, qes, rfl, qhbl, qhcl, qhcell, qR, qhbk⟩ := hel_y k1 hk2
      obtain ⟨qA, qc, qhlc, rfl⟩ : ∃ A0 c0, y[k1].length ≤ c0 ∧ qes = [.slice A0 y[k1].length c0] := by obtain ⟨A0, c0, h, h2, _⟩ := qR; exact ⟨A0, c0, h2, h⟩
      have q_0 := (hwl1.cell (p := ⟨qb, _, none⟩) qhbl).trans (qhcell 0 _ rfl)
      simp only [Nat.add_zero, Nat.mul_one] at q_0
      clear qhcell qhcl
      have hcall := hp wl1 x[k1] y[k1] _ _ _ _ hwl1 (AtomSR.good.nxt hwl1 pR) (AtomSR.good.nxt hwl1 qR)
      clear hel_x hel_y hp
      go_wp2_with fail
      go_at_fn g
      refine hcall.mono ?_; rintro e w9 ⟨rfl, hb9⟩
      have hw9 := nxt hwl1 hb9
      have hl9 := nxt hb1001 hb9
      cases hd : decide (x[k1] = y[k1])
      · go_wp2_with fail
        go_ret
        exact ⟨ret_bool (by rw [same_not hlt1 hk2 hd]), hw9⟩
      have hn2 := hide (same_step hn1_.out hlt1 hk2 (of_decide_eq_true hd)); clear hd
      go_wp2_with fail
      go_roundw
      case rel => exact ⟨k1 + 1, hlt1, by go_num, hn2, hl9⟩
      case measure => simp [intOf]; omega
    · obtain rfl : k1 = x.length := by omega
      have hr := hide (same_all HL.out hn1_.out)
      clear hp
      go_wp2
      go_ret
      exact ⟨ret_bool (by rw [hr.out]), hwl1⟩
set_option maxHeartbeats 2000000 in
theorem slices_EqualFuncRowS {w : World}  {bs_x : List Nat} {v_x : Value} {x : List Row} (H_x : RowSR w bs_x [v_x] x) {bs_y : List Nat} {v_y : Value} {y : List Row} (H_y : RowSR w bs_y [v_y] y) (g : Nat) (eg : ∀ args w, (callFunc g args).run Try.prog w = .ok (.enter g args) w) (hp : ∀ (W : World) (a b : Row) (b1 b2 : List Nat) (cx cy : List Value), Below w.heap.size w W → RowR W b1 cx a → RowR W b2 cy b → Calls Try.prog g #[.agg cx.toArray, .agg cy.toArray] W fun e w' => e = .returned (.bool (decide (a = b))) ∧ Below W.heap.size W w') :
    Calls Try.prog 81 #[v_x, v_y, .func (.func g) #[] #[]] w (fun e w' => e = .returned (.bool (decide (x = y))) ∧ Below w.heap.size w w') := by
  have H0_x := H_x
  obtain ⟨A_x, c_x, rfl, hlc_x, hcm_x, hel_x⟩ := H_x.use
  have H0_y := H_y
  obtain ⟨A_y, c_y, rfl, hlc_y, hcm_y, hel_y⟩ := H_y.use
  by_cases hl : ¬ x.length = y.length
  · have hne : ((x.length : Int) != (y.length : Int)) = true := by simp; omega
    clear hel_x hel_y
    go_enter Try.func81, Try.ntmps81
    go_wp2
    go_ret
    exact ⟨ret_bool (by rw [same_len hl]), (Below.refl w.heap.size w)⟩
  have hl := Decidable.not_not.1 hl
  have hne : ((x.length : Int) != (y.length : Int)) = false := by simp; omega
  have HL := hide hl; clear hl
  go_enter Try.func81, Try.ntmps81
  go_wp2_with fail
  clear hne
  go_loopw [17] (fun i wr => ∃ k : Nat, k ≤ x.length ∧ i = .int .i64 k ∧ Hid (∀ j (hj : j < x.length) (hj2 : j < y.length), j < k → x[j] = y[j]) ∧ Below (World.heap (w)).size (w) wr) (fun i _ => x.length - (intOf i).toNat)
  case atStart => exact ⟨0, Nat.zero_le _, rfl, same_zero, Below.refl _ _⟩
  case round =>
    obtain ⟨k1, hk1, rfl, hn1_, hb1001⟩ := hrel
    obtain ⟨wl1, rfl⟩ : ∃ w' : World, w' = wr := ⟨_, rfl⟩
    have hwl1 := nxt (Below.refl w.heap.size w) hb1001
    by_cases hlt1 : k1 < x.length
    · have hk2 : k1 < y.length := by have := HL.out; omega
      obtain ⟨pb, po, pbk, pes, rfl, phbl, phcl, phcell, pR, phbk⟩ := hel_x k1 hlt1
      have pR0 := pR
      obtain ⟨pv1, pb1, _, phes, phf, pr1⟩ := pR
      subst phes
      obtain ⟨pA1, pc1, rfl, phlc1, phcm1, phel1⟩ := pr1.use
      have p_0 := (hwl1.cell (p := ⟨pb, _, none⟩) phbl).trans (phcell 0 _ rfl)
      have p_1 := (hwl1.cell (p := ⟨pb, _, none⟩) phbl).trans (phcell 1 _ rfl)
      simp only [Nat.add_zero] at p_0 p_1
      clear phcell phcl
      have q_v1 := blk_cells (blk_new (wl1) #[.int .i64 x[k1].id, .slice pA1 x[k1].cells.length pc1] 34)
      have hn1 := (hwl1).alloc (hwl1).size (.cells #[.int .i64 x[k1].id, .slice pA1 x[k1].cells.length pc1] 34)
      have hc1_0 := (hb1001).alloc (hb1001).size (.cells #[.int .i64 x[k1].id, .slice pA1 x[k1].cells.length pc1] 34)
      obtain ⟨qb, qo, qbk, qes, rfl, qhbl, qhcl, qhcell, qR, qhbk⟩ := hel_y k1 hk2
      have qR0 := qR
      obtain ⟨qv1, qb1, _, qhes, qhf, qr1⟩ := qR
      subst qhes
      obtain ⟨qA1, qc1, rfl, qhlc1, qhcm1, qhel1⟩ := qr1.use
      have q_0 := (hn1.cell (p := ⟨qb, _, none⟩) qhbl).trans (qhcell 0 _ rfl)
      have q_1 := (hn1.cell (p := ⟨qb, _, none⟩) qhbl).trans (qhcell 1 _ rfl)
      simp only [Nat.add_zero] at q_0 q_1
      clear qhcell qhcl
      replace q_v1 := box_on q_v1 rfl ((Below.refl (World.heap (((wl1).alloc (.cells #[.int .i64 x[k1].id, .slice pA1 x[k1].cells.length pc1] 34)))).size (((wl1).alloc (.cells #[.int .i64 x[k1].id, .slice pA1 x[k1].cells.length pc1] 34)))).alloc (Nat.le_refl _) (.cells #[.int .i64 y[k1].id, .slice qA1 y[k1].cells.length qc1] 34))
      have q_v2 := blk_cells (blk_new (((wl1).alloc (.cells #[.int .i64 x[k1].id, .slice pA1 x[k1].cells.length pc1] 34))) #[.int .i64 y[k1].id, .slice qA1 y[k1].cells.length qc1] 34)
      have hn2 := (hn1).alloc (hn1).size (.cells #[.int .i64 y[k1].id, .slice qA1 y[k1].cells.length qc1] 34)
      have hc2_0 := (hc1_0).alloc (hc1_0).size (.cells #[.int .i64 y[k1].id, .slice qA1 y[k1].cells.length qc1] 34)
      have hcall := hp _ x[k1] y[k1] _ _ _ _ hn2 (RowR.good.nxt hn2 pR0) (RowR.good.nxt hn2 qR0)
      clear hel_x hel_y hp
      go_wp2_with fail
      go_at_fn g
      refine hcall.mono ?_; rintro e w9 ⟨rfl, hb9⟩
      have hw9 := nxt hn2 hb9
      have hl9 := nxt hc2_0 hb9
      cases hd : decide (x[k1] = y[k1])
      · go_wp2_with fail
        go_ret
        exact ⟨ret_bool (by rw [same_not hlt1 hk2 hd]), hw9⟩
      have hn2 := hide (same_step hn1_.out hlt1 hk2 (of_decide_eq_true hd)); clear hd
      go_wp2_with fail
      go_roundw
      case rel => exact ⟨k1 + 1, hlt1, by go_num, hn2, hl9⟩
      case measure => simp [intOf]; omega
    · obtain rfl : k1 = x.length := by omega
      have hr := hide (same_all HL.out hn1_.out)
      clear hp
      go_wp2
      go_ret
      exact ⟨ret_bool (by rw [hr.out]), hwl1⟩
set_option maxHeartbeats 2000000 in
theorem slices_EqualFuncRowSS {w : World}  {bs_x : List Nat} {v_x : Value} {x : List (List Row)} (H_x : RowSSR w bs_x [v_x] x) {bs_y : List Nat} {v_y : Value} {y : List (List Row)} (H_y : RowSSR w bs_y [v_y] y) (g : Nat) (eg : ∀ args w, (callFunc g args).run Try.prog w = .ok (.enter g args) w) (hp : ∀ (W : World) (a b : List Row) (b1 b2 : List Nat) (ux uy : Value), Below w.heap.size w W → RowSR W b1 [ux] a → RowSR W b2 [uy] b → Calls Try.prog g #[ux, uy] W fun e w' => e = .returned (.bool (decide (a = b))) ∧ Below W.heap.size W w') :
    Calls Try.prog 37 #[v_x, v_y, .func (.func g) #[] #[]] w (fun e w' => e = .returned (.bool (decide (x = y))) ∧ Below w.heap.size w w') := by
  have H0_x := H_x
  obtain ⟨A_x, c_x, rfl, hlc_x, hcm_x, hel_x⟩ := H_x.use
  have H0_y := H_y
  obtain ⟨A_y, c_y, rfl, hlc_y, hcm_y, hel_y⟩ := H_y.use
  by_cases hl : ¬ x.length = y.length
  · have hne : ((x.length : Int) != (y.length : Int)) = true := by simp; omega
    clear hel_x hel_y
    go_enter Try.func37, Try.ntmps37
    go_wp2
    go_ret
    exact ⟨ret_bool (by rw [same_len hl]), (Below.refl w.heap.size w)⟩
  have hl := Decidable.not_not.1 hl
  have hne : ((x.length : Int) != (y.length : Int)) = false := by simp; omega
  have HL := hide hl; clear hl
  go_enter Try.func37, Try.ntmps37
  go_wp2_with fail
  clear hne
  go_loopw [17] (fun i wr => ∃ k : Nat, k ≤ x.length ∧ i = .int .i64 k ∧ Hid (∀ j (hj : j < x.length) (hj2 : j < y.length), j < k → x[j] = y[j]) ∧ Below (World.heap (w)).size (w) wr) (fun i _ => x.length - (intOf i).toNat)
  case atStart => exact ⟨0, Nat.zero_le _, rfl, same_zero, Below.refl _ _⟩
  case round =>
    obtain ⟨k1, hk1, rfl, hn1_, hb1001⟩ := hrel
    obtain ⟨wl1, rfl⟩ : ∃ w' : World, w' = wr := ⟨_, rfl⟩
    have hwl1 := nxt (Below.refl w.heap.size w) hb1001
    by_cases hlt1 : k1 < x.length
    · have hk2 : k1 < y.length := by have := HL.out; omega
      obtain ⟨pb, po, pbk, pes, rfl, phbl, phcl, phcell, pR, phbk⟩ := hel_x k1 hlt1
      obtain ⟨pA, pc, phlc, rfl⟩ : ∃ A0 c0, x[k1].length ≤ c0 ∧ pes = [.slice A0 x[k1].length c0] := by obtain ⟨A0, c0, h, h2, _⟩ := pR; exact ⟨A0, c0, h2, h⟩
      have p_0 := (hwl1.cell (p := ⟨pb, _, none⟩) phbl).trans (phcell 0 _ rfl)
      simp only [Nat.add_zero, Nat.mul_one] at p_0
      clear phcell phcl
      obtain ⟨qb, qo, qbk, qes, rfl, qhbl, qhcl, qhcell, qR, qhbk⟩ := hel_y k1 hk2
      obtain ⟨qA, qc, qhlc, rfl⟩ : ∃ A0 c0, y[k1].length ≤ c0 ∧ qes = [.slice A0 y[k1].length c0] := by obtain ⟨A0, c0, h, h2, _⟩ := qR; exact ⟨A0, c0, h2, h⟩
      have q_0 := (hwl1.cell (p := ⟨qb, _, none⟩) qhbl).trans (qhcell 0 _ rfl)
      simp only [Nat.add_zero, Nat.mul_one] at q_0
      clear qhcell qhcl
      have hcall := hp wl1 x[k1] y[k1] _ _ _ _ hwl1 (RowSR.good.nxt hwl1 pR) (RowSR.good.nxt hwl1 qR)
      clear hel_x hel_y hp
      go_wp2_with fail
      go_at_fn g
      refine hcall.mono ?_; rintro e w9 ⟨rfl, hb9⟩
      have hw9 := nxt hwl1 hb9
      have hl9 := nxt hb1001 hb9
      cases hd : decide (x[k1] = y[k1])
      · go_wp2_with fail
        go_ret
        exact ⟨ret_bool (by rw [same_not hlt1 hk2 hd]), hw9⟩
      have hn2 := hide (same_step hn1_.out hlt1 hk2 (of_decide_eq_true hd)); clear hd
      go_wp2_with fail
      go_roundw
      case rel => exact ⟨k1 + 1, hlt1, by go_num, hn2, hl9⟩
      case measure => simp [intOf]; omega
    · obtain rfl : k1 = x.length := by omega
      have hr := hide (same_all HL.out hn1_.out)
      clear hp
      go_wp2
      go_ret
      exact ⟨ret_bool (by rw [hr.out]), hwl1⟩
set_option maxHeartbeats 2000000 in
theorem impl_sameRow {w : World}  {bs_x : List Nat} {cs_x : List Value} {x : Row} (H_x : RowR w bs_x cs_x x) {bs_y : List Nat} {cs_y : List Value} {y : Row} (H_y : RowR w bs_y cs_y y)  :
    Calls Try.prog 82 #[.agg cs_x.toArray, .agg cs_y.toArray] w (fun e w' => e = .returned (.bool (decide (x = y))) ∧ Below w.heap.size w w') := by
  have H0_x := H_x
  obtain ⟨x_v1, x_b1, rfl, rfl, hf_x, x_r1⟩ := H_x
  obtain ⟨A_x1, c_x1, rfl, hlc_x1, hcm_x1, hel_x1⟩ := x_r1.use
  have H0_y := H_y
  obtain ⟨y_v1, y_b1, rfl, rfl, hf_y, y_r1⟩ := H_y
  obtain ⟨A_y1, c_y1, rfl, hlc_y1, hcm_y1, hel_y1⟩ := y_r1.use
  have hbx := (((Below.refl w.heap.size w).alloc (Nat.le_refl _) (.cells #[.int .i64 x.id, .slice A_x1 x.cells.length c_x1] 34)).alloc (by simp; try omega) (.cells #[.int .i64 y.id, .slice A_y1 y.cells.length c_y1] 34))
  obtain ⟨q_x, q_y⟩ := two_at (Below.refl ((w.alloc (.cells #[.int .i64 x.id, .slice A_x1 x.cells.length c_x1] 34)).alloc (.cells #[.int .i64 y.id, .slice A_y1 y.cells.length c_y1] 34)).heap.size _)
  clear hel_x1 hel_y1
  have hext : x = y ↔ x.id = y.id ∧ x.cells = y.cells := ⟨fun h => by subst h; exact ⟨rfl, rfl⟩, fun ⟨h1, h2⟩ => by cases x; cases y; simp_all⟩
  have HX := hide hext; clear hext
  cases hd : (x.id == y.id)
  · go_enter Try.func82, Try.ntmps82
    go_wp2
    go_ret
    exact ⟨ret_bool (by have := HX.out; simp only [beq_eq_false_iff_ne] at hd; symm; simp only [decide_eq_false_iff_not]; intro he; exact hd (this.1 he).1), hbx⟩
  go_enter Try.func82, Try.ntmps82
  go_wp2_with fail
  refine (slices_EqualFuncAtomSS (AtomSSR.good.nxt hbx x_r1) (AtomSSR.good.nxt hbx y_r1) 117 (enters_of Try.func117 (by kernel_rfl) rfl) (fun W a b b1 b2 ux uy hW h1 h2 => slices_EqualA h1 h2)).mono ?_; rintro e w1 ⟨rfl, hb1⟩; replace q_x := box_on q_x rfl hb1; replace q_y := box_on q_y rfl hb1; have hw1 := nxt hbx hb1
  go_wp2_with fail
  go_ret
  exact ⟨ret_bool (by have := HX.out; simp only [beq_iff_eq] at hd; exact decide_eq_decide.2 ⟨fun h => this.2 ⟨hd, h⟩, fun h => (this.1 h).2⟩), hw1⟩
theorem impl_sameRows {w : World}  {bs_x : List Nat} {v_x : Value} {x : List Row} (H_x : RowSR w bs_x [v_x] x) {bs_y : List Nat} {v_y : Value} {y : List Row} (H_y : RowSR w bs_y [v_y] y)  :
    Calls Try.prog 38 #[v_x, v_y] w (fun e w' => e = .returned (.bool (decide (x = y))) ∧ Below w.heap.size w w') := by
  have H0_x := H_x
  obtain ⟨A_x, c_x, rfl, hlc_x, hcm_x, hel_x⟩ := H_x.use
  have H0_y := H_y
  obtain ⟨A_y, c_y, rfl, hlc_y, hcm_y, hel_y⟩ := H_y.use
  clear hel_x hel_y
  go_enter Try.func38, Try.ntmps38
  go_wp2_with fail
  refine (slices_EqualFuncRowS (RowSR.good.nxt (Below.refl w.heap.size w) H0_x) (RowSR.good.nxt (Below.refl w.heap.size w) H0_y) 82 (enters_of Try.func82 (by kernel_rfl) rfl) (fun W a b b1 b2 cx cy hW h1 h2 => impl_sameRow h1 h2)).mono ?_; rintro e w1 ⟨rfl, hb1⟩; have hw1 := nxt (Below.refl w.heap.size w) hb1
  go_wp2_with fail
  go_ret
  exact ⟨rfl, hw1⟩
set_option maxHeartbeats 2000000 in
theorem impl_SameStore {w : World}  {bs_x : List Nat} {cs_x : List Value} {x : Store} (H_x : StoreR w bs_x cs_x x) {bs_y : List Nat} {cs_y : List Value} {y : Store} (H_y : StoreR w bs_y cs_y y)  :
    Calls Try.prog 11 #[.agg cs_x.toArray, .agg cs_y.toArray] w (fun e w' => e = .returned (.bool (decide (x = y))) ∧ Below w.heap.size w w') := by
  have H0_x := H_x
  obtain ⟨x_v0, x_b0, rfl, rfl, hf_x, x_r0⟩ := H_x
  obtain ⟨A_x0, c_x0, rfl, hlc_x0, hcm_x0, hel_x0⟩ := x_r0.use
  have H0_y := H_y
  obtain ⟨y_v0, y_b0, rfl, rfl, hf_y, y_r0⟩ := H_y
  obtain ⟨A_y0, c_y0, rfl, hlc_y0, hcm_y0, hel_y0⟩ := y_r0.use
  have hbx := (((Below.refl w.heap.size w).alloc (Nat.le_refl _) (.cells #[.slice A_x0 x.tables.length c_x0, .int .i64 x.next] 29)).alloc (by simp; try omega) (.cells #[.slice A_y0 y.tables.length c_y0, .int .i64 y.next] 29))
  obtain ⟨q_x, q_y⟩ := two_at (Below.refl ((w.alloc (.cells #[.slice A_x0 x.tables.length c_x0, .int .i64 x.next] 29)).alloc (.cells #[.slice A_y0 y.tables.length c_y0, .int .i64 y.next] 29)).heap.size _)
  clear hel_x0 hel_y0
  have hext : x = y ↔ x.next = y.next ∧ x.tables = y.tables := ⟨fun h => by subst h; exact ⟨rfl, rfl⟩, fun ⟨h1, h2⟩ => by cases x; cases y; simp_all⟩
  have HX := hide hext; clear hext
  cases hd : (x.next == y.next)
  · go_enter Try.func11, Try.ntmps11
    go_wp2
    go_ret
    exact ⟨ret_bool (by have := HX.out; simp only [beq_eq_false_iff_ne] at hd; symm; simp only [decide_eq_false_iff_not]; intro he; exact hd (this.1 he).1), hbx⟩
  go_enter Try.func11, Try.ntmps11
  go_wp2_with fail
  refine (slices_EqualFuncRowSS (RowSSR.good.nxt hbx x_r0) (RowSSR.good.nxt hbx y_r0) 38 (enters_of Try.func38 (by kernel_rfl) rfl) (fun W a b b1 b2 ux uy hW h1 h2 => impl_sameRows h1 h2)).mono ?_; rintro e w1 ⟨rfl, hb1⟩; replace q_x := box_on q_x rfl hb1; replace q_y := box_on q_y rfl hb1; have hw1 := nxt hbx hb1
  go_wp2_with fail
  go_ret
  exact ⟨ret_bool (by have := HX.out; simp only [beq_iff_eq] at hd; exact decide_eq_decide.2 ⟨fun h => this.2 ⟨hd, h⟩, fun h => (this.1 h).2⟩), hw1⟩
set_option maxHeartbeats 4000000 in
theorem spec_l05SameRow {w : World}  {bs_x : List Nat} {cs_x : List Value} {x : Row} (H_x : RowR w bs_x cs_x x) {bs_y : List Nat} {cs_y : List Value} {y : Row} (H_y : RowR w bs_y cs_y y)  :
    Calls Try.prog 35 #[.agg cs_x.toArray, .agg cs_y.toArray] w (fun e w' => e = .returned (.bool (decide (x = y))) ∧ Below w.heap.size w w') := by
  have H0_x := H_x
  obtain ⟨x_v1, x_b1, rfl, rfl, hf_x, x_r1⟩ := H_x
  obtain ⟨A_x1, c_x1, rfl, hlc_x1, hcm_x1, hel_x1⟩ := x_r1.use
  have H0_y := H_y
  obtain ⟨y_v1, y_b1, rfl, rfl, hf_y, y_r1⟩ := H_y
  obtain ⟨A_y1, c_y1, rfl, hlc_y1, hcm_y1, hel_y1⟩ := y_r1.use
  have hbx := (((Below.refl w.heap.size w).alloc (Nat.le_refl _) (.cells #[.int .i64 x.id, .slice A_x1 x.cells.length c_x1] 34)).alloc (by simp; try omega) (.cells #[.int .i64 y.id, .slice A_y1 y.cells.length c_y1] 34))
  obtain ⟨q_x, q_y⟩ := two_at (Below.refl ((w.alloc (.cells #[.int .i64 x.id, .slice A_x1 x.cells.length c_x1] 34)).alloc (.cells #[.int .i64 y.id, .slice A_y1 y.cells.length c_y1] 34)).heap.size _)
  have hext : x = y ↔ x.id = y.id ∧ x.cells = y.cells := ⟨fun h => by subst h; exact ⟨rfl, rfl⟩, fun ⟨h1, h2⟩ => by cases x; cases y; simp_all⟩
  have HX := hide hext; clear hext
  by_cases hd : ¬ x.id = y.id
  · have hd2 : (x.id != y.id) = true := by simp only [bne_iff_ne, ne_eq]; exact hd
    clear hel_x1 hel_y1
    have HD := hide hd; clear hd
    go_enter Try.func35, Try.ntmps35
    go_wp2
    go_ret
    exact ⟨ret_bool (by have := HX.out; have hd := HD.out; symm; simp only [decide_eq_false_iff_not]; intro he; exact hd (this.1 he).1), hbx⟩
  have hd2 : (x.id != y.id) = false := by simp only [bne_eq_false_iff_eq]; exact Decidable.not_not.1 hd
  have HE : Hid (decide (x = y) = decide (x.cells = y.cells)) := by show _ = _; exact decide_eq_decide.2 ⟨fun h => (HX.out.1 h).2, fun h => HX.out.2 ⟨Decidable.not_not.1 hd, h⟩⟩
  clear hd
  by_cases hl : ¬ x.cells.length = y.cells.length
  · have hne : ((x.cells.length : Int) != (y.cells.length : Int)) = true := by simp; omega
    clear hel_x1 hel_y1
    go_enter Try.func35, Try.ntmps35
    go_wp2
    go_ret
    exact ⟨ret_bool (by rw [HE.out, same_len hl]), hbx⟩
  have hl := Decidable.not_not.1 hl
  have hne : ((x.cells.length : Int) != (y.cells.length : Int)) = false := by simp; omega
  have HL := hide hl; clear hl
  go_enter Try.func35, Try.ntmps35
  go_wp2_with fail
  clear hne hd2
  go_loopw [5] (fun i wr => ∃ k : Nat, k ≤ x.cells.length ∧ i = .int .i64 k ∧ Hid (∀ j (hj : j < x.cells.length) (hj2 : j < y.cells.length), j < k → x.cells[j] = y.cells[j]) ∧ Below (World.heap (((w.alloc (.cells #[.int .i64 x.id, .slice A_x1 x.cells.length c_x1] 34)).alloc (.cells #[.int .i64 y.id, .slice A_y1 y.cells.length c_y1] 34)))).size (((w.alloc (.cells #[.int .i64 x.id, .slice A_x1 x.cells.length c_x1] 34)).alloc (.cells #[.int .i64 y.id, .slice A_y1 y.cells.length c_y1] 34))) wr) (fun i _ => x.cells.length - (intOf i).toNat)
  case atStart => exact ⟨0, Nat.zero_le _, rfl, same_zero, Below.refl _ _⟩
  case round =>
    obtain ⟨k1, hk1, rfl, hn1_, hb1001⟩ := hrel
    obtain ⟨wl1, rfl⟩ : ∃ w' : World, w' = wr := ⟨_, rfl⟩
    replace q_x := box_on q_x rfl hb1001
    replace q_y := box_on q_y rfl hb1001
    have hwl1 := nxt hbx hb1001
    by_cases hlt1 : k1 < x.cells.length
    · have hk2 : k1 < y.cells.length := by have := HL.out; omega
      obtain ⟨pb, po, pbk, pes, rfl, phbl, phcl, phcell, pR, phbk⟩ := hel_x1 k1 hlt1
      obtain ⟨pA, pc, phlc, rfl⟩ : ∃ A0 c0, x.cells[k1].length ≤ c0 ∧ pes = [.slice A0 x.cells[k1].length c0] := by obtain ⟨A0, c0, h, h2, _⟩ := pR; exact ⟨A0, c0, h2, h⟩
      have p_0 := Fw.cell ((hwl1.cell (p := ⟨pb, _, none⟩) phbl).trans (phcell 0 _ rfl))
      simp only [Nat.add_zero, Nat.mul_one] at p_0
      clear phcell phcl
      obtain ⟨qb, qo, qbk, qes, rfl, qhbl, qhcl, qhcell, qR, qhbk⟩ := hel_y1 k1 hk2
      obtain ⟨qA, qc, qhlc, rfl⟩ : ∃ A0 c0, y.cells[k1].length ≤ c0 ∧ qes = [.slice A0 y.cells[k1].length c0] := by obtain ⟨A0, c0, h, h2, _⟩ := qR; exact ⟨A0, c0, h2, h⟩
      have q_0 := Fw.cell ((hwl1.cell (p := ⟨qb, _, none⟩) qhbl).trans (qhcell 0 _ rfl))
      simp only [Nat.add_zero, Nat.mul_one] at q_0
      clear qhcell qhcl
      clear hel_x1 hel_y1
      have A1 := hide (fun (i : Fw wl1) => spec_l03Same (AtomSR.good.nxt (nxt hwl1 i.h) pR) (AtomSR.good.nxt (nxt hwl1 i.h) qR))
      go_wp2_with fail
      have q_xF0 := Fw.cell (box_cell q_x 0 rfl)
      have q_xF1 := Fw.cell (box_cell q_x 1 rfl)
      have q_yF0 := Fw.cell (box_cell q_y 0 rfl)
      have q_yF1 := Fw.cell (box_cell q_y 1 rfl)
      refine region_quiet (by kernel_rfl) (by kernel_rfl) ?_
      repeat (go_big_quiet_step ((first | (go_at_call 79; exact quiet_of (A1.out _)))))
      refine wpQuiet_nil ?_; intro w1 hb1; replace q_x := box_on q_x rfl hb1; replace q_y := box_on q_y rfl hb1; have hw1 := nxt hwl1 hb1; have hl0_1 := nxt hb1001 hb1; clear q_xF0 q_xF1 q_yF0 q_yF1 p_0 q_0
      cases hd : decide (x.cells[k1] = y.cells[k1])
      · go_wp2_with fail
        go_ret
        exact ⟨ret_bool (by rw [HE.out, same_not hlt1 hk2 hd]), hw1⟩
      have hn2 := hide (same_step hn1_.out hlt1 hk2 (of_decide_eq_true hd)); clear hd
      go_wp2_with fail
      go_roundw
      case rel => exact ⟨k1 + 1, hlt1, by go_num, hn2, hl0_1⟩
      case measure => simp [intOf]; omega
    · obtain rfl : k1 = x.cells.length := by omega
      have hr := hide (same_all HL.out hn1_.out)
      clear hel_x1 hel_y1
      go_wp2
      go_ret
      exact ⟨ret_bool (by rw [HE.out, hr.out]), hwl1⟩
set_option maxHeartbeats 8000000 in
theorem spec_SameStore {w : World}  {bs_x : List Nat} {cs_x : List Value} {x : Store} (H_x : StoreR w bs_x cs_x x) {bs_y : List Nat} {cs_y : List Value} {y : Store} (H_y : StoreR w bs_y cs_y y)  :
    Calls Try.prog 9 #[.agg cs_x.toArray, .agg cs_y.toArray] w (fun e w' => e = .returned (.bool (decide (x = y))) ∧ Below w.heap.size w w') := by
  have H0_x := H_x
  obtain ⟨x_v0, x_b0, rfl, rfl, hf_x, x_r0⟩ := H_x
  obtain ⟨A_x0, c_x0, rfl, hlc_x0, hcm_x0, hel_x0⟩ := x_r0.use
  have H0_y := H_y
  obtain ⟨y_v0, y_b0, rfl, rfl, hf_y, y_r0⟩ := H_y
  obtain ⟨A_y0, c_y0, rfl, hlc_y0, hcm_y0, hel_y0⟩ := y_r0.use
  have hbx := (((Below.refl w.heap.size w).alloc (Nat.le_refl _) (.cells #[.slice A_x0 x.tables.length c_x0, .int .i64 x.next] 29)).alloc (by simp; try omega) (.cells #[.slice A_y0 y.tables.length c_y0, .int .i64 y.next] 29))
  obtain ⟨q_x, q_y⟩ := two_at (Below.refl ((w.alloc (.cells #[.slice A_x0 x.tables.length c_x0, .int .i64 x.next] 29)).alloc (.cells #[.slice A_y0 y.tables.length c_y0, .int .i64 y.next] 29)).heap.size _)
  have hext : x = y ↔ x.next = y.next ∧ x.tables = y.tables := ⟨fun h => by subst h; exact ⟨rfl, rfl⟩, fun ⟨h1, h2⟩ => by cases x; cases y; simp_all⟩
  have HX := hide hext; clear hext
  by_cases hd : ¬ x.next = y.next
  · have hd2 : (x.next != y.next) = true := by simp only [bne_iff_ne, ne_eq]; exact hd
    clear hel_x0 hel_y0
    have HD := hide hd; clear hd
    go_enter Try.func9, Try.ntmps9
    go_wp2
    go_ret
    exact ⟨ret_bool (by have := HX.out; have hd := HD.out; symm; simp only [decide_eq_false_iff_not]; intro he; exact hd (this.1 he).1), hbx⟩
  have hd2 : (x.next != y.next) = false := by simp only [bne_eq_false_iff_eq]; exact Decidable.not_not.1 hd
  have HE : Hid (decide (x = y) = decide (x.tables = y.tables)) := by show _ = _; exact decide_eq_decide.2 ⟨fun h => (HX.out.1 h).2, fun h => HX.out.2 ⟨Decidable.not_not.1 hd, h⟩⟩
  clear hd
  by_cases hl : ¬ x.tables.length = y.tables.length
  · have hne : ((x.tables.length : Int) != (y.tables.length : Int)) = true := by simp; omega
    clear hel_x0 hel_y0
    go_enter Try.func9, Try.ntmps9
    go_wp2
    go_ret
    exact ⟨ret_bool (by rw [HE.out, same_len hl]), hbx⟩
  have hl := Decidable.not_not.1 hl
  have hne : ((x.tables.length : Int) != (y.tables.length : Int)) = false := by simp; omega
  have HL := hide hl; clear hl
  go_enter Try.func9, Try.ntmps9
  go_wp2_with fail
  clear hne hd2
  go_loopw [5] (fun i wr => ∃ k : Nat, k ≤ x.tables.length ∧ i = .int .i64 k ∧ Hid (∀ j (hj : j < x.tables.length) (hj2 : j < y.tables.length), j < k → x.tables[j] = y.tables[j]) ∧ Below (World.heap (((w.alloc (.cells #[.slice A_x0 x.tables.length c_x0, .int .i64 x.next] 29)).alloc (.cells #[.slice A_y0 y.tables.length c_y0, .int .i64 y.next] 29)))).size (((w.alloc (.cells #[.slice A_x0 x.tables.length c_x0, .int .i64 x.next] 29)).alloc (.cells #[.slice A_y0 y.tables.length c_y0, .int .i64 y.next] 29))) wr) (fun i _ => x.tables.length - (intOf i).toNat)
  case atStart => exact ⟨0, Nat.zero_le _, rfl, same_zero, Below.refl _ _⟩
  case round =>
    obtain ⟨k1, hk1, rfl, hn1_, hb1001⟩ := hrel
    obtain ⟨wl1, rfl⟩ : ∃ w' : World, w' = wr := ⟨_, rfl⟩
    replace q_x := box_on q_x rfl hb1001
    replace q_y := box_on q_y rfl hb1001
    have hwl1 := nxt hbx hb1001
    by_cases hlt1 : k1 < x.tables.length
    · have hky : k1 < y.tables.length := by have := HL.out; omega
      obtain ⟨pb, po, pbk, pes, rfl, phbl, phcl, phcell, pR, phbk⟩ := hel_x0 k1 hlt1
      obtain ⟨pA, pc, phlc, rfl⟩ : ∃ A0 c0, x.tables[k1].length ≤ c0 ∧ pes = [.slice A0 x.tables[k1].length c0] := by obtain ⟨A0, c0, h, h2, _⟩ := pR; exact ⟨A0, c0, h2, h⟩
      have p_0 := Fw.cell ((hwl1.cell (p := ⟨pb, _, none⟩) phbl).trans (phcell 0 _ rfl))
      simp only [Nat.add_zero, Nat.mul_one] at p_0
      obtain ⟨qb, qo, qbk, qes, rfl, qhbl, qhcl, qhcell, qR, qhbk⟩ := hel_y0 k1 hky
      obtain ⟨qA, qc, qhlc, rfl⟩ : ∃ A0 c0, y.tables[k1].length ≤ c0 ∧ qes = [.slice A0 y.tables[k1].length c0] := by obtain ⟨A0, c0, h, h2, _⟩ := qR; exact ⟨A0, c0, h2, h⟩
      have q_0 := Fw.cell ((hwl1.cell (p := ⟨qb, _, none⟩) qhbl).trans (qhcell 0 _ rfl))
      simp only [Nat.add_zero, Nat.mul_one] at q_0
      obtain ⟨pA', pc', hpv, _, _, hpel⟩ := pR.use; injection hpv with e1 e2 e3; subst e1; clear e2 e3
      obtain ⟨qA', qc', hqv, _, _, hqel⟩ := qR.use; injection hqv with e1 e2 e3; subst e1; clear e2 e3
      go_wp2_with fail
      have q_xF0 := Fw.cell (box_cell q_x 0 rfl)
      have q_xF1 := Fw.cell (box_cell q_x 1 rfl)
      have q_yF0 := Fw.cell (box_cell q_y 0 rfl)
      have q_yF1 := Fw.cell (box_cell q_y 1 rfl)
      refine region_quiet (by kernel_rfl) (by kernel_rfl) ?_
      repeat (go_big_quiet_step (fail))
      refine wpQuiet_nil ?_; intro w1 hb1; replace q_x := box_on q_x rfl hb1; replace q_y := box_on q_y rfl hb1; have hw1 := nxt hwl1 hb1; have hl0_1 := nxt hb1001 hb1; clear q_xF0 q_xF1 q_yF0 q_yF1 p_0 q_0
      cases h6 : ((x.tables[k1].length : Int) != (y.tables[k1].length : Int))
      · have HL2 : Hid (x.tables[k1].length = y.tables[k1].length) := by show _ = _; have := h6; simp at this; omega
        clear h6
        go_wp2_with fail
        go_loopw [6] (fun i wr => ∃ k : Nat, k ≤ x.tables[k1].length ∧ i = .int .i64 k ∧ Hid (∀ j (hj : j < x.tables[k1].length) (hj2 : j < y.tables[k1].length), j < k → x.tables[k1][j] = y.tables[k1][j]) ∧ Below (World.heap (w1)).size (w1) wr) (fun i _ => x.tables[k1].length - (intOf i).toNat)
        case atStart => exact ⟨0, Nat.zero_le _, rfl, same_zero, Below.refl _ _⟩
        case round =>
          obtain ⟨k2, hk2, rfl, hn2_, hb1002⟩ := hrel
          obtain ⟨wl2, rfl⟩ : ∃ w' : World, w' = wr := ⟨_, rfl⟩
          replace q_x := box_on q_x rfl hb1002
          replace q_y := box_on q_y rfl hb1002
          have hwl2 := nxt hw1 hb1002
          have hl0_1002 := nxt hl0_1 hb1002
          by_cases hlt2 : k2 < x.tables[k1].length
          · have hj2 : k2 < y.tables[k1].length := by have := HL2.out; omega
            have p_0 := (hwl2.cell (p := ⟨pb, _, none⟩) phbl).trans (phcell 0 _ rfl)
            simp only [Nat.add_zero, Nat.mul_one] at p_0
            go_wp2_with fail
            clear p_0
            have p_0 := Fw.cell ((hwl2.cell (p := ⟨pb, _, none⟩) phbl).trans (phcell 0 _ rfl))
            simp only [Nat.add_zero, Nat.mul_one] at p_0
            have q_0 := Fw.cell ((hwl2.cell (p := ⟨qb, _, none⟩) qhbl).trans (qhcell 0 _ rfl))
            simp only [Nat.add_zero, Nat.mul_one] at q_0
            obtain ⟨sb, so, sbk, ses, rfl, shbl, shcl, shcell, sR, shbk⟩ := hpel k2 hlt2
            have sR0 := sR
            obtain ⟨sv1, sb1, _, shes, shf, sr1⟩ := sR
            subst shes
            obtain ⟨sA1, sc1, rfl, shlc1, shcm1, shel1⟩ := sr1.use
            have s_0 := Fw.cell ((hwl2.cell (p := ⟨sb, _, none⟩) shbl).trans (shcell 0 _ rfl))
            have s_1 := Fw.cell ((hwl2.cell (p := ⟨sb, _, none⟩) shbl).trans (shcell 1 _ rfl))
            simp only [Nat.add_zero] at s_0 s_1
            clear shcell shcl
            obtain ⟨tb, to, tbk, tes, rfl, thbl, thcl, thcell, tR, thbk⟩ := hqel k2 hj2
            have tR0 := tR
            obtain ⟨tv1, tb1, _, thes, thf, tr1⟩ := tR
            subst thes
            obtain ⟨tA1, tc1, rfl, thlc1, thcm1, thel1⟩ := tr1.use
            have t_0 := Fw.cell ((hwl2.cell (p := ⟨tb, _, none⟩) thbl).trans (thcell 0 _ rfl))
            have t_1 := Fw.cell ((hwl2.cell (p := ⟨tb, _, none⟩) thbl).trans (thcell 1 _ rfl))
            simp only [Nat.add_zero] at t_0 t_1
            clear thcell thcl
            clear hpel hqel hel_x0 hel_y0
            have A1 := hide (fun (i : Fw wl2) => spec_l05SameRow (RowR.good.nxt (nxt hwl2 i.h) sR0) (RowR.good.nxt (nxt hwl2 i.h) tR0))
            have q_xF0 := Fw.cell (box_cell q_x 0 rfl)
            have q_xF1 := Fw.cell (box_cell q_x 1 rfl)
            have q_yF0 := Fw.cell (box_cell q_y 0 rfl)
            have q_yF1 := Fw.cell (box_cell q_y 1 rfl)
            refine region_quiet (by kernel_rfl) (by kernel_rfl) ?_
            repeat (go_big_quiet_step ((first | (go_at_call 35; exact quiet_of (A1.out _)))))
            refine wpQuiet_nil ?_; intro w2 hb2; replace q_x := box_on q_x rfl hb2; replace q_y := box_on q_y rfl hb2; have hw2 := nxt hwl2 hb2; have hl0_2 := nxt hl0_1002 hb2; have hl1_2 := nxt hb1002 hb2; clear q_xF0 q_xF1 q_yF0 q_yF1 p_0 q_0 s_0 s_1 t_0 t_1
            cases hd : decide (x.tables[k1][k2] = y.tables[k1][k2])
            · go_wp2_with fail
              go_ret
              exact ⟨ret_bool (by rw [HE.out, same_not hlt1 hky (same_not hlt2 hj2 hd)]), hw2⟩
            have hn3 := hide (same_step hn2_.out hlt2 hj2 (of_decide_eq_true hd)); clear hd
            go_wp2_with fail
            go_roundw
            case rel => exact ⟨k2 + 1, hlt2, by go_num, hn3, hl1_2⟩
            case measure => simp [intOf]; omega
          · obtain rfl : k2 = x.tables[k1].length := by omega
            have hn4 := hide (same_step hn1_.out hlt1 hky (of_decide_eq_true (same_all HL2.out hn2_.out)))
            have p_0 := (hwl2.cell (p := ⟨pb, _, none⟩) phbl).trans (phcell 0 _ rfl)
            simp only [Nat.add_zero, Nat.mul_one] at p_0
            have q_0 := (hwl2.cell (p := ⟨qb, _, none⟩) qhbl).trans (qhcell 0 _ rfl)
            simp only [Nat.add_zero, Nat.mul_one] at q_0
            go_wp2_with fail
            go_roundw
            case rel => exact ⟨k1 + 1, hlt1, by go_num, hn4, hl0_1002⟩
            case measure => simp [intOf]; omega
      · go_wp2_with fail
        go_ret
        exact ⟨ret_bool (by rw [HE.out, same_not hlt1 hky (same_len (by intro he; rw [he] at h6; simp at h6))]), hw1⟩
    · obtain rfl : k1 = x.tables.length := by omega
      have hr := hide (same_all HL.out hn1_.out)
      clear hel_x0 hel_y0
      go_wp2
      go_ret
      exact ⟨ret_bool (by rw [HE.out, hr.out]), hwl1⟩
end Go.Proofs.Ytlbejbnfgaaeiaa
