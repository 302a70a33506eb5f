/- Equality of rows of data, in the program and in the reference. No statement is proved here; no conditions. Written by a program (gen16.py). -/
import Derived.Test.YthbebbnidgeaeaaGreatHas
import Derived.Test.YthbebbnidgeaeaaGreatFunc
import Derived.Test.YthbebbnidgeaeaaGreatBox
import Derived.Shelf.Abstract
namespace Go.Proofs.YthbebbnidgeaeaaGreat
open Go.ChangeShapes Go.WideShapes Go.ChangeAt Go.RowKit Go.Deep
set_option maxRecDepth 100000
set_option linter.unusedVariables false
set_option linter.unusedSimpArgs false

theorem neq_atom (a b : Atom) (W : World) : (binOp .neq 143 (.agg #[.int .i64 a.kind, .int .i64 a.n, .string a.t]) (.agg #[.int .i64 b.kind, .int .i64 b.n, .string b.t])).run Tryz.prog W = .ok (.bool (!decide (a = b))) W := by
  rw [run_neq_struct, run_equalIn_struct W 9999 _ _ _ atom_under atom_stood, atom_fields]
  obtain ⟨k1, n1, t1⟩ := a
  obtain ⟨k2, n2, t2⟩ := b
  by_cases h1 : k1 = k2
  · by_cases h2 : n1 = n2
    · by_cases h3 : t1.toList = t2.toList
      · have h4 : t1 = t2 := eqS_iff.1 (by unfold eqS; simp [h3])
        simp [go_sem, h1, h2, h4]
      · have h4 : t1 ≠ t2 := fun h => h3 (by rw [h])
        simp [go_sem, h1, h2, h3, h4]
    · simp [go_sem, h1, h2]
  · simp [go_sem, h1]
section
variable {α : Type} {xs ys : List α}
theorem same_zero : ∀ j (hj : j < xs.length) (hj2 : j < ys.length), j < 0 → xs[j] = ys[j] := fun _ _ _ h => absurd h (Nat.not_lt_zero _)
theorem same_step {k : Nat} (h : ∀ j (hj : j < xs.length) (hj2 : j < ys.length), j < k → xs[j] = ys[j]) (hk : k < xs.length) (hk2 : k < ys.length) (he : xs[k] = ys[k]) : ∀ j (hj : j < xs.length) (hj2 : j < ys.length), j < k + 1 → xs[j] = ys[j] := by
  intro j hj hj2 hjk
  by_cases hjk' : j = k
  · subst hjk'; exact he
  · exact h j hj hj2 (by omega)
end
section
variable {α : Type} [DecidableEq α] {xs ys : List α}
theorem same_all (hl : xs.length = ys.length) (h : ∀ j (hj : j < xs.length) (hj2 : j < ys.length), j < xs.length → xs[j] = ys[j]) : decide (xs = ys) = true := by
  simp only [decide_eq_true_eq]; exact List.ext_getElem hl fun j h1 h2 => h j h1 h2 h1
theorem same_not {k : Nat} (hk : k < xs.length) (hk2 : k < ys.length) (h : decide (xs[k] = ys[k]) = false) : decide (xs = ys) = false := by
  simp only [decide_eq_false_iff_not] at h ⊢; intro he; subst he; exact h rfl
theorem same_len (hl : ¬ xs.length = ys.length) : decide (xs = ys) = false := by
  simp only [decide_eq_false_iff_not]; intro he; subst he; exact hl rfl
end
set_option maxHeartbeats 2000000 in
theorem slices_EqualA {w : World}  {bs_x : List Nat} {v_x : Value} {x : List Atom} (H_x : AtomSR w bs_x [v_x] x) {bs_y : List Nat} {v_y : Value} {y : List Atom} (H_y : AtomSR w bs_y [v_y] y)  :
    Calls Tryz.prog 143 #[v_x, v_y] w (fun e w' => e = .returned (.bool (decide (x = y))) ∧ Below w.heap.size w w') := by
  have H0_x := H_x
  obtain ⟨A_x, c_x, rfl, hlc_x, hcm_x, hel_x⟩ := H_x.use
  have H0_y := H_y
  obtain ⟨A_y, c_y, rfl, hlc_y, hcm_y, hel_y⟩ := H_y.use
  by_cases hl : ¬ x.length = y.length
  · have hne : ((x.length : Int) != (y.length : Int)) = true := by simp; omega
    clear hel_x hel_y
    go_enter Tryz.func143, Tryz.ntmps143
    go_wp2
    go_ret
    exact ⟨ret_bool (by rw [same_len hl]), (Below.refl w.heap.size w)⟩
  have hl := Decidable.not_not.1 hl
  have hne : ((x.length : Int) != (y.length : Int)) = false := by simp; omega
  have HL := hide hl; clear hl
  go_enter Tryz.func143, Tryz.ntmps143
  go_wp2_with fail
  clear hne
  go_loopw [13] (fun i wr => ∃ k : Nat, k ≤ x.length ∧ i = .int .i64 k ∧ Hid (∀ j (hj : j < x.length) (hj2 : j < y.length), j < k → x[j] = y[j]) ∧ Below (World.heap (w)).size (w) wr) (fun i _ => x.length - (intOf i).toNat)
  case atStart => exact ⟨0, Nat.zero_le _, rfl, same_zero, Below.refl _ _⟩
  case round =>
    obtain ⟨k1, hk1, rfl, hn1_, hb1001⟩ := hrel
    obtain ⟨wl1, rfl⟩ : ∃ w' : World, w' = wr := ⟨_, rfl⟩
    have hwl1 := nxt (Below.refl w.heap.size w) hb1001
    by_cases hlt1 : k1 < x.length
    · have hk2 : k1 < y.length := by have := HL.out; omega
      obtain ⟨pb, po, pbk, pes, rfl, phbl, phcl, phcell, pR, phbk⟩ := hel_x k1 hlt1
      obtain ⟨_, phes, phf⟩ := pR
      subst phes
      have p_0 := Fw.cell ((hwl1.cell (p := ⟨pb, _, none⟩) phbl).trans (phcell 0 _ rfl))
      have p_1 := Fw.cell ((hwl1.cell (p := ⟨pb, _, none⟩) phbl).trans (phcell 1 _ rfl))
      have p_2 := Fw.cell ((hwl1.cell (p := ⟨pb, _, none⟩) phbl).trans (phcell 2 _ rfl))
      simp only [Nat.add_zero] at p_0 p_1 p_2
      clear phcell phcl
      obtain ⟨qb, qo, qbk, qes, rfl, qhbl, qhcl, qhcell, qR, qhbk⟩ := hel_y k1 hk2
      obtain ⟨_, qhes, qhf⟩ := qR
      subst qhes
      have q_0 := Fw.cell ((hwl1.cell (p := ⟨qb, _, none⟩) qhbl).trans (qhcell 0 _ rfl))
      have q_1 := Fw.cell ((hwl1.cell (p := ⟨qb, _, none⟩) qhbl).trans (qhcell 1 _ rfl))
      have q_2 := Fw.cell ((hwl1.cell (p := ⟨qb, _, none⟩) qhbl).trans (qhcell 2 _ rfl))
      simp only [Nat.add_zero] at q_0 q_1 q_2
      clear qhcell qhcl
      clear hel_x hel_y
      have he := neq_atom x[k1] y[k1]
      have hg := grd_atom .neq
      go_wp2_with fail
      refine region_quiet (by kernel_rfl) (by kernel_rfl) ?_
      repeat (go_big_quiet_step (fail))
      refine wpQuiet_nil ?_; intro w1 hb1; have hw1 := nxt hwl1 hb1; have hl0_1 := nxt hb1001 hb1; clear p_0 p_1 p_2 q_0 q_1 q_2 he hg
      cases hd : decide (x[k1] = y[k1])
      · go_wp2_with fail
        go_ret
        exact ⟨ret_bool (by rw [same_not hlt1 hk2 hd]), hw1⟩
      have hn2 := hide (same_step hn1_.out hlt1 hk2 (of_decide_eq_true hd)); clear hd
      go_wp2_with fail
      go_roundw
      case rel => exact ⟨k1 + 1, hlt1, by go_num, hn2, hl0_1⟩
      case measure => simp [intOf]; omega
    · obtain rfl : k1 = x.length := by omega
      have hr := hide (same_all HL.out hn1_.out)
      go_wp2
      go_ret
      exact ⟨ret_bool (by rw [hr.out]), hwl1⟩
set_option maxHeartbeats 2000000 in
theorem spec_l03Same {w : World}  {bs_x : List Nat} {v_x : Value} {x : List Atom} (H_x : AtomSR w bs_x [v_x] x) {bs_y : List Nat} {v_y : Value} {y : List Atom} (H_y : AtomSR w bs_y [v_y] y)  :
    Calls Tryz.prog 117 #[v_x, v_y] w (fun e w' => e = .returned (.bool (decide (x = y))) ∧ Below w.heap.size w w') := by
  have H0_x := H_x
  obtain ⟨A_x, c_x, rfl, hlc_x, hcm_x, hel_x⟩ := H_x.use
  have H0_y := H_y
  obtain ⟨A_y, c_y, rfl, hlc_y, hcm_y, hel_y⟩ := H_y.use
  by_cases hl : ¬ x.length = y.length
  · have hne : ((x.length : Int) != (y.length : Int)) = true := by simp; omega
    clear hel_x hel_y
    go_enter Tryz.func117, Tryz.ntmps117
    go_wp2
    go_ret
    exact ⟨ret_bool (by rw [same_len hl]), (Below.refl w.heap.size w)⟩
  have hl := Decidable.not_not.1 hl
  have hne : ((x.length : Int) != (y.length : Int)) = false := by simp; omega
  have HL := hide hl; clear hl
  go_enter Tryz.func117, Tryz.ntmps117
  go_wp2_with fail
  clear hne
  go_loopw [5] (fun i wr => ∃ k : Nat, k ≤ x.length ∧ i = .int .i64 k ∧ Hid (∀ j (hj : j < x.length) (hj2 : j < y.length), j < k → x[j] = y[j]) ∧ Below (World.heap (w)).size (w) wr) (fun i _ => x.length - (intOf i).toNat)
  case atStart => exact ⟨0, Nat.zero_le _, rfl, same_zero, Below.refl _ _⟩
  case round =>
    obtain ⟨k1, hk1, rfl, hn1_, hb1001⟩ := hrel
    obtain ⟨wl1, rfl⟩ : ∃ w' : World, w' = wr := ⟨_, rfl⟩
    have hwl1 := nxt (Below.refl w.heap.size w) hb1001
    by_cases hlt1 : k1 < x.length
    · have hk2 : k1 < y.length := by have := HL.out; omega
      obtain ⟨pb, po, pbk, pes, rfl, phbl, phcl, phcell, pR, phbk⟩ := hel_x k1 hlt1
      obtain ⟨_, phes, phf⟩ := pR
      subst phes
      have p_0 := Fw.cell ((hwl1.cell (p := ⟨pb, _, none⟩) phbl).trans (phcell 0 _ rfl))
      have p_1 := Fw.cell ((hwl1.cell (p := ⟨pb, _, none⟩) phbl).trans (phcell 1 _ rfl))
      have p_2 := Fw.cell ((hwl1.cell (p := ⟨pb, _, none⟩) phbl).trans (phcell 2 _ rfl))
      simp only [Nat.add_zero] at p_0 p_1 p_2
      clear phcell phcl
      obtain ⟨qb, qo, qbk, qes, rfl, qhbl, qhcl, qhcell, qR, qhbk⟩ := hel_y k1 hk2
      obtain ⟨_, qhes, qhf⟩ := qR
      subst qhes
      have q_0 := Fw.cell ((hwl1.cell (p := ⟨qb, _, none⟩) qhbl).trans (qhcell 0 _ rfl))
      have q_1 := Fw.cell ((hwl1.cell (p := ⟨qb, _, none⟩) qhbl).trans (qhcell 1 _ rfl))
      have q_2 := Fw.cell ((hwl1.cell (p := ⟨qb, _, none⟩) qhbl).trans (qhcell 2 _ rfl))
      simp only [Nat.add_zero] at q_0 q_1 q_2
      clear qhcell qhcl
      clear hel_x hel_y
      have he := neq_atom x[k1] y[k1]
      have hg := grd_atom .neq
      go_wp2_with fail
      refine region_quiet (by kernel_rfl) (by kernel_rfl) ?_
      repeat (go_big_quiet_step (fail))
      refine wpQuiet_nil ?_; intro w1 hb1; have hw1 := nxt hwl1 hb1; have hl0_1 := nxt hb1001 hb1; clear p_0 p_1 p_2 q_0 q_1 q_2 he hg
      cases hd : decide (x[k1] = y[k1])
      · go_wp2_with fail
        go_ret
        exact ⟨ret_bool (by rw [same_not hlt1 hk2 hd]), hw1⟩
      have hn2 := hide (same_step hn1_.out hlt1 hk2 (of_decide_eq_true hd)); clear hd
      go_wp2_with fail
      go_roundw
      case rel => exact ⟨k1 + 1, hlt1, by go_num, hn2, hl0_1⟩
      case measure => simp [intOf]; omega
    · obtain rfl : k1 = x.length := by omega
      have hr := hide (same_all HL.out hn1_.out)
      go_wp2
      go_ret
      exact ⟨ret_bool (by rw [hr.out]), hwl1⟩
end Go.Proofs.YthbebbnidgeaeaaGreat
