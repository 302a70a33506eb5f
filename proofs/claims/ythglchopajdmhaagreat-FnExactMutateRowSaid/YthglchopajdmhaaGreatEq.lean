/- What the functions eq.. of package laws return for two values that read alike. No statement is proved here; no conditions. Written by a program (gen.py). -/
import Derived.Test.YthglchopajdmhaaGreatOwn
namespace Go.Proofs.YthglchopajdmhaaGreat
open Go.ChangeShapes Go.WideShapes Go.ChangeAt Go.RowKit Go.Deep
set_option maxRecDepth 100000
set_option linter.unusedVariables false

theorem eqIntS {w0 w : World} (hb : Below w0.heap.size w0 w) {b1 b2 : List Nat} {v1 v2 : Value} {xs : List Int} (h1 : IntSR w0 b1 [v1] xs) (h2 : IntSR w0 b2 [v2] xs) :
    Calls Tryz.prog 38 #[v1, v2] w fun e w' => e = .returned (.bool true) ∧ Below w.heap.size w w' := by
  obtain ⟨A, c, rfl, hlc, hcm, hel⟩ := h1.use
  obtain ⟨A', c', rfl, hlc', hcm', hel'⟩ := h2.use
  go_enter Tryz.func38, Tryz.ntmps38
  go_wp2
  go_loopw [5] (fun i wr => ∃ k : Nat, k ≤ xs.length ∧ i = .int .i64 k ∧ Below w.heap.size w wr) (fun i _ => xs.length - (intOf i).toNat)
  case atStart => exact ⟨0, Nat.zero_le _, rfl, Below.refl _ _⟩
  case round =>
    obtain ⟨k, hk, rfl, hbr⟩ := hrel
    by_cases hlt : k < xs.length
    · obtain ⟨b, o, bk, es, rfl, hbl, hcl, hcell, hR, _⟩ := hel k hlt
      obtain ⟨b', o', bk', es', rfl, hbl', hcl', hcell', hR', _⟩ := hel' k hlt
      have hbw := nxt hb hbr
      obtain ⟨_, hesx, _⟩ := hR
      subst hesx
      obtain ⟨_, hesy, _⟩ := hR'
      subst hesy
      have cx_0 := Fw.cell ((hbw.cell (p := ⟨b, _, none⟩) hbl).trans (hcell 0 _ rfl))
      have cy_0 := Fw.cell ((hbw.cell (p := ⟨b', _, none⟩) hbl').trans (hcell' 0 _ rfl))
      simp only [Nat.add_zero, Nat.mul_one] at cx_0 cy_0
      clear hcell hel hcl hcell' hel' hcl'
      go_wp2_with fail
      refine region_quiet (by kernel_rfl) (by kernel_rfl) ?_
      repeat (go_big_quiet_step (fail))
      refine wpQuiet_nil ?_; intro w1 hb1; clear cx_0 cy_0
      go_wp2_with fail
      go_roundw
      case rel => exact ⟨k + 1, hlt, by go_num, nxt hbr hb1⟩
      case measure => simp [intOf]; omega
    · obtain rfl : k = xs.length := by omega
      go_wp2
      go_ret
      exact ⟨rfl, hbr⟩
theorem eqAtom {w0 w : World} (hb : Below w0.heap.size w0 w) {b1 b2 : List Nat} {c1 c2 : List Value} {a : Atom} (h1 : AtomR w0 b1 c1 a) (h2 : AtomR w0 b2 c2 a) :
    Calls Tryz.prog 96 #[.agg c1.toArray, .agg c2.toArray] w fun e w' => e = .returned (.bool true) ∧ Below w.heap.size w w' := by
  obtain ⟨rfl, rfl, fx⟩ := h1
  obtain ⟨rfl, rfl, fy⟩ := h2
  clear fx fy
  have hl : ∀ (o1 o2 : Obj), Below w.heap.size w ((w.alloc o1).alloc o2) := fun o1 o2 => ((Below.refl _ _).alloc (Nat.le_refl _) _).alloc (by simp) _
  go_enter Tryz.func96, Tryz.ntmps96
  go_wp2
  go_ret
  exact ⟨rfl, (hl _ _)⟩
theorem eqAtomS {w0 w : World} (hb : Below w0.heap.size w0 w) {b1 b2 : List Nat} {v1 v2 : Value} {xs : List Atom} (h1 : AtomSR w0 b1 [v1] xs) (h2 : AtomSR w0 b2 [v2] xs) :
    Calls Tryz.prog 67 #[v1, v2] w fun e w' => e = .returned (.bool true) ∧ Below w.heap.size w w' := by
  obtain ⟨A, c, rfl, hlc, hcm, hel⟩ := h1.use
  obtain ⟨A', c', rfl, hlc', hcm', hel'⟩ := h2.use
  go_enter Tryz.func67, Tryz.ntmps67
  go_wp2
  go_loopw [5] (fun i wr => ∃ k : Nat, k ≤ xs.length ∧ i = .int .i64 k ∧ Below w.heap.size w wr) (fun i _ => xs.length - (intOf i).toNat)
  case atStart => exact ⟨0, Nat.zero_le _, rfl, Below.refl _ _⟩
  case round =>
    obtain ⟨k, hk, rfl, hbr⟩ := hrel
    by_cases hlt : k < xs.length
    · obtain ⟨b, o, bk, es, rfl, hbl, hcl, hcell, hR, _⟩ := hel k hlt
      obtain ⟨b', o', bk', es', rfl, hbl', hcl', hcell', hR', _⟩ := hel' k hlt
      have hbw := nxt hb hbr
      have Hx := hR
      obtain ⟨hbsx, hesx, _⟩ := hR
      subst hesx
      have Hy := hR'
      obtain ⟨hbsy, hesy, _⟩ := hR'
      subst hesy
      have cx_0 := Fw.cell ((hbw.cell (p := ⟨b, _, none⟩) hbl).trans (hcell 0 _ rfl))
      have cx_1 := Fw.cell ((hbw.cell (p := ⟨b, _, none⟩) hbl).trans (hcell 1 _ rfl))
      have cx_2 := Fw.cell ((hbw.cell (p := ⟨b, _, none⟩) hbl).trans (hcell 2 _ rfl))
      have cy_0 := Fw.cell ((hbw.cell (p := ⟨b', _, none⟩) hbl').trans (hcell' 0 _ rfl))
      have cy_1 := Fw.cell ((hbw.cell (p := ⟨b', _, none⟩) hbl').trans (hcell' 1 _ rfl))
      have cy_2 := Fw.cell ((hbw.cell (p := ⟨b', _, none⟩) hbl').trans (hcell' 2 _ rfl))
      simp only [Nat.add_zero] at cx_0 cx_1 cx_2 cy_0 cy_1 cy_2
      clear hcell hel hcl hcell' hel' hcl'
      go_wp2_with fail
      refine region_quiet (by kernel_rfl) (by kernel_rfl) ?_
      repeat (go_big_quiet_step ((go_at_call 96; exact quiet_of (eqAtom (hbw.trans (Below.mono (Fw.h _) hbw.size)) Hx Hy))))
      refine wpQuiet_nil ?_; intro w1 hb1; clear cx_0 cx_1 cx_2 cy_0 cy_1 cy_2
      go_wp2_with fail
      go_roundw
      case rel => exact ⟨k + 1, hlt, by go_num, nxt hbr hb1⟩
      case measure => simp [intOf]; omega
    · obtain rfl : k = xs.length := by omega
      go_wp2
      go_ret
      exact ⟨rfl, hbr⟩
theorem eqAtomSS {w0 w : World} (hb : Below w0.heap.size w0 w) {b1 b2 : List Nat} {v1 v2 : Value} {xs : List (List Atom)} (h1 : AtomSSR w0 b1 [v1] xs) (h2 : AtomSSR w0 b2 [v2] xs) :
    Calls Tryz.prog 36 #[v1, v2] w fun e w' => e = .returned (.bool true) ∧ Below w.heap.size w w' := by
  obtain ⟨A, c, rfl, hlc, hcm, hel⟩ := h1.use
  obtain ⟨A', c', rfl, hlc', hcm', hel'⟩ := h2.use
  go_enter Tryz.func36, Tryz.ntmps36
  go_wp2
  go_loopw [5] (fun i wr => ∃ k : Nat, k ≤ xs.length ∧ i = .int .i64 k ∧ Below w.heap.size w wr) (fun i _ => xs.length - (intOf i).toNat)
  case atStart => exact ⟨0, Nat.zero_le _, rfl, Below.refl _ _⟩
  case round =>
    obtain ⟨k, hk, rfl, hbr⟩ := hrel
    by_cases hlt : k < xs.length
    · obtain ⟨b, o, bk, es, rfl, hbl, hcl, hcell, hR, _⟩ := hel k hlt
      obtain ⟨b', o', bk', es', rfl, hbl', hcl', hcell', hR', _⟩ := hel' k hlt
      have hbw := nxt hb hbr
      have Hx := hR
      obtain ⟨Ax0, cx0, rfl⟩ : ∃ A0 c0, es = [.slice A0 xs[k].length c0] := by obtain ⟨A0, c0, h, _⟩ := hR; exact ⟨A0, c0, h⟩
      have Hy := hR'
      obtain ⟨Ay0, cy0, rfl⟩ : ∃ A0 c0, es' = [.slice A0 xs[k].length c0] := by obtain ⟨A0, c0, h, _⟩ := hR'; exact ⟨A0, c0, h⟩
      have cx_0 := Fw.cell ((hbw.cell (p := ⟨b, _, none⟩) hbl).trans (hcell 0 _ rfl))
      have cy_0 := Fw.cell ((hbw.cell (p := ⟨b', _, none⟩) hbl').trans (hcell' 0 _ rfl))
      simp only [Nat.add_zero, Nat.mul_one] at cx_0 cy_0
      clear hcell hel hcl hcell' hel' hcl'
      go_wp2_with fail
      refine region_quiet (by kernel_rfl) (by kernel_rfl) ?_
      repeat (go_big_quiet_step ((go_at_call 67; exact quiet_of (eqAtomS (hbw.trans (Below.mono (Fw.h _) hbw.size)) Hx Hy))))
      refine wpQuiet_nil ?_; intro w1 hb1; clear cx_0 cy_0
      go_wp2_with fail
      go_roundw
      case rel => exact ⟨k + 1, hlt, by go_num, nxt hbr hb1⟩
      case measure => simp [intOf]; omega
    · obtain rfl : k = xs.length := by omega
      go_wp2
      go_ret
      exact ⟨rfl, hbr⟩
theorem eqColumn {w0 w : World} (hb : Below w0.heap.size w0 w) {b1 b2 : List Nat} {c1 c2 : List Value} {a : Column} (h1 : ColumnR w0 b1 c1 a) (h2 : ColumnR w0 b2 c2 a) :
    Calls Tryz.prog 68 #[.agg c1.toArray, .agg c2.toArray] w fun e w' => e = .returned (.bool true) ∧ Below w.heap.size w w' := by
  obtain ⟨rfl, rfl, fx⟩ := h1
  obtain ⟨rfl, rfl, fy⟩ := h2
  clear fx fy
  have hl : ∀ (o1 o2 : Obj), Below w.heap.size w ((w.alloc o1).alloc o2) := fun o1 o2 => ((Below.refl _ _).alloc (Nat.le_refl _) _).alloc (by simp) _
  go_enter Tryz.func68, Tryz.ntmps68
  go_wp2
  go_ret
  exact ⟨rfl, (hl _ _)⟩
theorem eqColumnS {w0 w : World} (hb : Below w0.heap.size w0 w) {b1 b2 : List Nat} {v1 v2 : Value} {xs : List Column} (h1 : ColumnSR w0 b1 [v1] xs) (h2 : ColumnSR w0 b2 [v2] xs) :
    Calls Tryz.prog 37 #[v1, v2] w fun e w' => e = .returned (.bool true) ∧ Below w.heap.size w w' := by
  obtain ⟨A, c, rfl, hlc, hcm, hel⟩ := h1.use
  obtain ⟨A', c', rfl, hlc', hcm', hel'⟩ := h2.use
  go_enter Tryz.func37, Tryz.ntmps37
  go_wp2
  go_loopw [5] (fun i wr => ∃ k : Nat, k ≤ xs.length ∧ i = .int .i64 k ∧ Below w.heap.size w wr) (fun i _ => xs.length - (intOf i).toNat)
  case atStart => exact ⟨0, Nat.zero_le _, rfl, Below.refl _ _⟩
  case round =>
    obtain ⟨k, hk, rfl, hbr⟩ := hrel
    by_cases hlt : k < xs.length
    · obtain ⟨b, o, bk, es, rfl, hbl, hcl, hcell, hR, _⟩ := hel k hlt
      obtain ⟨b', o', bk', es', rfl, hbl', hcl', hcell', hR', _⟩ := hel' k hlt
      have hbw := nxt hb hbr
      have Hx := hR
      obtain ⟨hbsx, hesx, _⟩ := hR
      subst hesx
      have Hy := hR'
      obtain ⟨hbsy, hesy, _⟩ := hR'
      subst hesy
      have cx_0 := Fw.cell ((hbw.cell (p := ⟨b, _, none⟩) hbl).trans (hcell 0 _ rfl))
      have cx_1 := Fw.cell ((hbw.cell (p := ⟨b, _, none⟩) hbl).trans (hcell 1 _ rfl))
      have cx_2 := Fw.cell ((hbw.cell (p := ⟨b, _, none⟩) hbl).trans (hcell 2 _ rfl))
      have cx_3 := Fw.cell ((hbw.cell (p := ⟨b, _, none⟩) hbl).trans (hcell 3 _ rfl))
      have cx_4 := Fw.cell ((hbw.cell (p := ⟨b, _, none⟩) hbl).trans (hcell 4 _ rfl))
      have cx_5 := Fw.cell ((hbw.cell (p := ⟨b, _, none⟩) hbl).trans (hcell 5 _ rfl))
      have cx_6 := Fw.cell ((hbw.cell (p := ⟨b, _, none⟩) hbl).trans (hcell 6 _ rfl))
      have cx_7 := Fw.cell ((hbw.cell (p := ⟨b, _, none⟩) hbl).trans (hcell 7 _ rfl))
      have cy_0 := Fw.cell ((hbw.cell (p := ⟨b', _, none⟩) hbl').trans (hcell' 0 _ rfl))
      have cy_1 := Fw.cell ((hbw.cell (p := ⟨b', _, none⟩) hbl').trans (hcell' 1 _ rfl))
      have cy_2 := Fw.cell ((hbw.cell (p := ⟨b', _, none⟩) hbl').trans (hcell' 2 _ rfl))
      have cy_3 := Fw.cell ((hbw.cell (p := ⟨b', _, none⟩) hbl').trans (hcell' 3 _ rfl))
      have cy_4 := Fw.cell ((hbw.cell (p := ⟨b', _, none⟩) hbl').trans (hcell' 4 _ rfl))
      have cy_5 := Fw.cell ((hbw.cell (p := ⟨b', _, none⟩) hbl').trans (hcell' 5 _ rfl))
      have cy_6 := Fw.cell ((hbw.cell (p := ⟨b', _, none⟩) hbl').trans (hcell' 6 _ rfl))
      have cy_7 := Fw.cell ((hbw.cell (p := ⟨b', _, none⟩) hbl').trans (hcell' 7 _ rfl))
      simp only [Nat.add_zero] at cx_0 cx_1 cx_2 cx_3 cx_4 cx_5 cx_6 cx_7 cy_0 cy_1 cy_2 cy_3 cy_4 cy_5 cy_6 cy_7
      clear hcell hel hcl hcell' hel' hcl'
      go_wp2_with fail
      refine region_quiet (by kernel_rfl) (by kernel_rfl) ?_
      repeat (go_big_quiet_step ((go_at_call 68; exact quiet_of (eqColumn (hbw.trans (Below.mono (Fw.h _) hbw.size)) Hx Hy))))
      refine wpQuiet_nil ?_; intro w1 hb1; clear cx_0 cx_1 cx_2 cx_3 cx_4 cx_5 cx_6 cx_7 cy_0 cy_1 cy_2 cy_3 cy_4 cy_5 cy_6 cy_7
      go_wp2_with fail
      go_roundw
      case rel => exact ⟨k + 1, hlt, by go_num, nxt hbr hb1⟩
      case measure => simp [intOf]; omega
    · obtain rfl : k = xs.length := by omega
      go_wp2
      go_ret
      exact ⟨rfl, hbr⟩
theorem eqTable {w0 w : World} (hb : Below w0.heap.size w0 w) {b1 b2 : List Nat} {c1 c2 : List Value} {a : Table} (h1 : TableR w0 b1 c1 a) (h2 : TableR w0 b2 c2 a) :
    Calls Tryz.prog 13 #[.agg c1.toArray, .agg c2.toArray] w fun e w' => e = .returned (.bool true) ∧ Below w.heap.size w w' := by
  obtain ⟨vx1, bx1, vx2, bx2, rfl, rfl, fx, rx1, rx2⟩ := h1
  obtain ⟨vy1, by1, vy2, by2, rfl, rfl, fy, ry1, ry2⟩ := h2
  clear fx fy
  obtain ⟨Ax1, cx1, rfl, _, _, _⟩ := rx1.use
  obtain ⟨Ay1, cy1, rfl, _, _, _⟩ := ry1.use
  obtain ⟨Ax2, cx2, rfl, _, _, _⟩ := rx2.use
  obtain ⟨Ay2, cy2, rfl, _, _, _⟩ := ry2.use
  have hl : ∀ (o1 o2 : Obj), Below w.heap.size w ((w.alloc o1).alloc o2) := fun o1 o2 => ((Below.refl _ _).alloc (Nat.le_refl _) _).alloc (by simp) _
  go_enter Tryz.func13, Tryz.ntmps13
  go_wp2_with (first | (go_at_call 37; refine (eqColumnS ((hb.alloc hb.size _).alloc (by have := hb.size; simp; omega) _) rx1 ry1).mono ?_; rintro e w2 ⟨rfl, hb2⟩; obtain ⟨q2, p2⟩ := two_at hb2) | (go_at_call 38; refine (eqIntS (nxt ((hb.alloc hb.size _).alloc (by have := hb.size; simp; omega) _) hb2) rx2 ry2).mono ?_; rintro e w3 ⟨rfl, hb3⟩; have q3 := box_on q2 rfl hb3; have p3 := box_on p2 rfl hb3))
  go_ret
  exact ⟨rfl, (nxt' (nxt' (hl _ _) hb2) hb3 (by have := hb2.size; simp at this; omega))⟩
theorem eqRow {w0 w : World} (hb : Below w0.heap.size w0 w) {b1 b2 : List Nat} {c1 c2 : List Value} {a : Row} (h1 : RowR w0 b1 c1 a) (h2 : RowR w0 b2 c2 a) :
    Calls Tryz.prog 12 #[.agg c1.toArray, .agg c2.toArray] w fun e w' => e = .returned (.bool true) ∧ Below w.heap.size w w' := by
  obtain ⟨vx1, bx1, rfl, rfl, fx, rx1⟩ := h1
  obtain ⟨vy1, by1, rfl, rfl, fy, ry1⟩ := h2
  clear fx fy
  obtain ⟨Ax1, cx1, rfl, _, _, _⟩ := rx1.use
  obtain ⟨Ay1, cy1, rfl, _, _, _⟩ := ry1.use
  have hl : ∀ (o1 o2 : Obj), Below w.heap.size w ((w.alloc o1).alloc o2) := fun o1 o2 => ((Below.refl _ _).alloc (Nat.le_refl _) _).alloc (by simp) _
  go_enter Tryz.func12, Tryz.ntmps12
  go_wp2_with (first | (go_at_call 36; refine (eqAtomSS ((hb.alloc hb.size _).alloc (by have := hb.size; simp; omega) _) rx1 ry1).mono ?_; rintro e w2 ⟨rfl, hb2⟩; obtain ⟨q2, p2⟩ := two_at hb2))
  go_ret
  exact ⟨rfl, (nxt' (hl _ _) hb2)⟩
theorem eqMut {w0 w : World} (hb : Below w0.heap.size w0 w) {b1 b2 : List Nat} {c1 c2 : List Value} {a : Mut} (h1 : MutR w0 b1 c1 a) (h2 : MutR w0 b2 c2 a) :
    Calls Tryz.prog 39 #[.agg c1.toArray, .agg c2.toArray] w fun e w' => e = .returned (.bool true) ∧ Below w.heap.size w w' := by
  obtain ⟨vx2, bx2, rfl, rfl, fx, rx2⟩ := h1
  obtain ⟨vy2, by2, rfl, rfl, fy, ry2⟩ := h2
  clear fx fy
  obtain ⟨Ax2, cx2, rfl, _, _, _⟩ := rx2.use
  obtain ⟨Ay2, cy2, rfl, _, _, _⟩ := ry2.use
  have hl : ∀ (o1 o2 : Obj), Below w.heap.size w ((w.alloc o1).alloc o2) := fun o1 o2 => ((Below.refl _ _).alloc (Nat.le_refl _) _).alloc (by simp) _
  go_enter Tryz.func39, Tryz.ntmps39
  go_wp2_with (first | (go_at_call 67; refine (eqAtomS ((hb.alloc hb.size _).alloc (by have := hb.size; simp; omega) _) rx2 ry2).mono ?_; rintro e w3 ⟨rfl, hb3⟩; obtain ⟨q3, p3⟩ := two_at hb3))
  go_ret
  exact ⟨rfl, (nxt' (hl _ _) hb3)⟩
theorem eqMutS {w0 w : World} (hb : Below w0.heap.size w0 w) {b1 b2 : List Nat} {v1 v2 : Value} {xs : List Mut} (h1 : MutSR w0 b1 [v1] xs) (h2 : MutSR w0 b2 [v2] xs) :
    Calls Tryz.prog 14 #[v1, v2] w fun e w' => e = .returned (.bool true) ∧ Below w.heap.size w w' := by
  obtain ⟨A, c, rfl, hlc, hcm, hel⟩ := h1.use
  obtain ⟨A', c', rfl, hlc', hcm', hel'⟩ := h2.use
  go_enter Tryz.func14, Tryz.ntmps14
  go_wp2
  go_loopw [5] (fun i wr => ∃ k : Nat, k ≤ xs.length ∧ i = .int .i64 k ∧ Below w.heap.size w wr) (fun i _ => xs.length - (intOf i).toNat)
  case atStart => exact ⟨0, Nat.zero_le _, rfl, Below.refl _ _⟩
  case round =>
    obtain ⟨k, hk, rfl, hbr⟩ := hrel
    by_cases hlt : k < xs.length
    · obtain ⟨b, o, bk, es, rfl, hbl, hcl, hcell, hR, _⟩ := hel k hlt
      obtain ⟨b', o', bk', es', rfl, hbl', hcl', hcell', hR', _⟩ := hel' k hlt
      have hbw := nxt hb hbr
      have Hx := hR
      obtain ⟨vx2, bx2, hbsx, hesx, _, rx2⟩ := hR
      subst hesx
      obtain ⟨Ax2, cx2, rfl, _, _, _⟩ := rx2.use
      have Hy := hR'
      obtain ⟨vy2, by2, hbsy, hesy, _, ry2⟩ := hR'
      subst hesy
      obtain ⟨Ay2, cy2, rfl, _, _, _⟩ := ry2.use
      have cx_0 := Fw.cell ((hbw.cell (p := ⟨b, _, none⟩) hbl).trans (hcell 0 _ rfl))
      have cx_1 := Fw.cell ((hbw.cell (p := ⟨b, _, none⟩) hbl).trans (hcell 1 _ rfl))
      have cx_2 := Fw.cell ((hbw.cell (p := ⟨b, _, none⟩) hbl).trans (hcell 2 _ rfl))
      have cy_0 := Fw.cell ((hbw.cell (p := ⟨b', _, none⟩) hbl').trans (hcell' 0 _ rfl))
      have cy_1 := Fw.cell ((hbw.cell (p := ⟨b', _, none⟩) hbl').trans (hcell' 1 _ rfl))
      have cy_2 := Fw.cell ((hbw.cell (p := ⟨b', _, none⟩) hbl').trans (hcell' 2 _ rfl))
      simp only [Nat.add_zero] at cx_0 cx_1 cx_2 cy_0 cy_1 cy_2
      clear hcell hel hcl hcell' hel' hcl'
      go_wp2_with fail
      refine region_quiet (by kernel_rfl) (by kernel_rfl) ?_
      repeat (go_big_quiet_step ((go_at_call 39; exact quiet_of (eqMut (hbw.trans (Below.mono (Fw.h _) hbw.size)) Hx Hy))))
      refine wpQuiet_nil ?_; intro w1 hb1; clear cx_0 cx_1 cx_2 cy_0 cy_1 cy_2
      go_wp2_with fail
      go_roundw
      case rel => exact ⟨k + 1, hlt, by go_num, nxt hbr hb1⟩
      case measure => simp [intOf]; omega
    · obtain rfl : k = xs.length := by omega
      go_wp2
      go_ret
      exact ⟨rfl, hbr⟩
end Go.Proofs.YthglchopajdmhaaGreat
