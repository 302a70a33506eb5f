/- What the functions eq.. of package laws return for two values that read alike. No statement is proved here; no conditions. Written by a program (gen.py). -/
import Derived.Test.YtfkpllkgganejaaOwn
namespace Go.Proofs.Ytfkpllkgganejaa
open Go.ChangeShapes Go.WideShapes Go.ChangeAt Go.RowKit Go.Deep
set_option maxRecDepth 100000
set_option linter.unusedVariables false

theorem eqAtom {w0 w : World} (hb : Below w0.heap.size w0 w) {b1 b2 : List Nat} {c1 c2 : List Value} {a : Atom} (h1 : AtomR w0 b1 c1 a) (h2 : AtomR w0 b2 c2 a) :
    Calls Try.prog 60 #[.agg c1.toArray, .agg c2.toArray] w fun e w' => e = .returned (.bool true) ∧ Below w.heap.size w w' := by
  obtain ⟨rfl, rfl, fx⟩ := h1
  obtain ⟨rfl, rfl, fy⟩ := h2
  clear fx fy
  have hl : ∀ (o1 o2 : Obj), Below w.heap.size w ((w.alloc o1).alloc o2) := fun o1 o2 => ((Below.refl _ _).alloc (Nat.le_refl _) _).alloc (by simp) _
  go_enter Try.func60, Try.ntmps60
  go_wp2
  go_ret
  exact ⟨rfl, (hl _ _)⟩
theorem eqAtomS {w0 w : World} (hb : Below w0.heap.size w0 w) {b1 b2 : List Nat} {v1 v2 : Value} {xs : List Atom} (h1 : AtomSR w0 b1 [v1] xs) (h2 : AtomSR w0 b2 [v2] xs) :
    Calls Try.prog 48 #[v1, v2] w fun e w' => e = .returned (.bool true) ∧ Below w.heap.size w w' := by
  obtain ⟨A, c, rfl, hlc, hcm, hel⟩ := h1.use
  obtain ⟨A', c', rfl, hlc', hcm', hel'⟩ := h2.use
  go_enter Try.func48, Try.ntmps48
  go_wp2
  go_loopw [5] (fun i wr => ∃ k : Nat, k ≤ xs.length ∧ i = .int .i64 k ∧ Below w.heap.size w wr) (fun i _ => xs.length - (intOf i).toNat)
  case atStart => exact ⟨0, Nat.zero_le _, rfl, Below.refl _ _⟩
  case round =>
    obtain ⟨k, hk, rfl, hbr⟩ := hrel
    by_cases hlt : k < xs.length
    · obtain ⟨b, o, bk, es, rfl, hbl, hcl, hcell, hR, _⟩ := hel k hlt
      obtain ⟨b', o', bk', es', rfl, hbl', hcl', hcell', hR', _⟩ := hel' k hlt
      have hbw := nxt hb hbr
      have Hx := hR
      obtain ⟨hbsx, hesx, _⟩ := hR
      subst hesx
      have Hy := hR'
      obtain ⟨hbsy, hesy, _⟩ := hR'
      subst hesy
      have cx_0 := Fw.cell ((hbw.cell (p := ⟨b, _, none⟩) hbl).trans (hcell 0 _ rfl))
      have cx_1 := Fw.cell ((hbw.cell (p := ⟨b, _, none⟩) hbl).trans (hcell 1 _ rfl))
      have cx_2 := Fw.cell ((hbw.cell (p := ⟨b, _, none⟩) hbl).trans (hcell 2 _ rfl))
      have cy_0 := Fw.cell ((hbw.cell (p := ⟨b', _, none⟩) hbl').trans (hcell' 0 _ rfl))
      have cy_1 := Fw.cell ((hbw.cell (p := ⟨b', _, none⟩) hbl').trans (hcell' 1 _ rfl))
      have cy_2 := Fw.cell ((hbw.cell (p := ⟨b', _, none⟩) hbl').trans (hcell' 2 _ rfl))
      simp only [Nat.add_zero] at cx_0 cx_1 cx_2 cy_0 cy_1 cy_2
      clear hcell hel hcl hcell' hel' hcl'
      go_wp2_with fail
      refine region_quiet (by kernel_rfl) (by kernel_rfl) ?_
      repeat (go_big_quiet_step ((go_at_call 60; exact quiet_of (eqAtom (hbw.trans (Below.mono (Fw.h _) hbw.size)) Hx Hy))))
      refine wpQuiet_nil ?_; intro w1 hb1; clear cx_0 cx_1 cx_2 cy_0 cy_1 cy_2
      go_wp2_with fail
      go_roundw
      case rel => exact ⟨k + 1, hlt, by go_num, nxt hbr hb1⟩
      case measure => simp [intOf]; omega
    · obtain rfl : k = xs.length := by omega
      go_wp2
      go_ret
      exact ⟨rfl, hbr⟩
theorem eqAtomSS {w0 w : World} (hb : Below w0.heap.size w0 w) {b1 b2 : List Nat} {v1 v2 : Value} {xs : List (List Atom)} (h1 : AtomSSR w0 b1 [v1] xs) (h2 : AtomSSR w0 b2 [v2] xs) :
    Calls Try.prog 30 #[v1, v2] w fun e w' => e = .returned (.bool true) ∧ Below w.heap.size w w' := by
  obtain ⟨A, c, rfl, hlc, hcm, hel⟩ := h1.use
  obtain ⟨A', c', rfl, hlc', hcm', hel'⟩ := h2.use
  go_enter Try.func30, Try.ntmps30
  go_wp2
  go_loopw [5] (fun i wr => ∃ k : Nat, k ≤ xs.length ∧ i = .int .i64 k ∧ Below w.heap.size w wr) (fun i _ => xs.length - (intOf i).toNat)
  case atStart => exact ⟨0, Nat.zero_le _, rfl, Below.refl _ _⟩
  case round =>
    obtain ⟨k, hk, rfl, hbr⟩ := hrel
    by_cases hlt : k < xs.length
    · obtain ⟨b, o, bk, es, rfl, hbl, hcl, hcell, hR, _⟩ := hel k hlt
      obtain ⟨b', o', bk', es', rfl, hbl', hcl', hcell', hR', _⟩ := hel' k hlt
      have hbw := nxt hb hbr
      have Hx := hR
      obtain ⟨Ax0, cx0, rfl⟩ : ∃ A0 c0, es = [.slice A0 xs[k].length c0] := by obtain ⟨A0, c0, h, _⟩ := hR; exact ⟨A0, c0, h⟩
      have Hy := hR'
      obtain ⟨Ay0, cy0, rfl⟩ : ∃ A0 c0, es' = [.slice A0 xs[k].length c0] := by obtain ⟨A0, c0, h, _⟩ := hR'; exact ⟨A0, c0, h⟩
      have cx_0 := Fw.cell ((hbw.cell (p := ⟨b, _, none⟩) hbl).trans (hcell 0 _ rfl))
      have cy_0 := Fw.cell ((hbw.cell (p := ⟨b', _, none⟩) hbl').trans (hcell' 0 _ rfl))
      simp only [Nat.add_zero, Nat.mul_one] at cx_0 cy_0
      clear hcell hel hcl hcell' hel' hcl'
      go_wp2_with fail
      refine region_quiet (by kernel_rfl) (by kernel_rfl) ?_
      repeat (go_big_quiet_step ((go_at_call 48; exact quiet_of (eqAtomS (hbw.trans (Below.mono (Fw.h _) hbw.size)) Hx Hy))))
      refine wpQuiet_nil ?_; intro w1 hb1; clear cx_0 cy_0
      go_wp2_with fail
      go_roundw
      case rel => exact ⟨k + 1, hlt, by go_num, nxt hbr hb1⟩
      case measure => simp [intOf]; omega
    · obtain rfl : k = xs.length := by omega
      go_wp2
      go_ret
      exact ⟨rfl, hbr⟩
theorem eqRow {w0 w : World} (hb : Below w0.heap.size w0 w) {b1 b2 : List Nat} {c1 c2 : List Value} {a : Row} (h1 : RowR w0 b1 c1 a) (h2 : RowR w0 b2 c2 a) :
    Calls Try.prog 11 #[.agg c1.toArray, .agg c2.toArray] w fun e w' => e = .returned (.bool true) ∧ Below w.heap.size w w' := by
  obtain ⟨vx1, bx1, rfl, rfl, fx, rx1⟩ := h1
  obtain ⟨vy1, by1, rfl, rfl, fy, ry1⟩ := h2
  clear fx fy
  obtain ⟨Ax1, cx1, rfl, _, _, _⟩ := rx1.use
  obtain ⟨Ay1, cy1, rfl, _, _, _⟩ := ry1.use
  have hl : ∀ (o1 o2 : Obj), Below w.heap.size w ((w.alloc o1).alloc o2) := fun o1 o2 => ((Below.refl _ _).alloc (Nat.le_refl _) _).alloc (by simp) _
  go_enter Try.func11, Try.ntmps11
  go_wp2_with (first | (go_at_call 30; refine (eqAtomSS ((hb.alloc hb.size _).alloc (by have := hb.size; simp; omega) _) rx1 ry1).mono ?_; rintro e w2 ⟨rfl, hb2⟩; obtain ⟨q2, p2⟩ := two_at hb2))
  go_ret
  exact ⟨rfl, (nxt' (hl _ _) hb2)⟩
theorem eqRowS {w0 w : World} (hb : Below w0.heap.size w0 w) {b1 b2 : List Nat} {v1 v2 : Value} {xs : List Row} (h1 : RowSR w0 b1 [v1] xs) (h2 : RowSR w0 b2 [v2] xs) :
    Calls Try.prog 47 #[v1, v2] w fun e w' => e = .returned (.bool true) ∧ Below w.heap.size w w' := by
  obtain ⟨A, c, rfl, hlc, hcm, hel⟩ := h1.use
  obtain ⟨A', c', rfl, hlc', hcm', hel'⟩ := h2.use
  go_enter Try.func47, Try.ntmps47
  go_wp2
  go_loopw [5] (fun i wr => ∃ k : Nat, k ≤ xs.length ∧ i = .int .i64 k ∧ Below w.heap.size w wr) (fun i _ => xs.length - (intOf i).toNat)
  case atStart => exact ⟨0, Nat.zero_le _, rfl, Below.refl _ _⟩
  case round =>
    obtain ⟨k, hk, rfl, hbr⟩ := hrel
    by_cases hlt : k < xs.length
    · obtain ⟨b, o, bk, es, rfl, hbl, hcl, hcell, hR, _⟩ := hel k hlt
      obtain ⟨b', o', bk', es', rfl, hbl', hcl', hcell', hR', _⟩ := hel' k hlt
      have hbw := nxt hb hbr
      have Hx := hR
      obtain ⟨vx1, bx1, hbsx, hesx, _, rx1⟩ := hR
      subst hesx
      obtain ⟨Ax1, cx1, rfl, _, _, _⟩ := rx1.use
      have Hy := hR'
      obtain ⟨vy1, by1, hbsy, hesy, _, ry1⟩ := hR'
      subst hesy
      obtain ⟨Ay1, cy1, rfl, _, _, _⟩ := ry1.use
      have cx_0 := Fw.cell ((hbw.cell (p := ⟨b, _, none⟩) hbl).trans (hcell 0 _ rfl))
      have cx_1 := Fw.cell ((hbw.cell (p := ⟨b, _, none⟩) hbl).trans (hcell 1 _ rfl))
      have cy_0 := Fw.cell ((hbw.cell (p := ⟨b', _, none⟩) hbl').trans (hcell' 0 _ rfl))
      have cy_1 := Fw.cell ((hbw.cell (p := ⟨b', _, none⟩) hbl').trans (hcell' 1 _ rfl))
      simp only [Nat.add_zero] at cx_0 cx_1 cy_0 cy_1
      clear hcell hel hcl hcell' hel' hcl'
      go_wp2_with fail
      refine region_quiet (by kernel_rfl) (by kernel_rfl) ?_
      repeat (go_big_quiet_step ((go_at_call 11; exact quiet_of (eqRow (hbw.trans (Below.mono (Fw.h _) hbw.size)) Hx Hy))))
      refine wpQuiet_nil ?_; intro w1 hb1; clear cx_0 cx_1 cy_0 cy_1
      go_wp2_with fail
      go_roundw
      case rel => exact ⟨k + 1, hlt, by go_num, nxt hbr hb1⟩
      case measure => simp [intOf]; omega
    · obtain rfl : k = xs.length := by omega
      go_wp2
      go_ret
      exact ⟨rfl, hbr⟩
theorem eqRowSS {w0 w : World} (hb : Below w0.heap.size w0 w) {b1 b2 : List Nat} {v1 v2 : Value} {xs : List (List Row)} (h1 : RowSSR w0 b1 [v1] xs) (h2 : RowSSR w0 b2 [v2] xs) :
    Calls Try.prog 29 #[v1, v2] w fun e w' => e = .returned (.bool true) ∧ Below w.heap.size w w' := by
  obtain ⟨A, c, rfl, hlc, hcm, hel⟩ := h1.use
  obtain ⟨A', c', rfl, hlc', hcm', hel'⟩ := h2.use
  go_enter Try.func29, Try.ntmps29
  go_wp2
  go_loopw [5] (fun i wr => ∃ k : Nat, k ≤ xs.length ∧ i = .int .i64 k ∧ Below w.heap.size w wr) (fun i _ => xs.length - (intOf i).toNat)
  case atStart => exact ⟨0, Nat.zero_le _, rfl, Below.refl _ _⟩
  case round =>
    obtain ⟨k, hk, rfl, hbr⟩ := hrel
    by_cases hlt : k < xs.length
    · obtain ⟨b, o, bk, es, rfl, hbl, hcl, hcell, hR, _⟩ := hel k hlt
      obtain ⟨b', o', bk', es', rfl, hbl', hcl', hcell', hR', _⟩ := hel' k hlt
      have hbw := nxt hb hbr
      have Hx := hR
      obtain ⟨Ax0, cx0, rfl⟩ : ∃ A0 c0, es = [.slice A0 xs[k].length c0] := by obtain ⟨A0, c0, h, _⟩ := hR; exact ⟨A0, c0, h⟩
      have Hy := hR'
      obtain ⟨Ay0, cy0, rfl⟩ : ∃ A0 c0, es' = [.slice A0 xs[k].length c0] := by obtain ⟨A0, c0, h, _⟩ := hR'; exact ⟨A0, c0, h⟩
      have cx_0 := Fw.cell ((hbw.cell (p := ⟨b, _, none⟩) hbl).trans (hcell 0 _ rfl))
      have cy_0 := Fw.cell ((hbw.cell (p := ⟨b', _, none⟩) hbl').trans (hcell' 0 _ rfl))
      simp only [Nat.add_zero, Nat.mul_one] at cx_0 cy_0
      clear hcell hel hcl hcell' hel' hcl'
      go_wp2_with fail
      refine region_quiet (by kernel_rfl) (by kernel_rfl) ?_
      repeat (go_big_quiet_step ((go_at_call 47; exact quiet_of (eqRowS (hbw.trans (Below.mono (Fw.h _) hbw.size)) Hx Hy))))
      refine wpQuiet_nil ?_; intro w1 hb1; clear cx_0 cy_0
      go_wp2_with fail
      go_roundw
      case rel => exact ⟨k + 1, hlt, by go_num, nxt hbr hb1⟩
      case measure => simp [intOf]; omega
    · obtain rfl : k = xs.length := by omega
      go_wp2
      go_ret
      exact ⟨rfl, hbr⟩
theorem eqStore {w0 w : World} (hb : Below w0.heap.size w0 w) {b1 b2 : List Nat} {c1 c2 : List Value} {a : Store} (h1 : StoreR w0 b1 c1 a) (h2 : StoreR w0 b2 c2 a) :
    Calls Try.prog 10 #[.agg c1.toArray, .agg c2.toArray] w fun e w' => e = .returned (.bool true) ∧ Below w.heap.size w w' := by
  obtain ⟨vx0, bx0, rfl, rfl, fx, rx0⟩ := h1
  obtain ⟨vy0, by0, rfl, rfl, fy, ry0⟩ := h2
  clear fx fy
  obtain ⟨Ax0, cx0, rfl, _, _, _⟩ := rx0.use
  obtain ⟨Ay0, cy0, rfl, _, _, _⟩ := ry0.use
  have hl : ∀ (o1 o2 : Obj), Below w.heap.size w ((w.alloc o1).alloc o2) := fun o1 o2 => ((Below.refl _ _).alloc (Nat.le_refl _) _).alloc (by simp) _
  go_enter Try.func10, Try.ntmps10
  go_wp2_with (first | (go_at_call 29; refine (eqRowSS ((hb.alloc hb.size _).alloc (by have := hb.size; simp; omega) _) rx0 ry0).mono ?_; rintro e w1 ⟨rfl, hb1⟩; obtain ⟨q1, p1⟩ := two_at hb1))
  go_ret
  exact ⟨rfl, (nxt' (hl _ _) hb1)⟩
end Go.Proofs.Ytfkpllkgganejaa
