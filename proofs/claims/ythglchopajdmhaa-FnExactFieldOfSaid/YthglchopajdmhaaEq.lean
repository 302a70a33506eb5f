/- What the functions eq.. of package laws return for two values that read alike. No statement is proved here; no conditions. Written by a program (gen.py). -/
import Derived.Test.YthglchopajdmhaaOwn
namespace Go.Proofs.Ythglchopajdmhaa
open Go.ChangeShapes Go.WideShapes Go.ChangeAt Go.RowKit Go.Deep
set_option maxRecDepth 100000
set_option linter.unusedVariables false

theorem eqStringS {w0 w : World} (hb : Below w0.heap.size w0 w) {b1 b2 : List Nat} {v1 v2 : Value} {xs : List ByteArray} (h1 : StringSR w0 b1 [v1] xs) (h2 : StringSR w0 b2 [v2] xs) :
    Calls Try.prog 49 #[v1, v2] w fun e w' => e = .returned (.bool true) ∧ Below w.heap.size w w' := by
  obtain ⟨A, c, rfl, hlc, hcm, hel⟩ := h1.use
  obtain ⟨A', c', rfl, hlc', hcm', hel'⟩ := h2.use
  go_enter Try.func49, Try.ntmps49
  go_wp2
  go_loopw [5] (fun i wr => ∃ k : Nat, k ≤ xs.length ∧ i = .int .i64 k ∧ Below w.heap.size w wr) (fun i _ => xs.length - (intOf i).toNat)
  case atStart => exact ⟨0, Nat.zero_le _, rfl, Below.refl _ _⟩
  case round =>
    obtain ⟨k, hk, rfl, hbr⟩ := hrel
    by_cases hlt : k < xs.length
    · obtain ⟨b, o, bk, es, rfl, hbl, hcl, hcell, hR, _⟩ := hel k hlt
      obtain ⟨b', o', bk', es', rfl, hbl', hcl', hcell', hR', _⟩ := hel' k hlt
      have hbw := nxt hb hbr
      obtain ⟨_, hesx, _⟩ := hR
      subst hesx
      obtain ⟨_, hesy, _⟩ := hR'
      subst hesy
      have cx_0 := Fw.cell ((hbw.cell (p := ⟨b, _, none⟩) hbl).trans (hcell 0 _ rfl))
      have cy_0 := Fw.cell ((hbw.cell (p := ⟨b', _, none⟩) hbl').trans (hcell' 0 _ rfl))
      simp only [Nat.add_zero, Nat.mul_one] at cx_0 cy_0
      clear hcell hel hcl hcell' hel' hcl'
      go_wp2_with fail
      refine region_quiet (by kernel_rfl) (by kernel_rfl) ?_
      repeat (go_big_quiet_step (fail))
      refine wpQuiet_nil ?_; intro w1 hb1; clear cx_0 cy_0
      go_wp2_with fail
      go_roundw
      case rel => exact ⟨k + 1, hlt, by go_num, nxt hbr hb1⟩
      case measure => simp [intOf]; omega
    · obtain rfl : k = xs.length := by omega
      go_wp2
      go_ret
      exact ⟨rfl, hbr⟩
theorem eqAtom {w0 w : World} (hb : Below w0.heap.size w0 w) {b1 b2 : List Nat} {c1 c2 : List Value} {a : Atom} (h1 : AtomR w0 b1 c1 a) (h2 : AtomR w0 b2 c2 a) :
    Calls Try.prog 71 #[.agg c1.toArray, .agg c2.toArray] w fun e w' => e = .returned (.bool true) ∧ Below w.heap.size w w' := by
  obtain ⟨rfl, rfl, fx⟩ := h1
  obtain ⟨rfl, rfl, fy⟩ := h2
  clear fx fy
  have hl : ∀ (o1 o2 : Obj), Below w.heap.size w ((w.alloc o1).alloc o2) := fun o1 o2 => ((Below.refl _ _).alloc (Nat.le_refl _) _).alloc (by simp) _
  go_enter Try.func71, Try.ntmps71
  go_wp2
  go_ret
  exact ⟨rfl, (hl _ _)⟩
theorem eqAtomS {w0 w : World} (hb : Below w0.heap.size w0 w) {b1 b2 : List Nat} {v1 v2 : Value} {xs : List Atom} (h1 : AtomSR w0 b1 [v1] xs) (h2 : AtomSR w0 b2 [v2] xs) :
    Calls Try.prog 30 #[v1, v2] w fun e w' => e = .returned (.bool true) ∧ Below w.heap.size w w' := by
  obtain ⟨A, c, rfl, hlc, hcm, hel⟩ := h1.use
  obtain ⟨A', c', rfl, hlc', hcm', hel'⟩ := h2.use
  go_enter Try.func30, Try.ntmps30
  go_wp2
  go_loopw [5] (fun i wr => ∃ k : Nat, k ≤ xs.length ∧ i = .int .i64 k ∧ Below w.heap.size w wr) (fun i _ => xs.length - (intOf i).toNat)
  case atStart => exact ⟨0, Nat.zero_le _, rfl, Below.refl _ _⟩
  case round =>
    obtain ⟨k, hk, rfl, hbr⟩ := hrel
    by_cases hlt : k < xs.length
    · obtain ⟨b, o, bk, es, rfl, hbl, hcl, hcell, hR, _⟩ := hel k hlt
      obtain ⟨b', o', bk', es', rfl, hbl', hcl', hcell', hR', _⟩ := hel' k hlt
      have hbw := nxt hb hbr
      have Hx := hR
      obtain ⟨hbsx, hesx, _⟩ := hR
      subst hesx
      have Hy := hR'
      obtain ⟨hbsy, hesy, _⟩ := hR'
      subst hesy
      have cx_0 := Fw.cell ((hbw.cell (p := ⟨b, _, none⟩) hbl).trans (hcell 0 _ rfl))
      have cx_1 := Fw.cell ((hbw.cell (p := ⟨b, _, none⟩) hbl).trans (hcell 1 _ rfl))
      have cx_2 := Fw.cell ((hbw.cell (p := ⟨b, _, none⟩) hbl).trans (hcell 2 _ rfl))
      have cy_0 := Fw.cell ((hbw.cell (p := ⟨b', _, none⟩) hbl').trans (hcell' 0 _ rfl))
      have cy_1 := Fw.cell ((hbw.cell (p := ⟨b', _, none⟩) hbl').trans (hcell' 1 _ rfl))
      have cy_2 := Fw.cell ((hbw.cell (p := ⟨b', _, none⟩) hbl').trans (hcell' 2 _ rfl))
      simp only [Nat.add_zero] at cx_0 cx_1 cx_2 cy_0 cy_1 cy_2
      clear hcell hel hcl hcell' hel' hcl'
      go_wp2_with fail
      refine region_quiet (by kernel_rfl) (by kernel_rfl) ?_
      repeat (go_big_quiet_step ((go_at_call 71; exact quiet_of (eqAtom (hbw.trans (Below.mono (Fw.h _) hbw.size)) Hx Hy))))
      refine wpQuiet_nil ?_; intro w1 hb1; clear cx_0 cx_1 cx_2 cy_0 cy_1 cy_2
      go_wp2_with fail
      go_roundw
      case rel => exact ⟨k + 1, hlt, by go_num, nxt hbr hb1⟩
      case measure => simp [intOf]; omega
    · obtain rfl : k = xs.length := by omega
      go_wp2
      go_ret
      exact ⟨rfl, hbr⟩
theorem eqMut {w0 w : World} (hb : Below w0.heap.size w0 w) {b1 b2 : List Nat} {c1 c2 : List Value} {a : Mut} (h1 : MutR w0 b1 c1 a) (h2 : MutR w0 b2 c2 a) :
    Calls Try.prog 41 #[.agg c1.toArray, .agg c2.toArray] w fun e w' => e = .returned (.bool true) ∧ Below w.heap.size w w' := by
  obtain ⟨vx2, bx2, rfl, rfl, fx, rx2⟩ := h1
  obtain ⟨vy2, by2, rfl, rfl, fy, ry2⟩ := h2
  clear fx fy
  obtain ⟨Ax2, cx2, rfl, _, _, _⟩ := rx2.use
  obtain ⟨Ay2, cy2, rfl, _, _, _⟩ := ry2.use
  have hl : ∀ (o1 o2 : Obj), Below w.heap.size w ((w.alloc o1).alloc o2) := fun o1 o2 => ((Below.refl _ _).alloc (Nat.le_refl _) _).alloc (by simp) _
  go_enter Try.func41, Try.ntmps41
  go_wp2_with (first | (go_at_call 30; refine (eqAtomS ((hb.alloc hb.size _).alloc (by have := hb.size; simp; omega) _) rx2 ry2).mono ?_; rintro e w3 ⟨rfl, hb3⟩; obtain ⟨q3, p3⟩ := two_at hb3))
  go_ret
  exact ⟨rfl, (nxt' (hl _ _) hb3)⟩
end Go.Proofs.Ythglchopajdmhaa
