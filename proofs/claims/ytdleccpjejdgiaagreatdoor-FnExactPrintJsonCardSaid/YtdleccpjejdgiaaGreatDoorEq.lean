/- What the functions eq.. of package laws return for two values that read alike. No statement is proved here; no conditions. Written by a program (gen.py). -/
import Derived.Test.YtdleccpjejdgiaaGreatDoorOwn
namespace Go.Proofs.YtdleccpjejdgiaaGreatDoor
open Go.ChangeShapes Go.WideShapes Go.ChangeAt Go.RowKit Go.Deep
set_option maxRecDepth 100000
set_option linter.unusedVariables false

theorem eqStringS {w0 w : World} (hb : Below w0.heap.size w0 w) {b1 b2 : List Nat} {v1 v2 : Value} {xs : List ByteArray} (h1 : StringSR w0 b1 [v1] xs) (h2 : StringSR w0 b2 [v2] xs) :
    Calls Tryz.prog 17 #[v1, v2] w fun e w' => e = .returned (.bool true) ∧ Below w.heap.size w w' := by
  obtain ⟨A, c, rfl, hlc, hcm, hel⟩ := h1.use
  obtain ⟨A', c', rfl, hlc', hcm', hel'⟩ := h2.use
  go_enter Tryz.func17, Tryz.ntmps17
  go_wp2
  go_loopw [5] (fun i wr => ∃ k : Nat, k ≤ xs.length ∧ i = .int .i64 k ∧ Below w.heap.size w wr) (fun i _ => xs.length - (intOf i).toNat)
  case atStart => exact ⟨0, Nat.zero_le _, rfl, Below.refl _ _⟩
  case round =>
    obtain ⟨k, hk, rfl, hbr⟩ := hrel
    by_cases hlt : k < xs.length
    · obtain ⟨b, o, bk, es, rfl, hbl, hcl, hcell, hR, _⟩ := hel k hlt
      obtain ⟨b', o', bk', es', rfl, hbl', hcl', hcell', hR', _⟩ := hel' k hlt
      have hbw := nxt hb hbr
      obtain ⟨_, hesx, _⟩ := hR
      subst hesx
      obtain ⟨_, hesy, _⟩ := hR'
      subst hesy
      have cx_0 := Fw.cell ((hbw.cell (p := ⟨b, _, none⟩) hbl).trans (hcell 0 _ rfl))
      have cy_0 := Fw.cell ((hbw.cell (p := ⟨b', _, none⟩) hbl').trans (hcell' 0 _ rfl))
      simp only [Nat.add_zero, Nat.mul_one] at cx_0 cy_0
      clear hcell hel hcl hcell' hel' hcl'
      go_wp2_with fail
      refine region_quiet (by kernel_rfl) (by kernel_rfl) ?_
      repeat (go_big_quiet_step (fail))
      refine wpQuiet_nil ?_; intro w1 hb1; clear cx_0 cy_0
      go_wp2_with fail
      go_roundw
      case rel => exact ⟨k + 1, hlt, by go_num, nxt hbr hb1⟩
      case measure => simp [intOf]; omega
    · obtain rfl : k = xs.length := by omega
      go_wp2
      go_ret
      exact ⟨rfl, hbr⟩
end Go.Proofs.YtdleccpjejdgiaaGreatDoor
