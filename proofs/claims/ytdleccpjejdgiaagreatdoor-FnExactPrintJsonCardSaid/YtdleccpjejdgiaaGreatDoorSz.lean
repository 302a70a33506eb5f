/- How much an argument holds: what the functions sz.. of package laws return. No statement is proved here; no conditions. Written by a program (gen.py). -/
import Derived.Test.YtdleccpjejdgiaaGreatDoorCodes
namespace Go.Proofs.YtdleccpjejdgiaaGreatDoor
open Go.ChangeShapes Go.WideShapes Go.ChangeAt Go.RowKit Go.Deep
set_option maxRecDepth 100000
set_option linter.unusedVariables false

theorem szStringS {w0 w : World} (hb : Below w0.heap.size w0 w) {bs : List Nat} {v : Value} {xs : List ByteArray} (ha : StringSR w0 bs [v] xs) {left : Int} (h0 : 0 ≤ left) (h1 : left ≤ 1048576) :
    Calls Tryz.prog 9 #[v, .int .i64 left] w fun e w' => e = .returned (.int .i64 (clip (left - StringS.bulk xs))) ∧ Below w.heap.size w w' := by
  obtain ⟨A, c, rfl, hlc, hcm, hel⟩ := ha.use
  by_cases hneg : left - xs.length < 0
  · have hfin : Hid (clip (left - StringS.bulk xs) = -1) := clip_neg (by unfold StringS.bulk bulkL; omega)
    go_enter Tryz.func9, Tryz.ntmps9
    go_wp2
    go_ret
    exact ⟨by rw [hfin.out]; rfl, Below.refl _ _⟩
  · go_enter Tryz.func9, Tryz.ntmps9
    go_wp2
    go_loopw [1, 5] (fun l i wr => ∃ k : Nat, k ≤ xs.length ∧ i = .int .i64 k ∧ psum (fun s : ByteArray => s.size) xs k ≤ left - xs.length ∧ l = .int .i64 (left - xs.length - psum (fun s : ByteArray => s.size) xs k) ∧ Below w.heap.size w wr) (fun _ i _ => xs.length - (intOf i).toNat)
    case atStart => exact ⟨0, Nat.zero_le _, rfl, by rw [psum_zero]; omega, by rw [psum_zero]; go_num, Below.refl _ _⟩
    case round =>
      obtain ⟨k, hk, rfl, hs, rfl, hbr⟩ := hrel
      by_cases hlt : k < xs.length
      · obtain ⟨b, o, bk, es, rfl, hbl, hcl, hcell, hR, hbk⟩ := hel k hlt
        obtain ⟨hbk', hes, hsz⟩ := hR
        subst hes
        have c_0 := ((nxt hb hbr).cell (p := ⟨b, _, none⟩) hbl).trans (hcell 0 _ rfl)
        simp only [Nat.add_zero, Nat.mul_one] at c_0
        clear hcell hel hcl
        have hp := psum_succ (fun s : ByteArray => s.size) xs k hlt
        have hp2 := psum_le (fun s : ByteArray => s.size) xs (k + 1)
        by_cases hneg2 : left - xs.length - psum (fun s : ByteArray => s.size) xs k - xs[k].size < 0
        · have H2 : Hid (clip (left - StringS.bulk xs) = -1) := clip_neg (by unfold StringS.bulk bulkL; omega)
          clear hp hp2
          go_wp2
          go_ret
          exact ⟨by rw [H2.out]; rfl, hbr⟩
        · have H := hide hp
          clear hp hp2
          go_wp2
          go_roundw
          case rel => exact ⟨k + 1, hlt, by go_num, by rw [H.out]; omega, by rw [H.out]; go_num, hbr⟩
          case measure => simp [intOf]; omega
      · obtain rfl : k = xs.length := by omega
        rw [psum_all] at hs ⊢
        have H2 : Hid (clip (left - StringS.bulk xs) = left - xs.length - (xs.map (fun s : ByteArray => s.size)).sum) := by show _ = _; unfold StringS.bulk bulkL; rw [clip_pos (by omega)]; omega
        go_wp2
        go_ret
        exact ⟨by rw [H2.out]; rfl, hbr⟩
end Go.Proofs.YtdleccpjejdgiaaGreatDoor
