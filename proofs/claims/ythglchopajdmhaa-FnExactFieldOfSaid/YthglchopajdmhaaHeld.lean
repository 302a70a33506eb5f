/- What the functions held.. of package laws return. No statement is proved here; no conditions. Written by a program (gen14.py). -/
import Derived.Test.YthglchopajdmhaaMarkT
import Derived.Test.YthglchopajdmhaaBox
namespace Go.Proofs.Ythglchopajdmhaa
open Go.ChangeShapes Go.WideShapes Go.ChangeAt Go.RowKit Go.Deep
set_option maxRecDepth 100000
set_option linter.unusedVariables false
set_option linter.unusedSimpArgs false

theorem hns (s : List UInt8) : (s != s) = false := by simp
theorem hni (n : Int) : (n != n) = false := by simp
theorem hnb (b : Bool) : (b != b) = false := by simp
set_option maxHeartbeats 4000000 in
theorem heldStringS {w0 w : World} (hb : Below w0.heap.size w0 w) {bs : List Nat} {v : Value} {xs : List ByteArray} {k : Int} (h : StringSR w0 bs [v] (StringS.mark xs k)) (h0 : 0 < k) (h1 : k + StringS.wt xs ≤ 1099511627776) :
    Calls Try.prog 63 #[v, .int .i64 k] w fun e w' => e = .returned (.int .i64 (k + StringS.wt xs)) ∧ Below w.heap.size w w' := by
  unfold StringS.mark at h
  obtain ⟨A, c, hv, hlc, hcm, hel⟩ := h.use
  rw [mkUp_len] at hv hlc
  subst hv
  have hel := hide hel
  have htot : (xs.map (fun (_ : ByteArray) => 1)).sum = StringS.wt xs := rfl
  have HT := hide htot
  clear htot h
  have qs := hns
  have qi := hni
  have qb := hnb
  go_enter Try.func63, Try.ntmps63
  go_wp2
  go_loopw [1, 5] (fun kk i wr => ∃ j : Nat, j ≤ xs.length ∧ i = .int .i64 j ∧ kk = .int .i64 (k + psum (fun (_ : ByteArray) => 1) xs j) ∧ Below w.heap.size w wr) (fun _ i _ => xs.length - (intOf i).toNat)
  case atStart => exact ⟨0, Nat.zero_le _, rfl, by rw [psum_zero]; go_num, Below.refl _ _⟩
  case round =>
    obtain ⟨j, hj, rfl, rfl, hbr⟩ := hrel
    by_cases hlt : j < xs.length
    · obtain ⟨b, o, bk, es, rfl, hbl, hcl, hcell, hR, hbk⟩ := hel.out j (by rw [mkUp_len]; exact hlt)
      rw [mkUp_at _ hlt, if_pos hlt] at hR
      obtain ⟨_, hee, _⟩ := hR
      subst hee
      have hp := psum_succ (fun (_ : ByteArray) => 1) xs j hlt
      have hp2 := psum_le (fun (_ : ByteArray) => 1) xs (j + 1)
      have hp3 : k + (psum (fun (_ : ByteArray) => 1) xs j : Int) + (1 : Int) ≤ 1099511627776 := by rw [HT.out] at hp2; omega
      have HP := hide hp; clear hp hp2
      have c_0 := Fw.cell (show World.cell? wr ⟨b, o + j, none⟩ = some (.string (mText (k + psum (fun (_ : ByteArray) => 1) xs j))) from by have hx := ((nxt hb hbr).cell (p := ⟨b, _, none⟩) hbl).trans (hcell 0 _ rfl); (try simp only [Nat.add_zero, Nat.mul_one] at hx); exact hx)
      go_wp2_with fail
      refine region_quiet (by kernel_rfl) (by kernel_rfl) ?_
      repeat (go_big_quiet_step ((go_at_call 72; exact quiet_of (markText (by omega) (by omega)))))
      refine wpQuiet_nil ?_; intro w1 hb1; clear c_0; have hw1 := nxt hbr hb1
      go_wp2_with fail
      go_roundw
      case rel => exact ⟨j + 1, hlt, by go_num, by rw [HP.out]; go_num, hw1⟩
      case measure => simp [intOf]; omega
    · obtain rfl : j = xs.length := by omega
      rw [psum_all]
      go_wp2
      go_ret
      exact ⟨by rw [HT.out]; rfl, hbr⟩
set_option maxHeartbeats 4000000 in
theorem heldAtomS {w0 w : World} (hb : Below w0.heap.size w0 w) {bs : List Nat} {v : Value} {xs : List Atom} {k : Int} (h : AtomSR w0 bs [v] (AtomS.mark xs k)) (h0 : 0 < k) (h1 : k + AtomS.wt xs ≤ 1099511627776) :
    Calls Try.prog 32 #[v, .int .i64 k] w fun e w' => e = .returned (.int .i64 (k + AtomS.wt xs)) ∧ Below w.heap.size w w' := by
  unfold AtomS.mark at h
  obtain ⟨A, c, hv, hlc, hcm, hel⟩ := h.use
  rw [mkUp_len] at hv hlc
  subst hv
  have hel := hide hel
  have htot : (xs.map Atom.wt).sum = AtomS.wt xs := rfl
  have HT := hide htot
  clear htot h
  have qs := hns
  have qi := hni
  have qb := hnb
  go_enter Try.func32, Try.ntmps32
  go_wp2
  go_loopw [1, 5] (fun kk i wr => ∃ j : Nat, j ≤ xs.length ∧ i = .int .i64 j ∧ kk = .int .i64 (k + psum Atom.wt xs j) ∧ Below w.heap.size w wr) (fun _ i _ => xs.length - (intOf i).toNat)
  case atStart => exact ⟨0, Nat.zero_le _, rfl, by rw [psum_zero]; go_num, Below.refl _ _⟩
  case round =>
    obtain ⟨j, hj, rfl, rfl, hbr⟩ := hrel
    by_cases hlt : j < xs.length
    · obtain ⟨b, o, bk, es, rfl, hbl, hcl, hcell, hR, hbk⟩ := hel.out j (by rw [mkUp_len]; exact hlt)
      rw [mkUp_at _ hlt, if_pos hlt] at hR
      obtain ⟨_, hee, _⟩ := hR
      subst hee
      have hp := psum_succ Atom.wt xs j hlt
      have hp2 := psum_le Atom.wt xs (j + 1)
      have hp3 : k + (psum Atom.wt xs j : Int) + (Atom.wt xs[j] : Int) ≤ 1099511627776 := by rw [HT.out] at hp2; omega
      have hwt : (Atom.wt xs[j] : Int) = 1 + 1 + 1 := by unfold Atom.wt; rfl
      rw [hwt] at hp3
      have HW := hide hwt; clear hwt
      have HP := hide hp; clear hp hp2
      have c_0 : World.cell? wr ⟨b, o + j * 3, none⟩ = some (.int .i64 (k + psum Atom.wt xs j)) := by have hx := ((nxt hb hbr).cell (p := ⟨b, _, none⟩) hbl).trans (hcell 0 _ rfl); (try simp only [Nat.add_zero] at hx); exact hx
      have c_1 : World.cell? wr ⟨b, o + j * 3 + 1, none⟩ = some (.int .i64 (k + psum Atom.wt xs j + 1)) := by have hx := ((nxt hb hbr).cell (p := ⟨b, _, none⟩) hbl).trans (hcell 1 _ rfl); (try simp only [Nat.add_zero] at hx); exact hx
      go_wp2_with fail
      clear c_0 c_1
      have c_2 := Fw.cell (show World.cell? wr ⟨b, o + j * 3 + 2, none⟩ = some (.string (mText (k + psum Atom.wt xs j + 1 + 1))) from by have hx := ((nxt hb hbr).cell (p := ⟨b, _, none⟩) hbl).trans (hcell 2 _ rfl); (try simp only [Nat.add_zero] at hx); exact hx)
      refine region_quiet (by kernel_rfl) (by kernel_rfl) ?_
      repeat (go_big_quiet_step ((go_at_call 72; exact quiet_of (markText (by omega) (by omega)))))
      refine wpQuiet_nil ?_; intro w1 hb1; clear c_2; have hw1 := nxt hbr hb1
      go_wp2_with fail
      go_roundw
      case rel => exact ⟨j + 1, hlt, by go_num, by rw [HP.out]; rw [show ((psum Atom.wt xs j + Atom.wt xs[j] : Nat) : Int) = psum Atom.wt xs j + (Atom.wt xs[j] : Int) from by simp, HW.out]; go_num, hw1⟩
      case measure => simp [intOf]; omega
    · obtain rfl : j = xs.length := by omega
      rw [psum_all]
      go_wp2
      go_ret
      exact ⟨by rw [HT.out]; rfl, hbr⟩
end Go.Proofs.Ythglchopajdmhaa
