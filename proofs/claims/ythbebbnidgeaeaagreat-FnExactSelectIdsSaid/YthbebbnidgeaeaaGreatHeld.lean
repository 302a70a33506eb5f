/- What the functions held.. of package laws return. No statement is proved here; no conditions. Written by a program (gen14.py). -/
import Derived.Test.YthbebbnidgeaeaaGreatMarkT
import Derived.Test.YthbebbnidgeaeaaGreatBox
namespace Go.Proofs.YthbebbnidgeaeaaGreat
open Go.ChangeShapes Go.WideShapes Go.ChangeAt Go.RowKit Go.Deep
set_option maxRecDepth 100000
set_option linter.unusedVariables false
set_option linter.unusedSimpArgs false

theorem hns (s : List UInt8) : (s != s) = false := by simp
theorem hni (n : Int) : (n != n) = false := by simp
theorem hnb (b : Bool) : (b != b) = false := by simp
set_option maxHeartbeats 4000000 in
theorem heldIntS {w0 w : World} (hb : Below w0.heap.size w0 w) {bs : List Nat} {v : Value} {xs : List Int} {k : Int} (h : IntSR w0 bs [v] (IntS.mark xs k)) (h0 : 0 < k) (h1 : k + IntS.wt xs ≤ 1099511627776) :
    Calls Tryz.prog 35 #[v, .int .i64 k] w fun e w' => e = .returned (.int .i64 (k + IntS.wt xs)) ∧ Below w.heap.size w w' := by
  unfold IntS.mark at h
  obtain ⟨A, c, hv, hlc, hcm, hel⟩ := h.use
  rw [mkUp_len] at hv hlc
  subst hv
  have hel := hide hel
  have htot : (xs.map (fun (_ : Int) => 1)).sum = IntS.wt xs := rfl
  have HT := hide htot
  clear htot h
  have qs := hns
  have qi := hni
  have qb := hnb
  go_enter Tryz.func35, Tryz.ntmps35
  go_wp2
  go_loopw [1, 5] (fun kk i wr => ∃ j : Nat, j ≤ xs.length ∧ i = .int .i64 j ∧ kk = .int .i64 (k + psum (fun (_ : Int) => 1) xs j) ∧ Below w.heap.size w wr) (fun _ i _ => xs.length - (intOf i).toNat)
  case atStart => exact ⟨0, Nat.zero_le _, rfl, by rw [psum_zero]; go_num, Below.refl _ _⟩
  case round =>
    obtain ⟨j, hj, rfl, rfl, hbr⟩ := hrel
    by_cases hlt : j < xs.length
    · obtain ⟨b, o, bk, es, rfl, hbl, hcl, hcell, hR, hbk⟩ := hel.out j (by rw [mkUp_len]; exact hlt)
      rw [mkUp_at _ hlt, if_pos hlt] at hR
      obtain ⟨_, hee, _⟩ := hR
      subst hee
      have hp := psum_succ (fun (_ : Int) => 1) xs j hlt
      have hp2 := psum_le (fun (_ : Int) => 1) xs (j + 1)
      have hp3 : k + (psum (fun (_ : Int) => 1) xs j : Int) + (1 : Int) ≤ 1099511627776 := by rw [HT.out] at hp2; omega
      have HP := hide hp; clear hp hp2
      have c_0 : World.cell? wr ⟨b, o + j, none⟩ = some (.int .i64 (k + psum (fun (_ : Int) => 1) xs j)) := by have hx := ((nxt hb hbr).cell (p := ⟨b, _, none⟩) hbl).trans (hcell 0 _ rfl); (try simp only [Nat.add_zero, Nat.mul_one] at hx); exact hx
      go_wp2_with fail
      go_roundw
      case rel => exact ⟨j + 1, hlt, by go_num, by rw [HP.out]; go_num, hbr⟩
      case measure => simp [intOf]; omega
    · obtain rfl : j = xs.length := by omega
      rw [psum_all]
      go_wp2
      go_ret
      exact ⟨by rw [HT.out]; rfl, hbr⟩
end Go.Proofs.YthbebbnidgeaeaaGreat
