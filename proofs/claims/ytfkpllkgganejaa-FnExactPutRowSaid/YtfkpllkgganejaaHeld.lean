/- What the functions held.. of package laws return. No statement is proved here; no conditions. Written by a program (gen14.py). -/
import Derived.Test.YtfkpllkgganejaaMarkT
import Derived.Test.YtfkpllkgganejaaBox
namespace Go.Proofs.Ytfkpllkgganejaa
open Go.ChangeShapes Go.WideShapes Go.ChangeAt Go.RowKit Go.Deep
set_option maxRecDepth 100000
set_option linter.unusedVariables false
set_option linter.unusedSimpArgs false

theorem hns (s : List UInt8) : (s != s) = false := by simp
theorem hni (n : Int) : (n != n) = false := by simp
theorem hnb (b : Bool) : (b != b) = false := by simp
set_option maxHeartbeats 4000000 in
theorem heldAtomS {w0 w : World} (hb : Below w0.heap.size w0 w) {bs : List Nat} {v : Value} {xs : List Atom} {k : Int} (h : AtomSR w0 bs [v] (AtomS.mark xs k)) (h0 : 0 < k) (h1 : k + AtomS.wt xs ≤ 1099511627776) :
    Calls Try.prog 65 #[v, .int .i64 k] w fun e w' => e = .returned (.int .i64 (k + AtomS.wt xs)) ∧ Below w.heap.size w w' := by
  unfold AtomS.mark at h
  obtain ⟨A, c, hv, hlc, hcm, hel⟩ := h.use
  rw [mkUp_len] at hv hlc
  subst hv
  have hel := hide hel
  have htot : (xs.map Atom.wt).sum = AtomS.wt xs := rfl
  have HT := hide htot
  clear htot h
  have qs := hns
  have qi := hni
  have qb := hnb
  go_enter Try.func65, Try.ntmps65
  go_wp2
  go_loopw [1, 5] (fun kk i wr => ∃ j : Nat, j ≤ xs.length ∧ i = .int .i64 j ∧ kk = .int .i64 (k + psum Atom.wt xs j) ∧ Below w.heap.size w wr) (fun _ i _ => xs.length - (intOf i).toNat)
  case atStart => exact ⟨0, Nat.zero_le _, rfl, by rw [psum_zero]; go_num, Below.refl _ _⟩
  case round =>
    obtain ⟨j, hj, rfl, rfl, hbr⟩ := hrel
    by_cases hlt : j < xs.length
    · obtain ⟨b, o, bk, es, rfl, hbl, hcl, hcell, hR, hbk⟩ := hel.out j (by rw [mkUp_len]; exact hlt)
      rw [mkUp_at _ hlt, if_pos hlt] at hR
      obtain ⟨_, hee, _⟩ := hR
      subst hee
      have hp := psum_succ Atom.wt xs j hlt
      have hp2 := psum_le Atom.wt xs (j + 1)
      have hp3 : k + (psum Atom.wt xs j : Int) + (Atom.wt xs[j] : Int) ≤ 1099511627776 := by rw [HT.out] at hp2; omega
      have hwt : (Atom.wt xs[j] : Int) = 1 + 1 + 1 := by unfold Atom.wt; rfl
      rw [hwt] at hp3
      have HW := hide hwt; clear hwt
      have HP := hide hp; clear hp hp2
      have c_0 : World.cell? wr ⟨b, o + j * 3, none⟩ = some (.int .i64 (k + psum Atom.wt xs j)) := by have hx := ((nxt hb hbr).cell (p := ⟨b, _, none⟩) hbl).trans (hcell 0 _ rfl); (try simp only [Nat.add_zero] at hx); exact hx
      have c_1 : World.cell? wr ⟨b, o + j * 3 + 1, none⟩ = some (.int .i64 (k + psum Atom.wt xs j + 1)) := by have hx := ((nxt hb hbr).cell (p := ⟨b, _, none⟩) hbl).trans (hcell 1 _ rfl); (try simp only [Nat.add_zero] at hx); exact hx
      go_wp2_with fail
      clear c_0 c_1
      have c_2 := Fw.cell (show World.cell? wr ⟨b, o + j * 3 + 2, none⟩ = some (.string (mText (k + psum Atom.wt xs j + 1 + 1))) from by have hx := ((nxt hb hbr).cell (p := ⟨b, _, none⟩) hbl).trans (hcell 2 _ rfl); (try simp only [Nat.add_zero] at hx); exact hx)
      refine region_quiet (by kernel_rfl) (by kernel_rfl) ?_
      repeat (go_big_quiet_step ((go_at_call 61; exact quiet_of (markText (by omega) (by omega)))))
      refine wpQuiet_nil ?_; intro w1 hb1; clear c_2; have hw1 := nxt hbr hb1
      go_wp2_with fail
      go_roundw
      case rel => exact ⟨j + 1, hlt, by go_num, by rw [HP.out]; rw [show ((psum Atom.wt xs j + Atom.wt xs[j] : Nat) : Int) = psum Atom.wt xs j + (Atom.wt xs[j] : Int) from by simp, HW.out]; go_num, hw1⟩
      case measure => simp [intOf]; omega
    · obtain rfl : j = xs.length := by omega
      rw [psum_all]
      go_wp2
      go_ret
      exact ⟨by rw [HT.out]; rfl, hbr⟩
set_option maxHeartbeats 4000000 in
theorem heldAtomSS {w0 w : World} (hb : Below w0.heap.size w0 w) {bs : List Nat} {v : Value} {xs : List (List Atom)} {k : Int} (h : AtomSSR w0 bs [v] (AtomSS.mark xs k)) (h0 : 0 < k) (h1 : k + AtomSS.wt xs ≤ 1099511627776) :
    Calls Try.prog 62 #[v, .int .i64 k] w fun e w' => e = .returned (.int .i64 (k + AtomSS.wt xs)) ∧ Below w.heap.size w w' := by
  unfold AtomSS.mark at h
  obtain ⟨A, c, hv, hlc, hcm, hel⟩ := h.use
  rw [mkUp_len] at hv hlc
  subst hv
  have hel := hide hel
  have htot : (xs.map AtomS.wt).sum = AtomSS.wt xs := rfl
  have HT := hide htot
  clear htot h
  have qs := hns
  have qi := hni
  have qb := hnb
  go_enter Try.func62, Try.ntmps62
  go_wp2
  go_loopw [1, 5] (fun kk i wr => ∃ j : Nat, j ≤ xs.length ∧ i = .int .i64 j ∧ kk = .int .i64 (k + psum AtomS.wt xs j) ∧ Below w.heap.size w wr) (fun _ i _ => xs.length - (intOf i).toNat)
  case atStart => exact ⟨0, Nat.zero_le _, rfl, by rw [psum_zero]; go_num, Below.refl _ _⟩
  case round =>
    obtain ⟨j, hj, rfl, rfl, hbr⟩ := hrel
    by_cases hlt : j < xs.length
    · obtain ⟨b, o, bk, es, rfl, hbl, hcl, hcell, hR, hbk⟩ := hel.out j (by rw [mkUp_len]; exact hlt)
      rw [mkUp_at _ hlt, if_pos hlt] at hR
      have rr0 := hide hR
      obtain ⟨D0, d0, hee, _⟩ := hR
      subst hee
      have hp := psum_succ AtomS.wt xs j hlt
      have hp2 := psum_le AtomS.wt xs (j + 1)
      have hp3 : k + (psum AtomS.wt xs j : Int) + (AtomS.wt xs[j] : Int) ≤ 1099511627776 := by rw [HT.out] at hp2; omega
      have HP := hide hp; clear hp hp2
      have c_0 : World.cell? wr ⟨b, o + j, none⟩ = some (.slice D0 (AtomS.mark xs[j] (k + psum AtomS.wt xs j)).length d0) := by have hx := ((nxt hb hbr).cell (p := ⟨b, _, none⟩) hbl).trans (hcell 0 _ rfl); (try simp only [Nat.add_zero, Nat.mul_one] at hx); exact hx
      go_wp2_with fail
      refine (heldAtomS (nxt hb hbr) rr0.out (by omega) (by omega)).mono ?_; rintro e w1 ⟨rfl, hb1⟩; clear c_0; have hw1 := nxt hbr hb1
      go_wp2_with fail
      go_roundw
      case rel => exact ⟨j + 1, hlt, by go_num, by rw [HP.out]; go_num, hw1⟩
      case measure => simp [intOf]; omega
    · obtain rfl : j = xs.length := by omega
      rw [psum_all]
      go_wp2
      go_ret
      exact ⟨by rw [HT.out]; rfl, hbr⟩
set_option maxHeartbeats 4000000 in
theorem heldRowS {w0 w : World} (hb : Below w0.heap.size w0 w) {bs : List Nat} {v : Value} {xs : List Row} {k : Int} (h : RowSR w0 bs [v] (RowS.mark xs k)) (h0 : 0 < k) (h1 : k + RowS.wt xs ≤ 1099511627776) :
    Calls Try.prog 51 #[v, .int .i64 k] w fun e w' => e = .returned (.int .i64 (k + RowS.wt xs)) ∧ Below w.heap.size w w' := by
  unfold RowS.mark at h
  obtain ⟨A, c, hv, hlc, hcm, hel⟩ := h.use
  rw [mkUp_len] at hv hlc
  subst hv
  have hel := hide hel
  have htot : (xs.map Row.wt).sum = RowS.wt xs := rfl
  have HT := hide htot
  clear htot h
  have qs := hns
  have qi := hni
  have qb := hnb
  go_enter Try.func51, Try.ntmps51
  go_wp2
  go_loopw [1, 5] (fun kk i wr => ∃ j : Nat, j ≤ xs.length ∧ i = .int .i64 j ∧ kk = .int .i64 (k + psum Row.wt xs j) ∧ Below w.heap.size w wr) (fun _ i _ => xs.length - (intOf i).toNat)
  case atStart => exact ⟨0, Nat.zero_le _, rfl, by rw [psum_zero]; go_num, Below.refl _ _⟩
  case round =>
    obtain ⟨j, hj, rfl, rfl, hbr⟩ := hrel
    by_cases hlt : j < xs.length
    · obtain ⟨b, o, bk, es, rfl, hbl, hcl, hcell, hR, hbk⟩ := hel.out j (by rw [mkUp_len]; exact hlt)
      rw [mkUp_at _ hlt, if_pos hlt] at hR
      obtain ⟨v1, b1, _, hee, _, r1⟩ := hR
      subst hee
      have rr1 := hide r1
      obtain ⟨D1, d1, rfl, _, _, _⟩ := r1.use
      have hp := psum_succ Row.wt xs j hlt
      have hp2 := psum_le Row.wt xs (j + 1)
      have hp3 : k + (psum Row.wt xs j : Int) + (Row.wt xs[j] : Int) ≤ 1099511627776 := by rw [HT.out] at hp2; omega
      have hwt : (Row.wt xs[j] : Int) = 1 + (AtomSS.wt xs[j].cells : Int) := by unfold Row.wt; simp
      rw [hwt] at hp3
      have HW := hide hwt; clear hwt
      have HP := hide hp; clear hp hp2
      have c_0 : World.cell? wr ⟨b, o + j * 2, none⟩ = some (.int .i64 (k + psum Row.wt xs j)) := by have hx := ((nxt hb hbr).cell (p := ⟨b, _, none⟩) hbl).trans (hcell 0 _ rfl); (try simp only [Nat.add_zero] at hx); exact hx
      have c_1 : World.cell? wr ⟨b, o + j * 2 + 1, none⟩ = some (.slice D1 (AtomSS.mark xs[j].cells (k + psum Row.wt xs j + 1)).length d1) := by have hx := ((nxt hb hbr).cell (p := ⟨b, _, none⟩) hbl).trans (hcell 1 _ rfl); (try simp only [Nat.add_zero] at hx); exact hx
      go_wp2_with fail
      refine (heldAtomSS (nxt hb hbr) rr1.out (by omega) (by omega)).mono ?_; rintro e w1 ⟨rfl, hb1⟩; clear c_0 c_1; have hw1 := nxt hbr hb1
      go_wp2_with fail
      go_roundw
      case rel => exact ⟨j + 1, hlt, by go_num, by rw [HP.out]; rw [show ((psum Row.wt xs j + Row.wt xs[j] : Nat) : Int) = psum Row.wt xs j + (Row.wt xs[j] : Int) from by simp, HW.out]; go_num, hw1⟩
      case measure => simp [intOf]; omega
    · obtain rfl : j = xs.length := by omega
      rw [psum_all]
      go_wp2
      go_ret
      exact ⟨by rw [HT.out]; rfl, hbr⟩
set_option maxHeartbeats 4000000 in
theorem heldRowSS {w0 w : World} (hb : Below w0.heap.size w0 w) {bs : List Nat} {v : Value} {xs : List (List Row)} {k : Int} (h : RowSSR w0 bs [v] (RowSS.mark xs k)) (h0 : 0 < k) (h1 : k + RowSS.wt xs ≤ 1099511627776) :
    Calls Try.prog 33 #[v, .int .i64 k] w fun e w' => e = .returned (.int .i64 (k + RowSS.wt xs)) ∧ Below w.heap.size w w' := by
  unfold RowSS.mark at h
  obtain ⟨A, c, hv, hlc, hcm, hel⟩ := h.use
  rw [mkUp_len] at hv hlc
  subst hv
  have hel := hide hel
  have htot : (xs.map RowS.wt).sum = RowSS.wt xs := rfl
  have HT := hide htot
  clear htot h
  have qs := hns
  have qi := hni
  have qb := hnb
  go_enter Try.func33, Try.ntmps33
  go_wp2
  go_loopw [1, 5] (fun kk i wr => ∃ j : Nat, j ≤ xs.length ∧ i = .int .i64 j ∧ kk = .int .i64 (k + psum RowS.wt xs j) ∧ Below w.heap.size w wr) (fun _ i _ => xs.length - (intOf i).toNat)
  case atStart => exact ⟨0, Nat.zero_le _, rfl, by rw [psum_zero]; go_num, Below.refl _ _⟩
  case round =>
    obtain ⟨j, hj, rfl, rfl, hbr⟩ := hrel
    by_cases hlt : j < xs.length
    · obtain ⟨b, o, bk, es, rfl, hbl, hcl, hcell, hR, hbk⟩ := hel.out j (by rw [mkUp_len]; exact hlt)
      rw [mkUp_at _ hlt, if_pos hlt] at hR
      have rr0 := hide hR
      obtain ⟨D0, d0, hee, _⟩ := hR
      subst hee
      have hp := psum_succ RowS.wt xs j hlt
      have hp2 := psum_le RowS.wt xs (j + 1)
      have hp3 : k + (psum RowS.wt xs j : Int) + (RowS.wt xs[j] : Int) ≤ 1099511627776 := by rw [HT.out] at hp2; omega
      have HP := hide hp; clear hp hp2
      have c_0 : World.cell? wr ⟨b, o + j, none⟩ = some (.slice D0 (RowS.mark xs[j] (k + psum RowS.wt xs j)).length d0) := by have hx := ((nxt hb hbr).cell (p := ⟨b, _, none⟩) hbl).trans (hcell 0 _ rfl); (try simp only [Nat.add_zero, Nat.mul_one] at hx); exact hx
      go_wp2_with fail
      refine (heldRowS (nxt hb hbr) rr0.out (by omega) (by omega)).mono ?_; rintro e w1 ⟨rfl, hb1⟩; clear c_0; have hw1 := nxt hbr hb1
      go_wp2_with fail
      go_roundw
      case rel => exact ⟨j + 1, hlt, by go_num, by rw [HP.out]; go_num, hw1⟩
      case measure => simp [intOf]; omega
    · obtain rfl : j = xs.length := by omega
      rw [psum_all]
      go_wp2
      go_ret
      exact ⟨by rw [HT.out]; rfl, hbr⟩
theorem heldVStore {w0 w : World} (hb : Below w0.heap.size w0 w) {bs : List Nat} {cs : List Value} {a : Store} {k : Int} (h : StoreR w0 bs cs (a.markV k)) (h0 : 0 < k) (h1 : k + a.wtV ≤ 1099511627776) :
    Calls Try.prog 14 #[.agg cs.toArray, .int .i64 k] w fun e w' => e = .returned (.int .i64 (k + a.wtV)) ∧ Below w.heap.size w w' := by
  obtain ⟨v0, b0, _, rfl, _, r0⟩ := h
  have rr0 := hide r0
  obtain ⟨D0, d0, rfl, _, _, _⟩ := r0.use
  have hw : (a.wtV : Int) = (RowSS.wt a.tables : Int) := by unfold Store.wtV; rfl
  rw [hw] at h1 ⊢
  clear hw
  have hB := (Below.refl w.heap.size w).alloc (Nat.le_refl _) (.cells #[.slice D0 (RowSS.mark a.tables (k)).length d0, .int .i64 a.next] 32)
  have hB0 := hb.alloc hb.size (.cells #[.slice D0 (RowSS.mark a.tables (k)).length d0, .int .i64 a.next] 32)
  have c0 := blk_cells (blk_new w #[.slice D0 (RowSS.mark a.tables (k)).length d0, .int .i64 a.next] 32)
  go_enter Try.func14, Try.ntmps14
  go_wp2_with fail
  refine (heldRowSS hB0 rr0.out (by omega) (by omega)).mono ?_; rintro e w0 ⟨rfl, hb0⟩; replace c0 := box_on c0 rfl hb0; have hw0 := nxt hB hb0; have hv0 := nxt hB0 hb0
  go_wp2_with fail
  go_ret
  exact ⟨by first | rfl | (rw [Int.add_assoc]), hw0⟩
end Go.Proofs.Ytfkpllkgganejaa
