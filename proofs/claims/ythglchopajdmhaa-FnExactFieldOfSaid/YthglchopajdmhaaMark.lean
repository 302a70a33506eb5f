/- What the functions mark.. of package laws write. No statement is proved here; no conditions. Written by a program (gen13.py). -/
import Derived.Test.YthglchopajdmhaaMarkT
namespace Go.Proofs.Ythglchopajdmhaa
open Go.ChangeShapes Go.WideShapes Go.ChangeAt Go.RowKit Go.Deep
set_option maxRecDepth 100000
set_option linter.unusedVariables false
set_option linter.unusedSimpArgs false

/-- A call that has written marks: what it returned, what the row reads as now. -/
def MkP {α : Type} (R : Rd α) (w : World) (lo : Nat) (bs : List Nat) (cs : List Value) (y : α) (n : Int) (e : Ending) (w' : World) : Prop := e = .returned (.int .i64 n) ∧ R w' bs cs y ∧ Fr lo w' bs ∧ Upd bs w w'
set_option maxHeartbeats 4000000 in
theorem markStringS {w : World} {lo : Nat} {bs : List Nat} {v : Value} {xs : List ByteArray} (h : StringSR w bs [v] xs) (hf : Fr lo w bs) {k : Int} (h0 : 0 < k) (h1 : k + StringS.wt xs ≤ 1099511627776) :
    Calls Try.prog 61 #[v, .int .i64 k] w (MkP StringSR w lo bs [v] (StringS.mark xs k) (k + StringS.wt xs)) := by
  have h00 := h
  obtain ⟨A, c, rfl, hlc, hcm, _⟩ := h.use
  have hs0 : Hid (StringSR w bs [.slice A xs.length c] (mkUp (fun (_ : ByteArray) (k : Int) => mText k) (fun (_ : ByteArray) => 1) xs k 0)) := by show StringSR w bs _ _; rw [mkUp_zero]; exact h00
  clear h h00
  have htot : (xs.map (fun (_ : ByteArray) => 1)).sum = StringS.wt xs := rfl
  have HT := hide htot
  clear htot
  go_enter Try.func61, Try.ntmps61
  go_wp2
  go_loopw [1, 5] (fun kk i wr => ∃ j : Nat, j ≤ xs.length ∧ i = .int .i64 j ∧ kk = .int .i64 (k + psum (fun (_ : ByteArray) => 1) xs j) ∧ Hid (StringSR wr bs [.slice A xs.length c] (mkUp (fun (_ : ByteArray) (k : Int) => mText k) (fun (_ : ByteArray) => 1) xs k j)) ∧ Fr lo wr bs ∧ Upd bs w wr) (fun _ i _ => xs.length - (intOf i).toNat)
  case atStart => exact ⟨0, Nat.zero_le _, rfl, by rw [psum_zero]; go_num, hs0, hf, Upd.refl _ _⟩
  case round =>
    clear hs0 hf
    obtain ⟨j, hj, rfl, rfl, hR, hF, hU⟩ := hrel
    by_cases hlt : j < xs.length
    · obtain ⟨b, o, bk, es, cur, ty, rfl, hcur, hbm, hbn, hsub, hes, hcell, hRe, hFk, hclose⟩ := SlR.at StrR.good hR.out hF (by rw [mkUp_len]; exact hlt)
      rw [mkUp_here _ hlt] at hRe
      simp only [Nat.mul_one] at hclose hcell
      have hclose := hide hclose
      obtain ⟨hbk, hee, _⟩ := hRe
      subst hee
      subst hbk
      have hsz : o + j + 1 ≤ cur.size := by have := (Array.getElem?_eq_some_iff.1 (hcell 0 _ rfl)).1; omega
      have hp := psum_succ (fun (_ : ByteArray) => 1) xs j hlt
      have hp2 := psum_le (fun (_ : ByteArray) => 1) xs (j + 1)
      have hp3 : k + (psum (fun (_ : ByteArray) => 1) xs j : Int) + (1 : Int) ≤ 1099511627776 := by rw [HT.out] at hp2; omega
      have HP := hide hp; clear hp hp2
      have fz := blk_free hcur
      obtain ⟨u0, s0⟩ := blk_cell hcur (j := o + j) (by (try simp); omega)
      go_wp2_with fail
      refine (markText (by omega) (by omega)).mono ?_; rintro e w1 ⟨rfl, hb1⟩
      have B1 := blk_on (hcur) hb1
      have fz := blk_free B1
      obtain ⟨u0, s0⟩ := blk_cell B1 (j := o + j) (by (try simp); omega)
      go_wp2_with fail
      have V := (((Upd.refl ([b]) wr).call hb1).set (p := ⟨b, o + j, none⟩) (by simp) rfl (.string (mText (k + psum (fun (_ : ByteArray) => 1) xs j))))
      have HU := ((hU.call hb1).set (p := ⟨b, o + j, none⟩) hbm rfl (.string (mText (k + psum (fun (_ : ByteArray) => 1) xs j))))
      have hfin := blk_set (B1) (o + j) (.string (mText (k + psum (fun (_ : ByteArray) => 1) xs j)))
      have hnew := hclose.out _ _ [.string (mText (k + psum (fun (_ : ByteArray) => 1) xs j))] (mText (k + psum (fun (_ : ByteArray) => 1) xs j)) V hfin rfl (fun j' u hu => match j', hu with
        | 0, hu => by simp only [List.getElem?_cons_zero, List.getElem?_cons_succ, Option.some.injEq] at hu; subst hu; exact Array.getElem?_setIfInBounds_self_of_lt (by (try simp); omega)
        | j' + 1, hu => by simp at hu) (fun p hp => by rw [Array.getElem?_setIfInBounds_ne (by omega)]) (⟨rfl, rfl, mText_size (by omega) (by omega)⟩)
      rw [← mkUp_succ _ _ _ hlt] at hnew
      have HN := hide hnew
      have HF := hF.upd V
      clear hnew
      go_roundw
      case rel => exact ⟨j + 1, hlt, by go_num, by rw [HP.out]; go_num, HN, HF, HU⟩
      case measure => simp [intOf]; omega
    · obtain rfl : j = xs.length := by omega
      rw [psum_all]
      go_wp2
      go_ret
      exact ⟨by rw [HT.out]; rfl, hR.out, hF, hU⟩
set_option maxHeartbeats 4000000 in
theorem markAtomS {w : World} {lo : Nat} {bs : List Nat} {v : Value} {xs : List Atom} (h : AtomSR w bs [v] xs) (hf : Fr lo w bs) {k : Int} (h0 : 0 < k) (h1 : k + AtomS.wt xs ≤ 1099511627776) :
    Calls Try.prog 31 #[v, .int .i64 k] w (MkP AtomSR w lo bs [v] (AtomS.mark xs k) (k + AtomS.wt xs)) := by
  have h00 := h
  obtain ⟨A, c, rfl, hlc, hcm, _⟩ := h.use
  have hs0 : Hid (AtomSR w bs [.slice A xs.length c] (mkUp Atom.mark Atom.wt xs k 0)) := by show AtomSR w bs _ _; rw [mkUp_zero]; exact h00
  clear h h00
  have htot : (xs.map Atom.wt).sum = AtomS.wt xs := rfl
  have HT := hide htot
  clear htot
  go_enter Try.func31, Try.ntmps31
  go_wp2
  go_loopw [1, 5] (fun kk i wr => ∃ j : Nat, j ≤ xs.length ∧ i = .int .i64 j ∧ kk = .int .i64 (k + psum Atom.wt xs j) ∧ Hid (AtomSR wr bs [.slice A xs.length c] (mkUp Atom.mark Atom.wt xs k j)) ∧ Fr lo wr bs ∧ Upd bs w wr) (fun _ i _ => xs.length - (intOf i).toNat)
  case atStart => exact ⟨0, Nat.zero_le _, rfl, by rw [psum_zero]; go_num, hs0, hf, Upd.refl _ _⟩
  case round =>
    clear hs0 hf
    obtain ⟨j, hj, rfl, rfl, hR, hF, hU⟩ := hrel
    by_cases hlt : j < xs.length
    · obtain ⟨b, o, bk, es, cur, ty, rfl, hcur, hbm, hbn, hsub, hes, hcell, hRe, hFk, hclose⟩ := SlR.at AtomR.good hR.out hF (by rw [mkUp_len]; exact hlt)
      rw [mkUp_here _ hlt] at hRe
      have hclose := hide hclose
      obtain ⟨hbk, hee, _⟩ := hRe
      subst hee
      subst hbk
      have hsz : o + j * 3 + 3 ≤ cur.size := by have := (Array.getElem?_eq_some_iff.1 (hcell 2 _ rfl)).1; omega
      have hp := psum_succ Atom.wt xs j hlt
      have hp2 := psum_le Atom.wt xs (j + 1)
      have hp3 : k + (psum Atom.wt xs j : Int) + (Atom.wt xs[j] : Int) ≤ 1099511627776 := by rw [HT.out] at hp2; omega
      have hwt : (Atom.wt xs[j] : Int) = 1 + 1 + 1 := by unfold Atom.wt; rfl
      rw [hwt] at hp3
      have HW := hide hwt; clear hwt
      have HP := hide hp; clear hp hp2
      have fz := blk_free hcur
      obtain ⟨u0, s0⟩ := blk_cell hcur (j := o + j * 3) (by (try simp); omega)
      obtain ⟨u1, s1⟩ := blk_cell hcur (j := o + j * 3 + 1) (by (try simp); omega)
      obtain ⟨u2, s2⟩ := blk_cell hcur (j := o + j * 3 + 2) (by (try simp); omega)
      go_wp2_with fail
      refine (markText (by omega) (by omega)).mono ?_; rintro e w1 ⟨rfl, hb1⟩
      have B1 := blk_on (blk_set (blk_set (hcur) (o + j * 3) (.int .i64 (k + psum Atom.wt xs j))) (o + j * 3 + 1) (.int .i64 (k + psum Atom.wt xs j + 1))) hb1
      have fz := blk_free B1
      obtain ⟨u2, s2⟩ := blk_cell B1 (j := o + j * 3 + 2) (by (try simp); omega)
      go_wp2_with fail
      have V := (((((Upd.refl ([b]) wr).set (p := ⟨b, o + j * 3, none⟩) (by simp) rfl (.int .i64 (k + psum Atom.wt xs j))).set (p := ⟨b, o + j * 3 + 1, none⟩) (by simp) rfl (.int .i64 (k + psum Atom.wt xs j + 1))).call hb1).set (p := ⟨b, o + j * 3 + 2, none⟩) (by simp) rfl (.string (mText (k + psum Atom.wt xs j + 1 + 1))))
      have HU := ((((hU.set (p := ⟨b, o + j * 3, none⟩) hbm rfl (.int .i64 (k + psum Atom.wt xs j))).set (p := ⟨b, o + j * 3 + 1, none⟩) hbm rfl (.int .i64 (k + psum Atom.wt xs j + 1))).call hb1).set (p := ⟨b, o + j * 3 + 2, none⟩) hbm rfl (.string (mText (k + psum Atom.wt xs j + 1 + 1))))
      have hfin := blk_set (B1) (o + j * 3 + 2) (.string (mText (k + psum Atom.wt xs j + 1 + 1)))
      have hnew := hclose.out _ _ [.int .i64 (k + psum Atom.wt xs j), .int .i64 (k + psum Atom.wt xs j + 1), .string (mText (k + psum Atom.wt xs j + 1 + 1))] (Atom.mark xs[j] (k + psum Atom.wt xs j)) V hfin rfl (fun j' u hu => match j', hu with
        | 0, hu => by simp only [List.getElem?_cons_zero, List.getElem?_cons_succ, Option.some.injEq] at hu; subst hu; rw [Array.getElem?_setIfInBounds_ne (by omega)]; rw [Array.getElem?_setIfInBounds_ne (by omega)]; exact Array.getElem?_setIfInBounds_self_of_lt (by (try simp); omega)
        | 1, hu => by simp only [List.getElem?_cons_zero, List.getElem?_cons_succ, Option.some.injEq] at hu; subst hu; rw [Array.getElem?_setIfInBounds_ne (by omega)]; exact Array.getElem?_setIfInBounds_self_of_lt (by (try simp); omega)
        | 2, hu => by simp only [List.getElem?_cons_zero, List.getElem?_cons_succ, Option.some.injEq] at hu; subst hu; exact Array.getElem?_setIfInBounds_self_of_lt (by (try simp); omega)
        | j' + 3, hu => by simp at hu) (fun p hp => by rw [Array.getElem?_setIfInBounds_ne (by omega)]; rw [Array.getElem?_setIfInBounds_ne (by omega)]; rw [Array.getElem?_setIfInBounds_ne (by omega)]) (⟨rfl, rfl, ⟨wf_mk (n := k + psum Atom.wt xs j) (by omega) (by omega), wf_mk (n := k + psum Atom.wt xs j + 1) (by omega) (by omega), mText_size (k := k + psum Atom.wt xs j + 1 + 1) (by omega) (by omega)⟩⟩)
      rw [← mkUp_succ _ _ _ hlt] at hnew
      have HN := hide hnew
      have HF := hF.upd V
      clear hnew
      go_roundw
      case rel => exact ⟨j + 1, hlt, by go_num, by rw [HP.out]; rw [show ((psum Atom.wt xs j + Atom.wt xs[j] : Nat) : Int) = psum Atom.wt xs j + (Atom.wt xs[j] : Int) from by simp, HW.out]; go_num, HN, HF, HU⟩
      case measure => simp [intOf]; omega
    · obtain rfl : j = xs.length := by omega
      rw [psum_all]
      go_wp2
      go_ret
      exact ⟨by rw [HT.out]; rfl, hR.out, hF, hU⟩
end Go.Proofs.Ythglchopajdmhaa
