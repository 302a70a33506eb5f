/- What the functions mark.. of package laws write. No statement is proved here; no conditions. Written by a program (gen13.py). -/
import Derived.Test.YthglchopajdmhaaGreatMarkT
namespace Go.Proofs.YthglchopajdmhaaGreat
open Go.ChangeShapes Go.WideShapes Go.ChangeAt Go.RowKit Go.Deep
set_option maxRecDepth 100000
set_option linter.unusedVariables false
set_option linter.unusedSimpArgs false

/-- A call that has written marks: what it returned, what the row reads as now. -/
def MkP {α : Type} (R : Rd α) (w : World) (lo : Nat) (bs : List Nat) (cs : List Value) (y : α) (n : Int) (e : Ending) (w' : World) : Prop := e = .returned (.int .i64 n) ∧ R w' bs cs y ∧ Fr lo w' bs ∧ Upd bs w w'
set_option maxHeartbeats 4000000 in
theorem markIntS {w : World} {lo : Nat} {bs : List Nat} {v : Value} {xs : List Int} (h : IntSR w bs [v] xs) (hf : Fr lo w bs) {k : Int} (h0 : 0 < k) (h1 : k + IntS.wt xs ≤ 1099511627776) :
    Calls Tryz.prog 41 #[v, .int .i64 k] w (MkP IntSR w lo bs [v] (IntS.mark xs k) (k + IntS.wt xs)) := by
  have h00 := h
  obtain ⟨A, c, rfl, hlc, hcm, _⟩ := h.use
  have hs0 : Hid (IntSR w bs [.slice A xs.length c] (mkUp (fun (_ : Int) (k : Int) => k) (fun (_ : Int) => 1) xs k 0)) := by show IntSR w bs _ _; rw [mkUp_zero]; exact h00
  clear h h00
  have htot : (xs.map (fun (_ : Int) => 1)).sum = IntS.wt xs := rfl
  have HT := hide htot
  clear htot
  go_enter Tryz.func41, Tryz.ntmps41
  go_wp2
  go_loopw [1, 5] (fun kk i wr => ∃ j : Nat, j ≤ xs.length ∧ i = .int .i64 j ∧ kk = .int .i64 (k + psum (fun (_ : Int) => 1) xs j) ∧ Hid (IntSR wr bs [.slice A xs.length c] (mkUp (fun (_ : Int) (k : Int) => k) (fun (_ : Int) => 1) xs k j)) ∧ Fr lo wr bs ∧ Upd bs w wr) (fun _ i _ => xs.length - (intOf i).toNat)
  case atStart => exact ⟨0, Nat.zero_le _, rfl, by rw [psum_zero]; go_num, hs0, hf, Upd.refl _ _⟩
  case round =>
    clear hs0 hf
    obtain ⟨j, hj, rfl, rfl, hR, hF, hU⟩ := hrel
    by_cases hlt : j < xs.length
    · obtain ⟨b, o, bk, es, cur, ty, rfl, hcur, hbm, hbn, hsub, hes, hcell, hRe, hFk, hclose⟩ := SlR.at IntR.good hR.out hF (by rw [mkUp_len]; exact hlt)
      rw [mkUp_here _ hlt] at hRe
      simp only [Nat.mul_one] at hclose hcell
      have hclose := hide hclose
      obtain ⟨hbk, hee, _⟩ := hRe
      subst hee
      subst hbk
      have hsz : o + j + 1 ≤ cur.size := by have := (Array.getElem?_eq_some_iff.1 (hcell 0 _ rfl)).1; omega
      have hp := psum_succ (fun (_ : Int) => 1) xs j hlt
      have hp2 := psum_le (fun (_ : Int) => 1) xs (j + 1)
      have hp3 : k + (psum (fun (_ : Int) => 1) xs j : Int) + (1 : Int) ≤ 1099511627776 := by rw [HT.out] at hp2; omega
      have HP := hide hp; clear hp hp2
      have fz := blk_free hcur
      obtain ⟨u0, s0⟩ := blk_cell hcur (j := o + j) (by (try simp); omega)
      go_wp2_with fail
      have V := ((Upd.refl ([b]) wr).set (p := ⟨b, o + j, none⟩) (by simp) rfl (.int .i64 (k + psum (fun (_ : Int) => 1) xs j)))
      have HU := (hU.set (p := ⟨b, o + j, none⟩) hbm rfl (.int .i64 (k + psum (fun (_ : Int) => 1) xs j)))
      have hfin := blk_set (hcur) (o + j) (.int .i64 (k + psum (fun (_ : Int) => 1) xs j))
      have hnew := hclose.out _ _ [.int .i64 (k + psum (fun (_ : Int) => 1) xs j)] (k + psum (fun (_ : Int) => 1) xs j) V hfin rfl (fun j' u hu => match j', hu with
        | 0, hu => by simp only [List.getElem?_cons_zero, List.getElem?_cons_succ, Option.some.injEq] at hu; subst hu; exact Array.getElem?_setIfInBounds_self_of_lt (by (try simp); omega)
        | j' + 1, hu => by simp at hu) (fun p hp => by rw [Array.getElem?_setIfInBounds_ne (by omega)]) (⟨rfl, rfl, wf_mk (by omega) (by omega)⟩)
      rw [← mkUp_succ _ _ _ hlt] at hnew
      have HN := hide hnew
      have HF := hF.upd V
      clear hnew
      go_roundw
      case rel => exact ⟨j + 1, hlt, by go_num, by rw [HP.out]; go_num, HN, HF, HU⟩
      case measure => simp [intOf]; omega
    · obtain rfl : j = xs.length := by omega
      rw [psum_all]
      go_wp2
      go_ret
      exact ⟨by rw [HT.out]; rfl, hR.out, hF, hU⟩
set_option maxHeartbeats 4000000 in
theorem markAtomS {w : World} {lo : Nat} {bs : List Nat} {v : Value} {xs : List Atom} (h : AtomSR w bs [v] xs) (hf : Fr lo w bs) {k : Int} (h0 : 0 < k) (h1 : k + AtomS.wt xs ≤ 1099511627776) :
    Calls Tryz.prog 44 #[v, .int .i64 k] w (MkP AtomSR w lo bs [v] (AtomS.mark xs k) (k + AtomS.wt xs)) := by
  have h00 := h
  obtain ⟨A, c, rfl, hlc, hcm, _⟩ := h.use
  have hs0 : Hid (AtomSR w bs [.slice A xs.length c] (mkUp Atom.mark Atom.wt xs k 0)) := by show AtomSR w bs _ _; rw [mkUp_zero]; exact h00
  clear h h00
  have htot : (xs.map Atom.wt).sum = AtomS.wt xs := rfl
  have HT := hide htot
  clear htot
  go_enter Tryz.func44, Tryz.ntmps44
  go_wp2
  go_loopw [1, 5] (fun kk i wr => ∃ j : Nat, j ≤ xs.length ∧ i = .int .i64 j ∧ kk = .int .i64 (k + psum Atom.wt xs j) ∧ Hid (AtomSR wr bs [.slice A xs.length c] (mkUp Atom.mark Atom.wt xs k j)) ∧ Fr lo wr bs ∧ Upd bs w wr) (fun _ i _ => xs.length - (intOf i).toNat)
  case atStart => exact ⟨0, Nat.zero_le _, rfl, by rw [psum_zero]; go_num, hs0, hf, Upd.refl _ _⟩
  case round =>
    clear hs0 hf
    obtain ⟨j, hj, rfl, rfl, hR, hF, hU⟩ := hrel
    by_cases hlt : j < xs.length
    · obtain ⟨b, o, bk, es, cur, ty, rfl, hcur, hbm, hbn, hsub, hes, hcell, hRe, hFk, hclose⟩ := SlR.at AtomR.good hR.out hF (by rw [mkUp_len]; exact hlt)
      rw [mkUp_here _ hlt] at hRe
      have hclose := hide hclose
      obtain ⟨hbk, hee, _⟩ := hRe
      subst hee
      subst hbk
      have hsz : o + j * 3 + 3 ≤ cur.size := by have := (Array.getElem?_eq_some_iff.1 (hcell 2 _ rfl)).1; omega
      have hp := psum_succ Atom.wt xs j hlt
      have hp2 := psum_le Atom.wt xs (j + 1)
      have hp3 : k + (psum Atom.wt xs j : Int) + (Atom.wt xs[j] : Int) ≤ 1099511627776 := by rw [HT.out] at hp2; omega
      have hwt : (Atom.wt xs[j] : Int) = 1 + 1 + 1 := by unfold Atom.wt; rfl
      rw [hwt] at hp3
      have HW := hide hwt; clear hwt
      have HP := hide hp; clear hp hp2
      have fz := blk_free hcur
      obtain ⟨u0, s0⟩ := blk_cell hcur (j := o + j * 3) (by (try simp); omega)
      obtain ⟨u1, s1⟩ := blk_cell hcur (j := o + j * 3 + 1) (by (try simp); omega)
      obtain ⟨u2, s2⟩ := blk_cell hcur (j := o + j * 3 + 2) (by (try simp); omega)
      go_wp2_with fail
      refine (markText (by omega) (by omega)).mono ?_; rintro e w1 ⟨rfl, hb1⟩
      have B1 := blk_on (blk_set (blk_set (hcur) (o + j * 3) (.int .i64 (k + psum Atom.wt xs j))) (o + j * 3 + 1) (.int .i64 (k + psum Atom.wt xs j + 1))) hb1
      have fz := blk_free B1
      obtain ⟨u2, s2⟩ := blk_cell B1 (j := o + j * 3 + 2) (by (try simp); omega)
      go_wp2_with fail
      have V := (((((Upd.refl ([b]) wr).set (p := ⟨b, o + j * 3, none⟩) (by simp) rfl (.int .i64 (k + psum Atom.wt xs j))).set (p := ⟨b, o + j * 3 + 1, none⟩) (by simp) rfl (.int .i64 (k + psum Atom.wt xs j + 1))).call hb1).set (p := ⟨b, o + j * 3 + 2, none⟩) (by simp) rfl (.string (mText (k + psum Atom.wt xs j + 1 + 1))))
      have HU := ((((hU.set (p := ⟨b, o + j * 3, none⟩) hbm rfl (.int .i64 (k + psum Atom.wt xs j))).set (p := ⟨b, o + j * 3 + 1, none⟩) hbm rfl (.int .i64 (k + psum Atom.wt xs j + 1))).call hb1).set (p := ⟨b, o + j * 3 + 2, none⟩) hbm rfl (.string (mText (k + psum Atom.wt xs j + 1 + 1))))
      have hfin := blk_set (B1) (o + j * 3 + 2) (.string (mText (k + psum Atom.wt xs j + 1 + 1)))
      have hnew := hclose.out _ _ [.int .i64 (k + psum Atom.wt xs j), .int .i64 (k + psum Atom.wt xs j + 1), .string (mText (k + psum Atom.wt xs j + 1 + 1))] (Atom.mark xs[j] (k + psum Atom.wt xs j)) V hfin rfl (fun j' u hu => match j', hu with
        | 0, hu => by simp only [List.getElem?_cons_zero, List.getElem?_cons_succ, Option.some.injEq] at hu; subst hu; rw [Array.getElem?_setIfInBounds_ne (by omega)]; rw [Array.getElem?_setIfInBounds_ne (by omega)]; exact Array.getElem?_setIfInBounds_self_of_lt (by (try simp); omega)
        | 1, hu => by simp only [List.getElem?_cons_zero, List.getElem?_cons_succ, Option.some.injEq] at hu; subst hu; rw [Array.getElem?_setIfInBounds_ne (by omega)]; exact Array.getElem?_setIfInBounds_self_of_lt (by (try simp); omega)
        | 2, hu => by simp only [List.getElem?_cons_zero, List.getElem?_cons_succ, Option.some.injEq] at hu; subst hu; exact Array.getElem?_setIfInBounds_self_of_lt (by (try simp); omega)
        | j' + 3, hu => by simp at hu) (fun p hp => by rw [Array.getElem?_setIfInBounds_ne (by omega)]; rw [Array.getElem?_setIfInBounds_ne (by omega)]; rw [Array.getElem?_setIfInBounds_ne (by omega)]) (⟨rfl, rfl, ⟨wf_mk (n := k + psum Atom.wt xs j) (by omega) (by omega), wf_mk (n := k + psum Atom.wt xs j + 1) (by omega) (by omega), mText_size (k := k + psum Atom.wt xs j + 1 + 1) (by omega) (by omega)⟩⟩)
      rw [← mkUp_succ _ _ _ hlt] at hnew
      have HN := hide hnew
      have HF := hF.upd V
      clear hnew
      go_roundw
      case rel => exact ⟨j + 1, hlt, by go_num, by rw [HP.out]; rw [show ((psum Atom.wt xs j + Atom.wt xs[j] : Nat) : Int) = psum Atom.wt xs j + (Atom.wt xs[j] : Int) from by simp, HW.out]; go_num, HN, HF, HU⟩
      case measure => simp [intOf]; omega
    · obtain rfl : j = xs.length := by omega
      rw [psum_all]
      go_wp2
      go_ret
      exact ⟨by rw [HT.out]; rfl, hR.out, hF, hU⟩
set_option maxHeartbeats 4000000 in
theorem markAtomSS {w : World} {lo : Nat} {bs : List Nat} {v : Value} {xs : List (List Atom)} (h : AtomSSR w bs [v] xs) (hf : Fr lo w bs) {k : Int} (h0 : 0 < k) (h1 : k + AtomSS.wt xs ≤ 1099511627776) :
    Calls Tryz.prog 42 #[v, .int .i64 k] w (MkP AtomSSR w lo bs [v] (AtomSS.mark xs k) (k + AtomSS.wt xs)) := by
  have h00 := h
  obtain ⟨A, c, rfl, hlc, hcm, _⟩ := h.use
  have hs0 : Hid (AtomSSR w bs [.slice A xs.length c] (mkUp AtomS.mark AtomS.wt xs k 0)) := by show AtomSSR w bs _ _; rw [mkUp_zero]; exact h00
  clear h h00
  have htot : (xs.map AtomS.wt).sum = AtomSS.wt xs := rfl
  have HT := hide htot
  clear htot
  go_enter Tryz.func42, Tryz.ntmps42
  go_wp2
  go_loopw [1, 5] (fun kk i wr => ∃ j : Nat, j ≤ xs.length ∧ i = .int .i64 j ∧ kk = .int .i64 (k + psum AtomS.wt xs j) ∧ Hid (AtomSSR wr bs [.slice A xs.length c] (mkUp AtomS.mark AtomS.wt xs k j)) ∧ Fr lo wr bs ∧ Upd bs w wr) (fun _ i _ => xs.length - (intOf i).toNat)
  case atStart => exact ⟨0, Nat.zero_le _, rfl, by rw [psum_zero]; go_num, hs0, hf, Upd.refl _ _⟩
  case round =>
    clear hs0 hf
    obtain ⟨j, hj, rfl, rfl, hR, hF, hU⟩ := hrel
    by_cases hlt : j < xs.length
    · obtain ⟨b, o, bk, es, cur, ty, rfl, hcur, hbm, hbn, hsub, hes, hcell, hRe, hFk, hclose⟩ := SlR.at AtomSR.good hR.out hF (by rw [mkUp_len]; exact hlt)
      rw [mkUp_here _ hlt] at hRe
      simp only [Nat.mul_one] at hclose hcell
      have hclose := hide hclose
      have rr0 := hide hRe
      obtain ⟨D0, d0, hee, _⟩ := hRe
      subst hee
      have hsz : o + j + 1 ≤ cur.size := by have := (Array.getElem?_eq_some_iff.1 (hcell 0 _ rfl)).1; omega
      have hp := psum_succ AtomS.wt xs j hlt
      have hp2 := psum_le AtomS.wt xs (j + 1)
      have hp3 : k + (psum AtomS.wt xs j : Int) + (AtomS.wt xs[j] : Int) ≤ 1099511627776 := by rw [HT.out] at hp2; omega
      have HP := hide hp; clear hp hp2
      have fz := blk_free hcur
      have hbn0 : b ∉ bk := hbn
      have hFn0 := hFk
      have hss0 := hsub
      have s0 := (blk_cells hcur (o + j)).trans ((hcell 0 _ rfl))
      go_wp2_with fail
      have n1 := AtomSR.good.upd rr0.out (Upd.refl (b :: []) wr) (fun x hx hm => by rcases List.mem_cons.1 hm with rfl | hm; exact hbn0 hx; cases hm)
      have m1 := hFn0.upd (Upd.refl (b :: []) wr)
      refine (markAtomS n1 m1 (by omega) (by omega)).mono ?_; rintro e w1 ⟨rfl, r1x, f1x, u1x⟩
      have B1 := (u1x.far b (lt_of_cells (hcur)) hbn0).trans (hcur)
      have fz := blk_free B1
      go_wp2_with fail
      have V := ((Upd.refl (b :: (bk)) wr).trans u1x (fun x hx => by simp [hx]))
      have HU := (hU.trans u1x hss0)
      have hfin := B1
      have q0 := AtomSR.good.upd r1x (Upd.refl (b :: []) w1) (fun x hx hm => by rcases List.mem_cons.1 hm with rfl | hm; exact hbn0 hx; cases hm)
      have hnew := hclose.out _ _ [.slice D0 xs[j].length d0] (AtomS.mark xs[j] (k + psum AtomS.wt xs j)) V hfin rfl (fun j' u hu => match j', hu with
        | 0, hu => by simp only [List.getElem?_cons_zero, List.getElem?_cons_succ, Option.some.injEq] at hu; subst hu; exact hcell 0 _ rfl
        | j' + 1, hu => by simp at hu) (fun p hp => by rfl) (q0)
      rw [← mkUp_succ _ _ _ hlt] at hnew
      have HN := hide hnew
      have HF := hF.upd V
      clear hnew
      go_roundw
      case rel => exact ⟨j + 1, hlt, by go_num, by rw [HP.out]; go_num, HN, HF, HU⟩
      case measure => simp [intOf]; omega
    · obtain rfl : j = xs.length := by omega
      rw [psum_all]
      go_wp2
      go_ret
      exact ⟨by rw [HT.out]; rfl, hR.out, hF, hU⟩
set_option maxHeartbeats 4000000 in
theorem markColumnS {w : World} {lo : Nat} {bs : List Nat} {v : Value} {xs : List Column} (h : ColumnSR w bs [v] xs) (hf : Fr lo w bs) {k : Int} (h0 : 0 < k) (h1 : k + ColumnS.wt xs ≤ 1099511627776) :
    Calls Tryz.prog 40 #[v, .int .i64 k] w (MkP ColumnSR w lo bs [v] (ColumnS.mark xs k) (k + ColumnS.wt xs)) := by
  have h00 := h
  obtain ⟨A, c, rfl, hlc, hcm, _⟩ := h.use
  have hs0 : Hid (ColumnSR w bs [.slice A xs.length c] (mkUp Column.mark Column.wt xs k 0)) := by show ColumnSR w bs _ _; rw [mkUp_zero]; exact h00
  clear h h00
  have htot : (xs.map Column.wt).sum = ColumnS.wt xs := rfl
  have HT := hide htot
  clear htot
  go_enter Tryz.func40, Tryz.ntmps40
  go_wp2
  go_loopw [1, 5] (fun kk i wr => ∃ j : Nat, j ≤ xs.length ∧ i = .int .i64 j ∧ kk = .int .i64 (k + psum Column.wt xs j) ∧ Hid (ColumnSR wr bs [.slice A xs.length c] (mkUp Column.mark Column.wt xs k j)) ∧ Fr lo wr bs ∧ Upd bs w wr) (fun _ i _ => xs.length - (intOf i).toNat)
  case atStart => exact ⟨0, Nat.zero_le _, rfl, by rw [psum_zero]; go_num, hs0, hf, Upd.refl _ _⟩
  case round =>
    clear hs0 hf
    obtain ⟨j, hj, rfl, rfl, hR, hF, hU⟩ := hrel
    by_cases hlt : j < xs.length
    · obtain ⟨b, o, bk, es, cur, ty, rfl, hcur, hbm, hbn, hsub, hes, hcell, hRe, hFk, hclose⟩ := SlR.at ColumnR.good hR.out hF (by rw [mkUp_len]; exact hlt)
      rw [mkUp_here _ hlt] at hRe
      have hclose := hide hclose
      obtain ⟨hbk, hee, _⟩ := hRe
      subst hee
      subst hbk
      have hsz : o + j * 8 + 8 ≤ cur.size := by have := (Array.getElem?_eq_some_iff.1 (hcell 7 _ rfl)).1; omega
      have hp := psum_succ Column.wt xs j hlt
      have hp2 := psum_le Column.wt xs (j + 1)
      have hp3 : k + (psum Column.wt xs j : Int) + (Column.wt xs[j] : Int) ≤ 1099511627776 := by rw [HT.out] at hp2; omega
      have hwt : (Column.wt xs[j] : Int) = 1 + 1 + 1 + 1 + 1 + 1 + 1 + 1 := by unfold Column.wt; rfl
      rw [hwt] at hp3
      have HW := hide hwt; clear hwt
      have HP := hide hp; clear hp hp2
      have fz := blk_free hcur
      obtain ⟨u0, s0⟩ := blk_cell hcur (j := o + j * 8) (by (try simp); omega)
      obtain ⟨u1, s1⟩ := blk_cell hcur (j := o + j * 8 + 1) (by (try simp); omega)
      obtain ⟨u2, s2⟩ := blk_cell hcur (j := o + j * 8 + 2) (by (try simp); omega)
      obtain ⟨u3, s3⟩ := blk_cell hcur (j := o + j * 8 + 3) (by (try simp); omega)
      obtain ⟨u4, s4⟩ := blk_cell hcur (j := o + j * 8 + 4) (by (try simp); omega)
      obtain ⟨u5, s5⟩ := blk_cell hcur (j := o + j * 8 + 5) (by (try simp); omega)
      obtain ⟨u6, s6⟩ := blk_cell hcur (j := o + j * 8 + 6) (by (try simp); omega)
      obtain ⟨u7, s7⟩ := blk_cell hcur (j := o + j * 8 + 7) (by (try simp); omega)
      go_wp2_with fail
      refine (markText (by omega) (by omega)).mono ?_; rintro e w1 ⟨rfl, hb1⟩
      have B1 := blk_on (hcur) hb1
      have fz := blk_free B1
      obtain ⟨u0, s0⟩ := blk_cell B1 (j := o + j * 8) (by (try simp); omega)
      obtain ⟨u1, s1⟩ := blk_cell B1 (j := o + j * 8 + 1) (by (try simp); omega)
      obtain ⟨u2, s2⟩ := blk_cell B1 (j := o + j * 8 + 2) (by (try simp); omega)
      obtain ⟨u3, s3⟩ := blk_cell B1 (j := o + j * 8 + 3) (by (try simp); omega)
      obtain ⟨u4, s4⟩ := blk_cell B1 (j := o + j * 8 + 4) (by (try simp); omega)
      obtain ⟨u5, s5⟩ := blk_cell B1 (j := o + j * 8 + 5) (by (try simp); omega)
      obtain ⟨u6, s6⟩ := blk_cell B1 (j := o + j * 8 + 6) (by (try simp); omega)
      obtain ⟨u7, s7⟩ := blk_cell B1 (j := o + j * 8 + 7) (by (try simp); omega)
      go_wp2_with fail
      refine (markText (by omega) (by omega)).mono ?_; rintro e w2 ⟨rfl, hb2⟩
      have B2 := blk_on (blk_set (blk_set (blk_set (blk_set (blk_set (blk_set (B1) (o + j * 8) (.string (mText (k + psum Column.wt xs j)))) (o + j * 8 + 1) (.int .i64 (k + psum Column.wt xs j + 1))) (o + j * 8 + 2) (.int .i64 (k + psum Column.wt xs j + 1 + 1))) (o + j * 8 + 3) (.int .i64 (k + psum Column.wt xs j + 1 + 1 + 1))) (o + j * 8 + 4) (.int .i64 (k + psum Column.wt xs j + 1 + 1 + 1 + 1))) (o + j * 8 + 5) (.int .i64 (k + psum Column.wt xs j + 1 + 1 + 1 + 1 + 1))) hb2
      have fz := blk_free B2
      obtain ⟨u6, s6⟩ := blk_cell B2 (j := o + j * 8 + 6) (by (try simp); omega)
      obtain ⟨u7, s7⟩ := blk_cell B2 (j := o + j * 8 + 7) (by (try simp); omega)
      go_wp2_with fail
      have V := (((((((((((Upd.refl ([b]) wr).call hb1).set (p := ⟨b, o + j * 8, none⟩) (by simp) rfl (.string (mText (k + psum Column.wt xs j)))).set (p := ⟨b, o + j * 8 + 1, none⟩) (by simp) rfl (.int .i64 (k + psum Column.wt xs j + 1))).set (p := ⟨b, o + j * 8 + 2, none⟩) (by simp) rfl (.int .i64 (k + psum Column.wt xs j + 1 + 1))).set (p := ⟨b, o + j * 8 + 3, none⟩) (by simp) rfl (.int .i64 (k + psum Column.wt xs j + 1 + 1 + 1))).set (p := ⟨b, o + j * 8 + 4, none⟩) (by simp) rfl (.int .i64 (k + psum Column.wt xs j + 1 + 1 + 1 + 1))).set (p := ⟨b, o + j * 8 + 5, none⟩) (by simp) rfl (.int .i64 (k + psum Column.wt xs j + 1 + 1 + 1 + 1 + 1))).call hb2).set (p := ⟨b, o + j * 8 + 6, none⟩) (by simp) rfl (.string (mText (k + psum Column.wt xs j + 1 + 1 + 1 + 1 + 1 + 1)))).set (p := ⟨b, o + j * 8 + 7, none⟩) (by simp) rfl (.bool (bMark (k + psum Column.wt xs j + 1 + 1 + 1 + 1 + 1 + 1 + 1))))
      have HU := ((((((((((hU.call hb1).set (p := ⟨b, o + j * 8, none⟩) hbm rfl (.string (mText (k + psum Column.wt xs j)))).set (p := ⟨b, o + j * 8 + 1, none⟩) hbm rfl (.int .i64 (k + psum Column.wt xs j + 1))).set (p := ⟨b, o + j * 8 + 2, none⟩) hbm rfl (.int .i64 (k + psum Column.wt xs j + 1 + 1))).set (p := ⟨b, o + j * 8 + 3, none⟩) hbm rfl (.int .i64 (k + psum Column.wt xs j + 1 + 1 + 1))).set (p := ⟨b, o + j * 8 + 4, none⟩) hbm rfl (.int .i64 (k + psum Column.wt xs j + 1 + 1 + 1 + 1))).set (p := ⟨b, o + j * 8 + 5, none⟩) hbm rfl (.int .i64 (k + psum Column.wt xs j + 1 + 1 + 1 + 1 + 1))).call hb2).set (p := ⟨b, o + j * 8 + 6, none⟩) hbm rfl (.string (mText (k + psum Column.wt xs j + 1 + 1 + 1 + 1 + 1 + 1)))).set (p := ⟨b, o + j * 8 + 7, none⟩) hbm rfl (.bool (bMark (k + psum Column.wt xs j + 1 + 1 + 1 + 1 + 1 + 1 + 1))))
      have hfin := blk_set (blk_set (B2) (o + j * 8 + 6) (.string (mText (k + psum Column.wt xs j + 1 + 1 + 1 + 1 + 1 + 1)))) (o + j * 8 + 7) (.bool (bMark (k + psum Column.wt xs j + 1 + 1 + 1 + 1 + 1 + 1 + 1)))
      have hnew := hclose.out _ _ [.string (mText (k + psum Column.wt xs j)), .int .i64 (k + psum Column.wt xs j + 1), .int .i64 (k + psum Column.wt xs j + 1 + 1), .int .i64 (k + psum Column.wt xs j + 1 + 1 + 1), .int .i64 (k + psum Column.wt xs j + 1 + 1 + 1 + 1), .int .i64 (k + psum Column.wt xs j + 1 + 1 + 1 + 1 + 1), .string (mText (k + psum Column.wt xs j + 1 + 1 + 1 + 1 + 1 + 1)), .bool (bMark (k + psum Column.wt xs j + 1 + 1 + 1 + 1 + 1 + 1 + 1))] (Column.mark xs[j] (k + psum Column.wt xs j)) V hfin rfl (fun j' u hu => match j', hu with
        | 0, hu => by simp only [List.getElem?_cons_zero, List.getElem?_cons_succ, Option.some.injEq] at hu; subst hu; rw [Array.getElem?_setIfInBounds_ne (by omega)]; rw [Array.getElem?_setIfInBounds_ne (by omega)]; rw [Array.getElem?_setIfInBounds_ne (by omega)]; rw [Array.getElem?_setIfInBounds_ne (by omega)]; rw [Array.getElem?_setIfInBounds_ne (by omega)]; rw [Array.getElem?_setIfInBounds_ne (by omega)]; rw [Array.getElem?_setIfInBounds_ne (by omega)]; exact Array.getElem?_setIfInBounds_self_of_lt (by (try simp); omega)
        | 1, hu => by simp only [List.getElem?_cons_zero, List.getElem?_cons_succ, Option.some.injEq] at hu; subst hu; rw [Array.getElem?_setIfInBounds_ne (by omega)]; rw [Array.getElem?_setIfInBounds_ne (by omega)]; rw [Array.getElem?_setIfInBounds_ne (by omega)]; rw [Array.getElem?_setIfInBounds_ne (by omega)]; rw [Array.getElem?_setIfInBounds_ne (by omega)]; rw [Array.getElem?_setIfInBounds_ne (by omega)]; exact Array.getElem?_setIfInBounds_self_of_lt (by (try simp); omega)
        | 2, hu => by simp only [List.getElem?_cons_zero, List.getElem?_cons_succ, Option.some.injEq] at hu; subst hu; rw [Array.getElem?_setIfInBounds_ne (by omega)]; rw [Array.getElem?_setIfInBounds_ne (by omega)]; rw [Array.getElem?_setIfInBounds_ne (by omega)]; rw [Array.getElem?_setIfInBounds_ne (by omega)]; rw [Array.getElem?_setIfInBounds_ne (by omega)]; exact Array.getElem?_setIfInBounds_self_of_lt (by (try simp); omega)
        | 3, hu => by simp only [List.getElem?_cons_zero, List.getElem?_cons_succ, Option.some.injEq] at hu; subst hu; rw [Array.getElem?_setIfInBounds_ne (by omega)]; rw [Array.getElem?_setIfInBounds_ne (by omega)]; rw [Array.getElem?_setIfInBounds_ne (by omega)]; rw [Array.getElem?_setIfInBounds_ne (by omega)]; exact Array.getElem?_setIfInBounds_self_of_lt (by (try simp); omega)
        | 4, hu => by simp only [List.getElem?_cons_zero, List.getElem?_cons_succ, Option.some.injEq] at hu; subst hu; rw [Array.getElem?_setIfInBounds_ne (by omega)]; rw [Array.getElem?_setIfInBounds_ne (by omega)]; rw [Array.getElem?_setIfInBounds_ne (by omega)]; exact Array.getElem?_setIfInBounds_self_of_lt (by (try simp); omega)
        | 5, hu => by simp only [List.getElem?_cons_zero, List.getElem?_cons_succ, Option.some.injEq] at hu; subst hu; rw [Array.getElem?_setIfInBounds_ne (by omega)]; rw [Array.getElem?_setIfInBounds_ne (by omega)]; exact Array.getElem?_setIfInBounds_self_of_lt (by (try simp); omega)
        | 6, hu => by simp only [List.getElem?_cons_zero, List.getElem?_cons_succ, Option.some.injEq] at hu; subst hu; rw [Array.getElem?_setIfInBounds_ne (by omega)]; exact Array.getElem?_setIfInBounds_self_of_lt (by (try simp); omega)
        | 7, hu => by simp only [List.getElem?_cons_zero, List.getElem?_cons_succ, Option.some.injEq] at hu; subst hu; exact Array.getElem?_setIfInBounds_self_of_lt (by (try simp); omega)
        | j' + 8, hu => by simp at hu) (fun p hp => by rw [Array.getElem?_setIfInBounds_ne (by omega)]; rw [Array.getElem?_setIfInBounds_ne (by omega)]; rw [Array.getElem?_setIfInBounds_ne (by omega)]; rw [Array.getElem?_setIfInBounds_ne (by omega)]; rw [Array.getElem?_setIfInBounds_ne (by omega)]; rw [Array.getElem?_setIfInBounds_ne (by omega)]; rw [Array.getElem?_setIfInBounds_ne (by omega)]; rw [Array.getElem?_setIfInBounds_ne (by omega)]) (⟨rfl, rfl, ⟨mText_size (k := k + psum Column.wt xs j) (by omega) (by omega), wf_mk (n := k + psum Column.wt xs j + 1) (by omega) (by omega), wf_mk (n := k + psum Column.wt xs j + 1 + 1) (by omega) (by omega), wf_mk (n := k + psum Column.wt xs j + 1 + 1 + 1) (by omega) (by omega), wf_mk (n := k + psum Column.wt xs j + 1 + 1 + 1 + 1) (by omega) (by omega), wf_mk (n := k + psum Column.wt xs j + 1 + 1 + 1 + 1 + 1) (by omega) (by omega), mText_size (k := k + psum Column.wt xs j + 1 + 1 + 1 + 1 + 1 + 1) (by omega) (by omega)⟩⟩)
      rw [← mkUp_succ _ _ _ hlt] at hnew
      have HN := hide hnew
      have HF := hF.upd V
      clear hnew
      go_roundw
      case rel => exact ⟨j + 1, hlt, by go_num, by rw [HP.out]; rw [show ((psum Column.wt xs j + Column.wt xs[j] : Nat) : Int) = psum Column.wt xs j + (Column.wt xs[j] : Int) from by simp, HW.out]; go_num, HN, HF, HU⟩
      case measure => simp [intOf]; omega
    · obtain rfl : j = xs.length := by omega
      rw [psum_all]
      go_wp2
      go_ret
      exact ⟨by rw [HT.out]; rfl, hR.out, hF, hU⟩
set_option maxHeartbeats 4000000 in
theorem markMutS {w : World} {lo : Nat} {bs : List Nat} {v : Value} {xs : List Mut} (h : MutSR w bs [v] xs) (hf : Fr lo w bs) {k : Int} (h0 : 0 < k) (h1 : k + MutS.wt xs ≤ 1099511627776) :
    Calls Tryz.prog 17 #[v, .int .i64 k] w (MkP MutSR w lo bs [v] (MutS.mark xs k) (k + MutS.wt xs)) := by
  have h00 := h
  obtain ⟨A, c, rfl, hlc, hcm, _⟩ := h.use
  have hs0 : Hid (MutSR w bs [.slice A xs.length c] (mkUp Mut.mark Mut.wt xs k 0)) := by show MutSR w bs _ _; rw [mkUp_zero]; exact h00
  clear h h00
  have htot : (xs.map Mut.wt).sum = MutS.wt xs := rfl
  have HT := hide htot
  clear htot
  go_enter Tryz.func17, Tryz.ntmps17
  go_wp2
  go_loopw [1, 5] (fun kk i wr => ∃ j : Nat, j ≤ xs.length ∧ i = .int .i64 j ∧ kk = .int .i64 (k + psum Mut.wt xs j) ∧ Hid (MutSR wr bs [.slice A xs.length c] (mkUp Mut.mark Mut.wt xs k j)) ∧ Fr lo wr bs ∧ Upd bs w wr) (fun _ i _ => xs.length - (intOf i).toNat)
  case atStart => exact ⟨0, Nat.zero_le _, rfl, by rw [psum_zero]; go_num, hs0, hf, Upd.refl _ _⟩
  case round =>
    clear hs0 hf
    obtain ⟨j, hj, rfl, rfl, hR, hF, hU⟩ := hrel
    by_cases hlt : j < xs.length
    · obtain ⟨b, o, bk, es, cur, ty, rfl, hcur, hbm, hbn, hsub, hes, hcell, hRe, hFk, hclose⟩ := SlR.at MutR.good hR.out hF (by rw [mkUp_len]; exact hlt)
      rw [mkUp_here _ hlt] at hRe
      have hclose := hide hclose
      obtain ⟨v2, b2, hbk, hee, _, r2⟩ := hRe
      subst hee
      have rr2 := hide r2
      obtain ⟨D2, d2, rfl, _, _, _⟩ := r2.use
      have hbk := hbk.symm; subst hbk
      have hsz : o + j * 3 + 3 ≤ cur.size := by have := (Array.getElem?_eq_some_iff.1 (hcell 2 _ rfl)).1; omega
      have hp := psum_succ Mut.wt xs j hlt
      have hp2 := psum_le Mut.wt xs (j + 1)
      have hp3 : k + (psum Mut.wt xs j : Int) + (Mut.wt xs[j] : Int) ≤ 1099511627776 := by rw [HT.out] at hp2; omega
      have hwt : (Mut.wt xs[j] : Int) = 1 + 1 + (AtomS.wt xs[j].value : Int) := by unfold Mut.wt; simp
      rw [hwt] at hp3
      have HW := hide hwt; clear hwt
      have HP := hide hp; clear hp hp2
      have fz := blk_free hcur
      have hbn2 : b ∉ b2 := hbn
      have hFn2 := hFk
      have hss2 : ∀ x ∈ b2, x ∈ bs := hsub
      obtain ⟨u0, s0⟩ := blk_cell hcur (j := o + j * 3) (by (try simp); omega)
      obtain ⟨u1, s1⟩ := blk_cell hcur (j := o + j * 3 + 1) (by (try simp); omega)
      have s2 := (blk_cells hcur (o + j * 3 + 2)).trans ((hcell 2 _ rfl))
      go_wp2_with fail
      refine (markText (by omega) (by omega)).mono ?_; rintro e w1 ⟨rfl, hb1⟩
      have B1 := blk_on (hcur) hb1
      have fz := blk_free B1
      obtain ⟨u0, s0⟩ := blk_cell B1 (j := o + j * 3) (by (try simp); omega)
      obtain ⟨u1, s1⟩ := blk_cell B1 (j := o + j * 3 + 1) (by (try simp); omega)
      have s2 := (blk_cells B1 (o + j * 3 + 2)).trans ((hcell 2 _ rfl))
      go_wp2_with fail
      have n2 := AtomSR.good.upd rr2.out ((((Upd.refl (b :: []) wr).call hb1).set (p := ⟨b, o + j * 3, none⟩) (by simp) rfl (.string (mText (k + psum Mut.wt xs j)))).set (p := ⟨b, o + j * 3 + 1, none⟩) (by simp) rfl (.int .i64 (k + psum Mut.wt xs j + 1))) (fun x hx hm => by rcases List.mem_cons.1 hm with rfl | hm; exact hbn2 hx; cases hm)
      have m2 := hFn2.upd ((((Upd.refl (b :: []) wr).call hb1).set (p := ⟨b, o + j * 3, none⟩) (by simp) rfl (.string (mText (k + psum Mut.wt xs j)))).set (p := ⟨b, o + j * 3 + 1, none⟩) (by simp) rfl (.int .i64 (k + psum Mut.wt xs j + 1)))
      refine (markAtomS n2 m2 (by omega) (by omega)).mono ?_; rintro e w2 ⟨rfl, r2x, f2x, u2x⟩
      have B2 := (u2x.far b (lt_of_cells (blk_set (blk_set (B1) (o + j * 3) (.string (mText (k + psum Mut.wt xs j)))) (o + j * 3 + 1) (.int .i64 (k + psum Mut.wt xs j + 1)))) hbn2).trans (blk_set (blk_set (B1) (o + j * 3) (.string (mText (k + psum Mut.wt xs j)))) (o + j * 3 + 1) (.int .i64 (k + psum Mut.wt xs j + 1)))
      have fz := blk_free B2
      go_wp2_with fail
      have V := (((((Upd.refl (b :: (b2)) wr).call hb1).set (p := ⟨b, o + j * 3, none⟩) (by simp) rfl (.string (mText (k + psum Mut.wt xs j)))).set (p := ⟨b, o + j * 3 + 1, none⟩) (by simp) rfl (.int .i64 (k + psum Mut.wt xs j + 1))).trans u2x (fun x hx => by simp [hx]))
      have HU := ((((hU.call hb1).set (p := ⟨b, o + j * 3, none⟩) hbm rfl (.string (mText (k + psum Mut.wt xs j)))).set (p := ⟨b, o + j * 3 + 1, none⟩) hbm rfl (.int .i64 (k + psum Mut.wt xs j + 1))).trans u2x hss2)
      have hfin := B2
      have q2 := AtomSR.good.upd r2x (Upd.refl (b :: []) w2) (fun x hx hm => by rcases List.mem_cons.1 hm with rfl | hm; exact hbn2 hx; cases hm)
      have hnew := hclose.out _ _ [.string (mText (k + psum Mut.wt xs j)), .int .i64 (k + psum Mut.wt xs j + 1), .slice D2 xs[j].value.length d2] (Mut.mark xs[j] (k + psum Mut.wt xs j)) V hfin rfl (fun j' u hu => match j', hu with
        | 0, hu => by simp only [List.getElem?_cons_zero, List.getElem?_cons_succ, Option.some.injEq] at hu; subst hu; rw [Array.getElem?_setIfInBounds_ne (by omega)]; exact Array.getElem?_setIfInBounds_self_of_lt (by (try simp); omega)
        | 1, hu => by simp only [List.getElem?_cons_zero, List.getElem?_cons_succ, Option.some.injEq] at hu; subst hu; exact Array.getElem?_setIfInBounds_self_of_lt (by (try simp); omega)
        | 2, hu => by simp only [List.getElem?_cons_zero, List.getElem?_cons_succ, Option.some.injEq] at hu; subst hu; rw [Array.getElem?_setIfInBounds_ne (by omega)]; rw [Array.getElem?_setIfInBounds_ne (by omega)]; exact hcell 2 _ rfl
        | j' + 3, hu => by simp at hu) (fun p hp => by rw [Array.getElem?_setIfInBounds_ne (by omega)]; rw [Array.getElem?_setIfInBounds_ne (by omega)]) (⟨_, b2, rfl, rfl, ⟨mText_size (k := k + psum Mut.wt xs j) (by omega) (by omega), wf_mk (n := k + psum Mut.wt xs j + 1) (by omega) (by omega)⟩, q2⟩)
      rw [← mkUp_succ _ _ _ hlt] at hnew
      have HN := hide hnew
      have HF := hF.upd V
      clear hnew
      go_roundw
      case rel => exact ⟨j + 1, hlt, by go_num, by rw [HP.out]; rw [show ((psum Mut.wt xs j + Mut.wt xs[j] : Nat) : Int) = psum Mut.wt xs j + (Mut.wt xs[j] : Int) from by simp, HW.out]; go_num, HN, HF, HU⟩
      case measure => simp [intOf]; omega
    · obtain rfl : j = xs.length := by omega
      rw [psum_all]
      go_wp2
      go_ret
      exact ⟨by rw [HT.out]; rfl, hR.out, hF, hU⟩
end Go.Proofs.YthglchopajdmhaaGreat
