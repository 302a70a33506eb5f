/- What the functions mark.. of package laws write. No statement is proved here; no conditions. Written by a program (gen13.py). -/
import Derived.Test.YtfkpllkgganejaaMarkT
namespace Go.Proofs.Ytfkpllkgganejaa
open Go.ChangeShapes Go.WideShapes Go.ChangeAt Go.RowKit Go.Deep
set_option maxRecDepth 100000
set_option linter.unusedVariables false
set_option linter.unusedSimpArgs false

/-- A call that has written marks: what it returned, what the row reads as now. -/
def MkP {α : Type} (R : Rd α) (w : World) (lo : Nat) (bs : List Nat) (cs : List Value) (y : α) (n : Int) (e : Ending) (w' : World) : Prop := e = .returned (.int .i64 n) ∧ R w' bs cs y ∧ Fr lo w' bs ∧ Upd bs w w'
set_option maxHeartbeats 4000000 in
theorem markAtomS {w : World} {lo : Nat} {bs : List Nat} {v : Value} {xs : List Atom} (h : AtomSR w bs [v] xs) (hf : Fr lo w bs) {k : Int} (h0 : 0 < k) (h1 : k + AtomS.wt xs ≤ 1099511627776) :
    Calls Try.prog 50 #[v, .int .i64 k] w (MkP AtomSR w lo bs [v] (AtomS.mark xs k) (k + AtomS.wt xs)) := by
  have h00 := h
  obtain ⟨A, c, rfl, hlc, hcm, _⟩ := h.use
  have hs0 : Hid (AtomSR w bs [.slice A xs.length c] (mkUp Atom.mark Atom.wt xs k 0)) := by show AtomSR w bs _ _; rw [mkUp_zero]; exact h00
  clear h h00
  have htot : (xs.map Atom.wt).sum = AtomS.wt xs := rfl
  have HT := hide htot
  clear htot
  go_enter Try.func50, Try.ntmps50
  go_wp2
  go_loopw [1, 5] (fun kk i wr => ∃ j : Nat, j ≤ xs.length ∧ i = .int .i64 j ∧ kk = .int .i64 (k + psum Atom.wt xs j) ∧ Hid (AtomSR wr bs [.slice A xs.length c] (mkUp Atom.mark Atom.wt xs k j)) ∧ Fr lo wr bs ∧ Upd bs w wr) (fun _ i _ => xs.length - (intOf i).toNat)
  case atStart => exact ⟨0, Nat.zero_le _, rfl, by rw [psum_zero]; go_num, hs0, hf, Upd.refl _ _⟩
  case round =>
    clear hs0 hf
    obtain ⟨j, hj, rfl, rfl, hR, hF, hU⟩ := hrel
    by_cases hlt : j < xs.length
    · obtain ⟨b, o, bk, es, cur, ty, rfl, hcur, hbm, hbn, hsub, hes, hcell, hRe, hFk, hclose⟩ := SlR.at AtomR.good hR.out hF (by rw [mkUp_len]; exact hlt)
      rw [mkUp_here _ hlt] at hRe
      have hclose := hide hclose
      obtain ⟨hbk, hee, _⟩ := hRe
      subst hee
      subst hbk
      have hsz : o + j * 3 + 3 ≤ cur.size := by have := (Array.getElem?_eq_some_iff.1 (hcell 2 _ rfl)).1; omega
      have hp := psum_succ Atom.wt xs j hlt
      have hp2 := psum_le Atom.wt xs (j + 1)
      have hp3 : k + (psum Atom.wt xs j : Int) + (Atom.wt xs[j] : Int) ≤ 1099511627776 := by rw [HT.out] at hp2; omega
      have hwt : (Atom.wt xs[j] : Int) = 1 + 1 + 1 := by unfold Atom.wt; rfl
      rw [hwt] at hp3
      have HW := hide hwt; clear hwt
      have HP := hide hp; clear hp hp2
      have fz := blk_free hcur
      obtain ⟨u0, s0⟩ := blk_cell hcur (j := o + j * 3) (by (try simp); omega)
      obtain ⟨u1, s1⟩ := blk_cell hcur (j := o + j * 3 + 1) (by (try simp); omega)
      obtain ⟨u2, s2⟩ := blk_cell hcur (j := o + j * 3 + 2) (by (try simp); omega)
      go_wp2_with fail
      refine (markText (by omega) (by omega)).mono ?_; rintro e w1 ⟨rfl, hb1⟩
      have B1 := blk_on (blk_set (blk_set (hcur) (o + j * 3) (.int .i64 (k + psum Atom.wt xs j))) (o + j * 3 + 1) (.int .i64 (k + psum Atom.wt xs j + 1))) hb1
      have fz := blk_free B1
      obtain ⟨u2, s2⟩ := blk_cell B1 (j := o + j * 3 + 2) (by (try simp); omega)
      go_wp2_with fail
      have V := (((((Upd.refl ([b]) wr).set (p := ⟨b, o + j * 3, none⟩) (by simp) rfl (.int .i64 (k + psum Atom.wt xs j))).set (p := ⟨b, o + j * 3 + 1, none⟩) (by simp) rfl (.int .i64 (k + psum Atom.wt xs j + 1))).call hb1).set (p := ⟨b, o + j * 3 + 2, none⟩) (by simp) rfl (.string (mText (k + psum Atom.wt xs j + 1 + 1))))
      have HU := ((((hU.set (p := ⟨b, o + j * 3, none⟩) hbm rfl (.int .i64 (k + psum Atom.wt xs j))).set (p := ⟨b, o + j * 3 + 1, none⟩) hbm rfl (.int .i64 (k + psum Atom.wt xs j + 1))).call hb1).set (p := ⟨b, o + j * 3 + 2, none⟩) hbm rfl (.string (mText (k + psum Atom.wt xs j + 1 + 1))))
      have hfin := blk_set (B1) (o + j * 3 + 2) (.string (mText (k + psum Atom.wt xs j + 1 + 1)))
      have hnew := hclose.out _ _ [.int .i64 (k + psum Atom.wt xs j), .int .i64 (k + psum Atom.wt xs j + 1), .string (mText (k + psum Atom.wt xs j + 1 + 1))] (Atom.mark xs[j] (k + psum Atom.wt xs j)) V hfin rfl (fun j' u hu => match j', hu with
        | 0, hu => by simp only [List.getElem?_cons_zero, List.getElem?_cons_succ, Option.some.injEq] at hu; subst hu; rw [Array.getElem?_setIfInBounds_ne (by omega)]; rw [Array.getElem?_setIfInBounds_ne (by omega)]; exact Array.getElem?_setIfInBounds_self_of_lt (by (try simp); omega)
        | 1, hu => by simp only [List.getElem?_cons_zero, List.getElem?_cons_succ, Option.some.injEq] at hu; subst hu; rw [Array.getElem?_setIfInBounds_ne (by omega)]; exact Array.getElem?_setIfInBounds_self_of_lt (by (try simp); omega)
        | 2, hu => by simp only [List.getElem?_cons_zero, List.getElem?_cons_succ, Option.some.injEq] at hu; subst hu; exact Array.getElem?_setIfInBounds_self_of_lt (by (try simp); omega)
        | j' + 3, hu => by simp at hu) (fun p hp => by rw [Array.getElem?_setIfInBounds_ne (by omega)]; rw [Array.getElem?_setIfInBounds_ne (by omega)]; rw [Array.getElem?_setIfInBounds_ne (by omega)]) (⟨rfl, rfl, ⟨wf_mk (n := k + psum Atom.wt xs j) (by omega) (by omega), wf_mk (n := k + psum Atom.wt xs j + 1) (by omega) (by omega), mText_size (k := k + psum Atom.wt xs j + 1 + 1) (by omega) (by omega)⟩⟩)
      rw [← mkUp_succ _ _ _ hlt] at hnew
      have HN := hide hnew
      have HF := hF.upd V
      clear hnew
      go_roundw
      case rel => exact ⟨j + 1, hlt, by go_num, by rw [HP.out]; rw [show ((psum Atom.wt xs j + Atom.wt xs[j] : Nat) : Int) = psum Atom.wt xs j + (Atom.wt xs[j] : Int) from by simp, HW.out]; go_num, HN, HF, HU⟩
      case measure => simp [intOf]; omega
    · obtain rfl : j = xs.length := by omega
      rw [psum_all]
      go_wp2
      go_ret
      exact ⟨by rw [HT.out]; rfl, hR.out, hF, hU⟩
set_option maxHeartbeats 4000000 in
theorem markAtomSS {w : World} {lo : Nat} {bs : List Nat} {v : Value} {xs : List (List Atom)} (h : AtomSSR w bs [v] xs) (hf : Fr lo w bs) {k : Int} (h0 : 0 < k) (h1 : k + AtomSS.wt xs ≤ 1099511627776) :
    Calls Try.prog 32 #[v, .int .i64 k] w (MkP AtomSSR w lo bs [v] (AtomSS.mark xs k) (k + AtomSS.wt xs)) := by
  have h00 := h
  obtain ⟨A, c, rfl, hlc, hcm, _⟩ := h.use
  have hs0 : Hid (AtomSSR w bs [.slice A xs.length c] (mkUp AtomS.mark AtomS.wt xs k 0)) := by show AtomSSR w bs _ _; rw [mkUp_zero]; exact h00
  clear h h00
  have htot : (xs.map AtomS.wt).sum = AtomSS.wt xs := rfl
  have HT := hide htot
  clear htot
  go_enter Try.func32, Try.ntmps32
  go_wp2
  go_loopw [1, 5] (fun kk i wr => ∃ j : Nat, j ≤ xs.length ∧ i = .int .i64 j ∧ kk = .int .i64 (k + psum AtomS.wt xs j) ∧ Hid (AtomSSR wr bs [.slice A xs.length c] (mkUp AtomS.mark AtomS.wt xs k j)) ∧ Fr lo wr bs ∧ Upd bs w wr) (fun _ i _ => xs.length - (intOf i).toNat)
  case atStart => exact ⟨0, Nat.zero_le _, rfl, by rw [psum_zero]; go_num, hs0, hf, Upd.refl _ _⟩
  case round =>
    clear hs0 hf
    obtain ⟨j, hj, rfl, rfl, hR, hF, hU⟩ := hrel
    by_cases hlt : j < xs.length
    · obtain ⟨b, o, bk, es, cur, ty, rfl, hcur, hbm, hbn, hsub, hes, hcell, hRe, hFk, hclose⟩ := SlR.at AtomSR.good hR.out hF (by rw [mkUp_len]; exact hlt)
      rw [mkUp_here _ hlt] at hRe
      simp only [Nat.mul_one] at hclose hcell
      have hclose := hide hclose
      have rr0 := hide hRe
      obtain ⟨D0, d0, hee, _⟩ := hRe
      subst hee
      have hsz : o + j + 1 ≤ cur.size := by have := (Array.getElem?_eq_some_iff.1 (hcell 0 _ rfl)).1; omega
      have hp := psum_succ AtomS.wt xs j hlt
      have hp2 := psum_le AtomS.wt xs (j + 1)
      have hp3 : k + (psum AtomS.wt xs j : Int) + (AtomS.wt xs[j] : Int) ≤ 1099511627776 := by rw [HT.out] at hp2; omega
      have HP := hide hp; clear hp hp2
      have fz := blk_free hcur
      have hbn0 : b ∉ bk := hbn
      have hFn0 := hFk
      have hss0 := hsub
      have s0 := (blk_cells hcur (o + j)).trans ((hcell 0 _ rfl))
      go_wp2_with fail
      have n1 := AtomSR.good.upd rr0.out (Upd.refl (b :: []) wr) (fun x hx hm => by rcases List.mem_cons.1 hm with rfl | hm; exact hbn0 hx; cases hm)
      have m1 := hFn0.upd (Upd.refl (b :: []) wr)
      refine (markAtomS n1 m1 (by omega) (by omega)).mono ?_; rintro e w1 ⟨rfl, r1x, f1x, u1x⟩
      have B1 := (u1x.far b (lt_of_cells (hcur)) hbn0).trans (hcur)
      have fz := blk_free B1
      go_wp2_with fail
      have V := ((Upd.refl (b :: (bk)) wr).trans u1x (fun x hx => by simp [hx]))
      have HU := (hU.trans u1x hss0)
      have hfin := B1
      have q0 := AtomSR.good.upd r1x (Upd.refl (b :: []) w1) (fun x hx hm => by rcases List.mem_cons.1 hm with rfl | hm; exact hbn0 hx; cases hm)
      have hnew := hclose.out _ _ [.slice D0 xs[j].length d0] (AtomS.mark xs[j] (k + psum AtomS.wt xs j)) V hfin rfl (fun j' u hu => match j', hu with
        | 0, hu => by simp only [List.getElem?_cons_zero, List.getElem?_cons_succ, Option.some.injEq] at hu; subst hu; exact hcell 0 _ rfl
        | j' + 1, hu => by simp at hu) (fun p hp => by rfl) (q0)
      rw [← mkUp_succ _ _ _ hlt] at hnew
      have HN := hide hnew
      have HF := hF.upd V
      clear hnew
      go_roundw
      case rel => exact ⟨j + 1, hlt, by go_num, by rw [HP.out]; go_num, HN, HF, HU⟩
      case measure => simp [intOf]; omega
    · obtain rfl : j = xs.length := by omega
      rw [psum_all]
      go_wp2
      go_ret
      exact ⟨by rw [HT.out]; rfl, hR.out, hF, hU⟩
set_option maxHeartbeats 4000000 in
theorem markRowS {w : World} {lo : Nat} {bs : List Nat} {v : Value} {xs : List Row} (h : RowSR w bs [v] xs) (hf : Fr lo w bs) {k : Int} (h0 : 0 < k) (h1 : k + RowS.wt xs ≤ 1099511627776) :
    Calls Try.prog 49 #[v, .int .i64 k] w (MkP RowSR w lo bs [v] (RowS.mark xs k) (k + RowS.wt xs)) := by
  have h00 := h
  obtain ⟨A, c, rfl, hlc, hcm, _⟩ := h.use
  have hs0 : Hid (RowSR w bs [.slice A xs.length c] (mkUp Row.mark Row.wt xs k 0)) := by show RowSR w bs _ _; rw [mkUp_zero]; exact h00
  clear h h00
  have htot : (xs.map Row.wt).sum = RowS.wt xs := rfl
  have HT := hide htot
  clear htot
  go_enter Try.func49, Try.ntmps49
  go_wp2
  go_loopw [1, 5] (fun kk i wr => ∃ j : Nat, j ≤ xs.length ∧ i = .int .i64 j ∧ kk = .int .i64 (k + psum Row.wt xs j) ∧ Hid (RowSR wr bs [.slice A xs.length c] (mkUp Row.mark Row.wt xs k j)) ∧ Fr lo wr bs ∧ Upd bs w wr) (fun _ i _ => xs.length - (intOf i).toNat)
  case atStart => exact ⟨0, Nat.zero_le _, rfl, by rw [psum_zero]; go_num, hs0, hf, Upd.refl _ _⟩
  case round =>
    clear hs0 hf
    obtain ⟨j, hj, rfl, rfl, hR, hF, hU⟩ := hrel
    by_cases hlt : j < xs.length
    · obtain ⟨b, o, bk, es, cur, ty, rfl, hcur, hbm, hbn, hsub, hes, hcell, hRe, hFk, hclose⟩ := SlR.at RowR.good hR.out hF (by rw [mkUp_len]; exact hlt)
      rw [mkUp_here _ hlt] at hRe
      have hclose := hide hclose
      obtain ⟨v1, b1, hbk, hee, _, r1⟩ := hRe
      subst hee
      have rr1 := hide r1
      obtain ⟨D1, d1, rfl, _, _, _⟩ := r1.use
      have hbk := hbk.symm; subst hbk
      have hsz : o + j * 2 + 2 ≤ cur.size := by have := (Array.getElem?_eq_some_iff.1 (hcell 1 _ rfl)).1; omega
      have hp := psum_succ Row.wt xs j hlt
      have hp2 := psum_le Row.wt xs (j + 1)
      have hp3 : k + (psum Row.wt xs j : Int) + (Row.wt xs[j] : Int) ≤ 1099511627776 := by rw [HT.out] at hp2; omega
      have hwt : (Row.wt xs[j] : Int) = 1 + (AtomSS.wt xs[j].cells : Int) := by unfold Row.wt; simp
      rw [hwt] at hp3
      have HW := hide hwt; clear hwt
      have HP := hide hp; clear hp hp2
      have fz := blk_free hcur
      have hbn1 : b ∉ b1 := hbn
      have hFn1 := hFk
      have hss1 : ∀ x ∈ b1, x ∈ bs := hsub
      obtain ⟨u0, s0⟩ := blk_cell hcur (j := o + j * 2) (by (try simp); omega)
      have s1 := (blk_cells hcur (o + j * 2 + 1)).trans ((hcell 1 _ rfl))
      go_wp2_with fail
      have n1 := AtomSSR.good.upd rr1.out ((Upd.refl (b :: []) wr).set (p := ⟨b, o + j * 2, none⟩) (by simp) rfl (.int .i64 (k + psum Row.wt xs j))) (fun x hx hm => by rcases List.mem_cons.1 hm with rfl | hm; exact hbn1 hx; cases hm)
      have m1 := hFn1.upd ((Upd.refl (b :: []) wr).set (p := ⟨b, o + j * 2, none⟩) (by simp) rfl (.int .i64 (k + psum Row.wt xs j)))
      refine (markAtomSS n1 m1 (by omega) (by omega)).mono ?_; rintro e w1 ⟨rfl, r1x, f1x, u1x⟩
      have B1 := (u1x.far b (lt_of_cells (blk_set (hcur) (o + j * 2) (.int .i64 (k + psum Row.wt xs j)))) hbn1).trans (blk_set (hcur) (o + j * 2) (.int .i64 (k + psum Row.wt xs j)))
      have fz := blk_free B1
      go_wp2_with fail
      have V := (((Upd.refl (b :: (b1)) wr).set (p := ⟨b, o + j * 2, none⟩) (by simp) rfl (.int .i64 (k + psum Row.wt xs j))).trans u1x (fun x hx => by simp [hx]))
      have HU := ((hU.set (p := ⟨b, o + j * 2, none⟩) hbm rfl (.int .i64 (k + psum Row.wt xs j))).trans u1x hss1)
      have hfin := B1
      have q1 := AtomSSR.good.upd r1x (Upd.refl (b :: []) w1) (fun x hx hm => by rcases List.mem_cons.1 hm with rfl | hm; exact hbn1 hx; cases hm)
      have hnew := hclose.out _ _ [.int .i64 (k + psum Row.wt xs j), .slice D1 xs[j].cells.length d1] (Row.mark xs[j] (k + psum Row.wt xs j)) V hfin rfl (fun j' u hu => match j', hu with
        | 0, hu => by simp only [List.getElem?_cons_zero, List.getElem?_cons_succ, Option.some.injEq] at hu; subst hu; exact Array.getElem?_setIfInBounds_self_of_lt (by (try simp); omega)
        | 1, hu => by simp only [List.getElem?_cons_zero, List.getElem?_cons_succ, Option.some.injEq] at hu; subst hu; rw [Array.getElem?_setIfInBounds_ne (by omega)]; exact hcell 1 _ rfl
        | j' + 2, hu => by simp at hu) (fun p hp => by rw [Array.getElem?_setIfInBounds_ne (by omega)]) (⟨_, b1, rfl, rfl, wf_mk (n := k + psum Row.wt xs j) (by omega) (by omega), q1⟩)
      rw [← mkUp_succ _ _ _ hlt] at hnew
      have HN := hide hnew
      have HF := hF.upd V
      clear hnew
      go_roundw
      case rel => exact ⟨j + 1, hlt, by go_num, by rw [HP.out]; rw [show ((psum Row.wt xs j + Row.wt xs[j] : Nat) : Int) = psum Row.wt xs j + (Row.wt xs[j] : Int) from by simp, HW.out]; go_num, HN, HF, HU⟩
      case measure => simp [intOf]; omega
    · obtain rfl : j = xs.length := by omega
      rw [psum_all]
      go_wp2
      go_ret
      exact ⟨by rw [HT.out]; rfl, hR.out, hF, hU⟩
set_option maxHeartbeats 4000000 in
theorem markRowSS {w : World} {lo : Nat} {bs : List Nat} {v : Value} {xs : List (List Row)} (h : RowSSR w bs [v] xs) (hf : Fr lo w bs) {k : Int} (h0 : 0 < k) (h1 : k + RowSS.wt xs ≤ 1099511627776) :
    Calls Try.prog 31 #[v, .int .i64 k] w (MkP RowSSR w lo bs [v] (RowSS.mark xs k) (k + RowSS.wt xs)) := by
  have h00 := h
  obtain ⟨A, c, rfl, hlc, hcm, _⟩ := h.use
  have hs0 : Hid (RowSSR w bs [.slice A xs.length c] (mkUp RowS.mark RowS.wt xs k 0)) := by show RowSSR w bs _ _; rw [mkUp_zero]; exact h00
  clear h h00
  have htot : (xs.map RowS.wt).sum = RowSS.wt xs := rfl
  have HT := hide htot
  clear htot
  go_enter Try.func31, Try.ntmps31
  go_wp2
  go_loopw [1, 5] (fun kk i wr => ∃ j : Nat, j ≤ xs.length ∧ i = .int .i64 j ∧ kk = .int .i64 (k + psum RowS.wt xs j) ∧ Hid (RowSSR wr bs [.slice A xs.length c] (mkUp RowS.mark RowS.wt xs k j)) ∧ Fr lo wr bs ∧ Upd bs w wr) (fun _ i _ => xs.length - (intOf i).toNat)
  case atStart => exact ⟨0, Nat.zero_le _, rfl, by rw [psum_zero]; go_num, hs0, hf, Upd.refl _ _⟩
  case round =>
    clear hs0 hf
    obtain ⟨j, hj, rfl, rfl, hR, hF, hU⟩ := hrel
    by_cases hlt : j < xs.length
    · obtain ⟨b, o, bk, es, cur, ty, rfl, hcur, hbm, hbn, hsub, hes, hcell, hRe, hFk, hclose⟩ := SlR.at RowSR.good hR.out hF (by rw [mkUp_len]; exact hlt)
      rw [mkUp_here _ hlt] at hRe
      simp only [Nat.mul_one] at hclose hcell
      have hclose := hide hclose
      have rr0 := hide hRe
      obtain ⟨D0, d0, hee, _⟩ := hRe
      subst hee
      have hsz : o + j + 1 ≤ cur.size := by have := (Array.getElem?_eq_some_iff.1 (hcell 0 _ rfl)).1; omega
      have hp := psum_succ RowS.wt xs j hlt
      have hp2 := psum_le RowS.wt xs (j + 1)
      have hp3 : k + (psum RowS.wt xs j : Int) + (RowS.wt xs[j] : Int) ≤ 1099511627776 := by rw [HT.out] at hp2; omega
      have HP := hide hp; clear hp hp2
      have fz := blk_free hcur
      have hbn0 : b ∉ bk := hbn
      have hFn0 := hFk
      have hss0 := hsub
      have s0 := (blk_cells hcur (o + j)).trans ((hcell 0 _ rfl))
      go_wp2_with fail
      have n1 := RowSR.good.upd rr0.out (Upd.refl (b :: []) wr) (fun x hx hm => by rcases List.mem_cons.1 hm with rfl | hm; exact hbn0 hx; cases hm)
      have m1 := hFn0.upd (Upd.refl (b :: []) wr)
      refine (markRowS n1 m1 (by omega) (by omega)).mono ?_; rintro e w1 ⟨rfl, r1x, f1x, u1x⟩
      have B1 := (u1x.far b (lt_of_cells (hcur)) hbn0).trans (hcur)
      have fz := blk_free B1
      go_wp2_with fail
      have V := ((Upd.refl (b :: (bk)) wr).trans u1x (fun x hx => by simp [hx]))
      have HU := (hU.trans u1x hss0)
      have hfin := B1
      have q0 := RowSR.good.upd r1x (Upd.refl (b :: []) w1) (fun x hx hm => by rcases List.mem_cons.1 hm with rfl | hm; exact hbn0 hx; cases hm)
      have hnew := hclose.out _ _ [.slice D0 xs[j].length d0] (RowS.mark xs[j] (k + psum RowS.wt xs j)) V hfin rfl (fun j' u hu => match j', hu with
        | 0, hu => by simp only [List.getElem?_cons_zero, List.getElem?_cons_succ, Option.some.injEq] at hu; subst hu; exact hcell 0 _ rfl
        | j' + 1, hu => by simp at hu) (fun p hp => by rfl) (q0)
      rw [← mkUp_succ _ _ _ hlt] at hnew
      have HN := hide hnew
      have HF := hF.upd V
      clear hnew
      go_roundw
      case rel => exact ⟨j + 1, hlt, by go_num, by rw [HP.out]; go_num, HN, HF, HU⟩
      case measure => simp [intOf]; omega
    · obtain rfl : j = xs.length := by omega
      rw [psum_all]
      go_wp2
      go_ret
      exact ⟨by rw [HT.out]; rfl, hR.out, hF, hU⟩
end Go.Proofs.Ytfkpllkgganejaa
