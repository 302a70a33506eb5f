/- The walks of the laws on sets of atoms. No statement is proved here; no conditions. -/
import Derived.Test.YtgnfblefepjpjaaHas
import Derived.Test.YtgnfblefepjpjaaEq
import Derived.Deep.RegionHeld3
namespace Go.Proofs.Ytgnfblefepjpjaa
open Go.ChangeShapes Go.WideShapes Go.ChangeAt Go.RowKit Go.Deep
set_option maxRecDepth 100000

theorem lawDatumOK {W : World} {bs : List Nat} {v : Value} {d : List Atom} (h : AtomSR W bs [v] d) :
    Calls Try.prog 7 #[v] W fun e w' => e = .returned (.bool true) ∧ Below W.heap.size W w' := by
  have h0 := h
  obtain ⟨A, c, rfl, _, _, _⟩ := atoms_at h
  by_cases hn : (1048576 : Int) - AtomS.bulk d < 0
  · go_enter Try.func7, Try.ntmps7
    go_wp2_with fail
    refine (szAtomS (Below.refl _ _) h0 (by omega) (by omega)).mono ?_; rw [clip_neg (by omega)]; rintro e w1 ⟨rfl, hb1⟩
    go_wp2_with fail
    go_ret
    exact ⟨rfl, hb1⟩
  · have hk : AtomS.bulk d ≤ 1048576 := by omega
    go_enter Try.func7, Try.ntmps7
    go_wp2_with fail
    refine (szAtomS (Below.refl _ _) h0 (by omega) (by omega)).mono ?_; rw [clip_pos (by omega)]; rintro e w1 ⟨rfl, hb1⟩
    go_wp2_with fail
    refine (toAtomS hb1 h0 hk).mono ?_; rintro e w2 ⟨v2, s2, rfl, r2, f2, hb2⟩; obtain ⟨A2, c2, rfl, _, _, _⟩ := r2.use; have hw2 := nxt hb1 hb2
    go_wp2_with fail
    refine (spec_DatumOK (Below.refl _ _) r2).mono ?_; rintro e w3 ⟨rfl, hb3⟩; have hw3 := nxt hw2 hb3
    go_wp2_with fail
    refine (toAtomS hw3 h0 hk).mono ?_; rintro e w4 ⟨v4, s4, rfl, r4, f4, hb4⟩; obtain ⟨A4, c4, rfl, _, _, _⟩ := r4.use; have hw4 := nxt hw3 hb4
    go_wp2_with fail
    refine (impl_DatumOK (Below.refl _ _) r4).mono ?_; rintro e w5 ⟨rfl, hb5⟩; have hw5 := nxt hw4 hb5
    go_wp2_with fail
    refine (toAtomS hw5 h0 hk).mono ?_; rintro e w6 ⟨v6, s6, rfl, r6, f6, hb6⟩; obtain ⟨A6, c6, rfl, _, _, _⟩ := r6.use; have hw6 := nxt hw5 hb6
    have r4' := AtomSR.good.nxt (nxt hb5 hb6) r4
    go_wp2_with fail
    refine (eqAtomS (Below.refl _ _) r4' r6).mono ?_; rintro e w7 ⟨rfl, hb7⟩
    go_wp2_with fail
    go_ret
    exact ⟨rfl, nxt hw6 hb7⟩
theorem lawDatumHas {W : World} {b1 b2 : List Nat} {v : Value} {cs : List Value} {d : List Atom} {a : Atom} (h : AtomSR W b1 [v] d) (ha : AtomR W b2 cs a) :
    Calls Try.prog 8 #[v, .agg cs.toArray] W fun e w' => e = .returned (.bool true) ∧ Below W.heap.size W w' := by
  have h0 := h
  have ha0 := ha
  obtain ⟨A, c, rfl, _, _, _⟩ := atoms_at h
  obtain ⟨rfl, rfl, fa⟩ := ha
  have hB := (Below.refl W.heap.size W).alloc (Nat.le_refl _) (.cells #[.int .i64 a.kind, .int .i64 a.n, .string a.t] 23)
  by_cases hn : (1048576 : Int) - AtomS.bulk d < 0
  · go_enter Try.func8, Try.ntmps8
    go_wp2_with fail
    refine (szAtomS hB h0 (by omega) (by omega)).mono ?_; rw [clip_neg (by omega)]; rintro e w1 ⟨rfl, hb1⟩
    go_wp2_with fail
    go_ret
    exact ⟨rfl, nxt hB hb1⟩
  · have hk : AtomS.bulk d ≤ 1048576 := by omega
    by_cases hn2 : (1048576 : Int) - AtomS.bulk d - a.bulk < 0
    · go_enter Try.func8, Try.ntmps8
      go_wp2_with fail
      refine (szAtomS hB h0 (by omega) (by omega)).mono ?_; rw [clip_pos (by omega)]; rintro e w1 ⟨rfl, hb1⟩; have q1 := box_at hb1
      go_wp2_with fail
      refine (szAtom (nxt hB hb1) ha0 (by omega) (by omega)).mono ?_; rw [clip_neg (by omega)]; rintro e w2 ⟨rfl, hb2⟩
      go_wp2_with fail
      go_ret
      exact ⟨rfl, nxt (nxt hB hb1) hb2⟩
    · go_enter Try.func8, Try.ntmps8
      go_wp2_with fail
      refine (szAtomS hB h0 (by omega) (by omega)).mono ?_; rw [clip_pos (by omega)]; rintro e w1 ⟨rfl, hb1⟩; have q1 := box_at hb1
      go_wp2_with fail
      refine (szAtom (nxt hB hb1) ha0 (by omega) (by omega)).mono ?_; rw [clip_pos (by omega)]; rintro e w2 ⟨rfl, hb2⟩; have q2 := box_on q1 rfl hb2
      have hw2 := nxt (nxt hB hb1) hb2
      clear q1
      go_wp2_with fail
      obtain ⟨ok, co, hok⟩ : ∃ ok co, hasCode d a = (ok, co) := ⟨_, _, rfl⟩
      have HO := hide hok
      have qq1 : (ok != ok) = false := by simp
      have qq2 : (co != co) = false := by simp
      clear hok
      have q := q2
      go_region_held3 (fun w' => w'.cell? ⟨W.heap.size, 0, none⟩ = some (.int .i64 a.kind) ∧ w'.cell? ⟨W.heap.size, 1, none⟩ = some (.int .i64 a.n) ∧ w'.cell? ⟨W.heap.size, 2, none⟩ = some (.string a.t)) (exact ⟨q 0, q 1, q 2⟩)
        (first | (go_at_call 31; refine (toAtomS hw2.drew h0 hk).mono ?_; rintro e w3 ⟨v3, s3, rfl, r3, f3, hb3⟩; obtain ⟨A3, c3, rfl, _, _, _⟩ := r3.use; have hw3 := nxt hw2.drew hb3; have q := box_on q rfl (nxt (Below.refl _ _).drew hb3)) | (go_at_call 16; refine (toAtom ha0).mono ?_; rintro e w4 ⟨rfl, hb4⟩; have hw4 := nxt hw3 hb4; have q := box_on q rfl hb4) | (go_at_call 33; refine (spec_DatumHas hb4 r3 a fa).mono ?_; rw [HO.out]; rintro e w5 ⟨rfl, hb5⟩; have hw5 := nxt hw4 hb5; have q := box_on q rfl hb5))
      go_wp2_with fail
      refine (toAtomS hw5 h0 hk).mono ?_; rintro e w6 ⟨v6, s6, rfl, r6, f6, hb6⟩; obtain ⟨A6, c6, rfl, _, _, _⟩ := r6.use; have hw6 := nxt hw5 hb6; have q6 := box_on q rfl hb6
      go_wp2_with fail
      refine (toAtom ha0).mono ?_; rintro e w7 ⟨rfl, hb7⟩; have hw7 := nxt hw6 hb7
      go_wp2_with fail
      refine (impl_DatumHas hb7 r6 a fa).mono ?_; rw [HO.out]; rintro e w8 ⟨rfl, hb8⟩; have hw8 := nxt hw7 hb8
      have r6' := AtomSR.good.nxt (nxt hb7 hb8) r6
      go_wp2_with fail
      refine (toAtomS hw8 h0 hk).mono ?_; rintro e w9 ⟨v9, s9, rfl, r9, f9, hb9⟩; obtain ⟨A9, c9, rfl, _, _, _⟩ := r9.use; have hw9 := nxt hw8 hb9
      have r6'' := AtomSR.good.nxt hb9 r6'
      go_wp2_with fail
      refine (eqAtomS (Below.refl _ _) r6'' r9).mono ?_; rintro e w10 ⟨rfl, hb10⟩
      go_wp2_with fail
      go_ret
      exact ⟨rfl, nxt hw9 hb10⟩
end Go.Proofs.Ytgnfblefepjpjaa
