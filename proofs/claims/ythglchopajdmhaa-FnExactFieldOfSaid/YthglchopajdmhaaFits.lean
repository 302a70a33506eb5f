/- What fits a column, in the program and in the reference. No statement is proved here; no conditions. -/
import Derived.Test.YthglchopajdmhaaDatum
import Derived.Test.YthglchopajdmhaaColumn
import Derived.Test.YthglchopajdmhaaHas
import Derived.Test.YthglchopajdmhaaFunc
import Derived.Test.YthglchopajdmhaaEq
import Derived.Deep.RegionHeld3
namespace Go.Proofs.Ythglchopajdmhaa
open Go.ChangeShapes Go.WideShapes Go.ChangeAt Go.RowKit Go.Deep
set_option maxRecDepth 100000
set_option linter.unusedVariables false

abbrev Column.raw (c : Column) : Array Value := #[.string c.name, .int .i64 c.kind, .int .i64 c.min, .int .i64 c.max, .int .i64 c.low, .int .i64 c.high, .string c.ref, .bool c.strong]
def outOf (c : Column) (a : Atom) : Bool := !inB a.n c.low c.high
def oddR (c : Column) (a : Atom) : Bool := c.kind == 1 && outOf c a
def odd0 (c : Column) : List Atom → Bool | [] => false | a :: _ => a.kind != c.kind
def fitsCode (c : Column) (d : List Atom) : Int :=
  cond (odd0 c d) 9 (cond (inB d.length c.min c.max) (cond (c.kind == 1 && d.any (outOf c)) 4 0) 6)
def fitsAll (c : Column) (d : List Atom) : Int × Int := if 4096 < d.length then (0, 2) else if colOK c && datumOK d then (fitsCode c d, 0) else (0, 1)
theorem odd0_nil {c : Column} {d : List Atom} (h : ¬ 0 < d.length) : odd0 c d = false := by cases d with | nil => rfl | cons => simp at h
theorem odd0_at {c : Column} {d : List Atom} (h : 0 < d.length) : odd0 c d = (d[0].kind != c.kind) := by cases d with | nil => simp at h | cons => rfl
theorem clo_fits {w : World} {b : Nat} (c : Column) (q : ∀ j, w.cell? ⟨b, j, none⟩ = c.raw[j]?) (a : Atom) :
    Calls Try.prog 115 #[a.val, .pointer (some ⟨b, 0, none⟩)] w fun e w' => e = .returned (.bool (outOf c a)) ∧ Below w.heap.size w w' := by
  unfold Atom.val outOf
  have hbx := ((Below.refl w.heap.size w).alloc (Nat.le_refl _) (.cells #[.int .i64 a.kind, .int .i64 a.n, .string a.t] 90))
  have q1 := box_on q rfl hbx
  clear q
  go_enter Try.func115, Try.ntmps115
  go_wp2_with (go_at_call 111; refine (impl_within _ _ _ _).mono ?_; rintro e w' ⟨rfl, rfl⟩)
  go_ret
  exact ⟨rfl, hbx⟩
set_option maxHeartbeats 2000000 in
theorem impl_fits {w0 w : World} (hb : Below w0.heap.size w0 w) {bs : List Nat} {v : Value} {d : List Atom} (hd : AtomSR w0 bs [v] d) (c : Column) :
    Calls Try.prog 84 #[.agg c.raw, v] w fun e w' => e = .returned (.int .i64 (fitsCode c d)) ∧ Below w.heap.size w w' := by
  have hd0 := hd
  obtain ⟨A, cc, rfl, hlc, hcm, hel⟩ := atoms_at hd
  have hbx := ((Below.refl w.heap.size w).alloc (Nat.le_refl _) (.cells c.raw 59))
  have hbw := hb.alloc hb.size (.cells c.raw 59)
  have q := blk_cells (blk_new w c.raw 59)
  have qF := Fw.box q rfl
  by_cases hpos : 0 < d.length
  · cases hk0 : (d[0].kind != c.kind)
    · have hodd : odd0 c d = false := (odd0_at hpos).trans hk0
      obtain ⟨b, o, rfl, hbl, hcell⟩ := hel hpos
      obtain ⟨z0, _, _, _⟩ := hcell 0 hpos
      have kz := Fw.cell ((hbw.cell (p := ⟨b, _, none⟩) hbl).trans z0)
      simp only [Nat.zero_mul, Nat.add_zero] at kz
      clear z0 hcell hel
      have hl : decide ((0 : Int) < d.length) = true := decide_eq_true (by omega)
      cases h1 : inB d.length c.min c.max
      · have hr : Hid (fitsCode c d = 6) := by show _ = _; unfold fitsCode; rw [hodd, h1]; rfl
        have H1 := hide h1
        clear h1
        go_enter Try.func84, Try.ntmps84
        go_wp2_with fail
        refine region_quiet (by kernel_rfl) (by kernel_rfl) ?_
        repeat (go_big_quiet_step (fail))
        refine wpQuiet_nil ?_; intro w1 hb1; have q1 := box_on q rfl hb1; clear qF kz
        have hw1 := nxt hbx hb1
        have hB1 := nxt hbw hb1
        go_wp2_with (go_at_call 111; refine (impl_within _ _ _ _).mono ?_; rw [H1.out]; rintro e w' ⟨rfl, rfl⟩)
        go_ret
        exact ⟨by rw [hr.out]; rfl, hw1⟩
      cases h2 : (c.kind == 1)
      · have hr : Hid (fitsCode c d = 0) := by show _ = _; unfold fitsCode; rw [hodd, h1, h2]; rfl
        have H1 := hide h1
        clear h1
        go_enter Try.func84, Try.ntmps84
        go_wp2_with fail
        refine region_quiet (by kernel_rfl) (by kernel_rfl) ?_
        repeat (go_big_quiet_step (fail))
        refine wpQuiet_nil ?_; intro w1 hb1; have q1 := box_on q rfl hb1; clear qF kz
        have hw1 := nxt hbx hb1
        have hB1 := nxt hbw hb1
        go_wp2_with (go_at_call 111; refine (impl_within _ _ _ _).mono ?_; rw [H1.out]; rintro e w' ⟨rfl, rfl⟩)
        go_ret
        exact ⟨by rw [hr.out]; rfl, hw1⟩
      cases h3 : d.any (outOf c)
      · have hr : Hid (fitsCode c d = 0) := by show _ = _; unfold fitsCode; rw [hodd, h1, h2, h3]; rfl
        have H1 := hide h1
        have H3 := hide h3
        clear h1 h3
        go_enter Try.func84, Try.ntmps84
        go_wp2_with fail
        refine region_quiet (by kernel_rfl) (by kernel_rfl) ?_
        repeat (go_big_quiet_step (fail))
        refine wpQuiet_nil ?_; intro w1 hb1; have q1 := box_on q rfl hb1; clear qF kz
        have hw1 := nxt hbx hb1
        have hB1 := nxt hbw hb1
        go_wp2_with (first | (go_at_call 111; refine (impl_within _ _ _ _).mono ?_; rw [H1.out]; rintro e w' ⟨rfl, rfl⟩) | (go_at_call 114; refine (slices_ContainsFuncAtomS (AtomSR.good.nxt hB1 hd0) (outOf c) 115 #[.pointer (some ⟨w.heap.size, 0, none⟩)] (enters_of Try.func115 (by kernel_rfl) rfl) (fun k hk bk es hR W hW => by obtain ⟨rfl, rfl, _⟩ := hR; exact clo_fits c (box_on q1 rfl hW) d[k])).mono ?_; rw [H3.out]; rintro e w2 ⟨rfl, hb2⟩))
        go_ret
        exact ⟨by rw [hr.out]; rfl, nxt hw1 hb2⟩
      · have hr : Hid (fitsCode c d = 4) := by show _ = _; unfold fitsCode; rw [hodd, h1, h2, h3]; rfl
        have H1 := hide h1
        have H3 := hide h3
        clear h1 h3
        go_enter Try.func84, Try.ntmps84
        go_wp2_with fail
        refine region_quiet (by kernel_rfl) (by kernel_rfl) ?_
        repeat (go_big_quiet_step (fail))
        refine wpQuiet_nil ?_; intro w1 hb1; have q1 := box_on q rfl hb1; clear qF kz
        have hw1 := nxt hbx hb1
        have hB1 := nxt hbw hb1
        go_wp2_with (first | (go_at_call 111; refine (impl_within _ _ _ _).mono ?_; rw [H1.out]; rintro e w' ⟨rfl, rfl⟩) | (go_at_call 114; refine (slices_ContainsFuncAtomS (AtomSR.good.nxt hB1 hd0) (outOf c) 115 #[.pointer (some ⟨w.heap.size, 0, none⟩)] (enters_of Try.func115 (by kernel_rfl) rfl) (fun k hk bk es hR W hW => by obtain ⟨rfl, rfl, _⟩ := hR; exact clo_fits c (box_on q1 rfl hW) d[k])).mono ?_; rw [H3.out]; rintro e w2 ⟨rfl, hb2⟩))
        go_ret
        exact ⟨by rw [hr.out]; rfl, nxt hw1 hb2⟩
    · have hr : Hid (fitsCode c d = 9) := by show _ = _; unfold fitsCode; rw [odd0_at hpos, hk0]; rfl
      obtain ⟨b, o, rfl, hbl, hcell⟩ := hel hpos
      obtain ⟨z0, _, _, _⟩ := hcell 0 hpos
      have kz := Fw.cell ((hbw.cell (p := ⟨b, _, none⟩) hbl).trans z0)
      simp only [Nat.zero_mul, Nat.add_zero] at kz
      clear z0 hcell hel
      have hl : decide ((0 : Int) < d.length) = true := decide_eq_true (by omega)
      go_enter Try.func84, Try.ntmps84
      go_wp2_with fail
      refine region_quiet (by kernel_rfl) (by kernel_rfl) ?_
      repeat (go_big_quiet_step (fail))
      refine wpQuiet_nil ?_; intro w1 hb1; have q1 := box_on q rfl hb1; clear qF kz
      have hw1 := nxt hbx hb1
      have hB1 := nxt hbw hb1
      go_wp2_with fail
      go_ret
      exact ⟨by rw [hr.out]; rfl, hw1⟩
  · have hodd : odd0 c d = false := odd0_nil hpos
    have hl : decide ((0 : Int) < d.length) = false := decide_eq_false (by omega)
    clear hel
    cases h1 : inB d.length c.min c.max
    · have hr : Hid (fitsCode c d = 6) := by show _ = _; unfold fitsCode; rw [hodd, h1]; rfl
      have H1 := hide h1
      clear h1
      go_enter Try.func84, Try.ntmps84
      go_wp2_with fail
      refine region_quiet (by kernel_rfl) (by kernel_rfl) ?_
      repeat (go_big_quiet_step (fail))
      refine wpQuiet_nil ?_; intro w1 hb1; have q1 := box_on q rfl hb1; clear qF
      have hw1 := nxt hbx hb1
      have hB1 := nxt hbw hb1
      go_wp2_with (go_at_call 111; refine (impl_within _ _ _ _).mono ?_; rw [H1.out]; rintro e w' ⟨rfl, rfl⟩)
      go_ret
      exact ⟨by rw [hr.out]; rfl, hw1⟩
    cases h2 : (c.kind == 1)
    · have hr : Hid (fitsCode c d = 0) := by show _ = _; unfold fitsCode; rw [hodd, h1, h2]; rfl
      have H1 := hide h1
      clear h1
      go_enter Try.func84, Try.ntmps84
      go_wp2_with fail
      refine region_quiet (by kernel_rfl) (by kernel_rfl) ?_
      repeat (go_big_quiet_step (fail))
      refine wpQuiet_nil ?_; intro w1 hb1; have q1 := box_on q rfl hb1; clear qF
      have hw1 := nxt hbx hb1
      have hB1 := nxt hbw hb1
      go_wp2_with (go_at_call 111; refine (impl_within _ _ _ _).mono ?_; rw [H1.out]; rintro e w' ⟨rfl, rfl⟩)
      go_ret
      exact ⟨by rw [hr.out]; rfl, hw1⟩
    cases h3 : d.any (outOf c)
    · have hr : Hid (fitsCode c d = 0) := by show _ = _; unfold fitsCode; rw [hodd, h1, h2, h3]; rfl
      have H1 := hide h1
      have H3 := hide h3
      clear h1 h3
      go_enter Try.func84, Try.ntmps84
      go_wp2_with fail
      refine region_quiet (by kernel_rfl) (by kernel_rfl) ?_
      repeat (go_big_quiet_step (fail))
      refine wpQuiet_nil ?_; intro w1 hb1; have q1 := box_on q rfl hb1; clear qF
      have hw1 := nxt hbx hb1
      have hB1 := nxt hbw hb1
      go_wp2_with (first | (go_at_call 111; refine (impl_within _ _ _ _).mono ?_; rw [H1.out]; rintro e w' ⟨rfl, rfl⟩) | (go_at_call 114; refine (slices_ContainsFuncAtomS (AtomSR.good.nxt hB1 hd0) (outOf c) 115 #[.pointer (some ⟨w.heap.size, 0, none⟩)] (enters_of Try.func115 (by kernel_rfl) rfl) (fun k hk bk es hR W hW => by obtain ⟨rfl, rfl, _⟩ := hR; exact clo_fits c (box_on q1 rfl hW) d[k])).mono ?_; rw [H3.out]; rintro e w2 ⟨rfl, hb2⟩))
      go_ret
      exact ⟨by rw [hr.out]; rfl, nxt hw1 hb2⟩
    · have hr : Hid (fitsCode c d = 4) := by show _ = _; unfold fitsCode; rw [hodd, h1, h2, h3]; rfl
      have H1 := hide h1
      have H3 := hide h3
      clear h1 h3
      go_enter Try.func84, Try.ntmps84
      go_wp2_with fail
      refine region_quiet (by kernel_rfl) (by kernel_rfl) ?_
      repeat (go_big_quiet_step (fail))
      refine wpQuiet_nil ?_; intro w1 hb1; have q1 := box_on q rfl hb1; clear qF
      have hw1 := nxt hbx hb1
      have hB1 := nxt hbw hb1
      go_wp2_with (first | (go_at_call 111; refine (impl_within _ _ _ _).mono ?_; rw [H1.out]; rintro e w' ⟨rfl, rfl⟩) | (go_at_call 114; refine (slices_ContainsFuncAtomS (AtomSR.good.nxt hB1 hd0) (outOf c) 115 #[.pointer (some ⟨w.heap.size, 0, none⟩)] (enters_of Try.func115 (by kernel_rfl) rfl) (fun k hk bk es hR W hW => by obtain ⟨rfl, rfl, _⟩ := hR; exact clo_fits c (box_on q1 rfl hW) d[k])).mono ?_; rw [H3.out]; rintro e w2 ⟨rfl, hb2⟩))
      go_ret
      exact ⟨by rw [hr.out]; rfl, nxt hw1 hb2⟩
set_option maxHeartbeats 2000000 in
theorem spec_l04Fits {w0 w : World} (hb : Below w0.heap.size w0 w) {bs : List Nat} {v : Value} {d : List Atom} (hd : AtomSR w0 bs [v] d) (c : Column) :
    Calls Try.prog 78 #[.agg c.raw, v] w fun e w' => e = .returned (.int .i64 (fitsCode c d)) ∧ Below w.heap.size w w' := by
  have hd0 := hd
  obtain ⟨A, cc, rfl, hlc, hcm, hel⟩ := atoms_at hd
  have hbx := ((Below.refl w.heap.size w).alloc (Nat.le_refl _) (.cells c.raw 59))
  have hbw := hb.alloc hb.size (.cells c.raw 59)
  have q := blk_cells (blk_new w c.raw 59)
  have qF := Fw.box q rfl
  by_cases hpos : 0 < d.length
  · cases hk0 : (d[0].kind != c.kind)
    · have hodd : odd0 c d = false := (odd0_at hpos).trans hk0
      obtain ⟨b, o, rfl, hbl, hcell⟩ := hel hpos
      obtain ⟨z0, _, _, _⟩ := hcell 0 hpos
      have kz := Fw.cell ((hbw.cell (p := ⟨b, _, none⟩) hbl).trans z0)
      simp only [Nat.zero_mul, Nat.add_zero] at kz
      clear z0 hcell hel
      have hl : decide ((0 : Int) < d.length) = true := decide_eq_true (by omega)
      cases h1 : inB d.length c.min c.max
      · have hr : Hid (fitsCode c d = 6) := by show _ = _; unfold fitsCode; rw [hodd, h1]; rfl
        have H1 := hide h1
        clear h1
        go_enter Try.func78, Try.ntmps78
        go_wp2_with fail
        refine region_quiet (by kernel_rfl) (by kernel_rfl) ?_
        repeat (go_big_quiet_step (fail))
        refine wpQuiet_nil ?_; intro w1 hb1; have q1 := box_on q rfl hb1; clear qF kz
        have hw1 := nxt hbx hb1
        have hB1 := nxt hbw hb1
        go_wp2_with (go_at_call 88; refine (spec_l01In _ _ _ _).mono ?_; rw [H1.out]; rintro e w' ⟨rfl, rfl⟩)
        go_ret
        exact ⟨by rw [hr.out]; rfl, hw1⟩
      have hr0 : Hid (fitsCode c d = cond (c.kind == 1 && d.any (outOf c)) 4 0) := by show _ = _; unfold fitsCode; rw [hodd, h1]; rfl
      have H1 := hide h1
      clear h1
      go_enter Try.func78, Try.ntmps78
      go_wp2_with fail
      refine region_quiet (by kernel_rfl) (by kernel_rfl) ?_
      repeat (go_big_quiet_step (fail))
      refine wpQuiet_nil ?_; intro w1 hb1; have q1 := box_on q rfl hb1; clear qF kz
      have hw1 := nxt hbx hb1
      have hB1 := nxt hbw hb1
      go_wp2_with (go_at_call 88; refine (spec_l01In _ _ _ _).mono ?_; rw [H1.out]; rintro e w' ⟨rfl, rfl⟩)
      go_loopw [5] (fun i wr => ∃ k : Nat, k ≤ d.length ∧ i = .int .i64 k ∧ Hid (∀ j (hj : j < d.length), j < k → oddR c d[j] = false) ∧ Below w1.heap.size w1 wr) (fun i _ => d.length - (intOf i).toNat)
      case atStart => exact ⟨0, Nat.zero_le _, rfl, fun j hj h => absurd h (by omega), Below.refl _ _⟩
      case round =>
        obtain ⟨k, hk, rfl, hn, hbr⟩ := hrel
        have hBr := nxt hB1 hbr
        have q2 := Fw.box (box_on q1 rfl hbr) rfl
        clear q1 q
        by_cases hlt : k < d.length
        · obtain ⟨A', cc', hAA, _, _, hel⟩ := atoms_at hd0
          cases hAA
          obtain ⟨b', o', hbo, hbl', hcell⟩ := hel (by omega)
          cases hbo
          obtain ⟨_, e1, _, _⟩ := hcell k hlt
          have k1 := Fw.cell ((hBr.cell (p := ⟨b, _, none⟩) hbl).trans e1)
          clear e1 hcell hel
          cases h2 : (c.kind == 1)
          · have hn2 : Hid (∀ j (hj : j < d.length), j < k + 1 → oddR c d[j] = false) := fun j hj _ => by unfold oddR; rw [h2]; rfl
            go_wp2_with fail
            refine region_quiet (by kernel_rfl) (by kernel_rfl) ?_
            repeat (go_big_quiet_step (fail))
            refine wpQuiet_nil ?_; intro w3 hb3; clear q2 k1
            go_wp2_with fail
            go_roundw
            case rel => exact ⟨k + 1, hlt, by go_num, hn2, nxt hbr hb3⟩
            case measure => simp [intOf]; omega
          have A1 := hide (fun w => spec_l01In d[k].n c.low c.high w)
          cases h3 : inB d[k].n c.low c.high
          · have hr : Hid (fitsCode c d = 4) := by show _ = _; rw [hr0.out, h2, show d.any (outOf c) = true from List.any_eq_true.2 ⟨d[k], List.getElem_mem hlt, by unfold outOf; rw [h3]; rfl⟩]; rfl
            rw [h3] at A1
            clear h3
            go_wp2_with fail
            refine region_quiet (by kernel_rfl) (by kernel_rfl) ?_
            repeat (go_big_quiet_step ((go_at_call 88; exact quiet_of_eq (A1.out _))))
            refine wpQuiet_nil ?_; intro w3 hb3; clear q2 k1
            go_wp2_with fail
            go_ret
            exact ⟨by rw [hr.out]; rfl, nxt (nxt hw1 hbr) hb3⟩
          · have hn2 : Hid (∀ j (hj : j < d.length), j < k + 1 → oddR c d[j] = false) := by
              intro j hj hjk
              by_cases hjk' : j = k
              · subst hjk'; unfold oddR outOf; rw [h3]; simp
              · exact hn.out j hj (by omega)
            rw [h3] at A1
            clear h3
            go_wp2_with fail
            refine region_quiet (by kernel_rfl) (by kernel_rfl) ?_
            repeat (go_big_quiet_step ((go_at_call 88; exact quiet_of_eq (A1.out _))))
            refine wpQuiet_nil ?_; intro w3 hb3; clear q2 k1
            go_wp2_with fail
            go_roundw
            case rel => exact ⟨k + 1, hlt, by go_num, hn2, nxt hbr hb3⟩
            case measure => simp [intOf]; omega
        · obtain rfl : k = d.length := by omega
          have hr : Hid (fitsCode c d = 0) := by
            show _ = _
            rw [hr0.out]
            cases h2 : (c.kind == 1)
            · rfl
            · rw [show d.any (outOf c) = false from Bool.eq_false_iff.2 fun ha => by obtain ⟨x, hx, he⟩ := List.any_eq_true.1 ha; obtain ⟨j, hj, rfl⟩ := List.getElem_of_mem hx; have := hn.out j hj hj; unfold oddR at this; rw [h2, he] at this; cases this]; rfl
          clear q2
          go_wp2
          go_ret
          exact ⟨by rw [hr.out]; rfl, nxt hw1 hbr⟩
    · have hr : Hid (fitsCode c d = 9) := by show _ = _; unfold fitsCode; rw [odd0_at hpos, hk0]; rfl
      obtain ⟨b, o, rfl, hbl, hcell⟩ := hel hpos
      obtain ⟨z0, _, _, _⟩ := hcell 0 hpos
      have kz := Fw.cell ((hbw.cell (p := ⟨b, _, none⟩) hbl).trans z0)
      simp only [Nat.zero_mul, Nat.add_zero] at kz
      clear z0 hcell hel
      have hl : decide ((0 : Int) < d.length) = true := decide_eq_true (by omega)
      go_enter Try.func78, Try.ntmps78
      go_wp2_with fail
      refine region_quiet (by kernel_rfl) (by kernel_rfl) ?_
      repeat (go_big_quiet_step (fail))
      refine wpQuiet_nil ?_; intro w1 hb1; have q1 := box_on q rfl hb1; clear qF kz
      have hw1 := nxt hbx hb1
      have hB1 := nxt hbw hb1
      go_wp2_with fail
      go_ret
      exact ⟨by rw [hr.out]; rfl, hw1⟩
  · have hodd : odd0 c d = false := odd0_nil hpos
    have hl : decide ((0 : Int) < d.length) = false := decide_eq_false (by omega)
    clear hel
    cases h1 : inB d.length c.min c.max
    · have hr : Hid (fitsCode c d = 6) := by show _ = _; unfold fitsCode; rw [hodd, h1]; rfl
      have H1 := hide h1
      clear h1
      go_enter Try.func78, Try.ntmps78
      go_wp2_with fail
      refine region_quiet (by kernel_rfl) (by kernel_rfl) ?_
      repeat (go_big_quiet_step (fail))
      refine wpQuiet_nil ?_; intro w1 hb1; have q1 := box_on q rfl hb1; clear qF
      have hw1 := nxt hbx hb1
      have hB1 := nxt hbw hb1
      go_wp2_with (go_at_call 88; refine (spec_l01In _ _ _ _).mono ?_; rw [H1.out]; rintro e w' ⟨rfl, rfl⟩)
      go_ret
      exact ⟨by rw [hr.out]; rfl, hw1⟩
    have hr0 : Hid (fitsCode c d = cond (c.kind == 1 && d.any (outOf c)) 4 0) := by show _ = _; unfold fitsCode; rw [hodd, h1]; rfl
    have H1 := hide h1
    clear h1
    go_enter Try.func78, Try.ntmps78
    go_wp2_with fail
    refine region_quiet (by kernel_rfl) (by kernel_rfl) ?_
    repeat (go_big_quiet_step (fail))
    refine wpQuiet_nil ?_; intro w1 hb1; have q1 := box_on q rfl hb1; clear qF
    have hw1 := nxt hbx hb1
    have hB1 := nxt hbw hb1
    go_wp2_with (go_at_call 88; refine (spec_l01In _ _ _ _).mono ?_; rw [H1.out]; rintro e w' ⟨rfl, rfl⟩)
    go_loopw [5] (fun i wr => ∃ k : Nat, k ≤ d.length ∧ i = .int .i64 k ∧ Hid (∀ j (hj : j < d.length), j < k → oddR c d[j] = false) ∧ Below w1.heap.size w1 wr) (fun i _ => d.length - (intOf i).toNat)
    case atStart => exact ⟨0, Nat.zero_le _, rfl, fun j hj h => absurd h (by omega), Below.refl _ _⟩
    case round =>
      obtain ⟨k, hk, rfl, hn, hbr⟩ := hrel
      have hBr := nxt hB1 hbr
      have q2 := Fw.box (box_on q1 rfl hbr) rfl
      clear q1 q
      by_cases hlt : k < d.length
      · exact absurd hlt (by omega)
      · obtain rfl : k = d.length := by omega
        have hr : Hid (fitsCode c d = 0) := by
          show _ = _
          rw [hr0.out]
          cases h2 : (c.kind == 1)
          · rfl
          · rw [show d.any (outOf c) = false from Bool.eq_false_iff.2 fun ha => by obtain ⟨x, hx, he⟩ := List.any_eq_true.1 ha; obtain ⟨j, hj, rfl⟩ := List.getElem_of_mem hx; have := hn.out j hj hj; unfold oddR at this; rw [h2, he] at this; cases this]; rfl
        clear q2
        go_wp2
        go_ret
        exact ⟨by rw [hr.out]; rfl, nxt hw1 hbr⟩
end Go.Proofs.Ythglchopajdmhaa
