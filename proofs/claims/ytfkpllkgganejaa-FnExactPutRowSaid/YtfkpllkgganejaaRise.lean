/- Rows whose Ids rise. No statement is proved here; no conditions. Written by a program (gen21.py). -/
import Derived.Test.YtfkpllkgganejaaResult
import Derived.Test.YtfkpllkgganejaaTables
import Derived.Test.YtfkpllkgganejaaOrder
import Derived.Test.YtfkpllkgganejaaFunc
import Derived.Shelf.Abstract
namespace Go.Proofs.Ytfkpllkgganejaa
open Go.ChangeShapes Go.WideShapes Go.ChangeAt Go.RowKit Go.Deep
set_option maxRecDepth 100000
set_option linter.unusedVariables false
set_option linter.unusedSimpArgs false

def stepUp (l : List Row) (k : Nat) : Bool := decide (k = 0) || decide ((l.getD (k - 1) default).id < (l.getD k default).id)
def rising (l : List Row) : Bool := upTo (stepUp l) l.length
def tblCode (x : Store) (n : Int) : Int := cond (x.tables.all rising) (cond (inB n 0 ((x.tables.length : Int) - 1)) 0 10) 1
def rowIdx (l : List Row) (id : Int) : Int := idxF (fun r => r.id == id) l
def hasId (l : List Row) (id : Int) : Bool := l.any fun r => r.id == id
def lbOf (l : List Row) (id : Int) : Nat := l.findIdx fun r => decide (id ≤ r.id)
theorem stepUp_at {l : List Row} {k : Nat} (hk : k + 1 < l.length) : stepUp l (k + 1) = decide (l[k].id < l[k + 1].id) := by
  unfold stepUp; rw [get_at l (k + 1) hk, Nat.add_sub_cancel, get_at l k (by omega)]; simp
theorem rising_lt {l : List Row} (h : rising l = true) : ∀ {i j : Nat} (hij : i < j) (hj : j < l.length), l[i].id < l[j].id := by
  intro i j hij
  induction hij with
  | refl => intro hj; have := upTo_at h hj; rw [stepUp_at hj] at this; exact of_decide_eq_true this
  | step hij ih => intro hj; have := upTo_at h hj; rw [stepUp_at hj] at this; exact Int.lt_trans (ih (by omega)) (of_decide_eq_true this)
theorem lb_le (l : List Row) (id : Int) : lbOf l id ≤ l.length := List.findIdx_le_length
theorem lb_up {l : List Row} {id : Int} (h : rising l = true) {k : Nat} (hk : k < l.length) (hlt : l[k].id < id) : k + 1 ≤ lbOf l id := by
  rcases Nat.lt_or_ge k (lbOf l id) with h' | h'
  · exact h'
  · have hl : lbOf l id < l.length := by omega
    have h1 := List.findIdx_getElem (w := hl)
    have h1 := of_decide_eq_true h1
    rcases Nat.lt_or_ge (lbOf l id) k with h2 | h2
    · have := rising_lt h h2 hk; unfold lbOf at this; omega
    · have e : lbOf l id = k := by omega
      have : l[lbOf l id].id = l[k].id := by congr 1; congr 1
      unfold lbOf at this; omega
theorem lb_down {l : List Row} {id : Int} {k : Nat} (hk : k < l.length) (hlt : ¬ l[k].id < id) : lbOf l id ≤ k := by
  rcases Nat.lt_or_ge k (lbOf l id) with h' | h'
  · have := List.not_of_lt_findIdx h'
    simp at this; omega
  · exact h'
theorem hasId_lb {l : List Row} {id : Int} (h : rising l = true) {k : Nat} (hk : k < l.length) (hb : lbOf l id = k) : hasId l id = (l[k].id == id) := by
  cases he : (l[k].id == id)
  · unfold hasId
    rw [List.any_eq_false]
    intro x hx hp
    obtain ⟨j, hj, rfl⟩ := List.getElem_of_mem hx
    have hp := eq_of_beq hp
    have hle : id ≤ l[k].id := by
      have hl : lbOf l id < l.length := by omega
      have h1 := of_decide_eq_true (List.findIdx_getElem (w := hl))
      have : l[lbOf l id].id = l[k].id := by congr 1; congr 1
      unfold lbOf at this; omega
    have hne : l[k].id ≠ id := by simpa using he
    rcases Nat.lt_trichotomy j k with h1 | h1 | h1
    · have := lb_down (id := id) hj (by omega); omega
    · subst h1; exact hne hp
    · have := rising_lt h h1 hj; omega
  · exact List.any_eq_true.2 ⟨l[k], List.getElem_mem hk, he⟩
theorem hasId_end {l : List Row} {id : Int} (hb : ¬ lbOf l id < l.length) : hasId l id = false := by
  unfold hasId; rw [List.any_eq_false]
  intro x hx hp
  obtain ⟨j, hj, rfl⟩ := List.getElem_of_mem hx
  have hp := eq_of_beq hp
  have := lb_down (id := id) hj (by omega)
  omega
theorem rowIdx_has (l : List Row) (id : Int) : decide (0 ≤ rowIdx l id) = hasId l id := idxF_any
theorem rowIdx_none {l : List Row} {id : Int} (h : hasId l id = false) : rowIdx l id = -1 := by unfold rowIdx idxF; unfold hasId at h; rw [h]; rfl
theorem rowIdx_lb {l : List Row} {id : Int} (hr : rising l = true) (h : hasId l id = true) : rowIdx l id = (lbOf l id : Int) ∧ lbOf l id < l.length := by
  have hl : lbOf l id < l.length := by
    rcases Nat.lt_or_ge (lbOf l id) l.length with h' | h'
    · exact h'
    · rw [hasId_end (by omega)] at h; cases h
  refine ⟨idxF_at hl (fun j hj hjl => ?_) ?_, hl⟩
  · have := rising_lt hr hjl hl
    rw [hasId_lb hr hl rfl] at h
    have := eq_of_beq h
    rw [beq_eq_false_iff_ne]; omega
  · rw [← hasId_lb hr hl rfl]; exact h
set_option maxHeartbeats 2000000 in
theorem impl_areRising {w : World} {bs : List Nat} {v : Value} {l : List Row} (H : RowSR w bs [v] l) :
    Calls Try.prog 41 #[v] w fun e w' => e = .returned (.bool (rising l)) ∧ Below w.heap.size w w' := by
  obtain ⟨A, c, rfl, hlc, hcm, hel⟩ := H.use
  by_cases h0 : l.length = 0
  · have hr : Hid (rising l = true) := by show _ = _; unfold rising; rw [h0]; rfl
    have hle : l.length < 1 := by omega
    clear hel h0
    go_enter Try.func41, Try.ntmps41
    go_wp2_with fail
    go_loopw [3] (fun i wr => ∃ k : Nat, i = .int .i64 (k + 1) ∧ Below w.heap.size w wr) (fun i _ => l.length - (intOf i).toNat)
    case atStart => exact ⟨0, rfl, Below.refl _ _⟩
    case round =>
      obtain ⟨k, rfl, hbr⟩ := hrel
      have hlt : decide ((k : Int) + 1 < l.length) = false := decide_eq_false (by omega)
      go_wp2
      go_ret
      exact ⟨by rw [hr.out]; rfl, hbr⟩
  have hpos : 0 < l.length := by omega
  clear h0
  go_enter Try.func41, Try.ntmps41
  go_wp2_with fail
  go_loopw [3] (fun i wr => ∃ k : Nat, k < l.length ∧ i = .int .i64 (k + 1) ∧ Hid (upTo (stepUp l) (k + 1) = true) ∧ Below w.heap.size w wr) (fun i _ => l.length - (intOf i).toNat)
  case atStart => exact ⟨0, hpos, rfl, rfl, Below.refl _ _⟩
  case round =>
    obtain ⟨k, hk, rfl, hn, hbr⟩ := hrel
    by_cases hlt : k + 1 < l.length
    · obtain ⟨b, o, bk, es, hA, hbl, hcl, hcell, hR, _⟩ := hel k hk
      obtain ⟨v1, b1, _, hes, hf1, r1⟩ := hR; subst hes
      obtain ⟨b', o', bk', es', hA', hbl', hcl', hcell', hR', _⟩ := hel (k + 1) hlt
      obtain ⟨v2, b2, _, hes', hf2, r2⟩ := hR'; subst hes'
      subst hA; injection hA' with e1; injection e1 with e1 e2; subst e1; subst e2
      have p0 := Fw.cell ((hbr.cell (p := ⟨b, _, none⟩) hbl).trans (hcell 0 _ rfl))
      have p1 := Fw.cell ((hbr.cell (p := ⟨b, _, none⟩) hbl).trans (hcell 1 _ rfl))
      have g0 := Fw.cell ((hbr.cell (p := ⟨b, _, none⟩) hbl).trans (hcell' 0 _ rfl))
      have g1 := Fw.cell ((hbr.cell (p := ⟨b, _, none⟩) hbl).trans (hcell' 1 _ rfl))
      simp only [Nat.add_zero] at p0 p1 g0 g1
      have hst := stepUp_at hlt
      clear hcell hcell' hcl hcl' hel
      cases hq : decide (l[k].id < l[k + 1].id)
      · have hr : Hid (rising l = false) := by show _ = _; exact upTo_bad hlt (hst.trans hq)
        have hd : decide (l[k + 1].id ≤ l[k].id) = true := decide_eq_true (by have := of_decide_eq_false hq; omega)
        clear hq hst
        go_wp2_with fail
        refine region_quiet (by kernel_rfl) (by kernel_rfl) ?_
        repeat (go_big_quiet_step (fail))
        refine wpQuiet_nil ?_; intro w3 hb3; clear p0 p1 g0 g1
        go_wp2_with fail
        go_ret
        exact ⟨by rw [hr.out]; rfl, nxt hbr hb3⟩
      · have hn2 : Hid (upTo (stepUp l) (k + 1 + 1) = true) := by show _ = _; rw [upTo_succ, hn.out, hst, hq]; rfl
        have hd : decide (l[k + 1].id ≤ l[k].id) = false := decide_eq_false (by have := of_decide_eq_true hq; omega)
        clear hq hst
        go_wp2_with fail
        refine region_quiet (by kernel_rfl) (by kernel_rfl) ?_
        repeat (go_big_quiet_step (fail))
        refine wpQuiet_nil ?_; intro w3 hb3; clear p0 p1 g0 g1
        go_wp2_with fail
        go_roundw
        case rel => exact ⟨k + 1, hlt, by go_num, hn2, nxt hbr hb3⟩
        case measure => simp [intOf]; omega
    · have hr : Hid (rising l = true) := by show _ = _; unfold rising; rw [show l.length = k + 1 by omega]; exact hn.out
      clear hel
      go_wp2
      go_ret
      exact ⟨by rw [hr.out]; rfl, hbr⟩
theorem clo_rowAt {w : World} {bs : List Nat} {cs : List Value} {r : Row} (H : RowR w bs cs r) (id : Int) :
    Calls Try.prog 56 #[.agg cs.toArray, .int .i64 id] w fun e w' => e = .returned (.int .i64 (cmpI r.id id)) ∧ Below w.heap.size w w' := by
  obtain ⟨v1, b1, rfl, rfl, hf, r1⟩ := H
  obtain ⟨A1, c1, rfl, _, _, _⟩ := r1.use
  have hbx := (Below.refl w.heap.size w).alloc (Nat.le_refl _) (.cells #[.int .i64 r.id, .slice A1 r.cells.length c1] 38)
  go_enter Try.func56, Try.ntmps56
  go_wp2_with fail
  refine (cmp_Compare _ _ _).mono ?_; rintro e w1 ⟨rfl, rfl⟩
  go_wp2_with fail
  go_ret
  exact ⟨rfl, hbx⟩
set_option maxHeartbeats 4000000 in
theorem slices_BinarySearchR {w : World} {bs : List Nat} {v : Value} {l : List Row} (H : RowSR w bs [v] l) (id : Int) (hr : rising l = true) (hn : l.length ≤ 1048576) :
    Calls Try.prog 55 #[v, .int .i64 id, .func (.func 56) #[] #[]] w fun e w' => e = .returned (.tuple #[.int .i64 (lbOf l id), .bool (hasId l id)]) ∧ Below w.heap.size w w' := by
  obtain ⟨A, c, rfl, hlc, hcm, hel⟩ := H.use
  have HR := hide hr; clear hr
  have eg := enters_of Try.func56 (by kernel_rfl) rfl
  go_enter Try.func55, Try.ntmps55
  go_wp2_with fail
  go_loopw [9, 10] (fun i j wr => ∃ lo hi : Nat, i = .int .i64 lo ∧ j = .int .i64 hi ∧ lo ≤ hi ∧ hi ≤ l.length ∧ Hid (lo ≤ lbOf l id ∧ lbOf l id ≤ hi) ∧ Below w.heap.size w wr) (fun i j _ => (intOf j).toNat - (intOf i).toNat)
  case atStart => exact ⟨0, l.length, rfl, rfl, Nat.zero_le _, Nat.le_refl _, ⟨Nat.zero_le _, lb_le l id⟩, Below.refl _ _⟩
  case round =>
    obtain ⟨lo, hi, rfl, rfl, hlh, hhn, hI, hbr⟩ := hrel
    by_cases hlt : lo < hi
    · have hm : (lo + hi) / 2 < l.length := by omega
      obtain ⟨b, o, bk, es, rfl, hbl, hcl, hcell, hR, _⟩ := hel ((lo + hi) / 2) hm
      have hR0 := RowR.good.nxt hbr hR
      obtain ⟨v1, b1, _, hes, hf1, r1⟩ := hR; subst hes
      obtain ⟨A1, c1, rfl, _, _, _⟩ := r1.use
      have g0 := (hbr.cell (p := ⟨b, _, none⟩) hbl).trans (hcell 0 _ rfl)
      have g1 := (hbr.cell (p := ⟨b, _, none⟩) hbl).trans (hcell 1 _ rfl)
      simp only [Nat.add_zero] at g0 g1
      clear hcell hcl hel
      have hc := clo_rowAt hR0 id
      by_cases hq : l[(lo + hi) / 2].id < id
      · have hz : Hid (cmpI l[(lo + hi) / 2].id id = -1) := by show _ = _; unfold cmpI; rw [if_pos hq]
        have hI2 : Hid ((lo + hi) / 2 + 1 ≤ lbOf l id ∧ lbOf l id ≤ hi) := ⟨lb_up HR.out hm hq, hI.out.2⟩
        rw [hz.out] at hc; clear hq
        go_wp2_with fail
        refine hc.mono ?_; rintro e w3 ⟨rfl, hb3⟩
        go_wp2_with fail
        go_roundw
        case rel => exact ⟨(lo + hi) / 2 + 1, hi, by rw [show ((lo : Int) + (hi : Int)) / 2 + 1 = (((lo + hi) / 2 + 1 : Nat) : Int) by omega], rfl, by omega, hhn, hI2, nxt hbr hb3⟩
        case measure => simp [intOf]; omega
      · obtain ⟨z, hz, hz0⟩ : ∃ z, cmpI l[(lo + hi) / 2].id id = z ∧ ¬ z < 0 := ⟨_, rfl, by unfold cmpI; rw [if_neg hq]; split <;> omega⟩
        have hI2 : Hid (lo ≤ lbOf l id ∧ lbOf l id ≤ (lo + hi) / 2) := ⟨hI.out.1, lb_down hm hq⟩
        rw [hz] at hc; clear hq hz
        have hzd : decide (z < 0) = false := decide_eq_false hz0
        go_wp2_with fail
        refine hc.mono ?_; rintro e w3 ⟨rfl, hb3⟩
        go_wp2_with fail
        go_roundw
        case rel => exact ⟨lo, (lo + hi) / 2, rfl, by rw [show ((lo : Int) + (hi : Int)) / 2 = (((lo + hi) / 2 : Nat) : Int) by omega], by omega, by omega, hI2, nxt hbr hb3⟩
        case measure => simp [intOf]; omega
    · obtain rfl : lo = hi := by omega
      have hlb : lbOf l id = lo := by have := hI.out; omega
      have HB := hide hlb
      by_cases hn2 : lo < l.length
      · obtain ⟨b, o, bk, es, rfl, hbl, hcl, hcell, hR, _⟩ := hel lo hn2
        have hR0 := RowR.good.nxt hbr hR
        obtain ⟨v1, b1, _, hes, hf1, r1⟩ := hR; subst hes
        obtain ⟨A1, c1, rfl, _, _, _⟩ := r1.use
        have g0 := (hbr.cell (p := ⟨b, _, none⟩) hbl).trans (hcell 0 _ rfl)
        have g1 := (hbr.cell (p := ⟨b, _, none⟩) hbl).trans (hcell 1 _ rfl)
        simp only [Nat.add_zero] at g0 g1
        clear hcell hcl hel
        have hc := clo_rowAt hR0 id
        have hh := hide (hasId_lb HR.out hn2 hlb)
        clear hlb
        obtain ⟨z, hz, hzz⟩ : ∃ z, cmpI l[lo].id id = z ∧ (z == 0) = (l[lo].id == id) := ⟨_, rfl, by
          unfold cmpI
          split
          · rw [show (l[lo].id == id) = false from by rw [beq_eq_false_iff_ne]; omega]; rfl
          · split
            · rw [show (l[lo].id == id) = false from by rw [beq_eq_false_iff_ne]; omega]; rfl
            · rw [show (l[lo].id == id) = true from by rw [beq_iff_eq]; omega]; rfl⟩
        rw [hz] at hc; clear hz
        have HZ := hide hzz; clear hzz
        go_wp2_with fail
        refine hc.mono ?_; rintro e w3 ⟨rfl, hb3⟩
        go_wp2_with fail
        go_ret2
        exact ⟨by rw [hh.out, HB.out, ← HZ.out]; rfl, nxt hbr hb3⟩
      · have hh := hide (hasId_end (l := l) (id := id) (by omega))
        clear hlb hel
        go_wp2_with fail
        go_ret2
        exact ⟨by rw [hh.out, HB.out]; rfl, hbr⟩
theorem impl_rowAt {w : World} {bs : List Nat} {v : Value} {l : List Row} (H : RowSR w bs [v] l) (id : Int) (hr : rising l = true) (hn : l.length ≤ 1048576) :
    Calls Try.prog 44 #[v, .int .i64 id] w fun e w' => e = .returned (.tuple #[.int .i64 (lbOf l id), .bool (hasId l id)]) ∧ Below w.heap.size w w' := by
  have H0 := H
  obtain ⟨A, c, rfl, hlc, hcm, _⟩ := H.use
  go_enter Try.func44, Try.ntmps44
  go_wp2_with fail
  refine (slices_BinarySearchR H0 id hr hn).mono ?_; rintro e w3 ⟨rfl, hb3⟩
  go_wp2_with fail
  go_ret2
  exact ⟨rfl, hb3⟩
theorem clo_tableCode {w : World} {bs : List Nat} {v : Value} {l : List Row} (H : RowSR w bs [v] l) :
    Calls Try.prog 40 #[v] w fun e w' => e = .returned (.bool (!rising l)) ∧ Below w.heap.size w w' := by
  have H0 := H
  obtain ⟨A, c, rfl, hlc, hcm, _⟩ := H.use
  go_enter Try.func40, Try.ntmps40
  go_wp2_with fail
  refine (impl_areRising H0).mono ?_; rintro e w3 ⟨rfl, hb3⟩
  go_wp2_with fail
  go_ret
  exact ⟨rfl, hb3⟩
theorem impl_tableCode {w : World}  {bs_x : List Nat} {cs_x : List Value} {x : Store} (H_x : StoreR w bs_x cs_x x) (n : Int)  :
    Calls Try.prog 24 #[.agg cs_x.toArray, .int .i64 n] w (fun e w' => e = .returned (.int .i64 (tblCode x n)) ∧ Below w.heap.size w w') := by
  have H0_x := H_x
  obtain ⟨x_v0, x_b0, rfl, rfl, hf_x, x_r0⟩ := H_x
  obtain ⟨A_x0, c_x0, rfl, hlc_x0, hcm_x0, hel_x0⟩ := x_r0.use
  have hbx := ((Below.refl w.heap.size w).alloc (Nat.le_refl _) (.cells #[.slice A_x0 x.tables.length c_x0, .int .i64 x.next] 32))
  have q_x := blk_cells (blk_new w #[.slice A_x0 x.tables.length c_x0, .int .i64 x.next] 32)
  clear hel_x0
  go_enter Try.func24, Try.ntmps24
  go_wp2_with fail
  refine (slices_ContainsFuncRowSS (RowSSR.good.nxt hbx x_r0) (fun l => !rising l) 40 #[] (enters_of Try.func40 (by kernel_rfl) rfl) (fun k hk bk es hR W hW => clo_tableCode (RowSR.good.nxt hW hR))).mono ?_; rw [any_not]; rintro e w1 ⟨rfl, hb1⟩; replace q_x := box_on q_x rfl hb1; have hw1 := nxt hbx hb1
  cases h1 : x.tables.all rising
  · go_wp2_with fail
    go_ret
    exact ⟨ret_int (by unfold tblCode; rw [h1]; rfl), hw1⟩
  go_wp2_with fail
  refine (impl_within _ _ _ _).mono ?_; rintro e w2 ⟨rfl, rfl⟩
  cases h2 : inB n 0 ((x.tables.length : Int) - 1)
  · go_wp2_with fail
    go_ret
    exact ⟨ret_int (by unfold tblCode; rw [h1, h2]; rfl), hw1⟩
  go_wp2_with fail
  go_ret
  exact ⟨ret_int (by unfold tblCode; rw [h1, h2]; rfl), hw1⟩
theorem not_zero {α : Type} {p : α → Bool} {xs : List α} : ∀ j (hj : j < xs.length), j < 0 → p xs[j] = false := fun _ _ h => absurd h (Nat.not_lt_zero _)
theorem not_step {α : Type} {p : α → Bool} {xs : List α} {k : Nat} (hk : k < xs.length) (h : ∀ j (hj : j < xs.length), j < k → p xs[j] = false) (h1 : p xs[k] = false) : ∀ j (hj : j < xs.length), j < k + 1 → p xs[j] = false := by
  intro j hj hjk
  by_cases hjk' : j = k
  · subst hjk'; exact h1
  · exact h j hj (by omega)
set_option maxHeartbeats 2000000 in
theorem spec_l05Place {w : World}  {bs_l : List Nat} {v_l : Value} {l : List Row} (H_l : RowSR w bs_l [v_l] l) (id : Int)  :
    Calls Try.prog 19 #[v_l, .int .i64 id] w (fun e w' => e = .returned (.int .i64 (rowIdx l id)) ∧ Below w.heap.size w w') := by
  have H0_l := H_l
  obtain ⟨A_l, c_l, rfl, hlc_l, hcm_l, hel_l⟩ := H_l.use
  go_enter Try.func19, Try.ntmps19
  go_wp2_with fail
  go_loopw [5] (fun i wr => ∃ k : Nat, k ≤ l.length ∧ i = .int .i64 k ∧ Hid (∀ j (hj : j < l.length), j < k → (fun r : Row => r.id == id) l[j] = false) ∧ Below (World.heap (w)).size (w) wr) (fun i _ => l.length - (intOf i).toNat)
  case atStart => exact ⟨0, Nat.zero_le _, rfl, not_zero (p := fun r : Row => r.id == id) (xs := l), Below.refl _ _⟩
  case round =>
    obtain ⟨k1, hk1, rfl, hn1_, hb1001⟩ := hrel
    obtain ⟨wl1, rfl⟩ : ∃ w' : World, w' = wr := ⟨_, rfl⟩
    have hwl1 := nxt (Below.refl w.heap.size w) hb1001
    by_cases hlt1 : k1 < l.length
    · obtain ⟨gb, go, gbk, ges, rfl, ghbl, ghcl, ghcell, gR, ghbk⟩ := hel_l k1 hlt1
      have gR0 := gR
      obtain ⟨gv1, gb1, _, ghes, ghf, gr1⟩ := gR
      subst ghes
      obtain ⟨gA1, gc1, rfl, ghlc1, ghcm1, ghel1⟩ := gr1.use
      have g_0 := (hwl1.cell (p := ⟨gb, _, none⟩) ghbl).trans (ghcell 0 _ rfl)
      have g_1 := (hwl1.cell (p := ⟨gb, _, none⟩) ghbl).trans (ghcell 1 _ rfl)
      simp only [Nat.add_zero] at g_0 g_1
      clear ghcell ghcl
      cases h5 : (l[k1].id == id)
      · have hn2 := hide (not_step (p := fun r : Row => r.id == id) hlt1 hn1_.out h5)
        go_wp2_with fail
        go_roundw
        case rel => exact ⟨k1 + 1, hlt1, by go_num, hn2, hb1001⟩
        case measure => simp [intOf]; omega
      · have hr := hide (idxF_at (p := fun r : Row => r.id == id) hlt1 hn1_.out h5)
        go_wp2_with fail
        go_ret
        exact ⟨ret_int (by unfold rowIdx; rw [hr.out]), hwl1⟩
    · obtain rfl : k1 = l.length := by omega
      have hr := hide (idxF_none (p := fun r : Row => r.id == id) hn1_.out); clear hel_l
      go_wp2
      go_ret
      exact ⟨ret_int (by unfold rowIdx; rw [hr.out]), hwl1⟩
end Go.Proofs.Ytfkpllkgganejaa
