/- A column by its name, and the law on it. No statement is proved here; no conditions. -/
import Derived.Test.YtpbaeloiefpgbaaTables
import Derived.Test.YtpbaeloiefpgbaaSz
import Derived.Test.YtpbaeloiefpgbaaTo
import Derived.Test.YtpbaeloiefpgbaaEq
import Derived.Deep.RegionHeld3
namespace Go.Proofs.Ytpbaeloiefpgbaa
open Go.ChangeShapes Go.WideShapes Go.ChangeAt Go.RowKit Go.Deep
set_option maxRecDepth 100000
set_option linter.unusedVariables false

theorem impl_isText (s : ByteArray) (w : World) (hs : s.size ≤ 9223372036854775807) : Calls Try.prog 75 #[.string s] w fun e w' => e = .returned (.bool (decide ((s.size : Int) ≤ 65536))) ∧ w = w' := by
  go_enter Try.func75, Try.ntmps75
  go_wp2
  go_ret
  exact ⟨rfl, rfl⟩
def colOf (t : Table) (name : ByteArray) : Int × Int := if 65536 < name.size then (0, 2) else cond (tblOK t) (if colIdx t.columns name < 0 then (0, 11) else (colIdx t.columns name, 0)) (0, 1)
theorem impl_ColumnOf {w : World} {bs : List Nat} {cs : List Value} {t : Table} (ht : TableR w bs cs t) (name : ByteArray) (hs : name.size ≤ 9223372036854775807) :
    Calls Try.prog 24 #[.agg cs.toArray, .string name] w fun e w' => e = .returned (.tuple #[.int .i64 (colOf t name).1, .int .i64 (colOf t name).2]) ∧ Below w.heap.size w w' := by
  have ht0 := ht
  obtain ⟨v1, b1, v2, b2, rfl, rfl, hf, r1, r2⟩ := ht
  have hbx := (Below.refl w.heap.size w).alloc (Nat.le_refl _) (.cells #[.string t.name, v1, v2, .bool t.root] 44)
  by_cases hl : 65536 < name.size
  · have hr : Hid (colOf t name = (0, 2)) := by show _ = _; unfold colOf; rw [if_pos hl]
    have hd : Hid (decide ((name.size : Int) ≤ 65536) = false) := decide_eq_false (by omega)
    go_enter Try.func24, Try.ntmps24
    go_wp2_with fail
    refine (impl_isText _ _ hs).mono ?_; rw [hd.out]; rintro e w1 ⟨rfl, rfl⟩
    go_wp2_with fail
    go_ret2
    exact ⟨by rw [hr.out]; rfl, hbx⟩
  have hd : Hid (decide ((name.size : Int) ≤ 65536) = true) := decide_eq_true (by omega)
  cases h1 : tblOK t
  · have hr : Hid (colOf t name = (0, 1)) := by show _ = _; unfold colOf; rw [if_neg hl, h1]; rfl
    have H1 := hide h1; clear h1
    go_enter Try.func24, Try.ntmps24
    go_wp2_with fail
    refine (impl_isText _ _ hs).mono ?_; rw [hd.out]; rintro e w1 ⟨rfl, rfl⟩
    go_wp2_with fail
    refine (impl_isTable (TableR.good.nxt hbx ht0)).mono ?_; rw [H1.out]; rintro e w1 ⟨rfl, hb1⟩
    go_wp2_with fail
    go_ret2
    exact ⟨by rw [hr.out]; rfl, nxt hbx hb1⟩
  by_cases hi : colIdx t.columns name < 0
  · have hr : Hid (colOf t name = (0, 11)) := by show _ = _; unfold colOf; rw [if_neg hl, h1, cond_true, if_pos hi]
    have hdi : decide (colIdx t.columns name < 0) = true := decide_eq_true hi
    have H1 := hide h1; clear h1 hi
    go_enter Try.func24, Try.ntmps24
    go_wp2_with fail
    refine (impl_isText _ _ hs).mono ?_; rw [hd.out]; rintro e w1 ⟨rfl, rfl⟩
    go_wp2_with fail
    refine (impl_isTable (TableR.good.nxt hbx ht0)).mono ?_; rw [H1.out]; rintro e w1 ⟨rfl, hb1⟩; have q1 := box_at hb1
    go_wp2_with fail
    refine (impl_columnAt (TableR.good.nxt (nxt hbx hb1) ht0) _).mono ?_; rintro e w2 ⟨rfl, hb2⟩
    go_wp2_with fail
    go_ret2
    exact ⟨by rw [hr.out]; rfl, nxt (nxt hbx hb1) hb2⟩
  · have hr : Hid (colOf t name = (colIdx t.columns name, 0)) := by show _ = _; unfold colOf; rw [if_neg hl, h1, cond_true, if_neg hi]
    have hdi : decide (colIdx t.columns name < 0) = false := decide_eq_false hi
    have H1 := hide h1; clear h1 hi
    go_enter Try.func24, Try.ntmps24
    go_wp2_with fail
    refine (impl_isText _ _ hs).mono ?_; rw [hd.out]; rintro e w1 ⟨rfl, rfl⟩
    go_wp2_with fail
    refine (impl_isTable (TableR.good.nxt hbx ht0)).mono ?_; rw [H1.out]; rintro e w1 ⟨rfl, hb1⟩; have q1 := box_at hb1
    go_wp2_with fail
    refine (impl_columnAt (TableR.good.nxt (nxt hbx hb1) ht0) _).mono ?_; rintro e w2 ⟨rfl, hb2⟩
    go_wp2_with fail
    go_ret2
    exact ⟨by rw [hr.out]; rfl, nxt (nxt hbx hb1) hb2⟩
theorem spec_ColumnOf {w : World} {bs : List Nat} {cs : List Value} {t : Table} (ht : TableR w bs cs t) (name : ByteArray) (hs : name.size ≤ 9223372036854775807) :
    Calls Try.prog 22 #[.agg cs.toArray, .string name] w fun e w' => e = .returned (.tuple #[.int .i64 (colOf t name).1, .int .i64 (colOf t name).2]) ∧ Below w.heap.size w w' := by
  have ht0 := ht
  obtain ⟨v1, b1, v2, b2, rfl, rfl, hf, r1, r2⟩ := ht
  have hbx := (Below.refl w.heap.size w).alloc (Nat.le_refl _) (.cells #[.string t.name, v1, v2, .bool t.root] 44)
  by_cases hl : 65536 < name.size
  · have hr : Hid (colOf t name = (0, 2)) := by show _ = _; unfold colOf; rw [if_pos hl]
    go_enter Try.func22, Try.ntmps22
    go_wp2_with fail
    go_ret2
    exact ⟨by rw [hr.out]; rfl, hbx⟩
  cases h1 : tblOK t
  · have hr : Hid (colOf t name = (0, 1)) := by show _ = _; unfold colOf; rw [if_neg hl, h1]; rfl
    have H1 := hide h1; clear h1
    go_enter Try.func22, Try.ntmps22
    go_wp2_with fail
    refine (spec_l04Table (TableR.good.nxt hbx ht0)).mono ?_; rw [H1.out]; rintro e w1 ⟨rfl, hb1⟩
    go_wp2_with fail
    go_ret2
    exact ⟨by rw [hr.out]; rfl, nxt hbx hb1⟩
  by_cases hi : colIdx t.columns name < 0
  · have hr : Hid (colOf t name = (0, 11)) := by show _ = _; unfold colOf; rw [if_neg hl, h1, cond_true, if_pos hi]
    have hdi : decide (colIdx t.columns name < 0) = true := decide_eq_true hi
    have H1 := hide h1; clear h1 hi
    go_enter Try.func22, Try.ntmps22
    go_wp2_with fail
    refine (spec_l04Table (TableR.good.nxt hbx ht0)).mono ?_; rw [H1.out]; rintro e w1 ⟨rfl, hb1⟩; have q1 := box_at hb1
    go_wp2_with fail
    refine (spec_l04Column (TableR.good.nxt (nxt hbx hb1) ht0) _).mono ?_; rintro e w2 ⟨rfl, hb2⟩
    go_wp2_with fail
    go_ret2
    exact ⟨by rw [hr.out]; rfl, nxt (nxt hbx hb1) hb2⟩
  · have hr : Hid (colOf t name = (colIdx t.columns name, 0)) := by show _ = _; unfold colOf; rw [if_neg hl, h1, cond_true, if_neg hi]
    have hdi : decide (colIdx t.columns name < 0) = false := decide_eq_false hi
    have H1 := hide h1; clear h1 hi
    go_enter Try.func22, Try.ntmps22
    go_wp2_with fail
    refine (spec_l04Table (TableR.good.nxt hbx ht0)).mono ?_; rw [H1.out]; rintro e w1 ⟨rfl, hb1⟩; have q1 := box_at hb1
    go_wp2_with fail
    refine (spec_l04Column (TableR.good.nxt (nxt hbx hb1) ht0) _).mono ?_; rintro e w2 ⟨rfl, hb2⟩
    go_wp2_with fail
    go_ret2
    exact ⟨by rw [hr.out]; rfl, nxt (nxt hbx hb1) hb2⟩
theorem lawColumnOf {W : World} {b1 : List Nat} {cs : List Value} {s : ByteArray} {t : Table} (h : TableR W b1 cs t) (hsz : s.size ≤ 9223372036854775807) :
    Calls Try.prog 5 #[.agg cs.toArray, .string s] W fun e w' => e = .returned (.bool true) ∧ Below W.heap.size W w' := by
  have h0 := h
  obtain ⟨v1, b1, v2, b2, rfl, rfl, hf, r1, r2⟩ := h
  have hB := (Below.refl W.heap.size W).alloc (Nat.le_refl _) (.cells #[.string t.name, v1, v2, .bool t.root] 39)
  by_cases hl : 1048576 < s.size
  · go_enter Try.func5, Try.ntmps5
    go_wp2_with fail
    go_ret
    exact ⟨rfl, hB⟩
  by_cases hn : (1048576 : Int) - t.bulk < 0
  · go_enter Try.func5, Try.ntmps5
    go_wp2_with fail
    refine (szTable hB h0 (by omega) (by omega)).mono ?_; rw [clip_neg (by omega)]; rintro e w1 ⟨rfl, hb1⟩
    go_wp2_with fail
    go_ret
    exact ⟨rfl, nxt hB hb1⟩
  have hk : t.bulk ≤ 1048576 := by omega
  obtain ⟨ok, co, hok⟩ : ∃ ok co, colOf t s = (ok, co) := ⟨_, _, rfl⟩
  have HO := hide hok
  have qq1 : (ok != ok) = false := by simp
  have qq2 : (co != co) = false := by simp
  clear hok
  go_enter Try.func5, Try.ntmps5
  go_wp2_with fail
  refine (szTable hB h0 (by omega) (by omega)).mono ?_; rw [clip_pos (by omega)]; rintro e w1 ⟨rfl, hb1⟩; have q1 := box_at hb1; have hw1 := nxt hB hb1
  go_wp2_with fail
  refine (toTable hw1 h0 hk).mono ?_; rintro e w2 ⟨cs2, s2, rfl, r2, f2, hb2⟩; have q2 := box_on q1 rfl hb2; have hw2 := nxt hw1 hb2
  go_wp2_with fail
  refine (spec_ColumnOf r2 s hsz).mono ?_; rw [HO.out]; rintro e w3 ⟨rfl, hb3⟩; have q3 := box_on q2 rfl hb3; have hw3 := nxt hw2 hb3
  go_wp2_with fail
  refine (toTable hw3 h0 hk).mono ?_; rintro e w4 ⟨cs4, s4, rfl, r4, f4, hb4⟩; have q4 := box_on q3 rfl hb4; have hw4 := nxt hw3 hb4
  have r40 := r4
  obtain ⟨x1, y1, x2, y2, rfl, rfl, _, z1, z2⟩ := r4
  obtain ⟨D1, d1, rfl, _, _, _⟩ := z1.use
  obtain ⟨D2, d2, rfl, _, _, _⟩ := z2.use
  have hB4 := (Below.refl w4.heap.size w4).alloc (Nat.le_refl _) (.cells #[.string t.name, .slice D1 t.columns.length d1, .slice D2 t.unique.length d2, .bool t.root] 44)
  go_wp2_with fail
  refine (impl_ColumnOf (TableR.good.nxt hB4 r40) s hsz).mono ?_; rw [HO.out]; rintro e w5 ⟨rfl, hb5⟩
  have p5 := box_at hb5
  have hb45 := nxt' hB4 hb5
  have q5 := box_on q4 rfl hb45
  have hw5 := nxt hw4 hb45
  clear q1 q2 q3 q4
  go_wp2_with fail
  go_region_held3 (fun w' => (w'.cell? ⟨W.heap.size, 0, none⟩ = some (.string t.name) ∧ w'.cell? ⟨W.heap.size, 1, none⟩ = some v1 ∧ w'.cell? ⟨W.heap.size, 2, none⟩ = some v2 ∧ w'.cell? ⟨W.heap.size, 3, none⟩ = some (.bool t.root)) ∧ w'.cell? ⟨w4.heap.size, 0, none⟩ = some (.string t.name) ∧ w'.cell? ⟨w4.heap.size, 1, none⟩ = some (.slice D1 t.columns.length d1) ∧ w'.cell? ⟨w4.heap.size, 2, none⟩ = some (.slice D2 t.unique.length d2) ∧ w'.cell? ⟨w4.heap.size, 3, none⟩ = some (.bool t.root)) (exact ⟨⟨q5 0, q5 1, q5 2, q5 3⟩, p5 0, p5 1, p5 2, p5 3⟩)
    (first | (go_at_call 23; refine (toTable hw5.drew h0 hk).mono ?_; rintro e w6 ⟨cs6, s6, rfl, r6, f6, hb6⟩; have hw6 := nxt hw5.drew hb6; have hb56 := nxt (Below.refl _ _).drew hb6; have q5 := box_on q5 rfl hb56; have p5 := box_on p5 rfl hb56) | (go_at_call 25; refine (eqTable (Below.refl _ _) (TableR.good.nxt (nxt hb45 hb56) r40) r6).mono ?_; rintro e w7 ⟨rfl, hb7⟩; have hw7 := nxt hw6 hb7; have q5 := box_on q5 rfl hb7; have p5 := box_on p5 rfl hb7))
  go_wp2_with fail
  go_ret
  exact ⟨rfl, hw7⟩
end Go.Proofs.Ytpbaeloiefpgbaa
