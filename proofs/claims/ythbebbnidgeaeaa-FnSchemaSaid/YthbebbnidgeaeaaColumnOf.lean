/- A column by its name, and the law on it. No statement is proved here; no conditions. -/
import Derived.Test.YthbebbnidgeaeaaTables
import Derived.Test.YthbebbnidgeaeaaSz
import Derived.Test.YthbebbnidgeaeaaTo
import Derived.Test.YthbebbnidgeaeaaEq
import Derived.Deep.RegionHeld3
namespace Go.Proofs.Ythbebbnidgeaeaa
open Go.ChangeShapes Go.WideShapes Go.ChangeAt Go.RowKit Go.Deep
set_option maxRecDepth 100000
set_option linter.unusedVariables false

theorem impl_isText (s : ByteArray) (w : World) (hs : s.size ≤ 9223372036854775807) : Calls Try.prog 59 #[.string s] w fun e w' => e = .returned (.bool (decide ((s.size : Int) ≤ 65536))) ∧ w = w' := by
  go_enter Try.func59, Try.ntmps59
  go_wp2
  go_ret
  exact ⟨rfl, rfl⟩
def colOf (t : Table) (name : ByteArray) : Int × Int := if 65536 < name.size then (0, 2) else cond (tblOK t) (if colIdx t.columns name < 0 then (0, 11) else (colIdx t.columns name, 0)) (0, 1)
theorem impl_ColumnOf {w : World} {bs : List Nat} {cs : List Value} {t : Table} (ht : TableR w bs cs t) (name : ByteArray) (hs : name.size ≤ 9223372036854775807) :
    Calls Try.prog 17 #[.agg cs.toArray, .string name] w fun e w' => e = .returned (.tuple #[.int .i64 (colOf t name).1, .int .i64 (colOf t name).2]) ∧ Below w.heap.size w w' := by
  have ht0 := ht
  obtain ⟨v1, b1, v2, b2, rfl, rfl, hf, r1, r2⟩ := ht
  have hbx := (Below.refl w.heap.size w).alloc (Nat.le_refl _) (.cells #[.string t.name, v1, v2, .bool t.root] 34)
  by_cases hl : 65536 < name.size
  · have hr : Hid (colOf t name = (0, 2)) := by show _ = _; unfold colOf; rw [if_pos hl]
    have hd : Hid (decide ((name.size : Int) ≤ 65536) = false) := decide_eq_false (by omega)
    go_enter Try.func17, Try.ntmps17
    go_wp2_with fail
    refine (impl_isText _ _ hs).mono ?_; rw [hd.out]; rintro e w1 ⟨rfl, rfl⟩
    go_wp2_with fail
    go_ret2
    exact ⟨by rw [hr.out]; rfl, hbx⟩
  have hd : Hid (decide ((name.size : Int) ≤ 65536) = true) := decide_eq_true (by omega)
  cases h1 : tblOK t
  · have hr : Hid (colOf t name = (0, 1)) := by show _ = _; unfold colOf; rw [if_neg hl, h1]; rfl
    have H1 := hide h1; clear h1
    go_enter Try.func17, Try.ntmps17
    go_wp2_with fail
    refine (impl_isText _ _ hs).mono ?_; rw [hd.out]; rintro e w1 ⟨rfl, rfl⟩
    go_wp2_with fail
    refine (impl_isTable (TableR.good.nxt hbx ht0)).mono ?_; rw [H1.out]; rintro e w1 ⟨rfl, hb1⟩
    go_wp2_with fail
    go_ret2
    exact ⟨by rw [hr.out]; rfl, nxt hbx hb1⟩
  by_cases hi : colIdx t.columns name < 0
  · have hr : Hid (colOf t name = (0, 11)) := by show _ = _; unfold colOf; rw [if_neg hl, h1, cond_true, if_pos hi]
    have hdi : decide (colIdx t.columns name < 0) = true := decide_eq_true hi
    have H1 := hide h1; clear h1 hi
    go_enter Try.func17, Try.ntmps17
    go_wp2_with fail
    refine (impl_isText _ _ hs).mono ?_; rw [hd.out]; rintro e w1 ⟨rfl, rfl⟩
    go_wp2_with fail
    refine (impl_isTable (TableR.good.nxt hbx ht0)).mono ?_; rw [H1.out]; rintro e w1 ⟨rfl, hb1⟩; have q1 := box_at hb1
    go_wp2_with fail
    refine (impl_columnAt (TableR.good.nxt (nxt hbx hb1) ht0) _).mono ?_; rintro e w2 ⟨rfl, hb2⟩
    go_wp2_with fail
    go_ret2
    exact ⟨by rw [hr.out]; rfl, nxt (nxt hbx hb1) hb2⟩
  · have hr : Hid (colOf t name = (colIdx t.columns name, 0)) := by show _ = _; unfold colOf; rw [if_neg hl, h1, cond_true, if_neg hi]
    have hdi : decide (colIdx t.columns name < 0) = false := decide_eq_false hi
    have H1 := hide h1; clear h1 hi
    go_enter Try.func17, Try.ntmps17
    go_wp2_with fail
    refine (impl_isText _ _ hs).mono ?_; rw [hd.out]; rintro e w1 ⟨rfl, rfl⟩
    go_wp2_with fail
    refine (impl_isTable (TableR.good.nxt hbx ht0)).mono ?_; rw [H1.out]; rintro e w1 ⟨rfl, hb1⟩; have q1 := box_at hb1
    go_wp2_with fail
    refine (impl_columnAt (TableR.good.nxt (nxt hbx hb1) ht0) _).mono ?_; rintro e w2 ⟨rfl, hb2⟩
    go_wp2_with fail
    go_ret2
    exact ⟨by rw [hr.out]; rfl, nxt (nxt hbx hb1) hb2⟩
end Go.Proofs.Ythbebbnidgeaeaa
