/- Columns: what is right, in the program and in the reference. No statement is proved here; no conditions. Written by a program (gen5.py). -/
import Derived.Test.YthglchopajdmhaaNames
import Derived.Test.YthglchopajdmhaaAtom1
namespace Go.Proofs.Ythglchopajdmhaa
open Go.ChangeShapes Go.WideShapes Go.ChangeAt Go.RowKit Go.Deep
set_option maxRecDepth 100000
set_option linter.unusedVariables false

def Column.val (c : Column) : Value := .agg #[.string c.name, .int .i64 c.kind, .int .i64 c.min, .int .i64 c.max, .int .i64 c.low, .int .i64 c.high, .string c.ref, .bool c.strong]
def colKind (c : Column) : Bool :=
  cond (c.kind == 1) (inB c.low (-1000000000) 1000000000 && (inB c.high (-1000000000) 1000000000 && (decide (c.low ≤ c.high) && (c.ref.toList.isEmpty && !c.strong))))
    (cond (c.kind == 2) (c.low == 0 && (c.high == 0 && (c.ref.toList.isEmpty && !c.strong)))
      (cond (c.kind == 3) (c.low == 0 && (c.high == 0 && (c.ref.toList.isEmpty && !c.strong)))
        (cond (c.kind == 4) (c.low == 0 && (c.high == 0 && (nameOK c.ref && c.min == 0))) false)))
def colOK (c : Column) : Bool := nameOK c.name && (inB c.min 0 1 && (inB c.max 1 8 && colKind c))
/-- The same, asked in the reference's order. -/
def colOKs (c : Column) : Bool := nameOK c.name && (inB c.kind 1 4 && (inB c.min 0 1 && (inB c.max 1 8 &&
  cond (c.kind == 1) (inB c.low (-1000000000) c.high && (inB c.high c.low 1000000000 && (c.ref.toList.isEmpty && !c.strong)))
    (c.low == 0 && (c.high == 0 && cond (c.kind == 4) (nameOK c.ref && c.min == 0) (c.ref.toList.isEmpty && !c.strong))))))
theorem colOKs_eq (c : Column) : colOKs c = colOK c := by
  unfold colOKs colOK colKind
  by_cases h1 : c.kind = 1
  · have e : (inB c.low (-1000000000) c.high && inB c.high c.low 1000000000) = (inB c.low (-1000000000) 1000000000 && (inB c.high (-1000000000) 1000000000 && decide (c.low ≤ c.high))) := by
      rw [Bool.eq_iff_iff]; simp only [Bool.and_eq_true, inB_iff, decide_eq_true_eq]; omega
    have e1 : inB c.kind 1 4 = true := by rw [h1]; rfl
    have e2 : (c.kind == 1) = true := by simp [h1]
    rw [e1, e2]
    simp only [cond_true, Bool.true_and]
    rw [← Bool.and_assoc (inB c.low (-1000000000) c.high), e]
    simp only [Bool.and_assoc]
  · have e2 : (c.kind == 1) = false := by simp [h1]
    rw [e2]
    simp only [cond_false]
    by_cases h2 : c.kind = 2
    · simp [h2, inB]
    · by_cases h3 : c.kind = 3
      · simp [h3, inB]
      · by_cases h4 : c.kind = 4
        · simp [h4, inB]
        · have e1 : inB c.kind 1 4 = false := inB_not.2 (by omega)
          have k2 : (c.kind == 2) = false := by simp [h2]
          have k3 : (c.kind == 3) = false := by simp [h3]
          have k4 : (c.kind == 4) = false := by simp [h4]
          rw [e1, k2, k3, k4]
          simp only [cond_false, Bool.and_false, Bool.false_and]
set_option maxHeartbeats 4000000 in
theorem impl_ColumnOK (c : Column) (w : World) (hf : c.fine) : Calls Try.prog 82 #[c.val] w fun e w' => e = .returned (.bool (colOK c)) ∧ Below w.heap.size w w' := by
  obtain ⟨nm, kd, mn, mx, lo, hi, rf, st⟩ := c
  unfold Column.val
  have hs1 : nm.size ≤ 9223372036854775807 := hf.1
  have hs2 : rf.size ≤ 9223372036854775807 := hf.2.2.2.2.2.2
  clear hf
  cases Ename : nameOK nm
  · have hr : Hid (colOK ⟨nm, kd, mn, mx, lo, hi, rf, st⟩ = false) := by show _ = _; dsimp only [colOK, colKind]; rw [Ename] <;> rfl
    have Hname := hide Ename
    clear Ename
    go_enter Try.func82, Try.ntmps82
    go_wp2_with (first | (go_at_call 110; refine (impl_NameOK _ _ (by assumption)).mono ?_; (first | rw [Hname.out]); rintro e w' ⟨rfl, rfl⟩))
    go_ret
    exact ⟨by rw [hr.out]; rfl, (Below.refl _ _).alloc (Nat.le_refl _) _⟩
  · cases Emin : inB mn 0 1
    · have hr : Hid (colOK ⟨nm, kd, mn, mx, lo, hi, rf, st⟩ = false) := by show _ = _; dsimp only [colOK, colKind]; rw [Ename, Emin] <;> rfl
      have Hname := hide Ename
      clear Ename
      have Hmin := hide Emin
      clear Emin
      go_enter Try.func82, Try.ntmps82
      go_wp2_with (first | (go_at_call 110; refine (impl_NameOK _ _ (by assumption)).mono ?_; (first | rw [Hname.out]); rintro e w' ⟨rfl, rfl⟩) | (go_at_call 111; refine (impl_within _ _ _ _).mono ?_; (first | rw [Hmin.out]); rintro e w' ⟨rfl, rfl⟩))
      go_ret
      exact ⟨by rw [hr.out]; rfl, (Below.refl _ _).alloc (Nat.le_refl _) _⟩
    · cases Emax : inB mx 1 8
      · have hr : Hid (colOK ⟨nm, kd, mn, mx, lo, hi, rf, st⟩ = false) := by show _ = _; dsimp only [colOK, colKind]; rw [Ename, Emin, Emax] <;> rfl
        have Hname := hide Ename
        clear Ename
        have Hmin := hide Emin
        clear Emin
        have Hmax := hide Emax
        clear Emax
        go_enter Try.func82, Try.ntmps82
        go_wp2_with (first | (go_at_call 110; refine (impl_NameOK _ _ (by assumption)).mono ?_; (first | rw [Hname.out]); rintro e w' ⟨rfl, rfl⟩) | (go_at_call 111; refine (impl_within _ _ _ _).mono ?_; (first | rw [Hmin.out] | rw [Hmax.out]); rintro e w' ⟨rfl, rfl⟩))
        go_ret
        exact ⟨by rw [hr.out]; rfl, (Below.refl _ _).alloc (Nat.le_refl _) _⟩
      · cases Ek1 : (kd == 1)
        · cases Ek2 : (kd == 2)
          · cases Ek3 : (kd == 3)
            · cases Ek4 : (kd == 4)
              · have hr : Hid (colOK ⟨nm, kd, mn, mx, lo, hi, rf, st⟩ = false) := by show _ = _; dsimp only [colOK, colKind]; rw [Ename, Emin, Emax, Ek1, Ek2, Ek3, Ek4] <;> rfl
                have Hname := hide Ename
                clear Ename
                have Hmin := hide Emin
                clear Emin
                have Hmax := hide Emax
                clear Emax
                go_enter Try.func82, Try.ntmps82
                go_wp2_with (first | (go_at_call 110; refine (impl_NameOK _ _ (by assumption)).mono ?_; (first | rw [Hname.out]); rintro e w' ⟨rfl, rfl⟩) | (go_at_call 111; refine (impl_within _ _ _ _).mono ?_; (first | rw [Hmin.out] | rw [Hmax.out]); rintro e w' ⟨rfl, rfl⟩))
                go_ret
                exact ⟨by rw [hr.out]; rfl, (Below.refl _ _).alloc (Nat.le_refl _) _⟩
              · cases Elo : (lo == 0)
                · have hr : Hid (colOK ⟨nm, kd, mn, mx, lo, hi, rf, st⟩ = false) := by show _ = _; dsimp only [colOK, colKind]; rw [Ename, Emin, Emax, Ek1, Ek2, Ek3, Ek4, Elo] <;> rfl
                  have Hname := hide Ename
                  clear Ename
                  have Hmin := hide Emin
                  clear Emin
                  have Hmax := hide Emax
                  clear Emax
                  go_enter Try.func82, Try.ntmps82
                  go_wp2_with (first | (go_at_call 110; refine (impl_NameOK _ _ (by assumption)).mono ?_; (first | rw [Hname.out]); rintro e w' ⟨rfl, rfl⟩) | (go_at_call 111; refine (impl_within _ _ _ _).mono ?_; (first | rw [Hmin.out] | rw [Hmax.out]); rintro e w' ⟨rfl, rfl⟩))
                  go_ret
                  exact ⟨by rw [hr.out]; rfl, (Below.refl _ _).alloc (Nat.le_refl _) _⟩
                · cases Ehi : (hi == 0)
                  · have hr : Hid (colOK ⟨nm, kd, mn, mx, lo, hi, rf, st⟩ = false) := by show _ = _; dsimp only [colOK, colKind]; rw [Ename, Emin, Emax, Ek1, Ek2, Ek3, Ek4, Elo, Ehi] <;> rfl
                    have Hname := hide Ename
                    clear Ename
                    have Hmin := hide Emin
                    clear Emin
                    have Hmax := hide Emax
                    clear Emax
                    go_enter Try.func82, Try.ntmps82
                    go_wp2_with (first | (go_at_call 110; refine (impl_NameOK _ _ (by assumption)).mono ?_; (first | rw [Hname.out]); rintro e w' ⟨rfl, rfl⟩) | (go_at_call 111; refine (impl_within _ _ _ _).mono ?_; (first | rw [Hmin.out] | rw [Hmax.out]); rintro e w' ⟨rfl, rfl⟩))
                    go_ret
                    exact ⟨by rw [hr.out]; rfl, (Below.refl _ _).alloc (Nat.le_refl _) _⟩
                  · cases Eref : nameOK rf
                    · have hr : Hid (colOK ⟨nm, kd, mn, mx, lo, hi, rf, st⟩ = false) := by show _ = _; dsimp only [colOK, colKind]; rw [Ename, Emin, Emax, Ek1, Ek2, Ek3, Ek4, Elo, Ehi, Eref] <;> rfl
                      have Hname := hide Ename
                      clear Ename
                      have Hmin := hide Emin
                      clear Emin
                      have Hmax := hide Emax
                      clear Emax
                      have Href := hide Eref
                      clear Eref
                      go_enter Try.func82, Try.ntmps82
                      go_wp2_with (first | (go_at_call 110; refine (impl_NameOK _ _ (by assumption)).mono ?_; (first | rw [Hname.out] | rw [Href.out]); rintro e w' ⟨rfl, rfl⟩) | (go_at_call 111; refine (impl_within _ _ _ _).mono ?_; (first | rw [Hmin.out] | rw [Hmax.out]); rintro e w' ⟨rfl, rfl⟩))
                      go_ret
                      exact ⟨by rw [hr.out]; rfl, (Below.refl _ _).alloc (Nat.le_refl _) _⟩
                    · cases Emn0 : (mn == 0)
                      · have hr : Hid (colOK ⟨nm, kd, mn, mx, lo, hi, rf, st⟩ = false) := by show _ = _; dsimp only [colOK, colKind]; rw [Ename, Emin, Emax, Ek1, Ek2, Ek3, Ek4, Elo, Ehi, Eref, Emn0] <;> rfl
                        have Hname := hide Ename
                        clear Ename
                        have Hmin := hide Emin
                        clear Emin
                        have Hmax := hide Emax
                        clear Emax
                        have Href := hide Eref
                        clear Eref
                        go_enter Try.func82, Try.ntmps82
                        go_wp2_with (first | (go_at_call 110; refine (impl_NameOK _ _ (by assumption)).mono ?_; (first | rw [Hname.out] | rw [Href.out]); rintro e w' ⟨rfl, rfl⟩) | (go_at_call 111; refine (impl_within _ _ _ _).mono ?_; (first | rw [Hmin.out] | rw [Hmax.out]); rintro e w' ⟨rfl, rfl⟩))
                        go_ret
                        exact ⟨by rw [hr.out]; rfl, (Below.refl _ _).alloc (Nat.le_refl _) _⟩
                      · have hr : Hid (colOK ⟨nm, kd, mn, mx, lo, hi, rf, st⟩ = true) := by show _ = _; dsimp only [colOK, colKind]; rw [Ename, Emin, Emax, Ek1, Ek2, Ek3, Ek4, Elo, Ehi, Eref, Emn0] <;> rfl
                        have Hname := hide Ename
                        clear Ename
                        have Hmin := hide Emin
                        clear Emin
                        have Hmax := hide Emax
                        clear Emax
                        have Href := hide Eref
                        clear Eref
                        go_enter Try.func82, Try.ntmps82
                        go_wp2_with (first | (go_at_call 110; refine (impl_NameOK _ _ (by assumption)).mono ?_; (first | rw [Hname.out] | rw [Href.out]); rintro e w' ⟨rfl, rfl⟩) | (go_at_call 111; refine (impl_within _ _ _ _).mono ?_; (first | rw [Hmin.out] | rw [Hmax.out]); rintro e w' ⟨rfl, rfl⟩))
                        go_ret
                        exact ⟨by rw [hr.out]; rfl, (Below.refl _ _).alloc (Nat.le_refl _) _⟩
            · cases Elo : (lo == 0)
              · have hr : Hid (colOK ⟨nm, kd, mn, mx, lo, hi, rf, st⟩ = false) := by show _ = _; dsimp only [colOK, colKind]; rw [Ename, Emin, Emax, Ek1, Ek2, Ek3, Elo] <;> rfl
                have Hname := hide Ename
                clear Ename
                have Hmin := hide Emin
                clear Emin
                have Hmax := hide Emax
                clear Emax
                go_enter Try.func82, Try.ntmps82
                go_wp2_with (first | (go_at_call 110; refine (impl_NameOK _ _ (by assumption)).mono ?_; (first | rw [Hname.out]); rintro e w' ⟨rfl, rfl⟩) | (go_at_call 111; refine (impl_within _ _ _ _).mono ?_; (first | rw [Hmin.out] | rw [Hmax.out]); rintro e w' ⟨rfl, rfl⟩))
                go_ret
                exact ⟨by rw [hr.out]; rfl, (Below.refl _ _).alloc (Nat.le_refl _) _⟩
              · cases Ehi : (hi == 0)
                · have hr : Hid (colOK ⟨nm, kd, mn, mx, lo, hi, rf, st⟩ = false) := by show _ = _; dsimp only [colOK, colKind]; rw [Ename, Emin, Emax, Ek1, Ek2, Ek3, Elo, Ehi] <;> rfl
                  have Hname := hide Ename
                  clear Ename
                  have Hmin := hide Emin
                  clear Emin
                  have Hmax := hide Emax
                  clear Emax
                  go_enter Try.func82, Try.ntmps82
                  go_wp2_with (first | (go_at_call 110; refine (impl_NameOK _ _ (by assumption)).mono ?_; (first | rw [Hname.out]); rintro e w' ⟨rfl, rfl⟩) | (go_at_call 111; refine (impl_within _ _ _ _).mono ?_; (first | rw [Hmin.out] | rw [Hmax.out]); rintro e w' ⟨rfl, rfl⟩))
                  go_ret
                  exact ⟨by rw [hr.out]; rfl, (Below.refl _ _).alloc (Nat.le_refl _) _⟩
                · cases Enil : rf.toList.isEmpty
                  · have hr : Hid (colOK ⟨nm, kd, mn, mx, lo, hi, rf, st⟩ = false) := by show _ = _; dsimp only [colOK, colKind]; rw [Ename, Emin, Emax, Ek1, Ek2, Ek3, Elo, Ehi, Enil] <;> rfl
                    have Hname := hide Ename
                    clear Ename
                    have Hmin := hide Emin
                    clear Emin
                    have Hmax := hide Emax
                    clear Emax
                    go_enter Try.func82, Try.ntmps82
                    go_wp2_with (first | (go_at_call 110; refine (impl_NameOK _ _ (by assumption)).mono ?_; (first | rw [Hname.out]); rintro e w' ⟨rfl, rfl⟩) | (go_at_call 111; refine (impl_within _ _ _ _).mono ?_; (first | rw [Hmin.out] | rw [Hmax.out]); rintro e w' ⟨rfl, rfl⟩))
                    go_ret
                    exact ⟨by rw [hr.out]; rfl, (Below.refl _ _).alloc (Nat.le_refl _) _⟩
                  · cases st
                    · have hr : Hid (colOK ⟨nm, kd, mn, mx, lo, hi, rf, false⟩ = true) := by show _ = _; dsimp only [colOK, colKind]; rw [Ename, Emin, Emax, Ek1, Ek2, Ek3, Elo, Ehi, Enil] <;> rfl
                      have Hname := hide Ename
                      clear Ename
                      have Hmin := hide Emin
                      clear Emin
                      have Hmax := hide Emax
                      clear Emax
                      go_enter Try.func82, Try.ntmps82
                      go_wp2_with (first | (go_at_call 110; refine (impl_NameOK _ _ (by assumption)).mono ?_; (first | rw [Hname.out]); rintro e w' ⟨rfl, rfl⟩) | (go_at_call 111; refine (impl_within _ _ _ _).mono ?_; (first | rw [Hmin.out] | rw [Hmax.out]); rintro e w' ⟨rfl, rfl⟩))
                      go_ret
                      exact ⟨by rw [hr.out]; rfl, (Below.refl _ _).alloc (Nat.le_refl _) _⟩
                    · have hr : Hid (colOK ⟨nm, kd, mn, mx, lo, hi, rf, true⟩ = false) := by show _ = _; dsimp only [colOK, colKind]; rw [Ename, Emin, Emax, Ek1, Ek2, Ek3, Elo, Ehi, Enil] <;> rfl
                      have Hname := hide Ename
                      clear Ename
                      have Hmin := hide Emin
                      clear Emin
                      have Hmax := hide Emax
                      clear Emax
                      go_enter Try.func82, Try.ntmps82
                      go_wp2_with (first | (go_at_call 110; refine (impl_NameOK _ _ (by assumption)).mono ?_; (first | rw [Hname.out]); rintro e w' ⟨rfl, rfl⟩) | (go_at_call 111; refine (impl_within _ _ _ _).mono ?_; (first | rw [Hmin.out] | rw [Hmax.out]); rintro e w' ⟨rfl, rfl⟩))
                      go_ret
                      exact ⟨by rw [hr.out]; rfl, (Below.refl _ _).alloc (Nat.le_refl _) _⟩
          · cases Elo : (lo == 0)
            · have hr : Hid (colOK ⟨nm, kd, mn, mx, lo, hi, rf, st⟩ = false) := by show _ = _; dsimp only [colOK, colKind]; rw [Ename, Emin, Emax, Ek1, Ek2, Elo] <;> rfl
              have Hname := hide Ename
              clear Ename
              have Hmin := hide Emin
              clear Emin
              have Hmax := hide Emax
              clear Emax
              go_enter Try.func82, Try.ntmps82
              go_wp2_with (first | (go_at_call 110; refine (impl_NameOK _ _ (by assumption)).mono ?_; (first | rw [Hname.out]); rintro e w' ⟨rfl, rfl⟩) | (go_at_call 111; refine (impl_within _ _ _ _).mono ?_; (first | rw [Hmin.out] | rw [Hmax.out]); rintro e w' ⟨rfl, rfl⟩))
              go_ret
              exact ⟨by rw [hr.out]; rfl, (Below.refl _ _).alloc (Nat.le_refl _) _⟩
            · cases Ehi : (hi == 0)
              · have hr : Hid (colOK ⟨nm, kd, mn, mx, lo, hi, rf, st⟩ = false) := by show _ = _; dsimp only [colOK, colKind]; rw [Ename, Emin, Emax, Ek1, Ek2, Elo, Ehi] <;> rfl
                have Hname := hide Ename
                clear Ename
                have Hmin := hide Emin
                clear Emin
                have Hmax := hide Emax
                clear Emax
                go_enter Try.func82, Try.ntmps82
                go_wp2_with (first | (go_at_call 110; refine (impl_NameOK _ _ (by assumption)).mono ?_; (first | rw [Hname.out]); rintro e w' ⟨rfl, rfl⟩) | (go_at_call 111; refine (impl_within _ _ _ _).mono ?_; (first | rw [Hmin.out] | rw [Hmax.out]); rintro e w' ⟨rfl, rfl⟩))
                go_ret
                exact ⟨by rw [hr.out]; rfl, (Below.refl _ _).alloc (Nat.le_refl _) _⟩
              · cases Enil : rf.toList.isEmpty
                · have hr : Hid (colOK ⟨nm, kd, mn, mx, lo, hi, rf, st⟩ = false) := by show _ = _; dsimp only [colOK, colKind]; rw [Ename, Emin, Emax, Ek1, Ek2, Elo, Ehi, Enil] <;> rfl
                  have Hname := hide Ename
                  clear Ename
                  have Hmin := hide Emin
                  clear Emin
                  have Hmax := hide Emax
                  clear Emax
                  go_enter Try.func82, Try.ntmps82
                  go_wp2_with (first | (go_at_call 110; refine (impl_NameOK _ _ (by assumption)).mono ?_; (first | rw [Hname.out]); rintro e w' ⟨rfl, rfl⟩) | (go_at_call 111; refine (impl_within _ _ _ _).mono ?_; (first | rw [Hmin.out] | rw [Hmax.out]); rintro e w' ⟨rfl, rfl⟩))
                  go_ret
                  exact ⟨by rw [hr.out]; rfl, (Below.refl _ _).alloc (Nat.le_refl _) _⟩
                · cases st
                  · have hr : Hid (colOK ⟨nm, kd, mn, mx, lo, hi, rf, false⟩ = true) := by show _ = _; dsimp only [colOK, colKind]; rw [Ename, Emin, Emax, Ek1, Ek2, Elo, Ehi, Enil] <;> rfl
                    have Hname := hide Ename
                    clear Ename
                    have Hmin := hide Emin
                    clear Emin
                    have Hmax := hide Emax
                    clear Emax
                    go_enter Try.func82, Try.ntmps82
                    go_wp2_with (first | (go_at_call 110; refine (impl_NameOK _ _ (by assumption)).mono ?_; (first | rw [Hname.out]); rintro e w' ⟨rfl, rfl⟩) | (go_at_call 111; refine (impl_within _ _ _ _).mono ?_; (first | rw [Hmin.out] | rw [Hmax.out]); rintro e w' ⟨rfl, rfl⟩))
                    go_ret
                    exact ⟨by rw [hr.out]; rfl, (Below.refl _ _).alloc (Nat.le_refl _) _⟩
                  · have hr : Hid (colOK ⟨nm, kd, mn, mx, lo, hi, rf, true⟩ = false) := by show _ = _; dsimp only [colOK, colKind]; rw [Ename, Emin, Emax, Ek1, Ek2, Elo, Ehi, Enil] <;> rfl
                    have Hname := hide Ename
                    clear Ename
                    have Hmin := hide Emin
                    clear Emin
                    have Hmax := hide Emax
                    clear Emax
                    go_enter Try.func82, Try.ntmps82
                    go_wp2_with (first | (go_at_call 110; refine (impl_NameOK _ _ (by assumption)).mono ?_; (first | rw [Hname.out]); rintro e w' ⟨rfl, rfl⟩) | (go_at_call 111; refine (impl_within _ _ _ _).mono ?_; (first | rw [Hmin.out] | rw [Hmax.out]); rintro e w' ⟨rfl, rfl⟩))
                    go_ret
                    exact ⟨by rw [hr.out]; rfl, (Below.refl _ _).alloc (Nat.le_refl _) _⟩
        · cases Elow : inB lo (-1000000000) 1000000000
          · have hr : Hid (colOK ⟨nm, kd, mn, mx, lo, hi, rf, st⟩ = false) := by show _ = _; dsimp only [colOK, colKind]; rw [Ename, Emin, Emax, Ek1, Elow] <;> rfl
            have Hname := hide Ename
            clear Ename
            have Hmin := hide Emin
            clear Emin
            have Hmax := hide Emax
            clear Emax
            have Hlow := hide Elow
            clear Elow
            go_enter Try.func82, Try.ntmps82
            go_wp2_with (first | (go_at_call 110; refine (impl_NameOK _ _ (by assumption)).mono ?_; (first | rw [Hname.out]); rintro e w' ⟨rfl, rfl⟩) | (go_at_call 111; refine (impl_within _ _ _ _).mono ?_; (first | rw [Hmin.out] | rw [Hmax.out]); rintro e w' ⟨rfl, rfl⟩) | (go_at_call 112; refine (impl_isNumber _ _).mono ?_; (first | rw [Hlow.out]); rintro e w' ⟨rfl, rfl⟩))
            go_ret
            exact ⟨by rw [hr.out]; rfl, (Below.refl _ _).alloc (Nat.le_refl _) _⟩
          · cases Ehigh : inB hi (-1000000000) 1000000000
            · have hr : Hid (colOK ⟨nm, kd, mn, mx, lo, hi, rf, st⟩ = false) := by show _ = _; dsimp only [colOK, colKind]; rw [Ename, Emin, Emax, Ek1, Elow, Ehigh] <;> rfl
              have Hname := hide Ename
              clear Ename
              have Hmin := hide Emin
              clear Emin
              have Hmax := hide Emax
              clear Emax
              have Hlow := hide Elow
              clear Elow
              have Hhigh := hide Ehigh
              clear Ehigh
              go_enter Try.func82, Try.ntmps82
              go_wp2_with (first | (go_at_call 110; refine (impl_NameOK _ _ (by assumption)).mono ?_; (first | rw [Hname.out]); rintro e w' ⟨rfl, rfl⟩) | (go_at_call 111; refine (impl_within _ _ _ _).mono ?_; (first | rw [Hmin.out] | rw [Hmax.out]); rintro e w' ⟨rfl, rfl⟩) | (go_at_call 112; refine (impl_isNumber _ _).mono ?_; (first | rw [Hlow.out] | rw [Hhigh.out]); rintro e w' ⟨rfl, rfl⟩))
              go_ret
              exact ⟨by rw [hr.out]; rfl, (Below.refl _ _).alloc (Nat.le_refl _) _⟩
            · cases Ele : decide (lo ≤ hi)
              · have hr : Hid (colOK ⟨nm, kd, mn, mx, lo, hi, rf, st⟩ = false) := by show _ = _; dsimp only [colOK, colKind]; rw [Ename, Emin, Emax, Ek1, Elow, Ehigh, Ele] <;> rfl
                have Hname := hide Ename
                clear Ename
                have Hmin := hide Emin
                clear Emin
                have Hmax := hide Emax
                clear Emax
                have Hlow := hide Elow
                clear Elow
                have Hhigh := hide Ehigh
                clear Ehigh
                go_enter Try.func82, Try.ntmps82
                go_wp2_with (first | (go_at_call 110; refine (impl_NameOK _ _ (by assumption)).mono ?_; (first | rw [Hname.out]); rintro e w' ⟨rfl, rfl⟩) | (go_at_call 111; refine (impl_within _ _ _ _).mono ?_; (first | rw [Hmin.out] | rw [Hmax.out]); rintro e w' ⟨rfl, rfl⟩) | (go_at_call 112; refine (impl_isNumber _ _).mono ?_; (first | rw [Hlow.out] | rw [Hhigh.out]); rintro e w' ⟨rfl, rfl⟩))
                go_ret
                exact ⟨by rw [hr.out]; rfl, (Below.refl _ _).alloc (Nat.le_refl _) _⟩
              · cases Enil : rf.toList.isEmpty
                · have hr : Hid (colOK ⟨nm, kd, mn, mx, lo, hi, rf, st⟩ = false) := by show _ = _; dsimp only [colOK, colKind]; rw [Ename, Emin, Emax, Ek1, Elow, Ehigh, Ele, Enil] <;> rfl
                  have Hname := hide Ename
                  clear Ename
                  have Hmin := hide Emin
                  clear Emin
                  have Hmax := hide Emax
                  clear Emax
                  have Hlow := hide Elow
                  clear Elow
                  have Hhigh := hide Ehigh
                  clear Ehigh
                  go_enter Try.func82, Try.ntmps82
                  go_wp2_with (first | (go_at_call 110; refine (impl_NameOK _ _ (by assumption)).mono ?_; (first | rw [Hname.out]); rintro e w' ⟨rfl, rfl⟩) | (go_at_call 111; refine (impl_within _ _ _ _).mono ?_; (first | rw [Hmin.out] | rw [Hmax.out]); rintro e w' ⟨rfl, rfl⟩) | (go_at_call 112; refine (impl_isNumber _ _).mono ?_; (first | rw [Hlow.out] | rw [Hhigh.out]); rintro e w' ⟨rfl, rfl⟩))
                  go_ret
                  exact ⟨by rw [hr.out]; rfl, (Below.refl _ _).alloc (Nat.le_refl _) _⟩
                · cases st
                  · have hr : Hid (colOK ⟨nm, kd, mn, mx, lo, hi, rf, false⟩ = true) := by show _ = _; dsimp only [colOK, colKind]; rw [Ename, Emin, Emax, Ek1, Elow, Ehigh, Ele, Enil] <;> rfl
                    have Hname := hide Ename
                    clear Ename
                    have Hmin := hide Emin
                    clear Emin
                    have Hmax := hide Emax
                    clear Emax
                    have Hlow := hide Elow
                    clear Elow
                    have Hhigh := hide Ehigh
                    clear Ehigh
                    go_enter Try.func82, Try.ntmps82
                    go_wp2_with (first | (go_at_call 110; refine (impl_NameOK _ _ (by assumption)).mono ?_; (first | rw [Hname.out]); rintro e w' ⟨rfl, rfl⟩) | (go_at_call 111; refine (impl_within _ _ _ _).mono ?_; (first | rw [Hmin.out] | rw [Hmax.out]); rintro e w' ⟨rfl, rfl⟩) | (go_at_call 112; refine (impl_isNumber _ _).mono ?_; (first | rw [Hlow.out] | rw [Hhigh.out]); rintro e w' ⟨rfl, rfl⟩))
                    go_ret
                    exact ⟨by rw [hr.out]; rfl, (Below.refl _ _).alloc (Nat.le_refl _) _⟩
                  · have hr : Hid (colOK ⟨nm, kd, mn, mx, lo, hi, rf, true⟩ = false) := by show _ = _; dsimp only [colOK, colKind]; rw [Ename, Emin, Emax, Ek1, Elow, Ehigh, Ele, Enil] <;> rfl
                    have Hname := hide Ename
                    clear Ename
                    have Hmin := hide Emin
                    clear Emin
                    have Hmax := hide Emax
                    clear Emax
                    have Hlow := hide Elow
                    clear Elow
                    have Hhigh := hide Ehigh
                    clear Ehigh
                    go_enter Try.func82, Try.ntmps82
                    go_wp2_with (first | (go_at_call 110; refine (impl_NameOK _ _ (by assumption)).mono ?_; (first | rw [Hname.out]); rintro e w' ⟨rfl, rfl⟩) | (go_at_call 111; refine (impl_within _ _ _ _).mono ?_; (first | rw [Hmin.out] | rw [Hmax.out]); rintro e w' ⟨rfl, rfl⟩) | (go_at_call 112; refine (impl_isNumber _ _).mono ?_; (first | rw [Hlow.out] | rw [Hhigh.out]); rintro e w' ⟨rfl, rfl⟩))
                    go_ret
                    exact ⟨by rw [hr.out]; rfl, (Below.refl _ _).alloc (Nat.le_refl _) _⟩
set_option maxHeartbeats 4000000 in
theorem spec_ColumnOK (c : Column) (w : World) (hf : c.fine) : Calls Try.prog 76 #[c.val] w fun e w' => e = .returned (.bool (colOKs c)) ∧ Below w.heap.size w w' := by
  obtain ⟨nm, kd, mn, mx, lo, hi, rf, st⟩ := c
  unfold Column.val
  have hs1 : nm.size ≤ 9223372036854775807 := hf.1
  have hs2 : rf.size ≤ 9223372036854775807 := hf.2.2.2.2.2.2
  clear hf
  cases Ename : nameOK nm
  · have hr : Hid (colOKs ⟨nm, kd, mn, mx, lo, hi, rf, st⟩ = false) := by show _ = _; dsimp only [colOKs]; rw [Ename] <;> rfl
    have Hname := hide Ename
    clear Ename
    go_enter Try.func76, Try.ntmps76
    go_wp2_with (first | (go_at_call 105; refine (spec_NameOK _ _ (by assumption)).mono ?_; (first | rw [Hname.out]); rintro e w' ⟨rfl, rfl⟩))
    go_ret
    exact ⟨by rw [hr.out]; rfl, (Below.refl _ _).alloc (Nat.le_refl _) _⟩
  · cases Ekin : inB kd 1 4
    · have hr : Hid (colOKs ⟨nm, kd, mn, mx, lo, hi, rf, st⟩ = false) := by show _ = _; dsimp only [colOKs]; rw [Ename, Ekin] <;> rfl
      have Hname := hide Ename
      clear Ename
      have Hkin := hide Ekin
      clear Ekin
      go_enter Try.func76, Try.ntmps76
      go_wp2_with (first | (go_at_call 105; refine (spec_NameOK _ _ (by assumption)).mono ?_; (first | rw [Hname.out]); rintro e w' ⟨rfl, rfl⟩) | (go_at_call 88; refine (spec_l01In _ _ _ _).mono ?_; (first | rw [Hkin.out]); rintro e w' ⟨rfl, rfl⟩))
      go_ret
      exact ⟨by rw [hr.out]; rfl, (Below.refl _ _).alloc (Nat.le_refl _) _⟩
    · cases Emin : inB mn 0 1
      · have hr : Hid (colOKs ⟨nm, kd, mn, mx, lo, hi, rf, st⟩ = false) := by show _ = _; dsimp only [colOKs]; rw [Ename, Ekin, Emin] <;> rfl
        have Hname := hide Ename
        clear Ename
        have Hkin := hide Ekin
        clear Ekin
        have Hmin := hide Emin
        clear Emin
        go_enter Try.func76, Try.ntmps76
        go_wp2_with (first | (go_at_call 105; refine (spec_NameOK _ _ (by assumption)).mono ?_; (first | rw [Hname.out]); rintro e w' ⟨rfl, rfl⟩) | (go_at_call 88; refine (spec_l01In _ _ _ _).mono ?_; (first | rw [Hkin.out] | rw [Hmin.out]); rintro e w' ⟨rfl, rfl⟩))
        go_ret
        exact ⟨by rw [hr.out]; rfl, (Below.refl _ _).alloc (Nat.le_refl _) _⟩
      · cases Emax : inB mx 1 8
        · have hr : Hid (colOKs ⟨nm, kd, mn, mx, lo, hi, rf, st⟩ = false) := by show _ = _; dsimp only [colOKs]; rw [Ename, Ekin, Emin, Emax] <;> rfl
          have Hname := hide Ename
          clear Ename
          have Hkin := hide Ekin
          clear Ekin
          have Hmin := hide Emin
          clear Emin
          have Hmax := hide Emax
          clear Emax
          go_enter Try.func76, Try.ntmps76
          go_wp2_with (first | (go_at_call 105; refine (spec_NameOK _ _ (by assumption)).mono ?_; (first | rw [Hname.out]); rintro e w' ⟨rfl, rfl⟩) | (go_at_call 88; refine (spec_l01In _ _ _ _).mono ?_; (first | rw [Hkin.out] | rw [Hmin.out] | rw [Hmax.out]); rintro e w' ⟨rfl, rfl⟩))
          go_ret
          exact ⟨by rw [hr.out]; rfl, (Below.refl _ _).alloc (Nat.le_refl _) _⟩
        · cases Ek1 : (kd == 1)
          · cases Elo : (lo == 0)
            · have hr : Hid (colOKs ⟨nm, kd, mn, mx, lo, hi, rf, st⟩ = false) := by show _ = _; dsimp only [colOKs]; rw [Ename, Ekin, Emin, Emax, Ek1, Elo] <;> rfl
              have Hname := hide Ename
              clear Ename
              have Hkin := hide Ekin
              clear Ekin
              have Hmin := hide Emin
              clear Emin
              have Hmax := hide Emax
              clear Emax
              have Nlo : (lo != 0) = !(lo == 0) := rfl
              rw [Elo] at Nlo
              go_enter Try.func76, Try.ntmps76
              go_wp2_with (first | (go_at_call 105; refine (spec_NameOK _ _ (by assumption)).mono ?_; (first | rw [Hname.out]); rintro e w' ⟨rfl, rfl⟩) | (go_at_call 88; refine (spec_l01In _ _ _ _).mono ?_; (first | rw [Hkin.out] | rw [Hmin.out] | rw [Hmax.out]); rintro e w' ⟨rfl, rfl⟩))
              go_ret
              exact ⟨by rw [hr.out]; rfl, (Below.refl _ _).alloc (Nat.le_refl _) _⟩
            · cases Ehi : (hi == 0)
              · have hr : Hid (colOKs ⟨nm, kd, mn, mx, lo, hi, rf, st⟩ = false) := by show _ = _; dsimp only [colOKs]; rw [Ename, Ekin, Emin, Emax, Ek1, Elo, Ehi] <;> rfl
                have Hname := hide Ename
                clear Ename
                have Hkin := hide Ekin
                clear Ekin
                have Hmin := hide Emin
                clear Emin
                have Hmax := hide Emax
                clear Emax
                have Nlo : (lo != 0) = !(lo == 0) := rfl
                rw [Elo] at Nlo
                have Nhi : (hi != 0) = !(hi == 0) := rfl
                rw [Ehi] at Nhi
                go_enter Try.func76, Try.ntmps76
                go_wp2_with (first | (go_at_call 105; refine (spec_NameOK _ _ (by assumption)).mono ?_; (first | rw [Hname.out]); rintro e w' ⟨rfl, rfl⟩) | (go_at_call 88; refine (spec_l01In _ _ _ _).mono ?_; (first | rw [Hkin.out] | rw [Hmin.out] | rw [Hmax.out]); rintro e w' ⟨rfl, rfl⟩))
                go_ret
                exact ⟨by rw [hr.out]; rfl, (Below.refl _ _).alloc (Nat.le_refl _) _⟩
              · cases Ek4 : (kd == 4)
                · cases Enil : rf.toList.isEmpty
                  · have hr : Hid (colOKs ⟨nm, kd, mn, mx, lo, hi, rf, st⟩ = false) := by show _ = _; dsimp only [colOKs]; rw [Ename, Ekin, Emin, Emax, Ek1, Elo, Ehi, Ek4, Enil] <;> rfl
                    have Hname := hide Ename
                    clear Ename
                    have Hkin := hide Ekin
                    clear Ekin
                    have Hmin := hide Emin
                    clear Emin
                    have Hmax := hide Emax
                    clear Emax
                    have Nlo : (lo != 0) = !(lo == 0) := rfl
                    rw [Elo] at Nlo
                    have Nhi : (hi != 0) = !(hi == 0) := rfl
                    rw [Ehi] at Nhi
                    go_enter Try.func76, Try.ntmps76
                    go_wp2_with (first | (go_at_call 105; refine (spec_NameOK _ _ (by assumption)).mono ?_; (first | rw [Hname.out]); rintro e w' ⟨rfl, rfl⟩) | (go_at_call 88; refine (spec_l01In _ _ _ _).mono ?_; (first | rw [Hkin.out] | rw [Hmin.out] | rw [Hmax.out]); rintro e w' ⟨rfl, rfl⟩))
                    go_ret
                    exact ⟨by rw [hr.out]; rfl, (Below.refl _ _).alloc (Nat.le_refl _) _⟩
                  · cases st
                    · have hr : Hid (colOKs ⟨nm, kd, mn, mx, lo, hi, rf, false⟩ = true) := by show _ = _; dsimp only [colOKs]; rw [Ename, Ekin, Emin, Emax, Ek1, Elo, Ehi, Ek4, Enil] <;> rfl
                      have Hname := hide Ename
                      clear Ename
                      have Hkin := hide Ekin
                      clear Ekin
                      have Hmin := hide Emin
                      clear Emin
                      have Hmax := hide Emax
                      clear Emax
                      have Nlo : (lo != 0) = !(lo == 0) := rfl
                      rw [Elo] at Nlo
                      have Nhi : (hi != 0) = !(hi == 0) := rfl
                      rw [Ehi] at Nhi
                      go_enter Try.func76, Try.ntmps76
                      go_wp2_with (first | (go_at_call 105; refine (spec_NameOK _ _ (by assumption)).mono ?_; (first | rw [Hname.out]); rintro e w' ⟨rfl, rfl⟩) | (go_at_call 88; refine (spec_l01In _ _ _ _).mono ?_; (first | rw [Hkin.out] | rw [Hmin.out] | rw [Hmax.out]); rintro e w' ⟨rfl, rfl⟩))
                      go_ret
                      exact ⟨by rw [hr.out]; rfl, (Below.refl _ _).alloc (Nat.le_refl _) _⟩
                    · have hr : Hid (colOKs ⟨nm, kd, mn, mx, lo, hi, rf, true⟩ = false) := by show _ = _; dsimp only [colOKs]; rw [Ename, Ekin, Emin, Emax, Ek1, Elo, Ehi, Ek4, Enil] <;> rfl
                      have Hname := hide Ename
                      clear Ename
                      have Hkin := hide Ekin
                      clear Ekin
                      have Hmin := hide Emin
                      clear Emin
                      have Hmax := hide Emax
                      clear Emax
                      have Nlo : (lo != 0) = !(lo == 0) := rfl
                      rw [Elo] at Nlo
                      have Nhi : (hi != 0) = !(hi == 0) := rfl
                      rw [Ehi] at Nhi
                      go_enter Try.func76, Try.ntmps76
                      go_wp2_with (first | (go_at_call 105; refine (spec_NameOK _ _ (by assumption)).mono ?_; (first | rw [Hname.out]); rintro e w' ⟨rfl, rfl⟩) | (go_at_call 88; refine (spec_l01In _ _ _ _).mono ?_; (first | rw [Hkin.out] | rw [Hmin.out] | rw [Hmax.out]); rintro e w' ⟨rfl, rfl⟩))
                      go_ret
                      exact ⟨by rw [hr.out]; rfl, (Below.refl _ _).alloc (Nat.le_refl _) _⟩
                · cases Eref : nameOK rf
                  · have hr : Hid (colOKs ⟨nm, kd, mn, mx, lo, hi, rf, st⟩ = false) := by show _ = _; dsimp only [colOKs]; rw [Ename, Ekin, Emin, Emax, Ek1, Elo, Ehi, Ek4, Eref] <;> rfl
                    have Hname := hide Ename
                    clear Ename
                    have Hkin := hide Ekin
                    clear Ekin
                    have Hmin := hide Emin
                    clear Emin
                    have Hmax := hide Emax
                    clear Emax
                    have Href := hide Eref
                    clear Eref
                    have Nlo : (lo != 0) = !(lo == 0) := rfl
                    rw [Elo] at Nlo
                    have Nhi : (hi != 0) = !(hi == 0) := rfl
                    rw [Ehi] at Nhi
                    go_enter Try.func76, Try.ntmps76
                    go_wp2_with (first | (go_at_call 105; refine (spec_NameOK _ _ (by assumption)).mono ?_; (first | rw [Hname.out] | rw [Href.out]); rintro e w' ⟨rfl, rfl⟩) | (go_at_call 88; refine (spec_l01In _ _ _ _).mono ?_; (first | rw [Hkin.out] | rw [Hmin.out] | rw [Hmax.out]); rintro e w' ⟨rfl, rfl⟩))
                    go_ret
                    exact ⟨by rw [hr.out]; rfl, (Below.refl _ _).alloc (Nat.le_refl _) _⟩
                  · cases Emn0 : (mn == 0)
                    · have hr : Hid (colOKs ⟨nm, kd, mn, mx, lo, hi, rf, st⟩ = false) := by show _ = _; dsimp only [colOKs]; rw [Ename, Ekin, Emin, Emax, Ek1, Elo, Ehi, Ek4, Eref, Emn0] <;> rfl
                      have Hname := hide Ename
                      clear Ename
                      have Hkin := hide Ekin
                      clear Ekin
                      have Hmin := hide Emin
                      clear Emin
                      have Hmax := hide Emax
                      clear Emax
                      have Href := hide Eref
                      clear Eref
                      have Nlo : (lo != 0) = !(lo == 0) := rfl
                      rw [Elo] at Nlo
                      have Nhi : (hi != 0) = !(hi == 0) := rfl
                      rw [Ehi] at Nhi
                      go_enter Try.func76, Try.ntmps76
                      go_wp2_with (first | (go_at_call 105; refine (spec_NameOK _ _ (by assumption)).mono ?_; (first | rw [Hname.out] | rw [Href.out]); rintro e w' ⟨rfl, rfl⟩) | (go_at_call 88; refine (spec_l01In _ _ _ _).mono ?_; (first | rw [Hkin.out] | rw [Hmin.out] | rw [Hmax.out]); rintro e w' ⟨rfl, rfl⟩))
                      go_ret
                      exact ⟨by rw [hr.out]; rfl, (Below.refl _ _).alloc (Nat.le_refl _) _⟩
                    · have hr : Hid (colOKs ⟨nm, kd, mn, mx, lo, hi, rf, st⟩ = true) := by show _ = _; dsimp only [colOKs]; rw [Ename, Ekin, Emin, Emax, Ek1, Elo, Ehi, Ek4, Eref, Emn0] <;> rfl
                      have Hname := hide Ename
                      clear Ename
                      have Hkin := hide Ekin
                      clear Ekin
                      have Hmin := hide Emin
                      clear Emin
                      have Hmax := hide Emax
                      clear Emax
                      have Href := hide Eref
                      clear Eref
                      have Nlo : (lo != 0) = !(lo == 0) := rfl
                      rw [Elo] at Nlo
                      have Nhi : (hi != 0) = !(hi == 0) := rfl
                      rw [Ehi] at Nhi
                      go_enter Try.func76, Try.ntmps76
                      go_wp2_with (first | (go_at_call 105; refine (spec_NameOK _ _ (by assumption)).mono ?_; (first | rw [Hname.out] | rw [Href.out]); rintro e w' ⟨rfl, rfl⟩) | (go_at_call 88; refine (spec_l01In _ _ _ _).mono ?_; (first | rw [Hkin.out] | rw [Hmin.out] | rw [Hmax.out]); rintro e w' ⟨rfl, rfl⟩))
                      go_ret
                      exact ⟨by rw [hr.out]; rfl, (Below.refl _ _).alloc (Nat.le_refl _) _⟩
          · cases Elowh : inB lo (-1000000000) hi
            · have hr : Hid (colOKs ⟨nm, kd, mn, mx, lo, hi, rf, st⟩ = false) := by show _ = _; dsimp only [colOKs]; rw [Ename, Ekin, Emin, Emax, Ek1, Elowh] <;> rfl
              have Hname := hide Ename
              clear Ename
              have Hkin := hide Ekin
              clear Ekin
              have Hmin := hide Emin
              clear Emin
              have Hmax := hide Emax
              clear Emax
              have Hlowh := hide Elowh
              clear Elowh
              go_enter Try.func76, Try.ntmps76
              go_wp2_with (first | (go_at_call 105; refine (spec_NameOK _ _ (by assumption)).mono ?_; (first | rw [Hname.out]); rintro e w' ⟨rfl, rfl⟩) | (go_at_call 88; refine (spec_l01In _ _ _ _).mono ?_; (first | rw [Hkin.out] | rw [Hmin.out] | rw [Hmax.out] | rw [Hlowh.out]); rintro e w' ⟨rfl, rfl⟩))
              go_ret
              exact ⟨by rw [hr.out]; rfl, (Below.refl _ _).alloc (Nat.le_refl _) _⟩
            · cases Ehighl : inB hi lo 1000000000
              · have hr : Hid (colOKs ⟨nm, kd, mn, mx, lo, hi, rf, st⟩ = false) := by show _ = _; dsimp only [colOKs]; rw [Ename, Ekin, Emin, Emax, Ek1, Elowh, Ehighl] <;> rfl
                have Hname := hide Ename
                clear Ename
                have Hkin := hide Ekin
                clear Ekin
                have Hmin := hide Emin
                clear Emin
                have Hmax := hide Emax
                clear Emax
                have Hlowh := hide Elowh
                clear Elowh
                have Hhighl := hide Ehighl
                clear Ehighl
                go_enter Try.func76, Try.ntmps76
                go_wp2_with (first | (go_at_call 105; refine (spec_NameOK _ _ (by assumption)).mono ?_; (first | rw [Hname.out]); rintro e w' ⟨rfl, rfl⟩) | (go_at_call 88; refine (spec_l01In _ _ _ _).mono ?_; (first | rw [Hkin.out] | rw [Hmin.out] | rw [Hmax.out] | rw [Hlowh.out] | rw [Hhighl.out]); rintro e w' ⟨rfl, rfl⟩))
                go_ret
                exact ⟨by rw [hr.out]; rfl, (Below.refl _ _).alloc (Nat.le_refl _) _⟩
              · cases Enil : rf.toList.isEmpty
                · have hr : Hid (colOKs ⟨nm, kd, mn, mx, lo, hi, rf, st⟩ = false) := by show _ = _; dsimp only [colOKs]; rw [Ename, Ekin, Emin, Emax, Ek1, Elowh, Ehighl, Enil] <;> rfl
                  have Hname := hide Ename
                  clear Ename
                  have Hkin := hide Ekin
                  clear Ekin
                  have Hmin := hide Emin
                  clear Emin
                  have Hmax := hide Emax
                  clear Emax
                  have Hlowh := hide Elowh
                  clear Elowh
                  have Hhighl := hide Ehighl
                  clear Ehighl
                  go_enter Try.func76, Try.ntmps76
                  go_wp2_with (first | (go_at_call 105; refine (spec_NameOK _ _ (by assumption)).mono ?_; (first | rw [Hname.out]); rintro e w' ⟨rfl, rfl⟩) | (go_at_call 88; refine (spec_l01In _ _ _ _).mono ?_; (first | rw [Hkin.out] | rw [Hmin.out] | rw [Hmax.out] | rw [Hlowh.out] | rw [Hhighl.out]); rintro e w' ⟨rfl, rfl⟩))
                  go_ret
                  exact ⟨by rw [hr.out]; rfl, (Below.refl _ _).alloc (Nat.le_refl _) _⟩
                · cases st
                  · have hr : Hid (colOKs ⟨nm, kd, mn, mx, lo, hi, rf, false⟩ = true) := by show _ = _; dsimp only [colOKs]; rw [Ename, Ekin, Emin, Emax, Ek1, Elowh, Ehighl, Enil] <;> rfl
                    have Hname := hide Ename
                    clear Ename
                    have Hkin := hide Ekin
                    clear Ekin
                    have Hmin := hide Emin
                    clear Emin
                    have Hmax := hide Emax
                    clear Emax
                    have Hlowh := hide Elowh
                    clear Elowh
                    have Hhighl := hide Ehighl
                    clear Ehighl
                    go_enter Try.func76, Try.ntmps76
                    go_wp2_with (first | (go_at_call 105; refine (spec_NameOK _ _ (by assumption)).mono ?_; (first | rw [Hname.out]); rintro e w' ⟨rfl, rfl⟩) | (go_at_call 88; refine (spec_l01In _ _ _ _).mono ?_; (first | rw [Hkin.out] | rw [Hmin.out] | rw [Hmax.out] | rw [Hlowh.out] | rw [Hhighl.out]); rintro e w' ⟨rfl, rfl⟩))
                    go_ret
                    exact ⟨by rw [hr.out]; rfl, (Below.refl _ _).alloc (Nat.le_refl _) _⟩
                  · have hr : Hid (colOKs ⟨nm, kd, mn, mx, lo, hi, rf, true⟩ = false) := by show _ = _; dsimp only [colOKs]; rw [Ename, Ekin, Emin, Emax, Ek1, Elowh, Ehighl, Enil] <;> rfl
                    have Hname := hide Ename
                    clear Ename
                    have Hkin := hide Ekin
                    clear Ekin
                    have Hmin := hide Emin
                    clear Emin
                    have Hmax := hide Emax
                    clear Emax
                    have Hlowh := hide Elowh
                    clear Elowh
                    have Hhighl := hide Ehighl
                    clear Ehighl
                    go_enter Try.func76, Try.ntmps76
                    go_wp2_with (first | (go_at_call 105; refine (spec_NameOK _ _ (by assumption)).mono ?_; (first | rw [Hname.out]); rintro e w' ⟨rfl, rfl⟩) | (go_at_call 88; refine (spec_l01In _ _ _ _).mono ?_; (first | rw [Hkin.out] | rw [Hmin.out] | rw [Hmax.out] | rw [Hlowh.out] | rw [Hhighl.out]); rintro e w' ⟨rfl, rfl⟩))
                    go_ret
                    exact ⟨by rw [hr.out]; rfl, (Below.refl _ _).alloc (Nat.le_refl _) _⟩
end Go.Proofs.Ythglchopajdmhaa
