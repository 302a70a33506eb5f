/- Columns: what is right, in the program and in the reference. No statement is proved here; no conditions. Written by a program (gen5.py). -/
import Derived.Test.YtdleccpjejdgiaaGreatDoorNames
import Derived.Test.YtdleccpjejdgiaaGreatDoorAtom1
namespace Go.Proofs.YtdleccpjejdgiaaGreatDoor
open Go.ChangeShapes Go.WideShapes Go.ChangeAt Go.RowKit Go.Deep
set_option maxRecDepth 100000
set_option linter.unusedVariables false

def Column.val (c : Column) : Value := .agg #[.string c.name, .int .i64 c.kind, .int .i64 c.min, .int .i64 c.max, .int .i64 c.low, .int .i64 c.high, .string c.ref, .bool c.strong]
def colKind (c : Column) : Bool :=
  cond (c.kind == 1) (inB c.low (-1000000000) 1000000000 && (inB c.high (-1000000000) 1000000000 && (decide (c.low ≤ c.high) && (c.ref.toList.isEmpty && !c.strong))))
    (cond (c.kind == 2) (c.low == 0 && (c.high == 0 && (c.ref.toList.isEmpty && !c.strong)))
      (cond (c.kind == 3) (c.low == 0 && (c.high == 0 && (c.ref.toList.isEmpty && !c.strong)))
        (cond (c.kind == 4) (c.low == 0 && (c.high == 0 && (nameOK c.ref && c.min == 0))) false)))
def colOK (c : Column) : Bool := nameOK c.name && (inB c.min 0 1 && (inB c.max 1 8 && colKind c))
/-- The same, asked in the reference's order. -/
def colOKs (c : Column) : Bool := nameOK c.name && (inB c.kind 1 4 && (inB c.min 0 1 && (inB c.max 1 8 &&
  cond (c.kind == 1) (inB c.low (-1000000000) c.high && (inB c.high c.low 1000000000 && (c.ref.toList.isEmpty && !c.strong)))
    (c.low == 0 && (c.high == 0 && cond (c.kind == 4) (nameOK c.ref && c.min == 0) (c.ref.toList.isEmpty && !c.strong))))))
theorem colOKs_eq (c : Column) : colOKs c = colOK c := by
  unfold colOKs colOK colKind
  by_cases h1 : c.kind = 1
  · have e : (inB c.low (-1000000000) c.high && inB c.high c.low 1000000000) = (inB c.low (-1000000000) 1000000000 && (inB c.high (-1000000000) 1000000000 && decide (c.low ≤ c.high))) := by
      rw [Bool.eq_iff_iff]; simp only [Bool.and_eq_true, inB_iff, decide_eq_true_eq]; omega
    have e1 : inB c.kind 1 4 = true := by rw [h1]; rfl
    have e2 : (c.kind == 1) = true := by simp [h1]
    rw [e1, e2]
    simp only [cond_true, Bool.true_and]
    rw [← Bool.and_assoc (inB c.low (-1000000000) c.high), e]
    simp only [Bool.and_assoc]
  · have e2 : (c.kind == 1) = false := by simp [h1]
    rw [e2]
    simp only [cond_false]
    by_cases h2 : c.kind = 2
    · simp [h2, inB]
    · by_cases h3 : c.kind = 3
      · simp [h3, inB]
      · by_cases h4 : c.kind = 4
        · simp [h4, inB]
        · have e1 : inB c.kind 1 4 = false := inB_not.2 (by omega)
          have k2 : (c.kind == 2) = false := by simp [h2]
          have k3 : (c.kind == 3) = false := by simp [h3]
          have k4 : (c.kind == 4) = false := by simp [h4]
          rw [e1, k2, k3, k4]
          simp only [cond_false, Bool.and_false, Bool.false_and]
end Go.Proofs.YtdleccpjejdgiaaGreatDoor
