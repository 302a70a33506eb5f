/- ResultOK, in the program and in the reference. No statement is proved here; no conditions. Written by a program (gen12.py). -/
import Derived.Test.YtdleccpjejdgiaaGreatDoorFitRow
import Derived.Test.YtdleccpjejdgiaaGreatDoorBox
namespace Go.Proofs.YtdleccpjejdgiaaGreatDoor
open Go.ChangeShapes Go.WideShapes Go.ChangeAt Go.RowKit Go.Deep
set_option maxRecDepth 100000
set_option linter.unusedVariables false
set_option linter.unusedSimpArgs false

section
variable {α : Type} {p : α → Bool} {xs : List α}
theorem all_zero : ∀ j (hj : j < xs.length), j < 0 → p xs[j] = true := fun _ _ h => absurd h (Nat.not_lt_zero _)
theorem all_true (h : ∀ j (hj : j < xs.length), j < xs.length → p xs[j] = true) : xs.all p = true := by
  rw [List.all_eq_true]; intro x hx
  obtain ⟨j, hj, rfl⟩ := List.getElem_of_mem hx
  exact h j hj hj
theorem all_false {k : Nat} (hk : k < xs.length) (h : p xs[k] = false) : xs.all p = false := by
  rw [List.all_eq_false]; exact ⟨xs[k], List.getElem_mem hk, by simp [h]⟩
theorem all_step {k : Nat} (hk : k < xs.length) (h : ∀ j (hj : j < xs.length), j < k → p xs[j] = true) (h1 : p xs[k] = true) : ∀ j (hj : j < xs.length), j < k + 1 → p xs[j] = true := by
  intro j hj hjk
  by_cases hjk' : j = k
  · subst hjk'; exact h1
  · exact h j hj (by omega)
theorem any_not : (xs.any fun x => !p x) = !xs.all p := by
  induction xs with
  | nil => rfl
  | cons a l ih => simp only [List.any_cons, List.all_cons, ih, Bool.not_and]
end
def rowIs (n : Int) (r : Row) : Bool := ((r.cells.length : Int) == n) && r.cells.all datumOK
def resIn (r : Result) : Bool := inB r.count 0 1000 && (inB r.id 0 1000000 && (decide ((r.columns.length : Int) ≤ 7) && (decide ((r.rows.length : Int) ≤ 12) && (r.columns.all nameOK && r.rows.all (rowIs r.columns.length)))))
def resNil (r : Result) : Bool := (r.count == 0) && ((r.id == 0) && (((r.columns.length : Int) == 0) && ((r.rows.length : Int) == 0)))
def resOK (r : Result) : Bool := if r.code = 0 then resIn r else inB r.code 1 19 && resNil r
def resOKs (r : Result) : Bool := inB r.code 0 19 && (resIn r && (decide (r.code = 0) || resNil r))
theorem resOKs_eq (r : Result) : resOKs r = resOK r := by
  unfold resOKs resOK
  by_cases h : r.code = 0
  · rw [if_pos h, decide_eq_true h, h, inB_t (by omega) (by omega)]; simp
  · rw [if_neg h, decide_eq_false h, Bool.false_or]
    cases hn : resNil r
    · simp
    · unfold resNil at hn
      rw [Bool.and_eq_true, Bool.and_eq_true, Bool.and_eq_true] at hn
      obtain ⟨h1, h2, h3, h4⟩ := hn
      have h1 := eq_of_beq h1
      have h2 := eq_of_beq h2
      have h3 : r.columns.length = 0 := by have := eq_of_beq h3; omega
      have h4 : r.rows.length = 0 := by have := eq_of_beq h4; omega
      have e : resIn r = true := by
        unfold resIn
        rw [h1, h2, List.length_eq_zero_iff.1 h3, List.length_eq_zero_iff.1 h4]; decide
      rw [e]
      have : inB r.code 0 19 = inB r.code 1 19 := by unfold inB; congr 1; apply decide_eq_decide.2; omega
      rw [this]; simp
end Go.Proofs.YtdleccpjejdgiaaGreatDoor
