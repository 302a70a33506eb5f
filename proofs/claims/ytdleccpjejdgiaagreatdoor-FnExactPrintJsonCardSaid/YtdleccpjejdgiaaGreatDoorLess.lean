/- Sets less others, in the program and in the reference. No statement is proved here; no conditions. Written by a program (gen18.py). -/
import Derived.Test.YtdleccpjejdgiaaGreatDoorDel
import Derived.Test.YtdleccpjejdgiaaGreatDoorHas
import Derived.Test.YtdleccpjejdgiaaGreatDoorStart
import Derived.Test.YtdleccpjejdgiaaGreatDoorMarkT
namespace Go.Proofs.YtdleccpjejdgiaaGreatDoor
open Go.ChangeShapes Go.WideShapes Go.ChangeAt Go.RowKit Go.Deep
set_option maxRecDepth 100000
set_option linter.unusedVariables false
set_option linter.unusedSimpArgs false

def minusL (a b : List Atom) : List Atom := a.filter fun x => !decide (x ∈ b)
def alike (a b : List Atom) : Bool := ((a.length : Int) == 0) || (((b.length : Int) == 0) || (kindAt a 0 == kindAt b 0))
def twoCode (a b : List Atom) : Int := if 4096 < a.length ∨ 4096 < b.length then 2 else cond (datumOK a && datumOK b) (cond (alike a b) 0 9) 1
def lessAns (a b : List Atom) : List Atom × Int := if twoCode a b = 0 then (minusL a b, 0) else ([], twoCode a b)
theorem AtomS.wt_len (xs : List Atom) : AtomS.wt xs = 3 * xs.length := by
  unfold AtomS.wt
  induction xs with
  | nil => rfl
  | cons x l ih => simp only [List.map_cons, List.sum_cons, List.length_cons, ih]; unfold Atom.wt; omega
theorem datumOK_len {d : List Atom} (h : datumOK d = true) : d.length ≤ 8 := by
  unfold datumOK at h; rw [Bool.and_eq_true] at h; have := of_decide_eq_true h.2; omega
theorem twoCode_zero {a b : List Atom} (h : twoCode a b = 0) : datumOK a = true ∧ datumOK b = true ∧ alike a b = true := by
  unfold twoCode at h
  split at h
  · cases h
  · cases h1 : datumOK a <;> cases h2 : datumOK b <;> cases h3 : alike a b <;> simp [h1, h2, h3] at h ⊢
theorem minusL_len (a b : List Atom) : (minusL a b).length ≤ a.length := List.length_filter_le _ _
theorem lessAns_wt (a b : List Atom) : AtomS.wt (lessAns a b).1 ≤ 24 := by
  unfold lessAns; split
  · rename_i h; have := datumOK_len (twoCode_zero h).1; have := minusL_len a b; show AtomS.wt (minusL a b) ≤ 24; rw [AtomS.wt_len]; omega
  · simp [AtomS.wt]
theorem lessAns_zero {a b : List Atom} (h : twoCode a b = 0) : lessAns a b = (minusL a b, 0) := by unfold lessAns; rw [if_pos h]
theorem lessAns_not {a b : List Atom} (h : ¬ twoCode a b = 0) : lessAns a b = ([], twoCode a b) := by unfold lessAns; rw [if_neg h]
theorem kindAt0 {d : List Atom} (h : 0 < d.length) : kindAt d 0 = d[0].kind := by unfold kindAt; rw [getD_at d 0 h]
end Go.Proofs.YtdleccpjejdgiaaGreatDoor
