/- What a column has at first. No statement is proved here; no conditions. Written by a program (gen15.py). -/
import Derived.Test.YtdleccpjejdgiaaGreatDoorColumn
import Derived.Test.YtdleccpjejdgiaaGreatDoorOrder
import Derived.Test.YtdleccpjejdgiaaGreatDoorBox
import Derived.Test.YtdleccpjejdgiaaGreatDoorMarkT
import Derived.Test.YtdleccpjejdgiaaGreatDoorTo
namespace Go.Proofs.YtdleccpjejdgiaaGreatDoor
open Go.ChangeShapes Go.WideShapes Go.ChangeAt Go.RowKit Go.Deep
set_option maxRecDepth 100000
set_option linter.unusedVariables false
set_option linter.unusedSimpArgs false

section
variable {α : Type} {R : Rd α} {size : Nat}
theorem nil_row {w : World} {A : Option Addr} {c : Nat} (hc : c ≤ 9223372036854775807) : SlR size R w [] [.slice A 0 c] [] := ⟨A, c, rfl, Nat.zero_le _, by unfold maxLen; omega, .inl ⟨rfl, rfl⟩⟩
theorem one_row {w : World} {g : Nat} {t : TypeId} {cs : List Value} {bk : List Nat} {x : α} (h : w.heap[g]? = some (.cells cs.toArray t (0, 0))) (hR : R w bk cs x) (hl : cs.length = size) : SlR size R w (g :: bk) [.slice (some ⟨g, 0, none⟩) 1 1] [x] := by
  refine ⟨_, 1, rfl, Nat.le_refl _, by unfold maxLen; omega, .inr ⟨g, 0, [bk], rfl, lt_of_cells h, rfl, by simp, fun k y b hx hbk => ?_⟩⟩
  match k with
  | 0 =>
    simp only [List.getElem?_cons_zero, Option.some.injEq] at hx hbk
    subst hx; subst hbk
    refine ⟨cs, hl, fun j u hu => ?_, hR⟩
    rw [blk_cells h]; simpa using hu
  | k + 1 => simp at hx
theorem Fr.one {w : World} {lo g : Nat} {cur : Array Value} {t : TypeId} (h : w.heap[g]? = some (.cells cur t (0, 0))) (hl : lo ≤ g) : Fr lo w [g] := ⟨by simp, fun b hb => by simp at hb; subst hb; exact ⟨hl, cur, t, h⟩⟩
end
def startN (c : Column) : Int := if c.kind = 1 then max c.low (min c.high 0) else 0
def startOf (c : Column) : List Atom := if c.min = 0 then [] else [⟨c.kind, startN c, ⟨#[]⟩⟩]
theorem startN_wf {c : Column} (h : c.fine) : (Lit.int .i64 (startN c)).wf = true := by
  have h1 := wf_bounds h.2.2.2.2.1
  have h2 := wf_bounds h.2.2.2.2.2.1
  have : -9223372036854775808 ≤ startN c ∧ startN c ≤ 9223372036854775807 := by unfold startN; split <;> omega
  simpa [Lit.wf, IntKind.min, IntKind.max, IntKind.signed, IntKind.bits] using this
def defAns (c : Column) : List Atom × Int := if colOK c then (startOf c, 0) else ([], 1)
theorem defAns_wt (c : Column) : AtomS.wt (defAns c).1 ≤ 3 := by
  unfold defAns startOf; split
  · split <;> simp [AtomS.wt, Atom.wt]
  · simp [AtomS.wt]
end Go.Proofs.YtdleccpjejdgiaaGreatDoor
