/- What fits a column, in the program and in the reference. No statement is proved here; no conditions. -/
import Derived.Test.YtdleccpjejdgiaaGreatDoorDatum
import Derived.Test.YtdleccpjejdgiaaGreatDoorColumn
import Derived.Test.YtdleccpjejdgiaaGreatDoorHas
import Derived.Test.YtdleccpjejdgiaaGreatDoorFunc
import Derived.Test.YtdleccpjejdgiaaGreatDoorEq
import Derived.Deep.RegionHeld3
namespace Go.Proofs.YtdleccpjejdgiaaGreatDoor
open Go.ChangeShapes Go.WideShapes Go.ChangeAt Go.RowKit Go.Deep
set_option maxRecDepth 100000
set_option linter.unusedVariables false

abbrev Column.raw (c : Column) : Array Value := #[.string c.name, .int .i64 c.kind, .int .i64 c.min, .int .i64 c.max, .int .i64 c.low, .int .i64 c.high, .string c.ref, .bool c.strong]
def outOf (c : Column) (a : Atom) : Bool := !inB a.n c.low c.high
def oddR (c : Column) (a : Atom) : Bool := c.kind == 1 && outOf c a
def odd0 (c : Column) : List Atom → Bool | [] => false | a :: _ => a.kind != c.kind
def fitsCode (c : Column) (d : List Atom) : Int :=
  cond (odd0 c d) 9 (cond (inB d.length c.min c.max) (cond (c.kind == 1 && d.any (outOf c)) 4 0) 6)
def fitsAll (c : Column) (d : List Atom) : Int × Int := if 4096 < d.length then (0, 2) else if colOK c && datumOK d then (fitsCode c d, 0) else (0, 1)
theorem odd0_nil {c : Column} {d : List Atom} (h : ¬ 0 < d.length) : odd0 c d = false := by cases d with | nil => rfl | cons => simp at h
theorem odd0_at {c : Column} {d : List Atom} (h : 0 < d.length) : odd0 c d = (d[0].kind != c.kind) := by cases d with | nil => simp at h | cons => rfl
end Go.Proofs.YtdleccpjejdgiaaGreatDoor
