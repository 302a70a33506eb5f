/- Rows that fit a table, in the program and in the reference. No statement is proved here; no conditions. -/
import Derived.Test.YtdleccpjejdgiaaGreatDoorTables
import Derived.Test.YtdleccpjejdgiaaGreatDoorFits
namespace Go.Proofs.YtdleccpjejdgiaaGreatDoor
open Go.ChangeShapes Go.WideShapes Go.ChangeAt Go.RowKit Go.Deep
set_option maxRecDepth 100000
set_option linter.unusedVariables false

def cellStep (t : Table) (r : Row) (i : Nat) : Bool := datumOK (r.cells.getD i default) && fitsCode (t.columns.getD i default) (r.cells.getD i default) == 0
def cellsIn (t : Table) (r : Row) : Bool := decide (r.cells.length = t.columns.length) && upTo (cellStep t r) r.cells.length
def rowOK (t : Table) (r : Row) : Bool := tblOK t && (inB r.id 1 1000000 && cellsIn t r)
end Go.Proofs.YtdleccpjejdgiaaGreatDoor
