/- A column by its name, and the law on it. No statement is proved here; no conditions. -/
import Derived.Test.YthbebbnidgeaeaaGreatTables
import Derived.Test.YthbebbnidgeaeaaGreatSz
import Derived.Test.YthbebbnidgeaeaaGreatTo
import Derived.Test.YthbebbnidgeaeaaGreatEq
import Derived.Deep.RegionHeld3
namespace Go.Proofs.YthbebbnidgeaeaaGreat
open Go.ChangeShapes Go.WideShapes Go.ChangeAt Go.RowKit Go.Deep
set_option maxRecDepth 100000
set_option linter.unusedVariables false

def colOf (t : Table) (name : ByteArray) : Int × Int := if 65536 < name.size then (0, 2) else cond (tblOK t) (if colIdx t.columns name < 0 then (0, 11) else (colIdx t.columns name, 0)) (0, 1)
end Go.Proofs.YthbebbnidgeaeaaGreat
