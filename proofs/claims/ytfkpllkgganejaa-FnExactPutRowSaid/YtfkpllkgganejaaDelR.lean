/- slices.DeleteFunc of rows. No statement is proved here; no conditions. Written by a program (gen17.py). -/
import Derived.Test.YtfkpllkgganejaaDel
import Derived.Shelf.Abstract
namespace Go.Proofs.Ytfkpllkgganejaa
open Go.ChangeShapes Go.WideShapes Go.ChangeAt Go.RowKit Go.Deep
set_option maxRecDepth 100000
set_option linter.unusedVariables false
set_option linter.unusedSimpArgs false

end Go.Proofs.Ytfkpllkgganejaa
