/- Whether an atom is in a list, in the program and in the reference. No statement is proved here; no conditions. -/
import Derived.Test.YtdleccpjejdgiaaGreatDoorDatum
namespace Go.Proofs.YtdleccpjejdgiaaGreatDoor
open Go.ChangeShapes Go.WideShapes Go.ChangeAt Go.RowKit Go.Deep
set_option maxRecDepth 100000
def hasCode (d : List Atom) (a : Atom) : Bool × Int := if 4096 < d.length then (false, 2) else if datumOK d && atomOK a then (decide (a ∈ d), 0) else (false, 1)
end Go.Proofs.YtdleccpjejdgiaaGreatDoor
