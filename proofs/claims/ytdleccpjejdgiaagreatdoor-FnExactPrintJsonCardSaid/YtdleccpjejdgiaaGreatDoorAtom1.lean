/- Atoms: what is right, in the program and in the reference. No statement is proved here; no conditions. -/
import Derived.Test.YtdleccpjejdgiaaGreatDoorCodes
namespace Go.Proofs.YtdleccpjejdgiaaGreatDoor
open Go.ChangeShapes Go.WideShapes Go.ChangeAt Go.RowKit Go.Deep
set_option maxRecDepth 100000

def Atom.val (a : Atom) : Value := .agg #[.int .i64 a.kind, .int .i64 a.n, .string a.t]
def atomOK (a : Atom) : Bool :=
  if a.kind = 1 then inB a.n (-1000000000) 1000000000 && nilB a.t
  else if a.kind = 2 then a.n == 0 && plainB a.t
  else if a.kind = 3 then inB a.n 0 1 && nilB a.t
  else if a.kind = 4 then inB a.n 1 1000000 && nilB a.t
  else false
end Go.Proofs.YtdleccpjejdgiaaGreatDoor
