/-
  DERIVED. GIVEN WITH THE SEED: THE CARDS: each row of YtdleccpjejdgiaaGreatDoorRows.lean that lists a variable, with what it lists TIED to the program's text (the seventh form; the later family's looks); each row that meets fmt, with fmt's text TOLD by the authors' own Lean function (tested against real Go, not proved from fmt's source: count such statements apart). THE CARD IS WHAT COUNTS. Prove the row's statement (the work); the ties are given (YtdleccpjejdgiaaGreatDoorTie.lean); close each card by the builder's one call (the guide's Derived/Test/ToyasCard.lean, 'card_holds'). Laid BY PROGRAM, IN A SANDBOX (cutbox-door.mjs). By AI agents, Wed Nov 11 2026. No macro, syntax, notation, axiom, sorry.
-/
import Derived.Test.YtdleccpjejdgiaaGreatDoorRows
import GoSem.ClaimSeven
namespace Go.Proofs.YtdleccpjejdgiaaGreatDoor
namespace Rows

/-- THE TIED CARD OF 'laws.FnExactPrintJson'. -/
def fnExactPrintJsonCard : Claim7 := { stood := { row := fnExactPrintJsonRow, standIns := [], harness := (true, "9c3c28cf2a40c4355c84eecb748eb9dcc1889102e4890ac552266eeaf10b8673"), looks := true }, kinds := [], alts := [], laidByText := true, laidKinds := [.data, .data, .data], laidTests := true, laidLooks := .later }
def FnExactPrintJsonCardSaid : Prop := Claim7.holds Tryz.pinned (.plain (OpenSpec.ofChange fnExactPrintJsonSpec)) fnExactPrintJsonCard

/-- THE SECOND FORM's CARD OF 'laws.FnExactPrintJson'. -/
def fnExactPrintJsonUptoCard : Claim7 := { stood := { row := fnExactPrintJsonUptoRow, standIns := [], harness := (true, "9c3c28cf2a40c4355c84eecb748eb9dcc1889102e4890ac552266eeaf10b8673"), looks := true }, kinds := [], alts := [], laidByText := true, laidKinds := [.data, .data, .data], laidTests := true, laidLooks := .later }
def FnExactPrintJsonUptoCardSaid : Prop := Claim7.holds Tryz.pinned (.plain (OpenSpec.upto fnExactPrintJsonSpec)) fnExactPrintJsonUptoCard
end Rows
end Go.Proofs.YtdleccpjejdgiaaGreatDoor
