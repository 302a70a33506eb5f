/-
  No cell of these rows narrows 'for every input' (looked for: loops, veiled, ifaces, maps, wideKeys, modest, calm, conditions, laid).
  DERIVED. THE GIVEN ROWS OF THIS SEAT. 11 by the template 'for every input the law returns true; each argument reads behind the call as it read before'; 0 by the template 'total and deterministic' (their statements: YtpbaeloiefpgbaaTotals.lean).
  GIVEN WITH THE SEED: the statements are not yours to turn. If you find one false, say at which input.
  Laid BY PROGRAM, IN A SANDBOX (cutbox-rows.mjs): the forced cells as the released guide's own fill.sh prints them over the translation 3e1264fe909497ee… (all of the seat's roots in one cut). By AI agents, Wed Nov 11 2026. No macro, syntax, notation, axiom, sorry.
-/
import Derived.Test.YtpbaeloiefpgbaaChecked
import GoSem.Claim
import GoSem.ClaimJoined
import GoSem.ClaimMapViews
import Derived.JoinedTies
import Derived.KernelRfl
namespace Go.Proofs.Ytpbaeloiefpgbaa
/- THE CELL 'sum', in the pinned program and in every row, IS THE sha256 OF THE DUMP (.gsa) THAT YtpbaeloiefpgbaaProg.lean LOADS. Nothing in Lean hashes anything: it is a label: what it is worth is what the hold of that sum in a sandbox is worth. -/
noncomputable def Try.pinned : Pinned := { name := "ytpbaeloiefpgbaa", sum := "3e1264fe909497ee4abdaa321b18a7da0033db37461da6f8684e043861f4caf6", checked := Try.checked }
namespace Rows
def none {H : Type} : Left H := { results := [], args := [] }

/-- 'laws.FnExactSchemaOK': WHATEVER THE INPUT: true; the input reads as it did. -/
def fnExactSchemaOKSpec : ChangeSpec := { name := "fnExactSchemaOK", fn := fun _ => fun
  | [d] => { results := [.lit (.bool true)], args := [d] }
  | _ => none }
def fnExactSchemaOKRow : OpenClaim := { program := "ytpbaeloiefpgbaa", sum := "3e1264fe909497ee4abdaa321b18a7da0033db37461da6f8684e043861f4caf6", func := "loop.example/g00524/laws.FnExactSchemaOK", spec := "fnExactSchemaOK", unfollowed := true, recurses := true, apart := false }
def FnExactSchemaOKSaid : Prop := fnExactSchemaOKRow.holds Try.pinned (OpenSpec.ofChange fnExactSchemaOKSpec)

/-- ITS FALSE NEIGHBOUR: 'it returns false'. Refute it at one input. -/
def fnExactSchemaOKWrong : ChangeSpec := { name := "fnExactSchemaOK", fn := fun _ => fun
  | [d] => { results := [.lit (.bool false)], args := [d] }
  | _ => none }
def FnExactSchemaOKWrongFalsely : Prop := fnExactSchemaOKRow.holds Try.pinned (OpenSpec.ofChange fnExactSchemaOKWrong)

/-- 'laws.FnExactTableOf': WHATEVER THE INPUT: true; the input reads as it did. -/
def fnExactTableOfSpec : ChangeSpec := { name := "fnExactTableOf", fn := fun _ => fun
  | [d1, d2] => { results := [.lit (.bool true)], args := [d1, d2] }
  | _ => none }
def fnExactTableOfRow : OpenClaim := { program := "ytpbaeloiefpgbaa", sum := "3e1264fe909497ee4abdaa321b18a7da0033db37461da6f8684e043861f4caf6", func := "loop.example/g00524/laws.FnExactTableOf", spec := "fnExactTableOf", unfollowed := true, recurses := true, apart := false }
def FnExactTableOfSaid : Prop := fnExactTableOfRow.holds Try.pinned (OpenSpec.ofChange fnExactTableOfSpec)

/-- ITS FALSE NEIGHBOUR: 'it returns false'. Refute it at one input. -/
def fnExactTableOfWrong : ChangeSpec := { name := "fnExactTableOf", fn := fun _ => fun
  | [d1, d2] => { results := [.lit (.bool false)], args := [d1, d2] }
  | _ => none }
def FnExactTableOfWrongFalsely : Prop := fnExactTableOfRow.holds Try.pinned (OpenSpec.ofChange fnExactTableOfWrong)

/-- 'laws.FnExactColumnOf': WHATEVER THE INPUT: true; the input reads as it did. -/
def fnExactColumnOfSpec : ChangeSpec := { name := "fnExactColumnOf", fn := fun _ => fun
  | [d1, d2] => { results := [.lit (.bool true)], args := [d1, d2] }
  | _ => none }
def fnExactColumnOfRow : OpenClaim := { program := "ytpbaeloiefpgbaa", sum := "3e1264fe909497ee4abdaa321b18a7da0033db37461da6f8684e043861f4caf6", func := "loop.example/g00524/laws.FnExactColumnOf", spec := "fnExactColumnOf", unfollowed := true, recurses := true, apart := false }
def FnExactColumnOfSaid : Prop := fnExactColumnOfRow.holds Try.pinned (OpenSpec.ofChange fnExactColumnOfSpec)

/-- ITS FALSE NEIGHBOUR: 'it returns false'. Refute it at one input. -/
def fnExactColumnOfWrong : ChangeSpec := { name := "fnExactColumnOf", fn := fun _ => fun
  | [d1, d2] => { results := [.lit (.bool false)], args := [d1, d2] }
  | _ => none }
def FnExactColumnOfWrongFalsely : Prop := fnExactColumnOfRow.holds Try.pinned (OpenSpec.ofChange fnExactColumnOfWrong)

/-- 'laws.FnSchema': WHATEVER THE INPUT: true; the input reads as it did. -/
def fnSchemaSpec : ChangeSpec := { name := "fnSchema", fn := fun _ => fun
  | [d] => { results := [.lit (.bool true)], args := [d] }
  | _ => none }
def fnSchemaRow : OpenClaim := { program := "ytpbaeloiefpgbaa", sum := "3e1264fe909497ee4abdaa321b18a7da0033db37461da6f8684e043861f4caf6", func := "loop.example/g00524/laws.FnSchema", spec := "fnSchema", unfollowed := true, recurses := true, apart := false }
def FnSchemaSaid : Prop := fnSchemaRow.holds Try.pinned (OpenSpec.ofChange fnSchemaSpec)

/-- ITS FALSE NEIGHBOUR: 'it returns false'. Refute it at one input. -/
def fnSchemaWrong : ChangeSpec := { name := "fnSchema", fn := fun _ => fun
  | [d] => { results := [.lit (.bool false)], args := [d] }
  | _ => none }
def FnSchemaWrongFalsely : Prop := fnSchemaRow.holds Try.pinned (OpenSpec.ofChange fnSchemaWrong)

/-- 'laws.FnExactPlainSchema': WHATEVER THE INPUT: true; the input reads as it did. -/
def fnExactPlainSchemaSpec : ChangeSpec := { name := "fnExactPlainSchema", fn := fun _ => fun
  | [] => { results := [.lit (.bool true)], args := [] }
  | _ => none }
def fnExactPlainSchemaRow : OpenClaim := { program := "ytpbaeloiefpgbaa", sum := "3e1264fe909497ee4abdaa321b18a7da0033db37461da6f8684e043861f4caf6", func := "loop.example/g00524/laws.FnExactPlainSchema", spec := "fnExactPlainSchema", apart := false }
def FnExactPlainSchemaSaid : Prop := fnExactPlainSchemaRow.holds Try.pinned (OpenSpec.ofChange fnExactPlainSchemaSpec)

/-- ITS FALSE NEIGHBOUR: 'it returns false'. Refute it at one input. -/
def fnExactPlainSchemaWrong : ChangeSpec := { name := "fnExactPlainSchema", fn := fun _ => fun
  | [] => { results := [.lit (.bool false)], args := [] }
  | _ => none }
def FnExactPlainSchemaWrongFalsely : Prop := fnExactPlainSchemaRow.holds Try.pinned (OpenSpec.ofChange fnExactPlainSchemaWrong)

/-- 'laws.FnExactNewStore': WHATEVER THE INPUT: true; the input reads as it did. -/
def fnExactNewStoreSpec : ChangeSpec := { name := "fnExactNewStore", fn := fun _ => fun
  | [d] => { results := [.lit (.bool true)], args := [d] }
  | _ => none }
def fnExactNewStoreRow : OpenClaim := { program := "ytpbaeloiefpgbaa", sum := "3e1264fe909497ee4abdaa321b18a7da0033db37461da6f8684e043861f4caf6", func := "loop.example/g00524/laws.FnExactNewStore", spec := "fnExactNewStore", unfollowed := true, recurses := true, apart := false }
def FnExactNewStoreSaid : Prop := fnExactNewStoreRow.holds Try.pinned (OpenSpec.ofChange fnExactNewStoreSpec)

/-- ITS FALSE NEIGHBOUR: 'it returns false'. Refute it at one input. -/
def fnExactNewStoreWrong : ChangeSpec := { name := "fnExactNewStore", fn := fun _ => fun
  | [d] => { results := [.lit (.bool false)], args := [d] }
  | _ => none }
def FnExactNewStoreWrongFalsely : Prop := fnExactNewStoreRow.holds Try.pinned (OpenSpec.ofChange fnExactNewStoreWrong)

/-- 'laws.FnExactRowOK': WHATEVER THE INPUT: true; the input reads as it did. -/
def fnExactRowOKSpec : ChangeSpec := { name := "fnExactRowOK", fn := fun _ => fun
  | [d1, d2] => { results := [.lit (.bool true)], args := [d1, d2] }
  | _ => none }
def fnExactRowOKRow : OpenClaim := { program := "ytpbaeloiefpgbaa", sum := "3e1264fe909497ee4abdaa321b18a7da0033db37461da6f8684e043861f4caf6", func := "loop.example/g00524/laws.FnExactRowOK", spec := "fnExactRowOK", inPlace := ["internal/bytealg.abigen_runtime_cmpstring"], unfollowed := true, recurses := true, apart := false }
def FnExactRowOKSaid : Prop := fnExactRowOKRow.holds Try.pinned (OpenSpec.ofChange fnExactRowOKSpec)

/-- ITS FALSE NEIGHBOUR: 'it returns false'. Refute it at one input. -/
def fnExactRowOKWrong : ChangeSpec := { name := "fnExactRowOK", fn := fun _ => fun
  | [d1, d2] => { results := [.lit (.bool false)], args := [d1, d2] }
  | _ => none }
def FnExactRowOKWrongFalsely : Prop := fnExactRowOKRow.holds Try.pinned (OpenSpec.ofChange fnExactRowOKWrong)

/-- 'laws.FnExactFreshRow': WHATEVER THE INPUT: true; the input reads as it did. -/
def fnExactFreshRowSpec : ChangeSpec := { name := "fnExactFreshRow", fn := fun _ => fun
  | [d1, d2] => { results := [.lit (.bool true)], args := [d1, d2] }
  | _ => none }
def fnExactFreshRowRow : OpenClaim := { program := "ytpbaeloiefpgbaa", sum := "3e1264fe909497ee4abdaa321b18a7da0033db37461da6f8684e043861f4caf6", func := "loop.example/g00524/laws.FnExactFreshRow", spec := "fnExactFreshRow", unfollowed := true, recurses := true, apart := false }
def FnExactFreshRowSaid : Prop := fnExactFreshRowRow.holds Try.pinned (OpenSpec.ofChange fnExactFreshRowSpec)

/-- ITS FALSE NEIGHBOUR: 'it returns false'. Refute it at one input. -/
def fnExactFreshRowWrong : ChangeSpec := { name := "fnExactFreshRow", fn := fun _ => fun
  | [d1, d2] => { results := [.lit (.bool false)], args := [d1, d2] }
  | _ => none }
def FnExactFreshRowWrongFalsely : Prop := fnExactFreshRowRow.holds Try.pinned (OpenSpec.ofChange fnExactFreshRowWrong)

/-- 'laws.FnExactResultOK': WHATEVER THE INPUT: true; the input reads as it did. -/
def fnExactResultOKSpec : ChangeSpec := { name := "fnExactResultOK", fn := fun _ => fun
  | [d] => { results := [.lit (.bool true)], args := [d] }
  | _ => none }
def fnExactResultOKRow : OpenClaim := { program := "ytpbaeloiefpgbaa", sum := "3e1264fe909497ee4abdaa321b18a7da0033db37461da6f8684e043861f4caf6", func := "loop.example/g00524/laws.FnExactResultOK", spec := "fnExactResultOK", inPlace := ["internal/bytealg.abigen_runtime_cmpstring"], unfollowed := true, recurses := true, apart := false }
def FnExactResultOKSaid : Prop := fnExactResultOKRow.holds Try.pinned (OpenSpec.ofChange fnExactResultOKSpec)

/-- ITS FALSE NEIGHBOUR: 'it returns false'. Refute it at one input. -/
def fnExactResultOKWrong : ChangeSpec := { name := "fnExactResultOK", fn := fun _ => fun
  | [d] => { results := [.lit (.bool false)], args := [d] }
  | _ => none }
def FnExactResultOKWrongFalsely : Prop := fnExactResultOKRow.holds Try.pinned (OpenSpec.ofChange fnExactResultOKWrong)

/-- 'laws.FnExactMutCode': WHATEVER THE INPUT: true; the input reads as it did. -/
def fnExactMutCodeSpec : ChangeSpec := { name := "fnExactMutCode", fn := fun _ => fun
  | [d1, d2] => { results := [.lit (.bool true)], args := [d1, d2] }
  | _ => none }
def fnExactMutCodeRow : OpenClaim := { program := "ytpbaeloiefpgbaa", sum := "3e1264fe909497ee4abdaa321b18a7da0033db37461da6f8684e043861f4caf6", func := "loop.example/g00524/laws.FnExactMutCode", spec := "fnExactMutCode", inPlace := ["internal/bytealg.abigen_runtime_cmpstring"], unfollowed := true, recurses := true, apart := false }
def FnExactMutCodeSaid : Prop := fnExactMutCodeRow.holds Try.pinned (OpenSpec.ofChange fnExactMutCodeSpec)

/-- ITS FALSE NEIGHBOUR: 'it returns false'. Refute it at one input. -/
def fnExactMutCodeWrong : ChangeSpec := { name := "fnExactMutCode", fn := fun _ => fun
  | [d1, d2] => { results := [.lit (.bool false)], args := [d1, d2] }
  | _ => none }
def FnExactMutCodeWrongFalsely : Prop := fnExactMutCodeRow.holds Try.pinned (OpenSpec.ofChange fnExactMutCodeWrong)

/-- 'laws.FnExactCondCode': WHATEVER THE INPUT: true; the input reads as it did. -/
def fnExactCondCodeSpec : ChangeSpec := { name := "fnExactCondCode", fn := fun _ => fun
  | [d1, d2] => { results := [.lit (.bool true)], args := [d1, d2] }
  | _ => none }
def fnExactCondCodeRow : OpenClaim := { program := "ytpbaeloiefpgbaa", sum := "3e1264fe909497ee4abdaa321b18a7da0033db37461da6f8684e043861f4caf6", func := "loop.example/g00524/laws.FnExactCondCode", spec := "fnExactCondCode", inPlace := ["internal/bytealg.abigen_runtime_cmpstring"], unfollowed := true, recurses := true, apart := false }
def FnExactCondCodeSaid : Prop := fnExactCondCodeRow.holds Try.pinned (OpenSpec.ofChange fnExactCondCodeSpec)

/-- ITS FALSE NEIGHBOUR: 'it returns false'. Refute it at one input. -/
def fnExactCondCodeWrong : ChangeSpec := { name := "fnExactCondCode", fn := fun _ => fun
  | [d1, d2] => { results := [.lit (.bool false)], args := [d1, d2] }
  | _ => none }
def FnExactCondCodeWrongFalsely : Prop := fnExactCondCodeRow.holds Try.pinned (OpenSpec.ofChange fnExactCondCodeWrong)

/- THE SECOND FORM. 'bulk': how many values and letters a reading holds, each counted each time it is reached (what is shared counts as often as it is met; a slice's spare places count too). A statement '..UptoSaid' is the law's where the arguments, and the package variables that the reading takes, are together of bulk at most 1048576: NARROWER than '..Said'. Prove '..Said' where nothing that the law and all that it calls make is longer than what came in: it says more and counts as full. Else prove '..UptoSaid'. A law counts once. -/
mutual
def uptoBulk {H : Type} : DataW H → Nat
  | .lit (.string bytes) => bytes.length + 1
  | .lit _ => 1
  | .nil => 1
  | .ptr d => uptoBulk d + 1
  | .slice elems spare => uptoBulkAll elems + uptoBulkAll spare + 1
  | .agg parts => uptoBulkAll parts + 1
  | .iface _ d => uptoBulk d + 1
  | .map entries => uptoBulkEntries entries + 1
  | .held _ => 1
def uptoBulkAll {H : Type} : List (DataW H) → Nat
  | [] => 0
  | d :: r => uptoBulk d + uptoBulkAll r
def uptoBulkEntries {H : Type} : List (Lit × DataW H) → Nat
  | [] => 0
  | x :: r => uptoBulkEntry x + uptoBulkEntries r
def uptoBulkEntry {H : Type} : Lit × DataW H → Nat
  | (.string bytes, d) => bytes.length + uptoBulk d + 1
  | (_, d) => uptoBulk d + 1
 end
def uptoSmall : (H : Type) → List (DataW H) → Bool := fun _ ds => decide (uptoBulkAll ds ≤ 1048576)
def OpenSpec.upto (s : _root_.Go.ChangeSpec) : _root_.Go.OpenSpec := { _root_.Go.OpenSpec.ofChange s with cond := some uptoSmall }

/-- 'laws.FnExactSchemaOK', WHERE WHAT IT READS IS OF BULK AT MOST 1048576: true; the input reads as it did. -/
def fnExactSchemaOKUptoRow : OpenClaim := { program := "ytpbaeloiefpgbaa", sum := "3e1264fe909497ee4abdaa321b18a7da0033db37461da6f8684e043861f4caf6", func := "loop.example/g00524/laws.FnExactSchemaOK", spec := "fnExactSchemaOK", unfollowed := true, recurses := true, apart := false, narrowed := true }
def FnExactSchemaOKUptoSaid : Prop := fnExactSchemaOKUptoRow.holds Try.pinned (OpenSpec.upto fnExactSchemaOKSpec)

/-- 'laws.FnExactTableOf', WHERE WHAT IT READS IS OF BULK AT MOST 1048576: true; the input reads as it did. -/
def fnExactTableOfUptoRow : OpenClaim := { program := "ytpbaeloiefpgbaa", sum := "3e1264fe909497ee4abdaa321b18a7da0033db37461da6f8684e043861f4caf6", func := "loop.example/g00524/laws.FnExactTableOf", spec := "fnExactTableOf", unfollowed := true, recurses := true, apart := false, narrowed := true }
def FnExactTableOfUptoSaid : Prop := fnExactTableOfUptoRow.holds Try.pinned (OpenSpec.upto fnExactTableOfSpec)

/-- 'laws.FnExactColumnOf', WHERE WHAT IT READS IS OF BULK AT MOST 1048576: true; the input reads as it did. -/
def fnExactColumnOfUptoRow : OpenClaim := { program := "ytpbaeloiefpgbaa", sum := "3e1264fe909497ee4abdaa321b18a7da0033db37461da6f8684e043861f4caf6", func := "loop.example/g00524/laws.FnExactColumnOf", spec := "fnExactColumnOf", unfollowed := true, recurses := true, apart := false, narrowed := true }
def FnExactColumnOfUptoSaid : Prop := fnExactColumnOfUptoRow.holds Try.pinned (OpenSpec.upto fnExactColumnOfSpec)

/-- 'laws.FnSchema', WHERE WHAT IT READS IS OF BULK AT MOST 1048576: true; the input reads as it did. -/
def fnSchemaUptoRow : OpenClaim := { program := "ytpbaeloiefpgbaa", sum := "3e1264fe909497ee4abdaa321b18a7da0033db37461da6f8684e043861f4caf6", func := "loop.example/g00524/laws.FnSchema", spec := "fnSchema", unfollowed := true, recurses := true, apart := false, narrowed := true }
def FnSchemaUptoSaid : Prop := fnSchemaUptoRow.holds Try.pinned (OpenSpec.upto fnSchemaSpec)

/-- 'laws.FnExactPlainSchema', WHERE WHAT IT READS IS OF BULK AT MOST 1048576: true; the input reads as it did. -/
def fnExactPlainSchemaUptoRow : OpenClaim := { program := "ytpbaeloiefpgbaa", sum := "3e1264fe909497ee4abdaa321b18a7da0033db37461da6f8684e043861f4caf6", func := "loop.example/g00524/laws.FnExactPlainSchema", spec := "fnExactPlainSchema", apart := false, narrowed := true }
def FnExactPlainSchemaUptoSaid : Prop := fnExactPlainSchemaUptoRow.holds Try.pinned (OpenSpec.upto fnExactPlainSchemaSpec)

/-- 'laws.FnExactNewStore', WHERE WHAT IT READS IS OF BULK AT MOST 1048576: true; the input reads as it did. -/
def fnExactNewStoreUptoRow : OpenClaim := { program := "ytpbaeloiefpgbaa", sum := "3e1264fe909497ee4abdaa321b18a7da0033db37461da6f8684e043861f4caf6", func := "loop.example/g00524/laws.FnExactNewStore", spec := "fnExactNewStore", unfollowed := true, recurses := true, apart := false, narrowed := true }
def FnExactNewStoreUptoSaid : Prop := fnExactNewStoreUptoRow.holds Try.pinned (OpenSpec.upto fnExactNewStoreSpec)

/-- 'laws.FnExactRowOK', WHERE WHAT IT READS IS OF BULK AT MOST 1048576: true; the input reads as it did. -/
def fnExactRowOKUptoRow : OpenClaim := { program := "ytpbaeloiefpgbaa", sum := "3e1264fe909497ee4abdaa321b18a7da0033db37461da6f8684e043861f4caf6", func := "loop.example/g00524/laws.FnExactRowOK", spec := "fnExactRowOK", inPlace := ["internal/bytealg.abigen_runtime_cmpstring"], unfollowed := true, recurses := true, apart := false, narrowed := true }
def FnExactRowOKUptoSaid : Prop := fnExactRowOKUptoRow.holds Try.pinned (OpenSpec.upto fnExactRowOKSpec)

/-- 'laws.FnExactFreshRow', WHERE WHAT IT READS IS OF BULK AT MOST 1048576: true; the input reads as it did. -/
def fnExactFreshRowUptoRow : OpenClaim := { program := "ytpbaeloiefpgbaa", sum := "3e1264fe909497ee4abdaa321b18a7da0033db37461da6f8684e043861f4caf6", func := "loop.example/g00524/laws.FnExactFreshRow", spec := "fnExactFreshRow", unfollowed := true, recurses := true, apart := false, narrowed := true }
def FnExactFreshRowUptoSaid : Prop := fnExactFreshRowUptoRow.holds Try.pinned (OpenSpec.upto fnExactFreshRowSpec)

/-- 'laws.FnExactResultOK', WHERE WHAT IT READS IS OF BULK AT MOST 1048576: true; the input reads as it did. -/
def fnExactResultOKUptoRow : OpenClaim := { program := "ytpbaeloiefpgbaa", sum := "3e1264fe909497ee4abdaa321b18a7da0033db37461da6f8684e043861f4caf6", func := "loop.example/g00524/laws.FnExactResultOK", spec := "fnExactResultOK", inPlace := ["internal/bytealg.abigen_runtime_cmpstring"], unfollowed := true, recurses := true, apart := false, narrowed := true }
def FnExactResultOKUptoSaid : Prop := fnExactResultOKUptoRow.holds Try.pinned (OpenSpec.upto fnExactResultOKSpec)

/-- 'laws.FnExactMutCode', WHERE WHAT IT READS IS OF BULK AT MOST 1048576: true; the input reads as it did. -/
def fnExactMutCodeUptoRow : OpenClaim := { program := "ytpbaeloiefpgbaa", sum := "3e1264fe909497ee4abdaa321b18a7da0033db37461da6f8684e043861f4caf6", func := "loop.example/g00524/laws.FnExactMutCode", spec := "fnExactMutCode", inPlace := ["internal/bytealg.abigen_runtime_cmpstring"], unfollowed := true, recurses := true, apart := false, narrowed := true }
def FnExactMutCodeUptoSaid : Prop := fnExactMutCodeUptoRow.holds Try.pinned (OpenSpec.upto fnExactMutCodeSpec)

/-- 'laws.FnExactCondCode', WHERE WHAT IT READS IS OF BULK AT MOST 1048576: true; the input reads as it did. -/
def fnExactCondCodeUptoRow : OpenClaim := { program := "ytpbaeloiefpgbaa", sum := "3e1264fe909497ee4abdaa321b18a7da0033db37461da6f8684e043861f4caf6", func := "loop.example/g00524/laws.FnExactCondCode", spec := "fnExactCondCode", inPlace := ["internal/bytealg.abigen_runtime_cmpstring"], unfollowed := true, recurses := true, apart := false, narrowed := true }
def FnExactCondCodeUptoSaid : Prop := fnExactCondCodeUptoRow.holds Try.pinned (OpenSpec.upto fnExactCondCodeSpec)

end Rows
end Go.Proofs.Ytpbaeloiefpgbaa
