/-
  NARROWER THAN 'FOR EVERY INPUT', by the rows' own cells (each row's printed sentence says how): FnExactJsonOK: loops · FnExactJsonNodes: loops · FnExactJsonDepth: loops · FnExactSameJson: loops · FnExactFieldOf: loops.
  DERIVED. THE GIVEN ROWS OF THIS SEAT. 8 by the template 'for every input the law returns true; each argument reads behind the call as it read before'; 0 by the template 'total and deterministic' (their statements: YthglchopajdmhaaTotals.lean).
  GIVEN WITH THE SEED: the statements are not yours to turn. If you find one false, say at which input.
  Laid BY PROGRAM, IN A SANDBOX (cutbox-rows.mjs): the forced cells as the released guide's own fill.sh prints them over the translation 1941958efb6a1dad… (all of the seat's roots in one cut). By AI agents, Wed Nov 11 2026. No macro, syntax, notation, axiom, sorry.
-/
import Derived.Test.YthglchopajdmhaaChecked
import GoSem.Claim
import GoSem.ClaimJoined
import GoSem.ClaimMapViews
import Derived.JoinedTies
import Derived.KernelRfl
namespace Go.Proofs.Ythglchopajdmhaa
/- THE CELL 'sum', in the pinned program and in every row, IS THE sha256 OF THE DUMP (.gsa) THAT YthglchopajdmhaaProg.lean LOADS. Nothing in Lean hashes anything: it is a label: what it is worth is what the hold of that sum in a sandbox is worth. -/
noncomputable def Try.pinned : Pinned := { name := "ythglchopajdmhaa", sum := "1941958efb6a1dad54663b4580cf3d5ced5127f0b326b8edccc0c1158fa06a11", checked := Try.checked }
namespace Rows
def none {H : Type} : Left H := { results := [], args := [] }

/-- 'laws.FnExactJsonOK': WHATEVER THE INPUT: true; the input reads as it did. -/
def fnExactJsonOKSpec : ChangeSpec := { name := "fnExactJsonOK", fn := fun _ => fun
  | [d] => { results := [.lit (.bool true)], args := [d] }
  | _ => none }
def fnExactJsonOKRow : OpenClaim := { program := "ythglchopajdmhaa", sum := "1941958efb6a1dad54663b4580cf3d5ced5127f0b326b8edccc0c1158fa06a11", func := "loop.example/g00524/laws.FnExactJsonOK", spec := "fnExactJsonOK", unfollowed := true, recurses := true, loops := true, apart := false }
def FnExactJsonOKSaid : Prop := fnExactJsonOKRow.holds Try.pinned (OpenSpec.ofChange fnExactJsonOKSpec)

/-- ITS FALSE NEIGHBOUR: 'it returns false'. Refute it at one input. -/
def fnExactJsonOKWrong : ChangeSpec := { name := "fnExactJsonOK", fn := fun _ => fun
  | [d] => { results := [.lit (.bool false)], args := [d] }
  | _ => none }
def FnExactJsonOKWrongFalsely : Prop := fnExactJsonOKRow.holds Try.pinned (OpenSpec.ofChange fnExactJsonOKWrong)

/-- 'laws.FnExactJsonNodes': WHATEVER THE INPUT: true; the input reads as it did. -/
def fnExactJsonNodesSpec : ChangeSpec := { name := "fnExactJsonNodes", fn := fun _ => fun
  | [d] => { results := [.lit (.bool true)], args := [d] }
  | _ => none }
def fnExactJsonNodesRow : OpenClaim := { program := "ythglchopajdmhaa", sum := "1941958efb6a1dad54663b4580cf3d5ced5127f0b326b8edccc0c1158fa06a11", func := "loop.example/g00524/laws.FnExactJsonNodes", spec := "fnExactJsonNodes", unfollowed := true, recurses := true, loops := true, apart := false }
def FnExactJsonNodesSaid : Prop := fnExactJsonNodesRow.holds Try.pinned (OpenSpec.ofChange fnExactJsonNodesSpec)

/-- ITS FALSE NEIGHBOUR: 'it returns false'. Refute it at one input. -/
def fnExactJsonNodesWrong : ChangeSpec := { name := "fnExactJsonNodes", fn := fun _ => fun
  | [d] => { results := [.lit (.bool false)], args := [d] }
  | _ => none }
def FnExactJsonNodesWrongFalsely : Prop := fnExactJsonNodesRow.holds Try.pinned (OpenSpec.ofChange fnExactJsonNodesWrong)

/-- 'laws.FnExactJsonDepth': WHATEVER THE INPUT: true; the input reads as it did. -/
def fnExactJsonDepthSpec : ChangeSpec := { name := "fnExactJsonDepth", fn := fun _ => fun
  | [d] => { results := [.lit (.bool true)], args := [d] }
  | _ => none }
def fnExactJsonDepthRow : OpenClaim := { program := "ythglchopajdmhaa", sum := "1941958efb6a1dad54663b4580cf3d5ced5127f0b326b8edccc0c1158fa06a11", func := "loop.example/g00524/laws.FnExactJsonDepth", spec := "fnExactJsonDepth", unfollowed := true, recurses := true, loops := true, apart := false }
def FnExactJsonDepthSaid : Prop := fnExactJsonDepthRow.holds Try.pinned (OpenSpec.ofChange fnExactJsonDepthSpec)

/-- ITS FALSE NEIGHBOUR: 'it returns false'. Refute it at one input. -/
def fnExactJsonDepthWrong : ChangeSpec := { name := "fnExactJsonDepth", fn := fun _ => fun
  | [d] => { results := [.lit (.bool false)], args := [d] }
  | _ => none }
def FnExactJsonDepthWrongFalsely : Prop := fnExactJsonDepthRow.holds Try.pinned (OpenSpec.ofChange fnExactJsonDepthWrong)

/-- 'laws.FnExactSameJson': WHATEVER THE INPUT: true; the input reads as it did. -/
def fnExactSameJsonSpec : ChangeSpec := { name := "fnExactSameJson", fn := fun _ => fun
  | [d1, d2] => { results := [.lit (.bool true)], args := [d1, d2] }
  | _ => none }
def fnExactSameJsonRow : OpenClaim := { program := "ythglchopajdmhaa", sum := "1941958efb6a1dad54663b4580cf3d5ced5127f0b326b8edccc0c1158fa06a11", func := "loop.example/g00524/laws.FnExactSameJson", spec := "fnExactSameJson", unfollowed := true, recurses := true, loops := true, apart := false }
def FnExactSameJsonSaid : Prop := fnExactSameJsonRow.holds Try.pinned (OpenSpec.ofChange fnExactSameJsonSpec)

/-- ITS FALSE NEIGHBOUR: 'it returns false'. Refute it at one input. -/
def fnExactSameJsonWrong : ChangeSpec := { name := "fnExactSameJson", fn := fun _ => fun
  | [d1, d2] => { results := [.lit (.bool false)], args := [d1, d2] }
  | _ => none }
def FnExactSameJsonWrongFalsely : Prop := fnExactSameJsonRow.holds Try.pinned (OpenSpec.ofChange fnExactSameJsonWrong)

/-- 'laws.FnExactFieldOf': WHATEVER THE INPUT: true; the input reads as it did. -/
def fnExactFieldOfSpec : ChangeSpec := { name := "fnExactFieldOf", fn := fun _ => fun
  | [d1, d2] => { results := [.lit (.bool true)], args := [d1, d2] }
  | _ => none }
def fnExactFieldOfRow : OpenClaim := { program := "ythglchopajdmhaa", sum := "1941958efb6a1dad54663b4580cf3d5ced5127f0b326b8edccc0c1158fa06a11", func := "loop.example/g00524/laws.FnExactFieldOf", spec := "fnExactFieldOf", unfollowed := true, recurses := true, loops := true, apart := false }
def FnExactFieldOfSaid : Prop := fnExactFieldOfRow.holds Try.pinned (OpenSpec.ofChange fnExactFieldOfSpec)

/-- ITS FALSE NEIGHBOUR: 'it returns false'. Refute it at one input. -/
def fnExactFieldOfWrong : ChangeSpec := { name := "fnExactFieldOf", fn := fun _ => fun
  | [d1, d2] => { results := [.lit (.bool false)], args := [d1, d2] }
  | _ => none }
def FnExactFieldOfWrongFalsely : Prop := fnExactFieldOfRow.holds Try.pinned (OpenSpec.ofChange fnExactFieldOfWrong)

/-- 'laws.FnExactDatumOf': WHATEVER THE INPUT: true; the input reads as it did. -/
def fnExactDatumOfSpec : ChangeSpec := { name := "fnExactDatumOf", fn := fun _ => fun
  | [d] => { results := [.lit (.bool true)], args := [d] }
  | _ => none }
def fnExactDatumOfRow : OpenClaim := { program := "ythglchopajdmhaa", sum := "1941958efb6a1dad54663b4580cf3d5ced5127f0b326b8edccc0c1158fa06a11", func := "loop.example/g00524/laws.FnExactDatumOf", spec := "fnExactDatumOf", inPlace := ["internal/bytealg.abigen_runtime_cmpstring"], unfollowed := true, recurses := true, apart := false }
def FnExactDatumOfSaid : Prop := fnExactDatumOfRow.holds Try.pinned (OpenSpec.ofChange fnExactDatumOfSpec)

/-- ITS FALSE NEIGHBOUR: 'it returns false'. Refute it at one input. -/
def fnExactDatumOfWrong : ChangeSpec := { name := "fnExactDatumOf", fn := fun _ => fun
  | [d] => { results := [.lit (.bool false)], args := [d] }
  | _ => none }
def FnExactDatumOfWrongFalsely : Prop := fnExactDatumOfRow.holds Try.pinned (OpenSpec.ofChange fnExactDatumOfWrong)

/-- 'laws.FnExactDatumJoin': WHATEVER THE INPUT: true; the input reads as it did. -/
def fnExactDatumJoinSpec : ChangeSpec := { name := "fnExactDatumJoin", fn := fun _ => fun
  | [d1, d2] => { results := [.lit (.bool true)], args := [d1, d2] }
  | _ => none }
def fnExactDatumJoinRow : OpenClaim := { program := "ythglchopajdmhaa", sum := "1941958efb6a1dad54663b4580cf3d5ced5127f0b326b8edccc0c1158fa06a11", func := "loop.example/g00524/laws.FnExactDatumJoin", spec := "fnExactDatumJoin", inPlace := ["internal/bytealg.abigen_runtime_cmpstring"], unfollowed := true, recurses := true, apart := false }
def FnExactDatumJoinSaid : Prop := fnExactDatumJoinRow.holds Try.pinned (OpenSpec.ofChange fnExactDatumJoinSpec)

/-- ITS FALSE NEIGHBOUR: 'it returns false'. Refute it at one input. -/
def fnExactDatumJoinWrong : ChangeSpec := { name := "fnExactDatumJoin", fn := fun _ => fun
  | [d1, d2] => { results := [.lit (.bool false)], args := [d1, d2] }
  | _ => none }
def FnExactDatumJoinWrongFalsely : Prop := fnExactDatumJoinRow.holds Try.pinned (OpenSpec.ofChange fnExactDatumJoinWrong)

/-- 'laws.FnExactMutate': WHATEVER THE INPUT: true; the input reads as it did. -/
def fnExactMutateSpec : ChangeSpec := { name := "fnExactMutate", fn := fun _ => fun
  | [d1, d2, d3] => { results := [.lit (.bool true)], args := [d1, d2, d3] }
  | _ => none }
def fnExactMutateRow : OpenClaim := { program := "ythglchopajdmhaa", sum := "1941958efb6a1dad54663b4580cf3d5ced5127f0b326b8edccc0c1158fa06a11", func := "loop.example/g00524/laws.FnExactMutate", spec := "fnExactMutate", inPlace := ["internal/bytealg.abigen_runtime_cmpstring"], unfollowed := true, recurses := true, apart := false }
def FnExactMutateSaid : Prop := fnExactMutateRow.holds Try.pinned (OpenSpec.ofChange fnExactMutateSpec)

/-- ITS FALSE NEIGHBOUR: 'it returns false'. Refute it at one input. -/
def fnExactMutateWrong : ChangeSpec := { name := "fnExactMutate", fn := fun _ => fun
  | [d1, d2, d3] => { results := [.lit (.bool false)], args := [d1, d2, d3] }
  | _ => none }
def FnExactMutateWrongFalsely : Prop := fnExactMutateRow.holds Try.pinned (OpenSpec.ofChange fnExactMutateWrong)

/- THE SECOND FORM. 'bulk': how many values and letters a reading holds, each counted each time it is reached (what is shared counts as often as it is met; a slice's spare places count too). A statement '..UptoSaid' is the law's where the arguments, and the package variables that the reading takes, are together of bulk at most 1048576: NARROWER than '..Said'. Prove '..Said' where nothing that the law and all that it calls make is longer than what came in: it says more and counts as full. Else prove '..UptoSaid'. A law counts once. -/
mutual
def uptoBulk {H : Type} : DataW H → Nat
  | .lit (.string bytes) => bytes.length + 1
  | .lit _ => 1
  | .nil => 1
  | .ptr d => uptoBulk d + 1
  | .slice elems spare => uptoBulkAll elems + uptoBulkAll spare + 1
  | .agg parts => uptoBulkAll parts + 1
  | .iface _ d => uptoBulk d + 1
  | .map entries => uptoBulkEntries entries + 1
  | .held _ => 1
def uptoBulkAll {H : Type} : List (DataW H) → Nat
  | [] => 0
  | d :: r => uptoBulk d + uptoBulkAll r
def uptoBulkEntries {H : Type} : List (Lit × DataW H) → Nat
  | [] => 0
  | x :: r => uptoBulkEntry x + uptoBulkEntries r
def uptoBulkEntry {H : Type} : Lit × DataW H → Nat
  | (.string bytes, d) => bytes.length + uptoBulk d + 1
  | (_, d) => uptoBulk d + 1
 end
def uptoSmall : (H : Type) → List (DataW H) → Bool := fun _ ds => decide (uptoBulkAll ds ≤ 1048576)
def OpenSpec.upto (s : _root_.Go.ChangeSpec) : _root_.Go.OpenSpec := { _root_.Go.OpenSpec.ofChange s with cond := some uptoSmall }

/-- 'laws.FnExactJsonOK', WHERE WHAT IT READS IS OF BULK AT MOST 1048576: true; the input reads as it did. -/
def fnExactJsonOKUptoRow : OpenClaim := { program := "ythglchopajdmhaa", sum := "1941958efb6a1dad54663b4580cf3d5ced5127f0b326b8edccc0c1158fa06a11", func := "loop.example/g00524/laws.FnExactJsonOK", spec := "fnExactJsonOK", unfollowed := true, recurses := true, loops := true, apart := false, narrowed := true }
def FnExactJsonOKUptoSaid : Prop := fnExactJsonOKUptoRow.holds Try.pinned (OpenSpec.upto fnExactJsonOKSpec)

/-- 'laws.FnExactJsonNodes', WHERE WHAT IT READS IS OF BULK AT MOST 1048576: true; the input reads as it did. -/
def fnExactJsonNodesUptoRow : OpenClaim := { program := "ythglchopajdmhaa", sum := "1941958efb6a1dad54663b4580cf3d5ced5127f0b326b8edccc0c1158fa06a11", func := "loop.example/g00524/laws.FnExactJsonNodes", spec := "fnExactJsonNodes", unfollowed := true, recurses := true, loops := true, apart := false, narrowed := true }
def FnExactJsonNodesUptoSaid : Prop := fnExactJsonNodesUptoRow.holds Try.pinned (OpenSpec.upto fnExactJsonNodesSpec)

/-- 'laws.FnExactJsonDepth', WHERE WHAT IT READS IS OF BULK AT MOST 1048576: true; the input reads as it did. -/
def fnExactJsonDepthUptoRow : OpenClaim := { program := "ythglchopajdmhaa", sum := "1941958efb6a1dad54663b4580cf3d5ced5127f0b326b8edccc0c1158fa06a11", func := "loop.example/g00524/laws.FnExactJsonDepth", spec := "fnExactJsonDepth", unfollowed := true, recurses := true, loops := true, apart := false, narrowed := true }
def FnExactJsonDepthUptoSaid : Prop := fnExactJsonDepthUptoRow.holds Try.pinned (OpenSpec.upto fnExactJsonDepthSpec)

/-- 'laws.FnExactSameJson', WHERE WHAT IT READS IS OF BULK AT MOST 1048576: true; the input reads as it did. -/
def fnExactSameJsonUptoRow : OpenClaim := { program := "ythglchopajdmhaa", sum := "1941958efb6a1dad54663b4580cf3d5ced5127f0b326b8edccc0c1158fa06a11", func := "loop.example/g00524/laws.FnExactSameJson", spec := "fnExactSameJson", unfollowed := true, recurses := true, loops := true, apart := false, narrowed := true }
def FnExactSameJsonUptoSaid : Prop := fnExactSameJsonUptoRow.holds Try.pinned (OpenSpec.upto fnExactSameJsonSpec)

/-- 'laws.FnExactFieldOf', WHERE WHAT IT READS IS OF BULK AT MOST 1048576: true; the input reads as it did. -/
def fnExactFieldOfUptoRow : OpenClaim := { program := "ythglchopajdmhaa", sum := "1941958efb6a1dad54663b4580cf3d5ced5127f0b326b8edccc0c1158fa06a11", func := "loop.example/g00524/laws.FnExactFieldOf", spec := "fnExactFieldOf", unfollowed := true, recurses := true, loops := true, apart := false, narrowed := true }
def FnExactFieldOfUptoSaid : Prop := fnExactFieldOfUptoRow.holds Try.pinned (OpenSpec.upto fnExactFieldOfSpec)

/-- 'laws.FnExactDatumOf', WHERE WHAT IT READS IS OF BULK AT MOST 1048576: true; the input reads as it did. -/
def fnExactDatumOfUptoRow : OpenClaim := { program := "ythglchopajdmhaa", sum := "1941958efb6a1dad54663b4580cf3d5ced5127f0b326b8edccc0c1158fa06a11", func := "loop.example/g00524/laws.FnExactDatumOf", spec := "fnExactDatumOf", inPlace := ["internal/bytealg.abigen_runtime_cmpstring"], unfollowed := true, recurses := true, apart := false, narrowed := true }
def FnExactDatumOfUptoSaid : Prop := fnExactDatumOfUptoRow.holds Try.pinned (OpenSpec.upto fnExactDatumOfSpec)

/-- 'laws.FnExactDatumJoin', WHERE WHAT IT READS IS OF BULK AT MOST 1048576: true; the input reads as it did. -/
def fnExactDatumJoinUptoRow : OpenClaim := { program := "ythglchopajdmhaa", sum := "1941958efb6a1dad54663b4580cf3d5ced5127f0b326b8edccc0c1158fa06a11", func := "loop.example/g00524/laws.FnExactDatumJoin", spec := "fnExactDatumJoin", inPlace := ["internal/bytealg.abigen_runtime_cmpstring"], unfollowed := true, recurses := true, apart := false, narrowed := true }
def FnExactDatumJoinUptoSaid : Prop := fnExactDatumJoinUptoRow.holds Try.pinned (OpenSpec.upto fnExactDatumJoinSpec)

/-- 'laws.FnExactMutate', WHERE WHAT IT READS IS OF BULK AT MOST 1048576: true; the input reads as it did. -/
def fnExactMutateUptoRow : OpenClaim := { program := "ythglchopajdmhaa", sum := "1941958efb6a1dad54663b4580cf3d5ced5127f0b326b8edccc0c1158fa06a11", func := "loop.example/g00524/laws.FnExactMutate", spec := "fnExactMutate", inPlace := ["internal/bytealg.abigen_runtime_cmpstring"], unfollowed := true, recurses := true, apart := false, narrowed := true }
def FnExactMutateUptoSaid : Prop := fnExactMutateUptoRow.holds Try.pinned (OpenSpec.upto fnExactMutateSpec)

end Rows
end Go.Proofs.Ythglchopajdmhaa
