/-
  No cell of these rows narrows 'for every input' (looked for: loops, veiled, ifaces, maps, wideKeys, modest, calm, conditions, laid).
  DERIVED. THE GIVEN ROWS OF THIS SEAT. 4 by the template 'for every input the law returns true; each argument reads behind the call as it read before'; 0 by the template 'total and deterministic' (their statements: YthbebbnidgeaeaaGreatTotals.lean).
  GIVEN WITH THE SEED: the statements are not yours to turn. If you find one false, say at which input.
  Laid BY PROGRAM, IN A SANDBOX (cutbox-rows.mjs): the forced cells as the released guide's own fill.sh prints them over the translation db3fbe44218d2fdd… (all of the seat's roots in one cut). By AI agents, Wed Nov 11 2026. No macro, syntax, notation, axiom, sorry.
-/
import Derived.Test.YthbebbnidgeaeaaGreatChecked
import GoSem.Claim
import GoSem.ClaimJoined
import GoSem.ClaimMapViews
import Derived.JoinedTies
import Derived.KernelRfl
namespace Go.Proofs.YthbebbnidgeaeaaGreat
/- THE CELL 'sum', in the pinned program and in every row, IS THE sha256 OF THE DUMP (.gsa) THAT YthbebbnidgeaeaaGreatProg.lean LOADS. Nothing in Lean hashes anything: it is a label: what it is worth is what the hold of that sum in a sandbox is worth. -/
noncomputable def Tryz.pinned : Pinned := { name := "ythbebbnidgeaeaagreat", sum := "db3fbe44218d2fdde573fa48d36e59985f1bcbcded44380050fe8d6638c3605d", checked := Tryz.checked }
namespace Rows
def none {H : Type} : Left H := { results := [], args := [] }

/-- 'laws.FnExactMatchesAll': WHATEVER THE INPUT: true; the input reads as it did. -/
def fnExactMatchesAllSpec : ChangeSpec := { name := "fnExactMatchesAll", fn := fun _ => fun
  | [d1, d2, d3] => { results := [.lit (.bool true)], args := [d1, d2, d3] }
  | _ => none }
def fnExactMatchesAllRow : OpenClaim := { program := "ythbebbnidgeaeaagreat", sum := "db3fbe44218d2fdde573fa48d36e59985f1bcbcded44380050fe8d6638c3605d", func := "loop.example/g00524/laws.FnExactMatchesAll", spec := "fnExactMatchesAll", inPlace := ["internal/bytealg.abigen_runtime_cmpstring"], unfollowed := true, recurses := true, apart := false }
def FnExactMatchesAllSaid : Prop := fnExactMatchesAllRow.holds Tryz.pinned (OpenSpec.ofChange fnExactMatchesAllSpec)

/-- ITS FALSE NEIGHBOUR: 'it returns false'. Refute it at one input. -/
def fnExactMatchesAllWrong : ChangeSpec := { name := "fnExactMatchesAll", fn := fun _ => fun
  | [d1, d2, d3] => { results := [.lit (.bool false)], args := [d1, d2, d3] }
  | _ => none }
def FnExactMatchesAllWrongFalsely : Prop := fnExactMatchesAllRow.holds Tryz.pinned (OpenSpec.ofChange fnExactMatchesAllWrong)

/-- 'laws.FnExactStrongCount': WHATEVER THE INPUT: true; the input reads as it did. -/
def fnExactStrongCountSpec : ChangeSpec := { name := "fnExactStrongCount", fn := fun _ => fun
  | [d1, d2, d3, d4] => { results := [.lit (.bool true)], args := [d1, d2, d3, d4] }
  | _ => none }
def fnExactStrongCountRow : OpenClaim := { program := "ythbebbnidgeaeaagreat", sum := "db3fbe44218d2fdde573fa48d36e59985f1bcbcded44380050fe8d6638c3605d", func := "loop.example/g00524/laws.FnExactStrongCount", spec := "fnExactStrongCount", inPlace := ["internal/bytealg.abigen_runtime_cmpstring"], unfollowed := true, recurses := true, apart := false }
def FnExactStrongCountSaid : Prop := fnExactStrongCountRow.holds Tryz.pinned (OpenSpec.ofChange fnExactStrongCountSpec)

/-- ITS FALSE NEIGHBOUR: 'it returns false'. Refute it at one input. -/
def fnExactStrongCountWrong : ChangeSpec := { name := "fnExactStrongCount", fn := fun _ => fun
  | [d1, d2, d3, d4] => { results := [.lit (.bool false)], args := [d1, d2, d3, d4] }
  | _ => none }
def FnExactStrongCountWrongFalsely : Prop := fnExactStrongCountRow.holds Tryz.pinned (OpenSpec.ofChange fnExactStrongCountWrong)

/-- 'laws.FnExactStoreOK': WHATEVER THE INPUT: true; the input reads as it did. -/
def fnExactStoreOKSpec : ChangeSpec := { name := "fnExactStoreOK", fn := fun _ => fun
  | [d1, d2] => { results := [.lit (.bool true)], args := [d1, d2] }
  | _ => none }
def fnExactStoreOKRow : OpenClaim := { program := "ythbebbnidgeaeaagreat", sum := "db3fbe44218d2fdde573fa48d36e59985f1bcbcded44380050fe8d6638c3605d", func := "loop.example/g00524/laws.FnExactStoreOK", spec := "fnExactStoreOK", inPlace := ["internal/bytealg.abigen_runtime_cmpstring"], unfollowed := true, recurses := true, apart := false }
def FnExactStoreOKSaid : Prop := fnExactStoreOKRow.holds Tryz.pinned (OpenSpec.ofChange fnExactStoreOKSpec)

/-- ITS FALSE NEIGHBOUR: 'it returns false'. Refute it at one input. -/
def fnExactStoreOKWrong : ChangeSpec := { name := "fnExactStoreOK", fn := fun _ => fun
  | [d1, d2] => { results := [.lit (.bool false)], args := [d1, d2] }
  | _ => none }
def FnExactStoreOKWrongFalsely : Prop := fnExactStoreOKRow.holds Tryz.pinned (OpenSpec.ofChange fnExactStoreOKWrong)

/-- 'laws.FnExactSelectIds': WHATEVER THE INPUT: true; the input reads as it did. -/
def fnExactSelectIdsSpec : ChangeSpec := { name := "fnExactSelectIds", fn := fun _ => fun
  | [d1, d2, d3, d4] => { results := [.lit (.bool true)], args := [d1, d2, d3, d4] }
  | _ => none }
def fnExactSelectIdsRow : OpenClaim := { program := "ythbebbnidgeaeaagreat", sum := "db3fbe44218d2fdde573fa48d36e59985f1bcbcded44380050fe8d6638c3605d", func := "loop.example/g00524/laws.FnExactSelectIds", spec := "fnExactSelectIds", inPlace := ["internal/bytealg.abigen_runtime_cmpstring"], unfollowed := true, recurses := true, apart := false }
def FnExactSelectIdsSaid : Prop := fnExactSelectIdsRow.holds Tryz.pinned (OpenSpec.ofChange fnExactSelectIdsSpec)

/-- ITS FALSE NEIGHBOUR: 'it returns false'. Refute it at one input. -/
def fnExactSelectIdsWrong : ChangeSpec := { name := "fnExactSelectIds", fn := fun _ => fun
  | [d1, d2, d3, d4] => { results := [.lit (.bool false)], args := [d1, d2, d3, d4] }
  | _ => none }
def FnExactSelectIdsWrongFalsely : Prop := fnExactSelectIdsRow.holds Tryz.pinned (OpenSpec.ofChange fnExactSelectIdsWrong)

/- THE SECOND FORM. 'bulk': how many values and letters a reading holds, each counted each time it is reached (what is shared counts as often as it is met; a slice's spare places count too). A statement '..UptoSaid' is the law's where the arguments, and the package variables that the reading takes, are together of bulk at most 1048576: NARROWER than '..Said'. Prove '..Said' where nothing that the law and all that it calls make is longer than what came in: it says more and counts as full. Else prove '..UptoSaid'. A law counts once. -/
mutual
def uptoBulk {H : Type} : DataW H → Nat
  | .lit (.string bytes) => bytes.length + 1
  | .lit _ => 1
  | .nil => 1
  | .ptr d => uptoBulk d + 1
  | .slice elems spare => uptoBulkAll elems + uptoBulkAll spare + 1
  | .agg parts => uptoBulkAll parts + 1
  | .iface _ d => uptoBulk d + 1
  | .map entries => uptoBulkEntries entries + 1
  | .held _ => 1
def uptoBulkAll {H : Type} : List (DataW H) → Nat
  | [] => 0
  | d :: r => uptoBulk d + uptoBulkAll r
def uptoBulkEntries {H : Type} : List (Lit × DataW H) → Nat
  | [] => 0
  | x :: r => uptoBulkEntry x + uptoBulkEntries r
def uptoBulkEntry {H : Type} : Lit × DataW H → Nat
  | (.string bytes, d) => bytes.length + uptoBulk d + 1
  | (_, d) => uptoBulk d + 1
 end
def uptoSmall : (H : Type) → List (DataW H) → Bool := fun _ ds => decide (uptoBulkAll ds ≤ 1048576)
def OpenSpec.upto (s : _root_.Go.ChangeSpec) : _root_.Go.OpenSpec := { _root_.Go.OpenSpec.ofChange s with cond := some uptoSmall }

/-- 'laws.FnExactMatchesAll', WHERE WHAT IT READS IS OF BULK AT MOST 1048576: true; the input reads as it did. -/
def fnExactMatchesAllUptoRow : OpenClaim := { program := "ythbebbnidgeaeaagreat", sum := "db3fbe44218d2fdde573fa48d36e59985f1bcbcded44380050fe8d6638c3605d", func := "loop.example/g00524/laws.FnExactMatchesAll", spec := "fnExactMatchesAll", inPlace := ["internal/bytealg.abigen_runtime_cmpstring"], unfollowed := true, recurses := true, apart := false, narrowed := true }
def FnExactMatchesAllUptoSaid : Prop := fnExactMatchesAllUptoRow.holds Tryz.pinned (OpenSpec.upto fnExactMatchesAllSpec)

/-- 'laws.FnExactStrongCount', WHERE WHAT IT READS IS OF BULK AT MOST 1048576: true; the input reads as it did. -/
def fnExactStrongCountUptoRow : OpenClaim := { program := "ythbebbnidgeaeaagreat", sum := "db3fbe44218d2fdde573fa48d36e59985f1bcbcded44380050fe8d6638c3605d", func := "loop.example/g00524/laws.FnExactStrongCount", spec := "fnExactStrongCount", inPlace := ["internal/bytealg.abigen_runtime_cmpstring"], unfollowed := true, recurses := true, apart := false, narrowed := true }
def FnExactStrongCountUptoSaid : Prop := fnExactStrongCountUptoRow.holds Tryz.pinned (OpenSpec.upto fnExactStrongCountSpec)

/-- 'laws.FnExactStoreOK', WHERE WHAT IT READS IS OF BULK AT MOST 1048576: true; the input reads as it did. -/
def fnExactStoreOKUptoRow : OpenClaim := { program := "ythbebbnidgeaeaagreat", sum := "db3fbe44218d2fdde573fa48d36e59985f1bcbcded44380050fe8d6638c3605d", func := "loop.example/g00524/laws.FnExactStoreOK", spec := "fnExactStoreOK", inPlace := ["internal/bytealg.abigen_runtime_cmpstring"], unfollowed := true, recurses := true, apart := false, narrowed := true }
def FnExactStoreOKUptoSaid : Prop := fnExactStoreOKUptoRow.holds Tryz.pinned (OpenSpec.upto fnExactStoreOKSpec)

/-- 'laws.FnExactSelectIds', WHERE WHAT IT READS IS OF BULK AT MOST 1048576: true; the input reads as it did. -/
def fnExactSelectIdsUptoRow : OpenClaim := { program := "ythbebbnidgeaeaagreat", sum := "db3fbe44218d2fdde573fa48d36e59985f1bcbcded44380050fe8d6638c3605d", func := "loop.example/g00524/laws.FnExactSelectIds", spec := "fnExactSelectIds", inPlace := ["internal/bytealg.abigen_runtime_cmpstring"], unfollowed := true, recurses := true, apart := false, narrowed := true }
def FnExactSelectIdsUptoSaid : Prop := fnExactSelectIdsUptoRow.holds Tryz.pinned (OpenSpec.upto fnExactSelectIdsSpec)

end Rows
end Go.Proofs.YthbebbnidgeaeaaGreat
