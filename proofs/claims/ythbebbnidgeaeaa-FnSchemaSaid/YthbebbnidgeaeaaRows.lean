/-
  No cell of these rows narrows 'for every input' (looked for: loops, veiled, ifaces, maps, wideKeys, modest, calm, conditions, laid).
  DERIVED. THE GIVEN ROWS OF THIS SEAT. 8 by the template 'for every input the law returns true; each argument reads behind the call as it read before'; 0 by the template 'total and deterministic' (their statements: YthbebbnidgeaeaaTotals.lean).
  GIVEN WITH THE SEED: the statements are not yours to turn. If you find one false, say at which input.
  Laid BY PROGRAM, IN A SANDBOX (cutbox-rows.mjs): the forced cells as the released guide's own fill.sh prints them over the translation 992a4627552637d5… (all of the seat's roots in one cut). By AI agents, Wed Nov 11 2026. No macro, syntax, notation, axiom, sorry.
-/
import Derived.Test.YthbebbnidgeaeaaChecked
import GoSem.Claim
import GoSem.ClaimJoined
import GoSem.ClaimMapViews
import Derived.JoinedTies
import Derived.KernelRfl
namespace Go.Proofs.Ythbebbnidgeaeaa
/- THE CELL 'sum', in the pinned program and in every row, IS THE sha256 OF THE DUMP (.gsa) THAT YthbebbnidgeaeaaProg.lean LOADS. Nothing in Lean hashes anything: it is a label: what it is worth is what the hold of that sum in a sandbox is worth. -/
noncomputable def Try.pinned : Pinned := { name := "ythbebbnidgeaeaa", sum := "992a4627552637d5ff06f8cda8c9def661dc040f9dd6f87b20eb2360029990e4", checked := Try.checked }
namespace Rows
def none {H : Type} : Left H := { results := [], args := [] }

/-- 'laws.FnSchema': WHATEVER THE INPUT: true; the input reads as it did. -/
def fnSchemaSpec : ChangeSpec := { name := "fnSchema", fn := fun _ => fun
  | [d] => { results := [.lit (.bool true)], args := [d] }
  | _ => none }
def fnSchemaRow : OpenClaim := { program := "ythbebbnidgeaeaa", sum := "992a4627552637d5ff06f8cda8c9def661dc040f9dd6f87b20eb2360029990e4", func := "loop.example/g00524/laws.FnSchema", spec := "fnSchema", unfollowed := true, recurses := true, apart := false }
def FnSchemaSaid : Prop := fnSchemaRow.holds Try.pinned (OpenSpec.ofChange fnSchemaSpec)

/-- ITS FALSE NEIGHBOUR: 'it returns false'. Refute it at one input. -/
def fnSchemaWrong : ChangeSpec := { name := "fnSchema", fn := fun _ => fun
  | [d] => { results := [.lit (.bool false)], args := [d] }
  | _ => none }
def FnSchemaWrongFalsely : Prop := fnSchemaRow.holds Try.pinned (OpenSpec.ofChange fnSchemaWrong)

/-- 'laws.FnExactPlainSchema': WHATEVER THE INPUT: true; the input reads as it did. -/
def fnExactPlainSchemaSpec : ChangeSpec := { name := "fnExactPlainSchema", fn := fun _ => fun
  | [] => { results := [.lit (.bool true)], args := [] }
  | _ => none }
def fnExactPlainSchemaRow : OpenClaim := { program := "ythbebbnidgeaeaa", sum := "992a4627552637d5ff06f8cda8c9def661dc040f9dd6f87b20eb2360029990e4", func := "loop.example/g00524/laws.FnExactPlainSchema", spec := "fnExactPlainSchema", apart := false }
def FnExactPlainSchemaSaid : Prop := fnExactPlainSchemaRow.holds Try.pinned (OpenSpec.ofChange fnExactPlainSchemaSpec)

/-- ITS FALSE NEIGHBOUR: 'it returns false'. Refute it at one input. -/
def fnExactPlainSchemaWrong : ChangeSpec := { name := "fnExactPlainSchema", fn := fun _ => fun
  | [] => { results := [.lit (.bool false)], args := [] }
  | _ => none }
def FnExactPlainSchemaWrongFalsely : Prop := fnExactPlainSchemaRow.holds Try.pinned (OpenSpec.ofChange fnExactPlainSchemaWrong)

/-- 'laws.FnExactNewStore': WHATEVER THE INPUT: true; the input reads as it did. -/
def fnExactNewStoreSpec : ChangeSpec := { name := "fnExactNewStore", fn := fun _ => fun
  | [d] => { results := [.lit (.bool true)], args := [d] }
  | _ => none }
def fnExactNewStoreRow : OpenClaim := { program := "ythbebbnidgeaeaa", sum := "992a4627552637d5ff06f8cda8c9def661dc040f9dd6f87b20eb2360029990e4", func := "loop.example/g00524/laws.FnExactNewStore", spec := "fnExactNewStore", unfollowed := true, recurses := true, apart := false }
def FnExactNewStoreSaid : Prop := fnExactNewStoreRow.holds Try.pinned (OpenSpec.ofChange fnExactNewStoreSpec)

/-- ITS FALSE NEIGHBOUR: 'it returns false'. Refute it at one input. -/
def fnExactNewStoreWrong : ChangeSpec := { name := "fnExactNewStore", fn := fun _ => fun
  | [d] => { results := [.lit (.bool false)], args := [d] }
  | _ => none }
def FnExactNewStoreWrongFalsely : Prop := fnExactNewStoreRow.holds Try.pinned (OpenSpec.ofChange fnExactNewStoreWrong)

/-- 'laws.FnExactFreshRow': WHATEVER THE INPUT: true; the input reads as it did. -/
def fnExactFreshRowSpec : ChangeSpec := { name := "fnExactFreshRow", fn := fun _ => fun
  | [d1, d2] => { results := [.lit (.bool true)], args := [d1, d2] }
  | _ => none }
def fnExactFreshRowRow : OpenClaim := { program := "ythbebbnidgeaeaa", sum := "992a4627552637d5ff06f8cda8c9def661dc040f9dd6f87b20eb2360029990e4", func := "loop.example/g00524/laws.FnExactFreshRow", spec := "fnExactFreshRow", unfollowed := true, recurses := true, apart := false }
def FnExactFreshRowSaid : Prop := fnExactFreshRowRow.holds Try.pinned (OpenSpec.ofChange fnExactFreshRowSpec)

/-- ITS FALSE NEIGHBOUR: 'it returns false'. Refute it at one input. -/
def fnExactFreshRowWrong : ChangeSpec := { name := "fnExactFreshRow", fn := fun _ => fun
  | [d1, d2] => { results := [.lit (.bool false)], args := [d1, d2] }
  | _ => none }
def FnExactFreshRowWrongFalsely : Prop := fnExactFreshRowRow.holds Try.pinned (OpenSpec.ofChange fnExactFreshRowWrong)

/-- 'laws.FnExactRowAt': WHATEVER THE INPUT: true; the input reads as it did. -/
def fnExactRowAtSpec : ChangeSpec := { name := "fnExactRowAt", fn := fun _ => fun
  | [d1, d2, d3] => { results := [.lit (.bool true)], args := [d1, d2, d3] }
  | _ => none }
def fnExactRowAtRow : OpenClaim := { program := "ythbebbnidgeaeaa", sum := "992a4627552637d5ff06f8cda8c9def661dc040f9dd6f87b20eb2360029990e4", func := "loop.example/g00524/laws.FnExactRowAt", spec := "fnExactRowAt", unfollowed := true, recurses := true, apart := false }
def FnExactRowAtSaid : Prop := fnExactRowAtRow.holds Try.pinned (OpenSpec.ofChange fnExactRowAtSpec)

/-- ITS FALSE NEIGHBOUR: 'it returns false'. Refute it at one input. -/
def fnExactRowAtWrong : ChangeSpec := { name := "fnExactRowAt", fn := fun _ => fun
  | [d1, d2, d3] => { results := [.lit (.bool false)], args := [d1, d2, d3] }
  | _ => none }
def FnExactRowAtWrongFalsely : Prop := fnExactRowAtRow.holds Try.pinned (OpenSpec.ofChange fnExactRowAtWrong)

/-- 'laws.FnExactDropRow': WHATEVER THE INPUT: true; the input reads as it did. -/
def fnExactDropRowSpec : ChangeSpec := { name := "fnExactDropRow", fn := fun _ => fun
  | [d1, d2, d3] => { results := [.lit (.bool true)], args := [d1, d2, d3] }
  | _ => none }
def fnExactDropRowRow : OpenClaim := { program := "ythbebbnidgeaeaa", sum := "992a4627552637d5ff06f8cda8c9def661dc040f9dd6f87b20eb2360029990e4", func := "loop.example/g00524/laws.FnExactDropRow", spec := "fnExactDropRow", unfollowed := true, recurses := true, apart := false }
def FnExactDropRowSaid : Prop := fnExactDropRowRow.holds Try.pinned (OpenSpec.ofChange fnExactDropRowSpec)

/-- ITS FALSE NEIGHBOUR: 'it returns false'. Refute it at one input. -/
def fnExactDropRowWrong : ChangeSpec := { name := "fnExactDropRow", fn := fun _ => fun
  | [d1, d2, d3] => { results := [.lit (.bool false)], args := [d1, d2, d3] }
  | _ => none }
def FnExactDropRowWrongFalsely : Prop := fnExactDropRowRow.holds Try.pinned (OpenSpec.ofChange fnExactDropRowWrong)

/-- 'laws.FnExactPutRow': WHATEVER THE INPUT: true; the input reads as it did. -/
def fnExactPutRowSpec : ChangeSpec := { name := "fnExactPutRow", fn := fun _ => fun
  | [d1, d2, d3] => { results := [.lit (.bool true)], args := [d1, d2, d3] }
  | _ => none }
def fnExactPutRowRow : OpenClaim := { program := "ythbebbnidgeaeaa", sum := "992a4627552637d5ff06f8cda8c9def661dc040f9dd6f87b20eb2360029990e4", func := "loop.example/g00524/laws.FnExactPutRow", spec := "fnExactPutRow", inPlace := ["slices.overlaps[loop.example/g00524/impl.Row]"], unfollowed := true, recurses := true, apart := false }
def FnExactPutRowSaid : Prop := fnExactPutRowRow.holds Try.pinned (OpenSpec.ofChange fnExactPutRowSpec)

/-- ITS FALSE NEIGHBOUR: 'it returns false'. Refute it at one input. -/
def fnExactPutRowWrong : ChangeSpec := { name := "fnExactPutRow", fn := fun _ => fun
  | [d1, d2, d3] => { results := [.lit (.bool false)], args := [d1, d2, d3] }
  | _ => none }
def FnExactPutRowWrongFalsely : Prop := fnExactPutRowRow.holds Try.pinned (OpenSpec.ofChange fnExactPutRowWrong)

/-- 'laws.FnExactMatches': WHATEVER THE INPUT: true; the input reads as it did. -/
def fnExactMatchesSpec : ChangeSpec := { name := "fnExactMatches", fn := fun _ => fun
  | [d1, d2, d3] => { results := [.lit (.bool true)], args := [d1, d2, d3] }
  | _ => none }
def fnExactMatchesRow : OpenClaim := { program := "ythbebbnidgeaeaa", sum := "992a4627552637d5ff06f8cda8c9def661dc040f9dd6f87b20eb2360029990e4", func := "loop.example/g00524/laws.FnExactMatches", spec := "fnExactMatches", inPlace := ["internal/bytealg.abigen_runtime_cmpstring"], unfollowed := true, recurses := true, apart := false }
def FnExactMatchesSaid : Prop := fnExactMatchesRow.holds Try.pinned (OpenSpec.ofChange fnExactMatchesSpec)

/-- ITS FALSE NEIGHBOUR: 'it returns false'. Refute it at one input. -/
def fnExactMatchesWrong : ChangeSpec := { name := "fnExactMatches", fn := fun _ => fun
  | [d1, d2, d3] => { results := [.lit (.bool false)], args := [d1, d2, d3] }
  | _ => none }
def FnExactMatchesWrongFalsely : Prop := fnExactMatchesRow.holds Try.pinned (OpenSpec.ofChange fnExactMatchesWrong)

/- THE SECOND FORM. 'bulk': how many values and letters a reading holds, each counted each time it is reached (what is shared counts as often as it is met; a slice's spare places count too). A statement '..UptoSaid' is the law's where the arguments, and the package variables that the reading takes, are together of bulk at most 1048576: NARROWER than '..Said'. Prove '..Said' where nothing that the law and all that it calls make is longer than what came in: it says more and counts as full. Else prove '..UptoSaid'. A law counts once. -/
mutual
def uptoBulk {H : Type} : DataW H → Nat
  | .lit (.string bytes) => bytes.length + 1
  | .lit _ => 1
  | .nil => 1
  | .ptr d => uptoBulk d + 1
  | .slice elems spare => uptoBulkAll elems + uptoBulkAll spare + 1
  | .agg parts => uptoBulkAll parts + 1
  | .iface _ d => uptoBulk d + 1
  | .map entries => uptoBulkEntries entries + 1
  | .held _ => 1
def uptoBulkAll {H : Type} : List (DataW H) → Nat
  | [] => 0
  | d :: r => uptoBulk d + uptoBulkAll r
def uptoBulkEntries {H : Type} : List (Lit × DataW H) → Nat
  | [] => 0
  | x :: r => uptoBulkEntry x + uptoBulkEntries r
def uptoBulkEntry {H : Type} : Lit × DataW H → Nat
  | (.string bytes, d) => bytes.length + uptoBulk d + 1
  | (_, d) => uptoBulk d + 1
 end
def uptoSmall : (H : Type) → List (DataW H) → Bool := fun _ ds => decide (uptoBulkAll ds ≤ 1048576)
def OpenSpec.upto (s : _root_.Go.ChangeSpec) : _root_.Go.OpenSpec := { _root_.Go.OpenSpec.ofChange s with cond := some uptoSmall }

/-- 'laws.FnSchema', WHERE WHAT IT READS IS OF BULK AT MOST 1048576: true; the input reads as it did. -/
def fnSchemaUptoRow : OpenClaim := { program := "ythbebbnidgeaeaa", sum := "992a4627552637d5ff06f8cda8c9def661dc040f9dd6f87b20eb2360029990e4", func := "loop.example/g00524/laws.FnSchema", spec := "fnSchema", unfollowed := true, recurses := true, apart := false, narrowed := true }
def FnSchemaUptoSaid : Prop := fnSchemaUptoRow.holds Try.pinned (OpenSpec.upto fnSchemaSpec)

/-- 'laws.FnExactPlainSchema', WHERE WHAT IT READS IS OF BULK AT MOST 1048576: true; the input reads as it did. -/
def fnExactPlainSchemaUptoRow : OpenClaim := { program := "ythbebbnidgeaeaa", sum := "992a4627552637d5ff06f8cda8c9def661dc040f9dd6f87b20eb2360029990e4", func := "loop.example/g00524/laws.FnExactPlainSchema", spec := "fnExactPlainSchema", apart := false, narrowed := true }
def FnExactPlainSchemaUptoSaid : Prop := fnExactPlainSchemaUptoRow.holds Try.pinned (OpenSpec.upto fnExactPlainSchemaSpec)

/-- 'laws.FnExactNewStore', WHERE WHAT IT READS IS OF BULK AT MOST 1048576: true; the input reads as it did. -/
def fnExactNewStoreUptoRow : OpenClaim := { program := "ythbebbnidgeaeaa", sum := "992a4627552637d5ff06f8cda8c9def661dc040f9dd6f87b20eb2360029990e4", func := "loop.example/g00524/laws.FnExactNewStore", spec := "fnExactNewStore", unfollowed := true, recurses := true, apart := false, narrowed := true }
def FnExactNewStoreUptoSaid : Prop := fnExactNewStoreUptoRow.holds Try.pinned (OpenSpec.upto fnExactNewStoreSpec)

/-- 'laws.FnExactFreshRow', WHERE WHAT IT READS IS OF BULK AT MOST 1048576: true; the input reads as it did. -/
def fnExactFreshRowUptoRow : OpenClaim := { program := "ythbebbnidgeaeaa", sum := "992a4627552637d5ff06f8cda8c9def661dc040f9dd6f87b20eb2360029990e4", func := "loop.example/g00524/laws.FnExactFreshRow", spec := "fnExactFreshRow", unfollowed := true, recurses := true, apart := false, narrowed := true }
def FnExactFreshRowUptoSaid : Prop := fnExactFreshRowUptoRow.holds Try.pinned (OpenSpec.upto fnExactFreshRowSpec)

/-- 'laws.FnExactRowAt', WHERE WHAT IT READS IS OF BULK AT MOST 1048576: true; the input reads as it did. -/
def fnExactRowAtUptoRow : OpenClaim := { program := "ythbebbnidgeaeaa", sum := "992a4627552637d5ff06f8cda8c9def661dc040f9dd6f87b20eb2360029990e4", func := "loop.example/g00524/laws.FnExactRowAt", spec := "fnExactRowAt", unfollowed := true, recurses := true, apart := false, narrowed := true }
def FnExactRowAtUptoSaid : Prop := fnExactRowAtUptoRow.holds Try.pinned (OpenSpec.upto fnExactRowAtSpec)

/-- 'laws.FnExactDropRow', WHERE WHAT IT READS IS OF BULK AT MOST 1048576: true; the input reads as it did. -/
def fnExactDropRowUptoRow : OpenClaim := { program := "ythbebbnidgeaeaa", sum := "992a4627552637d5ff06f8cda8c9def661dc040f9dd6f87b20eb2360029990e4", func := "loop.example/g00524/laws.FnExactDropRow", spec := "fnExactDropRow", unfollowed := true, recurses := true, apart := false, narrowed := true }
def FnExactDropRowUptoSaid : Prop := fnExactDropRowUptoRow.holds Try.pinned (OpenSpec.upto fnExactDropRowSpec)

/-- 'laws.FnExactPutRow', WHERE WHAT IT READS IS OF BULK AT MOST 1048576: true; the input reads as it did. -/
def fnExactPutRowUptoRow : OpenClaim := { program := "ythbebbnidgeaeaa", sum := "992a4627552637d5ff06f8cda8c9def661dc040f9dd6f87b20eb2360029990e4", func := "loop.example/g00524/laws.FnExactPutRow", spec := "fnExactPutRow", inPlace := ["slices.overlaps[loop.example/g00524/impl.Row]"], unfollowed := true, recurses := true, apart := false, narrowed := true }
def FnExactPutRowUptoSaid : Prop := fnExactPutRowUptoRow.holds Try.pinned (OpenSpec.upto fnExactPutRowSpec)

/-- 'laws.FnExactMatches', WHERE WHAT IT READS IS OF BULK AT MOST 1048576: true; the input reads as it did. -/
def fnExactMatchesUptoRow : OpenClaim := { program := "ythbebbnidgeaeaa", sum := "992a4627552637d5ff06f8cda8c9def661dc040f9dd6f87b20eb2360029990e4", func := "loop.example/g00524/laws.FnExactMatches", spec := "fnExactMatches", inPlace := ["internal/bytealg.abigen_runtime_cmpstring"], unfollowed := true, recurses := true, apart := false, narrowed := true }
def FnExactMatchesUptoSaid : Prop := fnExactMatchesUptoRow.holds Try.pinned (OpenSpec.upto fnExactMatchesSpec)

end Rows
end Go.Proofs.Ythbebbnidgeaeaa
