/-
  No cell of these rows narrows 'for every input' (looked for: loops, veiled, ifaces, maps, wideKeys, modest, calm, conditions, laid).
  DERIVED. THE GIVEN ROWS OF THIS SEAT. 11 by the template 'for every input the law returns true; each argument reads behind the call as it read before'; 0 by the template 'total and deterministic' (their statements: YtgnfblefepjpjaaTotals.lean).
  GIVEN WITH THE SEED: the statements are not yours to turn. If you find one false, say at which input.
  Laid BY PROGRAM, IN A SANDBOX (cutbox-rows.mjs): the forced cells as the released guide's own fill.sh prints them over the translation 8079bda6a5646b8c… (all of the seat's roots in one cut). By AI agents, Wed Nov 11 2026. No macro, syntax, notation, axiom, sorry.
-/
import Derived.Test.YtgnfblefepjpjaaChecked
import GoSem.Claim
import GoSem.ClaimJoined
import GoSem.ClaimMapViews
import Derived.JoinedTies
import Derived.KernelRfl
namespace Go.Proofs.Ytgnfblefepjpjaa
/- THE CELL 'sum', in the pinned program and in every row, IS THE sha256 OF THE DUMP (.gsa) THAT YtgnfblefepjpjaaProg.lean LOADS. Nothing in Lean hashes anything: it is a label: what it is worth is what the hold of that sum in a sandbox is worth. -/
noncomputable def Try.pinned : Pinned := { name := "ytgnfblefepjpjaa", sum := "8079bda6a5646b8c098a9b1c2b60c5f4a0b704614a292f491a1ba8fd04c26f70", checked := Try.checked }
namespace Rows
def none {H : Type} : Left H := { results := [], args := [] }

/-- 'laws.FnExactAtomOK': WHATEVER THE INPUT: true; the input reads as it did. -/
def fnExactAtomOKSpec : ChangeSpec := { name := "fnExactAtomOK", fn := fun _ => fun
  | [d] => { results := [.lit (.bool true)], args := [d] }
  | _ => none }
def fnExactAtomOKRow : OpenClaim := { program := "ytgnfblefepjpjaa", sum := "8079bda6a5646b8c098a9b1c2b60c5f4a0b704614a292f491a1ba8fd04c26f70", func := "loop.example/g00524/laws.FnExactAtomOK", spec := "fnExactAtomOK", apart := false }
def FnExactAtomOKSaid : Prop := fnExactAtomOKRow.holds Try.pinned (OpenSpec.ofChange fnExactAtomOKSpec)

/-- ITS FALSE NEIGHBOUR: 'it returns false'. Refute it at one input. -/
def fnExactAtomOKWrong : ChangeSpec := { name := "fnExactAtomOK", fn := fun _ => fun
  | [d] => { results := [.lit (.bool false)], args := [d] }
  | _ => none }
def FnExactAtomOKWrongFalsely : Prop := fnExactAtomOKRow.holds Try.pinned (OpenSpec.ofChange fnExactAtomOKWrong)

/-- 'laws.FnExactColumnOK': WHATEVER THE INPUT: true; the input reads as it did. -/
def fnExactColumnOKSpec : ChangeSpec := { name := "fnExactColumnOK", fn := fun _ => fun
  | [d] => { results := [.lit (.bool true)], args := [d] }
  | _ => none }
def fnExactColumnOKRow : OpenClaim := { program := "ytgnfblefepjpjaa", sum := "8079bda6a5646b8c098a9b1c2b60c5f4a0b704614a292f491a1ba8fd04c26f70", func := "loop.example/g00524/laws.FnExactColumnOK", spec := "fnExactColumnOK", apart := false }
def FnExactColumnOKSaid : Prop := fnExactColumnOKRow.holds Try.pinned (OpenSpec.ofChange fnExactColumnOKSpec)

/-- ITS FALSE NEIGHBOUR: 'it returns false'. Refute it at one input. -/
def fnExactColumnOKWrong : ChangeSpec := { name := "fnExactColumnOK", fn := fun _ => fun
  | [d] => { results := [.lit (.bool false)], args := [d] }
  | _ => none }
def FnExactColumnOKWrongFalsely : Prop := fnExactColumnOKRow.holds Try.pinned (OpenSpec.ofChange fnExactColumnOKWrong)

/-- 'laws.FnExactOrderAtoms': WHATEVER THE INPUT: true; the input reads as it did. -/
def fnExactOrderAtomsSpec : ChangeSpec := { name := "fnExactOrderAtoms", fn := fun _ => fun
  | [d1, d2] => { results := [.lit (.bool true)], args := [d1, d2] }
  | _ => none }
def fnExactOrderAtomsRow : OpenClaim := { program := "ytgnfblefepjpjaa", sum := "8079bda6a5646b8c098a9b1c2b60c5f4a0b704614a292f491a1ba8fd04c26f70", func := "loop.example/g00524/laws.FnExactOrderAtoms", spec := "fnExactOrderAtoms", inPlace := ["internal/bytealg.abigen_runtime_cmpstring"], apart := false }
def FnExactOrderAtomsSaid : Prop := fnExactOrderAtomsRow.holds Try.pinned (OpenSpec.ofChange fnExactOrderAtomsSpec)

/-- ITS FALSE NEIGHBOUR: 'it returns false'. Refute it at one input. -/
def fnExactOrderAtomsWrong : ChangeSpec := { name := "fnExactOrderAtoms", fn := fun _ => fun
  | [d1, d2] => { results := [.lit (.bool false)], args := [d1, d2] }
  | _ => none }
def FnExactOrderAtomsWrongFalsely : Prop := fnExactOrderAtomsRow.holds Try.pinned (OpenSpec.ofChange fnExactOrderAtomsWrong)

/-- 'laws.FnExactDefaultOf': WHATEVER THE INPUT: true; the input reads as it did. -/
def fnExactDefaultOfSpec : ChangeSpec := { name := "fnExactDefaultOf", fn := fun _ => fun
  | [d] => { results := [.lit (.bool true)], args := [d] }
  | _ => none }
def fnExactDefaultOfRow : OpenClaim := { program := "ytgnfblefepjpjaa", sum := "8079bda6a5646b8c098a9b1c2b60c5f4a0b704614a292f491a1ba8fd04c26f70", func := "loop.example/g00524/laws.FnExactDefaultOf", spec := "fnExactDefaultOf", apart := false }
def FnExactDefaultOfSaid : Prop := fnExactDefaultOfRow.holds Try.pinned (OpenSpec.ofChange fnExactDefaultOfSpec)

/-- ITS FALSE NEIGHBOUR: 'it returns false'. Refute it at one input. -/
def fnExactDefaultOfWrong : ChangeSpec := { name := "fnExactDefaultOf", fn := fun _ => fun
  | [d] => { results := [.lit (.bool false)], args := [d] }
  | _ => none }
def FnExactDefaultOfWrongFalsely : Prop := fnExactDefaultOfRow.holds Try.pinned (OpenSpec.ofChange fnExactDefaultOfWrong)

/-- 'laws.FnExactDatumOK': WHATEVER THE INPUT: true; the input reads as it did. -/
def fnExactDatumOKSpec : ChangeSpec := { name := "fnExactDatumOK", fn := fun _ => fun
  | [d] => { results := [.lit (.bool true)], args := [d] }
  | _ => none }
def fnExactDatumOKRow : OpenClaim := { program := "ytgnfblefepjpjaa", sum := "8079bda6a5646b8c098a9b1c2b60c5f4a0b704614a292f491a1ba8fd04c26f70", func := "loop.example/g00524/laws.FnExactDatumOK", spec := "fnExactDatumOK", inPlace := ["internal/bytealg.abigen_runtime_cmpstring"], apart := false }
def FnExactDatumOKSaid : Prop := fnExactDatumOKRow.holds Try.pinned (OpenSpec.ofChange fnExactDatumOKSpec)

/-- ITS FALSE NEIGHBOUR: 'it returns false'. Refute it at one input. -/
def fnExactDatumOKWrong : ChangeSpec := { name := "fnExactDatumOK", fn := fun _ => fun
  | [d] => { results := [.lit (.bool false)], args := [d] }
  | _ => none }
def FnExactDatumOKWrongFalsely : Prop := fnExactDatumOKRow.holds Try.pinned (OpenSpec.ofChange fnExactDatumOKWrong)

/-- 'laws.FnExactDatumHas': WHATEVER THE INPUT: true; the input reads as it did. -/
def fnExactDatumHasSpec : ChangeSpec := { name := "fnExactDatumHas", fn := fun _ => fun
  | [d1, d2] => { results := [.lit (.bool true)], args := [d1, d2] }
  | _ => none }
def fnExactDatumHasRow : OpenClaim := { program := "ytgnfblefepjpjaa", sum := "8079bda6a5646b8c098a9b1c2b60c5f4a0b704614a292f491a1ba8fd04c26f70", func := "loop.example/g00524/laws.FnExactDatumHas", spec := "fnExactDatumHas", inPlace := ["internal/bytealg.abigen_runtime_cmpstring"], apart := false }
def FnExactDatumHasSaid : Prop := fnExactDatumHasRow.holds Try.pinned (OpenSpec.ofChange fnExactDatumHasSpec)

/-- ITS FALSE NEIGHBOUR: 'it returns false'. Refute it at one input. -/
def fnExactDatumHasWrong : ChangeSpec := { name := "fnExactDatumHas", fn := fun _ => fun
  | [d1, d2] => { results := [.lit (.bool false)], args := [d1, d2] }
  | _ => none }
def FnExactDatumHasWrongFalsely : Prop := fnExactDatumHasRow.holds Try.pinned (OpenSpec.ofChange fnExactDatumHasWrong)

/-- 'laws.FnExactFits': WHATEVER THE INPUT: true; the input reads as it did. -/
def fnExactFitsSpec : ChangeSpec := { name := "fnExactFits", fn := fun _ => fun
  | [d1, d2] => { results := [.lit (.bool true)], args := [d1, d2] }
  | _ => none }
def fnExactFitsRow : OpenClaim := { program := "ytgnfblefepjpjaa", sum := "8079bda6a5646b8c098a9b1c2b60c5f4a0b704614a292f491a1ba8fd04c26f70", func := "loop.example/g00524/laws.FnExactFits", spec := "fnExactFits", inPlace := ["internal/bytealg.abigen_runtime_cmpstring"], unfollowed := true, recurses := true, apart := false }
def FnExactFitsSaid : Prop := fnExactFitsRow.holds Try.pinned (OpenSpec.ofChange fnExactFitsSpec)

/-- ITS FALSE NEIGHBOUR: 'it returns false'. Refute it at one input. -/
def fnExactFitsWrong : ChangeSpec := { name := "fnExactFits", fn := fun _ => fun
  | [d1, d2] => { results := [.lit (.bool false)], args := [d1, d2] }
  | _ => none }
def FnExactFitsWrongFalsely : Prop := fnExactFitsRow.holds Try.pinned (OpenSpec.ofChange fnExactFitsWrong)

/-- 'laws.FnExactDatumLess': WHATEVER THE INPUT: true; the input reads as it did. -/
def fnExactDatumLessSpec : ChangeSpec := { name := "fnExactDatumLess", fn := fun _ => fun
  | [d1, d2] => { results := [.lit (.bool true)], args := [d1, d2] }
  | _ => none }
def fnExactDatumLessRow : OpenClaim := { program := "ytgnfblefepjpjaa", sum := "8079bda6a5646b8c098a9b1c2b60c5f4a0b704614a292f491a1ba8fd04c26f70", func := "loop.example/g00524/laws.FnExactDatumLess", spec := "fnExactDatumLess", inPlace := ["internal/bytealg.abigen_runtime_cmpstring"], unfollowed := true, recurses := true, apart := false }
def FnExactDatumLessSaid : Prop := fnExactDatumLessRow.holds Try.pinned (OpenSpec.ofChange fnExactDatumLessSpec)

/-- ITS FALSE NEIGHBOUR: 'it returns false'. Refute it at one input. -/
def fnExactDatumLessWrong : ChangeSpec := { name := "fnExactDatumLess", fn := fun _ => fun
  | [d1, d2] => { results := [.lit (.bool false)], args := [d1, d2] }
  | _ => none }
def FnExactDatumLessWrongFalsely : Prop := fnExactDatumLessRow.holds Try.pinned (OpenSpec.ofChange fnExactDatumLessWrong)

/-- 'laws.FnExactDatumOf': WHATEVER THE INPUT: true; the input reads as it did. -/
def fnExactDatumOfSpec : ChangeSpec := { name := "fnExactDatumOf", fn := fun _ => fun
  | [d] => { results := [.lit (.bool true)], args := [d] }
  | _ => none }
def fnExactDatumOfRow : OpenClaim := { program := "ytgnfblefepjpjaa", sum := "8079bda6a5646b8c098a9b1c2b60c5f4a0b704614a292f491a1ba8fd04c26f70", func := "loop.example/g00524/laws.FnExactDatumOf", spec := "fnExactDatumOf", inPlace := ["internal/bytealg.abigen_runtime_cmpstring"], unfollowed := true, recurses := true, apart := false }
def FnExactDatumOfSaid : Prop := fnExactDatumOfRow.holds Try.pinned (OpenSpec.ofChange fnExactDatumOfSpec)

/-- ITS FALSE NEIGHBOUR: 'it returns false'. Refute it at one input. -/
def fnExactDatumOfWrong : ChangeSpec := { name := "fnExactDatumOf", fn := fun _ => fun
  | [d] => { results := [.lit (.bool false)], args := [d] }
  | _ => none }
def FnExactDatumOfWrongFalsely : Prop := fnExactDatumOfRow.holds Try.pinned (OpenSpec.ofChange fnExactDatumOfWrong)

/-- 'laws.FnExactDatumJoin': WHATEVER THE INPUT: true; the input reads as it did. -/
def fnExactDatumJoinSpec : ChangeSpec := { name := "fnExactDatumJoin", fn := fun _ => fun
  | [d1, d2] => { results := [.lit (.bool true)], args := [d1, d2] }
  | _ => none }
def fnExactDatumJoinRow : OpenClaim := { program := "ytgnfblefepjpjaa", sum := "8079bda6a5646b8c098a9b1c2b60c5f4a0b704614a292f491a1ba8fd04c26f70", func := "loop.example/g00524/laws.FnExactDatumJoin", spec := "fnExactDatumJoin", inPlace := ["internal/bytealg.abigen_runtime_cmpstring"], unfollowed := true, recurses := true, apart := false }
def FnExactDatumJoinSaid : Prop := fnExactDatumJoinRow.holds Try.pinned (OpenSpec.ofChange fnExactDatumJoinSpec)

/-- ITS FALSE NEIGHBOUR: 'it returns false'. Refute it at one input. -/
def fnExactDatumJoinWrong : ChangeSpec := { name := "fnExactDatumJoin", fn := fun _ => fun
  | [d1, d2] => { results := [.lit (.bool false)], args := [d1, d2] }
  | _ => none }
def FnExactDatumJoinWrongFalsely : Prop := fnExactDatumJoinRow.holds Try.pinned (OpenSpec.ofChange fnExactDatumJoinWrong)

/-- 'laws.FnExactMutate': WHATEVER THE INPUT: true; the input reads as it did. -/
def fnExactMutateSpec : ChangeSpec := { name := "fnExactMutate", fn := fun _ => fun
  | [d1, d2, d3] => { results := [.lit (.bool true)], args := [d1, d2, d3] }
  | _ => none }
def fnExactMutateRow : OpenClaim := { program := "ytgnfblefepjpjaa", sum := "8079bda6a5646b8c098a9b1c2b60c5f4a0b704614a292f491a1ba8fd04c26f70", func := "loop.example/g00524/laws.FnExactMutate", spec := "fnExactMutate", inPlace := ["internal/bytealg.abigen_runtime_cmpstring"], unfollowed := true, recurses := true, apart := false }
def FnExactMutateSaid : Prop := fnExactMutateRow.holds Try.pinned (OpenSpec.ofChange fnExactMutateSpec)

/-- ITS FALSE NEIGHBOUR: 'it returns false'. Refute it at one input. -/
def fnExactMutateWrong : ChangeSpec := { name := "fnExactMutate", fn := fun _ => fun
  | [d1, d2, d3] => { results := [.lit (.bool false)], args := [d1, d2, d3] }
  | _ => none }
def FnExactMutateWrongFalsely : Prop := fnExactMutateRow.holds Try.pinned (OpenSpec.ofChange fnExactMutateWrong)

/- THE SECOND FORM. 'bulk': how many values and letters a reading holds, each counted each time it is reached (what is shared counts as often as it is met; a slice's spare places count too). A statement '..UptoSaid' is the law's where the arguments, and the package variables that the reading takes, are together of bulk at most 1048576: NARROWER than '..Said'. Prove '..Said' where nothing that the law and all that it calls make is longer than what came in: it says more and counts as full. Else prove '..UptoSaid'. A law counts once. -/
mutual
def uptoBulk {H : Type} : DataW H → Nat
  | .lit (.string bytes) => bytes.length + 1
  | .lit _ => 1
  | .nil => 1
  | .ptr d => uptoBulk d + 1
  | .slice elems spare => uptoBulkAll elems + uptoBulkAll spare + 1
  | .agg parts => uptoBulkAll parts + 1
  | .iface _ d => uptoBulk d + 1
  | .map entries => uptoBulkEntries entries + 1
  | .held _ => 1
def uptoBulkAll {H : Type} : List (DataW H) → Nat
  | [] => 0
  | d :: r => uptoBulk d + uptoBulkAll r
def uptoBulkEntries {H : Type} : List (Lit × DataW H) → Nat
  | [] => 0
  | x :: r => uptoBulkEntry x + uptoBulkEntries r
def uptoBulkEntry {H : Type} : Lit × DataW H → Nat
  | (.string bytes, d) => bytes.length + uptoBulk d + 1
  | (_, d) => uptoBulk d + 1
 end
def uptoSmall : (H : Type) → List (DataW H) → Bool := fun _ ds => decide (uptoBulkAll ds ≤ 1048576)
def OpenSpec.upto (s : _root_.Go.ChangeSpec) : _root_.Go.OpenSpec := { _root_.Go.OpenSpec.ofChange s with cond := some uptoSmall }

/-- 'laws.FnExactAtomOK', WHERE WHAT IT READS IS OF BULK AT MOST 1048576: true; the input reads as it did. -/
def fnExactAtomOKUptoRow : OpenClaim := { program := "ytgnfblefepjpjaa", sum := "8079bda6a5646b8c098a9b1c2b60c5f4a0b704614a292f491a1ba8fd04c26f70", func := "loop.example/g00524/laws.FnExactAtomOK", spec := "fnExactAtomOK", apart := false, narrowed := true }
def FnExactAtomOKUptoSaid : Prop := fnExactAtomOKUptoRow.holds Try.pinned (OpenSpec.upto fnExactAtomOKSpec)

/-- 'laws.FnExactColumnOK', WHERE WHAT IT READS IS OF BULK AT MOST 1048576: true; the input reads as it did. -/
def fnExactColumnOKUptoRow : OpenClaim := { program := "ytgnfblefepjpjaa", sum := "8079bda6a5646b8c098a9b1c2b60c5f4a0b704614a292f491a1ba8fd04c26f70", func := "loop.example/g00524/laws.FnExactColumnOK", spec := "fnExactColumnOK", apart := false, narrowed := true }
def FnExactColumnOKUptoSaid : Prop := fnExactColumnOKUptoRow.holds Try.pinned (OpenSpec.upto fnExactColumnOKSpec)

/-- 'laws.FnExactOrderAtoms', WHERE WHAT IT READS IS OF BULK AT MOST 1048576: true; the input reads as it did. -/
def fnExactOrderAtomsUptoRow : OpenClaim := { program := "ytgnfblefepjpjaa", sum := "8079bda6a5646b8c098a9b1c2b60c5f4a0b704614a292f491a1ba8fd04c26f70", func := "loop.example/g00524/laws.FnExactOrderAtoms", spec := "fnExactOrderAtoms", inPlace := ["internal/bytealg.abigen_runtime_cmpstring"], apart := false, narrowed := true }
def FnExactOrderAtomsUptoSaid : Prop := fnExactOrderAtomsUptoRow.holds Try.pinned (OpenSpec.upto fnExactOrderAtomsSpec)

/-- 'laws.FnExactDefaultOf', WHERE WHAT IT READS IS OF BULK AT MOST 1048576: true; the input reads as it did. -/
def fnExactDefaultOfUptoRow : OpenClaim := { program := "ytgnfblefepjpjaa", sum := "8079bda6a5646b8c098a9b1c2b60c5f4a0b704614a292f491a1ba8fd04c26f70", func := "loop.example/g00524/laws.FnExactDefaultOf", spec := "fnExactDefaultOf", apart := false, narrowed := true }
def FnExactDefaultOfUptoSaid : Prop := fnExactDefaultOfUptoRow.holds Try.pinned (OpenSpec.upto fnExactDefaultOfSpec)

/-- 'laws.FnExactDatumOK', WHERE WHAT IT READS IS OF BULK AT MOST 1048576: true; the input reads as it did. -/
def fnExactDatumOKUptoRow : OpenClaim := { program := "ytgnfblefepjpjaa", sum := "8079bda6a5646b8c098a9b1c2b60c5f4a0b704614a292f491a1ba8fd04c26f70", func := "loop.example/g00524/laws.FnExactDatumOK", spec := "fnExactDatumOK", inPlace := ["internal/bytealg.abigen_runtime_cmpstring"], apart := false, narrowed := true }
def FnExactDatumOKUptoSaid : Prop := fnExactDatumOKUptoRow.holds Try.pinned (OpenSpec.upto fnExactDatumOKSpec)

/-- 'laws.FnExactDatumHas', WHERE WHAT IT READS IS OF BULK AT MOST 1048576: true; the input reads as it did. -/
def fnExactDatumHasUptoRow : OpenClaim := { program := "ytgnfblefepjpjaa", sum := "8079bda6a5646b8c098a9b1c2b60c5f4a0b704614a292f491a1ba8fd04c26f70", func := "loop.example/g00524/laws.FnExactDatumHas", spec := "fnExactDatumHas", inPlace := ["internal/bytealg.abigen_runtime_cmpstring"], apart := false, narrowed := true }
def FnExactDatumHasUptoSaid : Prop := fnExactDatumHasUptoRow.holds Try.pinned (OpenSpec.upto fnExactDatumHasSpec)

/-- 'laws.FnExactFits', WHERE WHAT IT READS IS OF BULK AT MOST 1048576: true; the input reads as it did. -/
def fnExactFitsUptoRow : OpenClaim := { program := "ytgnfblefepjpjaa", sum := "8079bda6a5646b8c098a9b1c2b60c5f4a0b704614a292f491a1ba8fd04c26f70", func := "loop.example/g00524/laws.FnExactFits", spec := "fnExactFits", inPlace := ["internal/bytealg.abigen_runtime_cmpstring"], unfollowed := true, recurses := true, apart := false, narrowed := true }
def FnExactFitsUptoSaid : Prop := fnExactFitsUptoRow.holds Try.pinned (OpenSpec.upto fnExactFitsSpec)

/-- 'laws.FnExactDatumLess', WHERE WHAT IT READS IS OF BULK AT MOST 1048576: true; the input reads as it did. -/
def fnExactDatumLessUptoRow : OpenClaim := { program := "ytgnfblefepjpjaa", sum := "8079bda6a5646b8c098a9b1c2b60c5f4a0b704614a292f491a1ba8fd04c26f70", func := "loop.example/g00524/laws.FnExactDatumLess", spec := "fnExactDatumLess", inPlace := ["internal/bytealg.abigen_runtime_cmpstring"], unfollowed := true, recurses := true, apart := false, narrowed := true }
def FnExactDatumLessUptoSaid : Prop := fnExactDatumLessUptoRow.holds Try.pinned (OpenSpec.upto fnExactDatumLessSpec)

/-- 'laws.FnExactDatumOf', WHERE WHAT IT READS IS OF BULK AT MOST 1048576: true; the input reads as it did. -/
def fnExactDatumOfUptoRow : OpenClaim := { program := "ytgnfblefepjpjaa", sum := "8079bda6a5646b8c098a9b1c2b60c5f4a0b704614a292f491a1ba8fd04c26f70", func := "loop.example/g00524/laws.FnExactDatumOf", spec := "fnExactDatumOf", inPlace := ["internal/bytealg.abigen_runtime_cmpstring"], unfollowed := true, recurses := true, apart := false, narrowed := true }
def FnExactDatumOfUptoSaid : Prop := fnExactDatumOfUptoRow.holds Try.pinned (OpenSpec.upto fnExactDatumOfSpec)

/-- 'laws.FnExactDatumJoin', WHERE WHAT IT READS IS OF BULK AT MOST 1048576: true; the input reads as it did. -/
def fnExactDatumJoinUptoRow : OpenClaim := { program := "ytgnfblefepjpjaa", sum := "8079bda6a5646b8c098a9b1c2b60c5f4a0b704614a292f491a1ba8fd04c26f70", func := "loop.example/g00524/laws.FnExactDatumJoin", spec := "fnExactDatumJoin", inPlace := ["internal/bytealg.abigen_runtime_cmpstring"], unfollowed := true, recurses := true, apart := false, narrowed := true }
def FnExactDatumJoinUptoSaid : Prop := fnExactDatumJoinUptoRow.holds Try.pinned (OpenSpec.upto fnExactDatumJoinSpec)

/-- 'laws.FnExactMutate', WHERE WHAT IT READS IS OF BULK AT MOST 1048576: true; the input reads as it did. -/
def fnExactMutateUptoRow : OpenClaim := { program := "ytgnfblefepjpjaa", sum := "8079bda6a5646b8c098a9b1c2b60c5f4a0b704614a292f491a1ba8fd04c26f70", func := "loop.example/g00524/laws.FnExactMutate", spec := "fnExactMutate", inPlace := ["internal/bytealg.abigen_runtime_cmpstring"], unfollowed := true, recurses := true, apart := false, narrowed := true }
def FnExactMutateUptoSaid : Prop := fnExactMutateUptoRow.holds Try.pinned (OpenSpec.upto fnExactMutateSpec)

end Rows
end Go.Proofs.Ytgnfblefepjpjaa
