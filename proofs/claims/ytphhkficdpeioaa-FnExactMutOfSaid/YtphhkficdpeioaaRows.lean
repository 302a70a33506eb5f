/-
  No cell of these rows narrows 'for every input' (looked for: loops, veiled, ifaces, maps, wideKeys, modest, calm, conditions, laid).
  DERIVED. THE GIVEN ROWS OF THIS SEAT. 6 by the template 'for every input the law returns true; each argument reads behind the call as it read before'; 0 by the template 'total and deterministic' (their statements: YtphhkficdpeioaaTotals.lean).
  GIVEN WITH THE SEED: the statements are not yours to turn. If you find one false, say at which input.
  Laid BY PROGRAM, IN A SANDBOX (cutbox-rows.mjs): the forced cells as the released guide's own fill.sh prints them over the translation 3a2f0396455758bc… (all of the seat's roots in one cut). By AI agents, Wed Nov 11 2026. No macro, syntax, notation, axiom, sorry.
-/
import Derived.Test.YtphhkficdpeioaaChecked
import GoSem.Claim
import GoSem.ClaimJoined
import GoSem.ClaimMapViews
import Derived.JoinedTies
import Derived.KernelRfl
namespace Go.Proofs.Ytphhkficdpeioaa
/- THE CELL 'sum', in the pinned program and in every row, IS THE sha256 OF THE DUMP (.gsa) THAT YtphhkficdpeioaaProg.lean LOADS. Nothing in Lean hashes anything: it is a label: what it is worth is what the hold of that sum in a sandbox is worth. -/
noncomputable def Try.pinned : Pinned := { name := "ytphhkficdpeioaa", sum := "3a2f0396455758bc8712c4e3dde1817f5ab4bc623327252db4ea518bccbc0659", checked := Try.checked }
namespace Rows
def none {H : Type} : Left H := { results := [], args := [] }

/-- 'laws.FnExactConstants': WHATEVER THE INPUT: true; the input reads as it did. -/
def fnExactConstantsSpec : ChangeSpec := { name := "fnExactConstants", fn := fun _ => fun
  | [] => { results := [.lit (.bool true)], args := [] }
  | _ => none }
def fnExactConstantsRow : OpenClaim := { program := "ytphhkficdpeioaa", sum := "3a2f0396455758bc8712c4e3dde1817f5ab4bc623327252db4ea518bccbc0659", func := "loop.example/g00524/laws.FnExactConstants", spec := "fnExactConstants", apart := false }
def FnExactConstantsSaid : Prop := fnExactConstantsRow.holds Try.pinned (OpenSpec.ofChange fnExactConstantsSpec)

/-- ITS FALSE NEIGHBOUR: 'it returns false'. Refute it at one input. -/
def fnExactConstantsWrong : ChangeSpec := { name := "fnExactConstants", fn := fun _ => fun
  | [] => { results := [.lit (.bool false)], args := [] }
  | _ => none }
def FnExactConstantsWrongFalsely : Prop := fnExactConstantsRow.holds Try.pinned (OpenSpec.ofChange fnExactConstantsWrong)

/-- 'laws.FnExactCodeWord': WHATEVER THE INPUT: true; the input reads as it did. -/
def fnExactCodeWordSpec : ChangeSpec := { name := "fnExactCodeWord", fn := fun _ => fun
  | [d] => { results := [.lit (.bool true)], args := [d] }
  | _ => none }
def fnExactCodeWordRow : OpenClaim := { program := "ytphhkficdpeioaa", sum := "3a2f0396455758bc8712c4e3dde1817f5ab4bc623327252db4ea518bccbc0659", func := "loop.example/g00524/laws.FnExactCodeWord", spec := "fnExactCodeWord", apart := false }
def FnExactCodeWordSaid : Prop := fnExactCodeWordRow.holds Try.pinned (OpenSpec.ofChange fnExactCodeWordSpec)

/-- ITS FALSE NEIGHBOUR: 'it returns false'. Refute it at one input. -/
def fnExactCodeWordWrong : ChangeSpec := { name := "fnExactCodeWord", fn := fun _ => fun
  | [d] => { results := [.lit (.bool false)], args := [d] }
  | _ => none }
def FnExactCodeWordWrongFalsely : Prop := fnExactCodeWordRow.holds Try.pinned (OpenSpec.ofChange fnExactCodeWordWrong)

/-- 'laws.FnExactMutWord': WHATEVER THE INPUT: true; the input reads as it did. -/
def fnExactMutWordSpec : ChangeSpec := { name := "fnExactMutWord", fn := fun _ => fun
  | [d] => { results := [.lit (.bool true)], args := [d] }
  | _ => none }
def fnExactMutWordRow : OpenClaim := { program := "ytphhkficdpeioaa", sum := "3a2f0396455758bc8712c4e3dde1817f5ab4bc623327252db4ea518bccbc0659", func := "loop.example/g00524/laws.FnExactMutWord", spec := "fnExactMutWord", apart := false }
def FnExactMutWordSaid : Prop := fnExactMutWordRow.holds Try.pinned (OpenSpec.ofChange fnExactMutWordSpec)

/-- ITS FALSE NEIGHBOUR: 'it returns false'. Refute it at one input. -/
def fnExactMutWordWrong : ChangeSpec := { name := "fnExactMutWord", fn := fun _ => fun
  | [d] => { results := [.lit (.bool false)], args := [d] }
  | _ => none }
def FnExactMutWordWrongFalsely : Prop := fnExactMutWordRow.holds Try.pinned (OpenSpec.ofChange fnExactMutWordWrong)

/-- 'laws.FnExactFuncWord': WHATEVER THE INPUT: true; the input reads as it did. -/
def fnExactFuncWordSpec : ChangeSpec := { name := "fnExactFuncWord", fn := fun _ => fun
  | [d] => { results := [.lit (.bool true)], args := [d] }
  | _ => none }
def fnExactFuncWordRow : OpenClaim := { program := "ytphhkficdpeioaa", sum := "3a2f0396455758bc8712c4e3dde1817f5ab4bc623327252db4ea518bccbc0659", func := "loop.example/g00524/laws.FnExactFuncWord", spec := "fnExactFuncWord", apart := false }
def FnExactFuncWordSaid : Prop := fnExactFuncWordRow.holds Try.pinned (OpenSpec.ofChange fnExactFuncWordSpec)

/-- ITS FALSE NEIGHBOUR: 'it returns false'. Refute it at one input. -/
def fnExactFuncWordWrong : ChangeSpec := { name := "fnExactFuncWord", fn := fun _ => fun
  | [d] => { results := [.lit (.bool false)], args := [d] }
  | _ => none }
def FnExactFuncWordWrongFalsely : Prop := fnExactFuncWordRow.holds Try.pinned (OpenSpec.ofChange fnExactFuncWordWrong)

/-- 'laws.FnExactCodeOf': WHATEVER THE INPUT: true; the input reads as it did. -/
def fnExactCodeOfSpec : ChangeSpec := { name := "fnExactCodeOf", fn := fun _ => fun
  | [d] => { results := [.lit (.bool true)], args := [d] }
  | _ => none }
def fnExactCodeOfRow : OpenClaim := { program := "ytphhkficdpeioaa", sum := "3a2f0396455758bc8712c4e3dde1817f5ab4bc623327252db4ea518bccbc0659", func := "loop.example/g00524/laws.FnExactCodeOf", spec := "fnExactCodeOf", apart := false }
def FnExactCodeOfSaid : Prop := fnExactCodeOfRow.holds Try.pinned (OpenSpec.ofChange fnExactCodeOfSpec)

/-- ITS FALSE NEIGHBOUR: 'it returns false'. Refute it at one input. -/
def fnExactCodeOfWrong : ChangeSpec := { name := "fnExactCodeOf", fn := fun _ => fun
  | [d] => { results := [.lit (.bool false)], args := [d] }
  | _ => none }
def FnExactCodeOfWrongFalsely : Prop := fnExactCodeOfRow.holds Try.pinned (OpenSpec.ofChange fnExactCodeOfWrong)

/-- 'laws.FnExactMutOf': WHATEVER THE INPUT: true; the input reads as it did. -/
def fnExactMutOfSpec : ChangeSpec := { name := "fnExactMutOf", fn := fun _ => fun
  | [d] => { results := [.lit (.bool true)], args := [d] }
  | _ => none }
def fnExactMutOfRow : OpenClaim := { program := "ytphhkficdpeioaa", sum := "3a2f0396455758bc8712c4e3dde1817f5ab4bc623327252db4ea518bccbc0659", func := "loop.example/g00524/laws.FnExactMutOf", spec := "fnExactMutOf", apart := false }
def FnExactMutOfSaid : Prop := fnExactMutOfRow.holds Try.pinned (OpenSpec.ofChange fnExactMutOfSpec)

/-- ITS FALSE NEIGHBOUR: 'it returns false'. Refute it at one input. -/
def fnExactMutOfWrong : ChangeSpec := { name := "fnExactMutOf", fn := fun _ => fun
  | [d] => { results := [.lit (.bool false)], args := [d] }
  | _ => none }
def FnExactMutOfWrongFalsely : Prop := fnExactMutOfRow.holds Try.pinned (OpenSpec.ofChange fnExactMutOfWrong)

/- THE SECOND FORM. 'bulk': how many values and letters a reading holds, each counted each time it is reached (what is shared counts as often as it is met; a slice's spare places count too). A statement '..UptoSaid' is the law's where the arguments, and the package variables that the reading takes, are together of bulk at most 1048576: NARROWER than '..Said'. Prove '..Said' where nothing that the law and all that it calls make is longer than what came in: it says more and counts as full. Else prove '..UptoSaid'. A law counts once. -/
mutual
def uptoBulk {H : Type} : DataW H → Nat
  | .lit (.string bytes) => bytes.length + 1
  | .lit _ => 1
  | .nil => 1
  | .ptr d => uptoBulk d + 1
  | .slice elems spare => uptoBulkAll elems + uptoBulkAll spare + 1
  | .agg parts => uptoBulkAll parts + 1
  | .iface _ d => uptoBulk d + 1
  | .map entries => uptoBulkEntries entries + 1
  | .held _ => 1
def uptoBulkAll {H : Type} : List (DataW H) → Nat
  | [] => 0
  | d :: r => uptoBulk d + uptoBulkAll r
def uptoBulkEntries {H : Type} : List (Lit × DataW H) → Nat
  | [] => 0
  | x :: r => uptoBulkEntry x + uptoBulkEntries r
def uptoBulkEntry {H : Type} : Lit × DataW H → Nat
  | (.string bytes, d) => bytes.length + uptoBulk d + 1
  | (_, d) => uptoBulk d + 1
 end
def uptoSmall : (H : Type) → List (DataW H) → Bool := fun _ ds => decide (uptoBulkAll ds ≤ 1048576)
def OpenSpec.upto (s : _root_.Go.ChangeSpec) : _root_.Go.OpenSpec := { _root_.Go.OpenSpec.ofChange s with cond := some uptoSmall }

/-- 'laws.FnExactConstants', WHERE WHAT IT READS IS OF BULK AT MOST 1048576: true; the input reads as it did. -/
def fnExactConstantsUptoRow : OpenClaim := { program := "ytphhkficdpeioaa", sum := "3a2f0396455758bc8712c4e3dde1817f5ab4bc623327252db4ea518bccbc0659", func := "loop.example/g00524/laws.FnExactConstants", spec := "fnExactConstants", apart := false, narrowed := true }
def FnExactConstantsUptoSaid : Prop := fnExactConstantsUptoRow.holds Try.pinned (OpenSpec.upto fnExactConstantsSpec)

/-- 'laws.FnExactCodeWord', WHERE WHAT IT READS IS OF BULK AT MOST 1048576: true; the input reads as it did. -/
def fnExactCodeWordUptoRow : OpenClaim := { program := "ytphhkficdpeioaa", sum := "3a2f0396455758bc8712c4e3dde1817f5ab4bc623327252db4ea518bccbc0659", func := "loop.example/g00524/laws.FnExactCodeWord", spec := "fnExactCodeWord", apart := false, narrowed := true }
def FnExactCodeWordUptoSaid : Prop := fnExactCodeWordUptoRow.holds Try.pinned (OpenSpec.upto fnExactCodeWordSpec)

/-- 'laws.FnExactMutWord', WHERE WHAT IT READS IS OF BULK AT MOST 1048576: true; the input reads as it did. -/
def fnExactMutWordUptoRow : OpenClaim := { program := "ytphhkficdpeioaa", sum := "3a2f0396455758bc8712c4e3dde1817f5ab4bc623327252db4ea518bccbc0659", func := "loop.example/g00524/laws.FnExactMutWord", spec := "fnExactMutWord", apart := false, narrowed := true }
def FnExactMutWordUptoSaid : Prop := fnExactMutWordUptoRow.holds Try.pinned (OpenSpec.upto fnExactMutWordSpec)

/-- 'laws.FnExactFuncWord', WHERE WHAT IT READS IS OF BULK AT MOST 1048576: true; the input reads as it did. -/
def fnExactFuncWordUptoRow : OpenClaim := { program := "ytphhkficdpeioaa", sum := "3a2f0396455758bc8712c4e3dde1817f5ab4bc623327252db4ea518bccbc0659", func := "loop.example/g00524/laws.FnExactFuncWord", spec := "fnExactFuncWord", apart := false, narrowed := true }
def FnExactFuncWordUptoSaid : Prop := fnExactFuncWordUptoRow.holds Try.pinned (OpenSpec.upto fnExactFuncWordSpec)

/-- 'laws.FnExactCodeOf', WHERE WHAT IT READS IS OF BULK AT MOST 1048576: true; the input reads as it did. -/
def fnExactCodeOfUptoRow : OpenClaim := { program := "ytphhkficdpeioaa", sum := "3a2f0396455758bc8712c4e3dde1817f5ab4bc623327252db4ea518bccbc0659", func := "loop.example/g00524/laws.FnExactCodeOf", spec := "fnExactCodeOf", apart := false, narrowed := true }
def FnExactCodeOfUptoSaid : Prop := fnExactCodeOfUptoRow.holds Try.pinned (OpenSpec.upto fnExactCodeOfSpec)

/-- 'laws.FnExactMutOf', WHERE WHAT IT READS IS OF BULK AT MOST 1048576: true; the input reads as it did. -/
def fnExactMutOfUptoRow : OpenClaim := { program := "ytphhkficdpeioaa", sum := "3a2f0396455758bc8712c4e3dde1817f5ab4bc623327252db4ea518bccbc0659", func := "loop.example/g00524/laws.FnExactMutOf", spec := "fnExactMutOf", apart := false, narrowed := true }
def FnExactMutOfUptoSaid : Prop := fnExactMutOfUptoRow.holds Try.pinned (OpenSpec.upto fnExactMutOfSpec)

end Rows
end Go.Proofs.Ytphhkficdpeioaa
