/- Mutate of both. No statement is proved here; no conditions. Written by a program (gen47.py). -/
import Derived.Test.YthglchopajdmhaaGreatMutate
namespace Go.Proofs.YthglchopajdmhaaGreat
open Go.ChangeShapes Go.WideShapes Go.ChangeAt Go.RowKit Go.Deep
set_option maxRecDepth 100000
set_option linter.unusedVariables false
set_option linter.unusedSimpArgs false

def mutateAns (c : Column) (d : List Atom) (m : Mut) : List Atom × Int := if 4096 < d.length then ([], 2) else cond (colOK c && (datumOK d && (!(fitsCode c d != 0) && mutOK m))) (if muType m c.kind = 0 then mutL c d m else ([], muType m c.kind)) ([], 1)
theorem mutOK_mok {d : List Atom} {m : Mut} {k : Int} (hd : datumOK d = true) (hm : mutOK m = true) (ht : muType m k = 0) : MOK d m := by
  unfold mutOK at hm
  rw [Bool.and_eq_true, Bool.and_eq_true] at hm
  refine ⟨hd, hm.2.1, inB_iff.1 hm.1, fun h5 => ?_⟩
  unfold muType at ht
  split at ht
  · cases ht
  · split at ht
    · cases ht
    · rename_i h2
      by_cases hl : (m.value.length : Int) = 1
      · omega
      · exact absurd ⟨h5, Or.inr hl⟩ h2
theorem empty_wt : AtomS.wt [] ≤ 48 := by rw [AtomS.wt_len]; decide
theorem mutateAns_wt (c : Column) (d : List Atom) (m : Mut) : AtomS.wt (mutateAns c d m).1 ≤ 48 := by
  unfold mutateAns; split
  · exact empty_wt
  · cases h : (colOK c && (datumOK d && (!(fitsCode c d != 0) && mutOK m)))
    · exact empty_wt
    · show AtomS.wt (if muType m c.kind = 0 then mutL c d m else ([], muType m c.kind)).1 ≤ 48
      simp only [Bool.and_eq_true] at h
      split
      · rename_i ht
        have hm := mutOK_mok h.2.1 h.2.2.2 ht
        exact mutL_wt c hm.d hm.v
      · exact empty_wt
theorem ans_long {c : Column} {d : List Atom} {m : Mut} (h : 4096 < d.length) : mutateAns c d m = ([], 2) := by unfold mutateAns; rw [if_pos h]
theorem ans_bad {c : Column} {d : List Atom} {m : Mut} (h : ¬ 4096 < d.length) (hb : (colOK c && (datumOK d && (!(fitsCode c d != 0) && mutOK m))) = false) : mutateAns c d m = ([], 1) := by unfold mutateAns; rw [if_neg h, hb]; rfl
theorem ans_go {c : Column} {d : List Atom} {m : Mut} (h : ¬ 4096 < d.length) (h1 : colOK c = true) (h2 : datumOK d = true) (h3 : (fitsCode c d != 0) = false) (h4 : mutOK m = true) : mutateAns c d m = if muType m c.kind = 0 then mutL c d m else ([], muType m c.kind) := by
  unfold mutateAns; rw [if_neg h, h1, h2, h3, h4]; rfl
theorem colIdx_one (c : Column) : colIdx [c] c.name = 0 := by
  unfold colIdx; exact idxF_at (k := 0) (by simp) (fun j hj h => absurd h (Nat.not_lt_zero _)) (eqS_iff.2 rfl)
theorem mutCode_one (c : Column) (m : Mut) : mutCode ⟨⟨#[]⟩, [c], [], false⟩ ⟨c.name, m.func, m.value⟩ = muType m c.kind := by
  unfold mutCode colAt; rw [colIdx_one]; rfl
theorem mutL_name (c : Column) (d : List Atom) (m : Mut) (s : ByteArray) : mutL c d ⟨s, m.func, m.value⟩ = mutL c d m := rfl
end Go.Proofs.YthglchopajdmhaaGreat
