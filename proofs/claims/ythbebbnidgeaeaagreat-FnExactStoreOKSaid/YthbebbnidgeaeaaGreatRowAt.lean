/- RowAt, in the program and in the reference. No statement is proved here; no conditions. Written by a program (gen23.py). -/
import Derived.Test.YthbebbnidgeaeaaGreatRise
import Derived.Test.YthbebbnidgeaeaaGreatCopy
import Derived.Test.YthbebbnidgeaeaaGreatMarkT
namespace Go.Proofs.YthbebbnidgeaeaaGreat
open Go.ChangeShapes Go.WideShapes Go.ChangeAt Go.RowKit Go.Deep
set_option maxRecDepth 100000
set_option linter.unusedVariables false
set_option linter.unusedSimpArgs false

def tabOf (x : Store) (n : Int) : List Row := x.tables.getD n.toNat []
def rowAns (x : Store) (n id : Int) : Row × Int := if tblCode x n = 0 then cond (hasId (tabOf x n) id) ((tabOf x n).getD (rowIdx (tabOf x n) id).toNat default, 0) (⟨0, []⟩, 5) else (⟨0, []⟩, tblCode x n)
theorem tblCode_zero {x : Store} {n : Int} (h : tblCode x n = 0) : ∃ m : Nat, n = m ∧ ∃ hm : m < x.tables.length, tabOf x n = x.tables[m] ∧ (∀ l ∈ x.tables, rising l = true) := by
  unfold tblCode at h
  cases h1 : x.tables.all rising
  · rw [h1] at h; cases h
  cases h2 : inB n 0 ((x.tables.length : Int) - 1)
  · rw [h1, h2] at h; cases h
  have h3 := inB_iff.1 h2
  refine ⟨n.toNat, by omega, by omega, ?_, fun l hl => List.all_eq_true.1 h1 l hl⟩
  unfold tabOf; simp [List.getD, (by omega : n.toNat < x.tables.length)]
theorem zeroRow {w : World} : RowR w [] [.int .i64 0, .slice none 0 0] ⟨0, []⟩ := ⟨_, [], rfl, rfl, (rfl : (Lit.int .i64 0).wf = true), nil_row (by omega)⟩
theorem Store.tab_le {x : Store} {n : Nat} (h : x.bulk ≤ n) {m : Nat} (hm : m < x.tables.length) : RowS.bulk x.tables[m] ≤ n := bulkL_at RowS.bulk hm h
theorem RowS.len_le {l : List Row} {n : Nat} (h : RowS.bulk l ≤ n) : l.length ≤ n := Nat.le_trans (bulkL_len _ _) h
theorem rowAns_wt {x : Store} (h : x.bulk ≤ 1048576) (n id : Int) : Row.wtV (rowAns x n id).1 ≤ 8388608 := by
  unfold rowAns
  split
  · rename_i h1
    obtain ⟨m, rfl, hm, ht, hr⟩ := tblCode_zero h1
    rw [ht]
    cases h5 : hasId x.tables[m] id
    · simp [Row.wtV, AtomSS.wt]
    · obtain ⟨hix, hlb⟩ := rowIdx_lb (hr _ (List.getElem_mem hm)) h5
      rw [hix, Int.toNat_natCast]
      have h2 : x.tables[m].getD (lbOf x.tables[m] id) default = x.tables[m][lbOf x.tables[m] id] := by simp [List.getD, hlb]
      show Row.wtV (x.tables[m].getD (lbOf x.tables[m] id) default) ≤ _
      rw [h2]
      have := Row.wtV_le x.tables[m][lbOf x.tables[m] id]
      have := bulkL_at Row.bulk hlb (Store.tab_le h hm)
      omega
  · simp [Row.wtV, AtomSS.wt]
end Go.Proofs.YthbebbnidgeaeaaGreat
