/- Plain law of StoreOK. No statement is proved here; no conditions. Written by a program (gen58.py). -/
import Derived.Test.YthbebbnidgeaeaaGreatStrong
namespace Go.Proofs.YthbebbnidgeaeaaGreat
open Go.ChangeShapes Go.WideShapes Go.ChangeAt Go.RowKit Go.Deep
set_option maxRecDepth 100000
set_option linter.unusedVariables false
set_option linter.unusedSimpArgs false

def rowsAt (x : Store) (i : Nat) : List Row := x.tables.getD i default
def tabAt (s : Schema) (i : Nat) : Table := s.tables.getD i default
theorem rowsAt_at {x : Store} {i : Nat} (h : i < x.tables.length) : rowsAt x i = x.tables[i] := get_at _ i h
theorem tabAt_at {s : Schema} {i : Nat} (h : i < s.tables.length) : tabAt s i = s.tables[i] := get_at _ i h
/-- No number is in two tables. -/
def clash (x : Store) (i j : Nat) : Bool := (rowsAt x i).any fun r => hasId (rowsAt x j) r.id
def onceB (x : Store) : Bool := upTo (fun i => upTo (fun j => !clash x i j) i) x.tables.length
def onceS (x : Store) : Bool := upTo (fun i => upTo (fun k => upTo (fun j => !hasId (rowsAt x j) ((rowsAt x i).getD k default).id) i) (rowsAt x i).length) x.tables.length
theorem onceS_eq (x : Store) : onceS x = onceB x := by
  rw [Bool.eq_iff_iff]; unfold onceS onceB; rw [upTo_iff, upTo_iff]
  constructor
  · intro h i hi
    rw [upTo_iff]; intro j hj
    unfold clash
    rw [Bool.not_eq_true', List.any_eq_false]
    intro r hr
    obtain ⟨k, hk, rfl⟩ := List.mem_iff_getElem.1 hr
    have := upTo_iff.1 (upTo_iff.1 (h i hi) k hk) j hj
    rw [get_at _ k hk] at this; simpa using this
  · intro h i hi
    rw [upTo_iff]; intro k hk
    rw [upTo_iff]; intro j hj
    have := upTo_iff.1 (h i hi) j hj
    unfold clash at this
    rw [Bool.not_eq_true', List.any_eq_false] at this
    rw [get_at _ k hk]; simpa using this _ (List.getElem_mem hk)
/-- A set has a number that is none of a table's rows. -/
def unmet (x : Store) (r : Int) (d : List Atom) : Bool := d.any fun a => !hasId (rowsAt x r.toNat) a.n
def metStep (x : Store) : Step := fun _ r d z => cond (unmet x r d) 13 z
theorem metStep_bd (x : Store) : ∀ c r d (z : Int) (n : Nat), 0 ≤ z → z ≤ 30 + n → 0 ≤ metStep x c r d z ∧ metStep x c r d z ≤ 30 + (n + 1 : Nat) := by
  intro c r d z n h1 h2
  unfold metStep
  cases unmet x r d
  · exact ⟨h1, by show z ≤ _; omega⟩
  · exact ⟨(show (0 : Int) ≤ 13 by decide), (show (13 : Int) ≤ _ by omega)⟩
def refsI (s : Schema) (x : Store) : Int := eachF s x (metStep x) s.tables.length 0
def refTurn (s : Schema) (x : Store) (i c : Nat) : Bool := (colIn s i c).kind != 4 || upTo (fun k => !unmet x (tblIdx s.tables (colIn s i c).ref) (cellAt x i k c)) (rowsAt x i).length
def refsS (s : Schema) (x : Store) : Bool := upTo (fun i => upTo (refTurn s x i) (tabAt s i).columns.length) s.tables.length
theorem foldN_zero {f : Nat → Int → Int} {p : Nat → Bool} (h : ∀ i z, (f i z == 0) = (z == 0 && p i)) : ∀ (n : Nat) (z : Int), (foldN f n z == 0) = (z == 0 && upTo p n)
  | 0, z => by simp [foldN, upTo_zero]
  | n + 1, z => by show (f n (foldN f n z) == 0) = _; rw [h, foldN_zero h n z, upTo_succ, Bool.and_assoc]
theorem refs_eq (s : Schema) (x : Store) : (refsI s x == 0) = refsS s x := by
  unfold refsI eachF
  rw [foldN_zero (p := fun i => upTo (refTurn s x i) (tabAt s i).columns.length)]
  · rfl
  · intro i z
    unfold tabTurn eachCol
    rw [foldN_zero (p := refTurn s x i)]
    · rfl
    · intro c z
      unfold colTurn refTurn
      cases (colIn s i c).kind != 4
      · show (eachRow s x (metStep x) i c (rowsAt x i).length z == 0) = _
        unfold eachRow
        rw [foldN_zero (p := fun k => !unmet x (tblIdx s.tables (colIn s i c).ref) (cellAt x i k c))]
        · rfl
        · intro k z
          unfold metStep
          cases unmet x (tblIdx s.tables (colIn s i c).ref) (cellAt x i k c) <;> simp
      · simp
/-- Two rows have the same sets in all Unique columns. -/
def cellsN (r : Row) (k : Int) : List Atom := r.cells.getD k.toNat default
def alike (t : Table) (a b : Row) : Bool := t.unique.all fun k => decide (cellsN a k = cellsN b k)
def uniqRow (t : Table) (l : List Row) (i : Nat) : Bool := upTo (fun j => !alike t (l.getD i default) (l.getD j default)) i
def uniqT (t : Table) (l : List Row) : Bool := t.unique.isEmpty || upTo (uniqRow t l) l.length
def uniqAt (s : Schema) (x : Store) (i : Nat) : Bool := uniqT (tabAt s i) (rowsAt x i)
def uniqB (s : Schema) (x : Store) : Bool := upTo (uniqAt s x) x.tables.length
def codeTurn (s : Schema) (x : Store) (i : Nat) (z : Int) : Int := cond (z == 0 && !uniqAt s x i) 12 z
def commitI (s : Schema) (x : Store) : Nat → Int := fun n => foldN (codeTurn s x) n (refsI s x)
theorem commit_eq (s : Schema) (x : Store) : (commitI s x x.tables.length == 0) = (refsS s x && uniqB s x) := by
  unfold commitI
  rw [foldN_zero (p := uniqAt s x), refs_eq]
  · rfl
  · intro i z
    unfold codeTurn
    by_cases hz : z = 0
    · subst hz; cases uniqAt s x i <;> simp
    · have : (z == 0) = false := by simpa using hz
      rw [this]; simp [hz]
theorem refsI_bd (s : Schema) (x : Store) : refsI s x = 0 ∨ refsI s x = 13 := by
  have h : ∀ (f : Nat → Int → Int), (∀ i z, z = 0 ∨ z = 13 → f i z = 0 ∨ f i z = 13) → ∀ n z, z = 0 ∨ z = 13 → foldN f n z = 0 ∨ foldN f n z = 13 := by
    intro f hf n
    induction n with
    | zero => intro z hz; exact hz
    | succ n ih => intro z hz; exact hf n _ (ih z hz)
  unfold refsI eachF
  refine h _ (fun i z hz => ?_) _ _ (Or.inl rfl)
  unfold tabTurn eachCol
  refine h _ (fun c z hz => ?_) _ _ hz
  unfold colTurn
  cases (colIn s i c).kind != 4
  · show eachRow _ _ _ _ _ _ _ = 0 ∨ eachRow _ _ _ _ _ _ _ = 13
    unfold eachRow
    refine h _ (fun k z hz => ?_) _ _ hz
    unfold metStep
    cases unmet x (tblIdx s.tables (colIn s i c).ref) (cellAt x i k c)
    · exact hz
    · exact Or.inr rfl
  · exact hz
theorem codeTurn_bd (s : Schema) (x : Store) (n : Nat) (z : Int) (h : 0 ≤ z ∧ z ≤ 30) : 0 ≤ codeTurn s x n z ∧ codeTurn s x n z ≤ 30 := by
  unfold codeTurn
  cases (z == 0 && !uniqAt s x n)
  · exact h
  · exact ⟨(show (0 : Int) ≤ 12 by decide), (show (12 : Int) ≤ 30 by decide)⟩
theorem commitI_bd (s : Schema) (x : Store) (n : Nat) : 0 ≤ commitI s x n ∧ commitI s x n ≤ 30 := by
  unfold commitI
  induction n with
  | zero => show 0 ≤ refsI s x ∧ refsI s x ≤ 30; rcases refsI_bd s x with h | h <;> rw [h] <;> decide
  | succ n ih => exact codeTurn_bd s x n _ ih
/-- Each row of a table that is no root is held. -/
def heldRow (s : Schema) (x : Store) (i : Nat) (r : Row) : Bool := !(eachF s x (strongStep i r.id) s.tables.length 0 == 0)
def heldAt (s : Schema) (x : Store) (i : Nat) : Bool := (tabAt s i).root || (rowsAt x i).all (heldRow s x i)
def heldB (s : Schema) (x : Store) : Bool := upTo (heldAt s x) x.tables.length
def storeB (s : Schema) (x : Store) : Bool := storeFit s x && (onceB x && (refsS s x && (uniqB s x && heldB s x)))
/-- A column of kind 4 refers to a table that there is. -/
theorem sch_ref {s : Schema} (h : schOK s = true) {i k : Nat} (hi : i < s.tables.length) (hk : k < s.tables[i].columns.length) (h4 : s.tables[i].columns[k].kind = 4) : ∃ m : Nat, tblIdx s.tables s.tables[i].columns[k].ref = m ∧ m < s.tables.length := by
  unfold schOK at h; rw [Bool.and_eq_true, Bool.and_eq_true] at h
  have h1 := h.2.2
  rw [Bool.not_eq_true', List.any_eq_false] at h1
  have h2 := h1 _ (List.getElem_mem hi)
  rw [Bool.not_eq_true, List.any_eq_false] at h2
  have h3 := h2 _ (List.getElem_mem hk)
  unfold badC at h3
  rw [h4] at h3
  have h5 : 0 ≤ tblIdx s.tables s.tables[i].columns[k].ref := by simpa using h3
  refine ⟨(tblIdx s.tables s.tables[i].columns[k].ref).toNat, by omega, ?_⟩
  have h6 : tblIdx s.tables s.tables[i].columns[k].ref < s.tables.length := by
    unfold tblIdx idxF
    split
    · rename_i ha
      have := List.findIdx_lt_length_of_exists (List.any_eq_true.1 ha)
      omega
    · omega
  omega
/-- The numbers of Unique columns are columns'. -/
theorem uni_at {t : Table} (h : tblOK t = true) {k : Nat} (hk : k < t.unique.length) : 0 ≤ t.unique[k] ∧ t.unique[k] < t.columns.length := by
  unfold tblOK at h; simp only [Bool.and_eq_true] at h
  have := upTo_at h.2.2.2.2 hk
  unfold uniStep at this
  rw [Bool.and_eq_true, get_at0 _ k hk] at this
  have := inB_iff.1 this.1; omega
theorem store_rise {s : Schema} {x : Store} (h : storeFit s x = true) {i : Nat} (hi : i < x.tables.length) : rising x.tables[i] = true ∧ x.tables[i].length ≤ 12 := by
  have hL := storeIn_len (storeFit_in h)
  have := storeIn_at (storeFit_in h) (k := i) (by omega) hi
  exact ⟨fitRows_rise this, fitRows_len this⟩
end Go.Proofs.YthbebbnidgeaeaaGreat
