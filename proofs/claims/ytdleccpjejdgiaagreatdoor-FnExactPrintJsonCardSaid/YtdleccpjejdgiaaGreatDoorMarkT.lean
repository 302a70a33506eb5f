/- Marks as plain functions. No statement is proved here; no conditions. Written by a program (gen13.py). -/
import Derived.Test.YtdleccpjejdgiaaGreatDoorText
namespace Go.Proofs.YtdleccpjejdgiaaGreatDoor
open Go.ChangeShapes Go.WideShapes Go.ChangeAt Go.RowKit Go.Deep
set_option maxRecDepth 100000
set_option linter.unusedVariables false
set_option linter.unusedSimpArgs false

theorem wf_mk {n : Int} (h0 : 0 ≤ n) (h1 : n ≤ 2199023255552) : (Lit.int .i64 n).wf = true := by
  have : -9223372036854775808 ≤ n ∧ n ≤ 9223372036854775807 := by omega
  simpa [Lit.wf, IntKind.min, IntKind.max, IntKind.signed, IntKind.bits] using this
def bMark (k : Int) : Bool := k % 3 == 0
theorem sum_wt {α : Type} {wt f : α → Nat} (h : ∀ a, wt a ≤ 8 * (1 + f a)) : ∀ xs : List α, (xs.map wt).sum ≤ 8 * bulkL f xs
  | [] => by simp [bulkL]
  | x :: xs => by
    have h1 := h x
    have h2 := sum_wt h xs
    unfold bulkL at h2 ⊢
    simp only [List.map_cons, List.sum_cons, List.length_cons]
    omega
def IntS.mark (xs : List Int) (k : Int) : List Int := mkUp (fun (_ : Int) (k : Int) => k) (fun (_ : Int) => 1) xs k xs.length
def IntS.wt (xs : List Int) : Nat := (xs.map (fun (_ : Int) => 1)).sum
theorem IntS.wt_le (xs : List Int) : IntS.wt xs ≤ 8 * IntS.bulk xs := by
  unfold IntS.wt IntS.bulk; rw [List.map_const', List.sum_replicate_nat]; omega
def StringS.mark (xs : List ByteArray) (k : Int) : List ByteArray := mkUp (fun (_ : ByteArray) (k : Int) => mText k) (fun (_ : ByteArray) => 1) xs k xs.length
def StringS.wt (xs : List ByteArray) : Nat := (xs.map (fun (_ : ByteArray) => 1)).sum
theorem StringS.wt_le (xs : List ByteArray) : StringS.wt xs ≤ 8 * StringS.bulk xs := sum_wt (fun a => by omega) xs
def Atom.mark (a : Atom) (k : Int) : Atom := { kind := k, n := k + 1, t := mText (k + 1 + 1) }
def Atom.wt (a : Atom) : Nat := 1 + 1 + 1
theorem Atom.wt_le (a : Atom) : Atom.wt a ≤ 8 * (1 + Atom.bulk a) := by
  unfold Atom.wt Atom.bulk; omega
def AtomS.mark (xs : List Atom) (k : Int) : List Atom := mkUp Atom.mark Atom.wt xs k xs.length
def AtomS.wt (xs : List Atom) : Nat := (xs.map Atom.wt).sum
theorem AtomS.wt_le (xs : List Atom) : AtomS.wt xs ≤ 8 * AtomS.bulk xs := sum_wt (fun a => by exact Atom.wt_le a) xs
def AtomSS.mark (xs : List (List Atom)) (k : Int) : List (List Atom) := mkUp AtomS.mark AtomS.wt xs k xs.length
def AtomSS.wt (xs : List (List Atom)) : Nat := (xs.map AtomS.wt).sum
theorem AtomSS.wt_le (xs : List (List Atom)) : AtomSS.wt xs ≤ 8 * AtomSS.bulk xs := sum_wt (fun a => by have := AtomS.wt_le a; omega) xs
def Column.mark (a : Column) (k : Int) : Column := { name := mText (k), kind := k + 1, min := k + 1 + 1, max := k + 1 + 1 + 1, low := k + 1 + 1 + 1 + 1, high := k + 1 + 1 + 1 + 1 + 1, ref := mText (k + 1 + 1 + 1 + 1 + 1 + 1), strong := bMark (k + 1 + 1 + 1 + 1 + 1 + 1 + 1) }
def Column.wt (a : Column) : Nat := 1 + 1 + 1 + 1 + 1 + 1 + 1 + 1
theorem Column.wt_le (a : Column) : Column.wt a ≤ 8 * (1 + Column.bulk a) := by
  unfold Column.wt Column.bulk; omega
def ColumnS.mark (xs : List Column) (k : Int) : List Column := mkUp Column.mark Column.wt xs k xs.length
def ColumnS.wt (xs : List Column) : Nat := (xs.map Column.wt).sum
theorem ColumnS.wt_le (xs : List Column) : ColumnS.wt xs ≤ 8 * ColumnS.bulk xs := sum_wt (fun a => by exact Column.wt_le a) xs
def Table.mark (a : Table) (k : Int) : Table := { name := mText (k), columns := ColumnS.mark a.columns (k + 1), unique := IntS.mark a.unique (k + 1 + (ColumnS.wt a.columns : Int)), root := bMark (k + 1 + (ColumnS.wt a.columns : Int) + (IntS.wt a.unique : Int)) }
def Table.wt (a : Table) : Nat := 1 + ColumnS.wt a.columns + IntS.wt a.unique + 1
theorem Table.wt_le (a : Table) : Table.wt a ≤ 8 * (1 + Table.bulk a) := by
  have h1 := ColumnS.wt_le a.columns; have h2 := IntS.wt_le a.unique; unfold Table.wt Table.bulk; omega
def Table.markV (a : Table) (k : Int) : Table := { name := a.name, root := a.root, columns := ColumnS.mark a.columns (k), unique := IntS.mark a.unique (k + (ColumnS.wt a.columns : Int)) }
def Table.wtV (a : Table) : Nat := ColumnS.wt a.columns + IntS.wt a.unique
theorem Table.wtV_le (a : Table) : Table.wtV a ≤ 8 * Table.bulk a := by
  have h1 := ColumnS.wt_le a.columns; have h2 := IntS.wt_le a.unique; unfold Table.wtV Table.bulk; omega
def TableS.mark (xs : List Table) (k : Int) : List Table := mkUp Table.mark Table.wt xs k xs.length
def TableS.wt (xs : List Table) : Nat := (xs.map Table.wt).sum
theorem TableS.wt_le (xs : List Table) : TableS.wt xs ≤ 8 * TableS.bulk xs := sum_wt (fun a => by exact Table.wt_le a) xs
def Schema.mark (a : Schema) (k : Int) : Schema := { tables := TableS.mark a.tables (k) }
def Schema.wt (a : Schema) : Nat := TableS.wt a.tables
theorem Schema.wt_le (a : Schema) : Schema.wt a ≤ 8 * (1 + Schema.bulk a) := by
  have h0 := TableS.wt_le a.tables; unfold Schema.wt Schema.bulk; omega
def Schema.markV (a : Schema) (k : Int) : Schema := { tables := TableS.mark a.tables (k) }
def Schema.wtV (a : Schema) : Nat := TableS.wt a.tables
theorem Schema.wtV_le (a : Schema) : Schema.wtV a ≤ 8 * Schema.bulk a := by
  have h0 := TableS.wt_le a.tables; unfold Schema.wtV Schema.bulk; omega
def Row.mark (a : Row) (k : Int) : Row := { id := k, cells := AtomSS.mark a.cells (k + 1) }
def Row.wt (a : Row) : Nat := 1 + AtomSS.wt a.cells
theorem Row.wt_le (a : Row) : Row.wt a ≤ 8 * (1 + Row.bulk a) := by
  have h1 := AtomSS.wt_le a.cells; unfold Row.wt Row.bulk; omega
def Row.markV (a : Row) (k : Int) : Row := { id := a.id, cells := AtomSS.mark a.cells (k) }
def Row.wtV (a : Row) : Nat := AtomSS.wt a.cells
theorem Row.wtV_le (a : Row) : Row.wtV a ≤ 8 * Row.bulk a := by
  have h1 := AtomSS.wt_le a.cells; unfold Row.wtV Row.bulk; omega
def RowS.mark (xs : List Row) (k : Int) : List Row := mkUp Row.mark Row.wt xs k xs.length
def RowS.wt (xs : List Row) : Nat := (xs.map Row.wt).sum
theorem RowS.wt_le (xs : List Row) : RowS.wt xs ≤ 8 * RowS.bulk xs := sum_wt (fun a => by exact Row.wt_le a) xs
def RowSS.mark (xs : List (List Row)) (k : Int) : List (List Row) := mkUp RowS.mark RowS.wt xs k xs.length
def RowSS.wt (xs : List (List Row)) : Nat := (xs.map RowS.wt).sum
theorem RowSS.wt_le (xs : List (List Row)) : RowSS.wt xs ≤ 8 * RowSS.bulk xs := sum_wt (fun a => by have := RowS.wt_le a; omega) xs
def Store.mark (a : Store) (k : Int) : Store := { tables := RowSS.mark a.tables (k), next := k + (RowSS.wt a.tables : Int) }
def Store.wt (a : Store) : Nat := RowSS.wt a.tables + 1
theorem Store.wt_le (a : Store) : Store.wt a ≤ 8 * (1 + Store.bulk a) := by
  have h0 := RowSS.wt_le a.tables; unfold Store.wt Store.bulk; omega
def Store.markV (a : Store) (k : Int) : Store := { next := a.next, tables := RowSS.mark a.tables (k) }
def Store.wtV (a : Store) : Nat := RowSS.wt a.tables
theorem Store.wtV_le (a : Store) : Store.wtV a ≤ 8 * Store.bulk a := by
  have h0 := RowSS.wt_le a.tables; unfold Store.wtV Store.bulk; omega
def Cond.mark (a : Cond) (k : Int) : Cond := { column := mText (k), func := k + 1, value := AtomS.mark a.value (k + 1 + 1) }
def Cond.wt (a : Cond) : Nat := 1 + 1 + AtomS.wt a.value
theorem Cond.wt_le (a : Cond) : Cond.wt a ≤ 8 * (1 + Cond.bulk a) := by
  have h2 := AtomS.wt_le a.value; unfold Cond.wt Cond.bulk; omega
def Cond.markV (a : Cond) (k : Int) : Cond := { column := a.column, func := a.func, value := AtomS.mark a.value (k) }
def Cond.wtV (a : Cond) : Nat := AtomS.wt a.value
theorem Cond.wtV_le (a : Cond) : Cond.wtV a ≤ 8 * Cond.bulk a := by
  have h2 := AtomS.wt_le a.value; unfold Cond.wtV Cond.bulk; omega
def CondS.mark (xs : List Cond) (k : Int) : List Cond := mkUp Cond.mark Cond.wt xs k xs.length
def CondS.wt (xs : List Cond) : Nat := (xs.map Cond.wt).sum
theorem CondS.wt_le (xs : List Cond) : CondS.wt xs ≤ 8 * CondS.bulk xs := sum_wt (fun a => by exact Cond.wt_le a) xs
def Mut.mark (a : Mut) (k : Int) : Mut := { column := mText (k), func := k + 1, value := AtomS.mark a.value (k + 1 + 1) }
def Mut.wt (a : Mut) : Nat := 1 + 1 + AtomS.wt a.value
theorem Mut.wt_le (a : Mut) : Mut.wt a ≤ 8 * (1 + Mut.bulk a) := by
  have h2 := AtomS.wt_le a.value; unfold Mut.wt Mut.bulk; omega
def Mut.markV (a : Mut) (k : Int) : Mut := { column := a.column, func := a.func, value := AtomS.mark a.value (k) }
def Mut.wtV (a : Mut) : Nat := AtomS.wt a.value
theorem Mut.wtV_le (a : Mut) : Mut.wtV a ≤ 8 * Mut.bulk a := by
  have h2 := AtomS.wt_le a.value; unfold Mut.wtV Mut.bulk; omega
def MutS.mark (xs : List Mut) (k : Int) : List Mut := mkUp Mut.mark Mut.wt xs k xs.length
def MutS.wt (xs : List Mut) : Nat := (xs.map Mut.wt).sum
theorem MutS.wt_le (xs : List Mut) : MutS.wt xs ≤ 8 * MutS.bulk xs := sum_wt (fun a => by exact Mut.wt_le a) xs
def Result.mark (a : Result) (k : Int) : Result := { code := k, count := k + 1, id := k + 1 + 1, columns := StringS.mark a.columns (k + 1 + 1 + 1), rows := RowS.mark a.rows (k + 1 + 1 + 1 + (StringS.wt a.columns : Int)) }
def Result.wt (a : Result) : Nat := 1 + 1 + 1 + StringS.wt a.columns + RowS.wt a.rows
theorem Result.wt_le (a : Result) : Result.wt a ≤ 8 * (1 + Result.bulk a) := by
  have h3 := StringS.wt_le a.columns; have h4 := RowS.wt_le a.rows; unfold Result.wt Result.bulk; omega
def Result.markV (a : Result) (k : Int) : Result := { code := a.code, count := a.count, id := a.id, columns := StringS.mark a.columns (k), rows := RowS.mark a.rows (k + (StringS.wt a.columns : Int)) }
def Result.wtV (a : Result) : Nat := StringS.wt a.columns + RowS.wt a.rows
theorem Result.wtV_le (a : Result) : Result.wtV a ≤ 8 * Result.bulk a := by
  have h3 := StringS.wt_le a.columns; have h4 := RowS.wt_le a.rows; unfold Result.wtV Result.bulk; omega
end Go.Proofs.YtdleccpjejdgiaaGreatDoor
