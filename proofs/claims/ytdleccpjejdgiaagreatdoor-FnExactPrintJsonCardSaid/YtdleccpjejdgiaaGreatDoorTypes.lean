/- The types of the program as plain data, and how they read in memory. No statement is proved here; no conditions. Written by a program (gen.py). -/
import Derived.Test.YtdleccpjejdgiaaGreatDoorOpen
namespace Go.Proofs.YtdleccpjejdgiaaGreatDoor
open Go.ChangeShapes Go.WideShapes Go.ChangeAt Go.RowKit Go.Deep
set_option maxRecDepth 100000
set_option linter.unusedVariables false

abbrev IntSR : Rd (List Int) := SlR 1 IntR
theorem IntSR.good : Good IntSR := SlR.good IntR.good
def IntS.bulk (xs : List Int) : Nat := xs.length
theorem IntSR.opens {H : Type} {enc : TypeId × Value → H} {w : World} {base : Nat} {spare : Nat → Bool} {held : Bool} : Opens enc Tryz.prog w base spare held 141 IntSR :=
  opens_slice Tryz.underlying141 (e := 3) (by kernel_rfl) (by decide) (opens_int Tryz.underlying3)

abbrev StringSR : Rd (List ByteArray) := SlR 1 StrR
theorem StringSR.good : Good StringSR := SlR.good StrR.good
def StringS.bulk (xs : List ByteArray) : Nat := bulkL (fun s : ByteArray => s.size) xs
theorem StringSR.opens {H : Type} {enc : TypeId × Value → H} {w : World} {base : Nat} {spare : Nat → Bool} {held : Bool} : Opens enc Tryz.prog w base spare held 22 StringSR :=
  opens_slice Tryz.underlying22 (e := 9) (by kernel_rfl) (by decide) (opens_string Tryz.underlying9)

structure Atom where
  kind : Int
  n : Int
  t : ByteArray
  deriving Inhabited, DecidableEq
def Atom.fine (a : Atom) : Prop := (Lit.int .i64 a.kind).wf = true ∧ (Lit.int .i64 a.n).wf = true ∧ a.t.size ≤ 9223372036854775807
def AtomR : Rd Atom := fun _ bs cs a => bs = [] ∧ cs = [.int .i64 a.kind, .int .i64 a.n, .string a.t] ∧ a.fine
theorem AtomR.good : Good AtomR := ⟨(by rintro w bs cs x ⟨rfl, _⟩ b hb; cases hb), fun h _ => h⟩
def Atom.bulk (a : Atom) : Nat := a.t.size
abbrev AtomSR : Rd (List Atom) := SlR 3 AtomR
theorem AtomSR.good : Good AtomSR := SlR.good AtomR.good
def AtomS.bulk (xs : List Atom) : Nat := bulkL Atom.bulk xs
abbrev AtomSSR : Rd (List (List Atom)) := SlR 1 AtomSR
theorem AtomSSR.good : Good AtomSSR := SlR.good AtomSR.good
def AtomSS.bulk (xs : List (List Atom)) : Nat := bulkL AtomS.bulk xs
structure Column where
  name : ByteArray
  kind : Int
  min : Int
  max : Int
  low : Int
  high : Int
  ref : ByteArray
  strong : Bool
  deriving Inhabited, DecidableEq
def Column.fine (a : Column) : Prop := a.name.size ≤ 9223372036854775807 ∧ (Lit.int .i64 a.kind).wf = true ∧ (Lit.int .i64 a.min).wf = true ∧ (Lit.int .i64 a.max).wf = true ∧ (Lit.int .i64 a.low).wf = true ∧ (Lit.int .i64 a.high).wf = true ∧ a.ref.size ≤ 9223372036854775807
def ColumnR : Rd Column := fun _ bs cs a => bs = [] ∧ cs = [.string a.name, .int .i64 a.kind, .int .i64 a.min, .int .i64 a.max, .int .i64 a.low, .int .i64 a.high, .string a.ref, .bool a.strong] ∧ a.fine
theorem ColumnR.good : Good ColumnR := ⟨(by rintro w bs cs x ⟨rfl, _⟩ b hb; cases hb), fun h _ => h⟩
def Column.bulk (a : Column) : Nat := a.name.size + a.ref.size
abbrev ColumnSR : Rd (List Column) := SlR 8 ColumnR
theorem ColumnSR.good : Good ColumnSR := SlR.good ColumnR.good
def ColumnS.bulk (xs : List Column) : Nat := bulkL Column.bulk xs
structure Table where
  name : ByteArray
  columns : List Column
  unique : List Int
  root : Bool
  deriving Inhabited, DecidableEq
def Table.fine (a : Table) : Prop := a.name.size ≤ 9223372036854775807
def TableR : Rd Table := fun w bs cs a => ∃ v1 b1, ∃ v2 b2, bs = b1 ++ b2 ∧ cs = [.string a.name, v1, v2, .bool a.root] ∧ a.fine ∧ ColumnSR w b1 [v1] a.columns ∧ IntSR w b2 [v2] a.unique
theorem TableR.good : Good TableR where
  lt := by
    rintro w bs cs a ⟨v1, b1, v2, b2, rfl, rfl, hf, h1, h2⟩ b hb
    simp only [List.mem_append] at hb
    rcases hb with hb | hb
    · exact ColumnSR.good.lt h1 b hb
    · exact IntSR.good.lt h2 b hb
  keep := by
    rintro w w' bs cs a ⟨v1, b1, v2, b2, rfl, rfl, hf, h1, h2⟩ hh
    exact ⟨v1, _, v2, _, rfl, rfl, hf, ColumnSR.good.keep h1 fun b hb => hh b (by simp [hb]), IntSR.good.keep h2 fun b hb => hh b (by simp [hb])⟩
def Table.bulk (a : Table) : Nat := a.name.size + ColumnS.bulk a.columns + IntS.bulk a.unique
abbrev TableSR : Rd (List Table) := SlR 4 TableR
theorem TableSR.good : Good TableSR := SlR.good TableR.good
def TableS.bulk (xs : List Table) : Nat := bulkL Table.bulk xs
structure Schema where
  tables : List Table
  deriving Inhabited, DecidableEq
def Schema.fine (a : Schema) : Prop := True
def SchemaR : Rd Schema := fun w bs cs a => ∃ v0 b0, bs = b0 ∧ cs = [v0] ∧ a.fine ∧ TableSR w b0 [v0] a.tables
theorem SchemaR.good : Good SchemaR where
  lt := by
    rintro w bs cs a ⟨v0, b0, rfl, rfl, hf, h0⟩ b hb
    exact TableSR.good.lt h0 b hb
  keep := by
    rintro w w' bs cs a ⟨v0, b0, rfl, rfl, hf, h0⟩ hh
    exact ⟨v0, _, rfl, rfl, hf, TableSR.good.keep h0 fun b hb => hh b hb⟩
def Schema.bulk (a : Schema) : Nat := TableS.bulk a.tables
structure Row where
  id : Int
  cells : List (List Atom)
  deriving Inhabited, DecidableEq
def Row.fine (a : Row) : Prop := (Lit.int .i64 a.id).wf = true
def RowR : Rd Row := fun w bs cs a => ∃ v1 b1, bs = b1 ∧ cs = [.int .i64 a.id, v1] ∧ a.fine ∧ AtomSSR w b1 [v1] a.cells
theorem RowR.good : Good RowR where
  lt := by
    rintro w bs cs a ⟨v1, b1, rfl, rfl, hf, h1⟩ b hb
    exact AtomSSR.good.lt h1 b hb
  keep := by
    rintro w w' bs cs a ⟨v1, b1, rfl, rfl, hf, h1⟩ hh
    exact ⟨v1, _, rfl, rfl, hf, AtomSSR.good.keep h1 fun b hb => hh b hb⟩
def Row.bulk (a : Row) : Nat := AtomSS.bulk a.cells
abbrev RowSR : Rd (List Row) := SlR 2 RowR
theorem RowSR.good : Good RowSR := SlR.good RowR.good
def RowS.bulk (xs : List Row) : Nat := bulkL Row.bulk xs
abbrev RowSSR : Rd (List (List Row)) := SlR 1 RowSR
theorem RowSSR.good : Good RowSSR := SlR.good RowSR.good
def RowSS.bulk (xs : List (List Row)) : Nat := bulkL RowS.bulk xs
structure Store where
  tables : List (List Row)
  next : Int
  deriving Inhabited, DecidableEq
def Store.fine (a : Store) : Prop := (Lit.int .i64 a.next).wf = true
def StoreR : Rd Store := fun w bs cs a => ∃ v0 b0, bs = b0 ∧ cs = [v0, .int .i64 a.next] ∧ a.fine ∧ RowSSR w b0 [v0] a.tables
theorem StoreR.good : Good StoreR where
  lt := by
    rintro w bs cs a ⟨v0, b0, rfl, rfl, hf, h0⟩ b hb
    exact RowSSR.good.lt h0 b hb
  keep := by
    rintro w w' bs cs a ⟨v0, b0, rfl, rfl, hf, h0⟩ hh
    exact ⟨v0, _, rfl, rfl, hf, RowSSR.good.keep h0 fun b hb => hh b hb⟩
def Store.bulk (a : Store) : Nat := RowSS.bulk a.tables
structure Cond where
  column : ByteArray
  func : Int
  value : List Atom
  deriving Inhabited, DecidableEq
def Cond.fine (a : Cond) : Prop := a.column.size ≤ 9223372036854775807 ∧ (Lit.int .i64 a.func).wf = true
def CondR : Rd Cond := fun w bs cs a => ∃ v2 b2, bs = b2 ∧ cs = [.string a.column, .int .i64 a.func, v2] ∧ a.fine ∧ AtomSR w b2 [v2] a.value
theorem CondR.good : Good CondR where
  lt := by
    rintro w bs cs a ⟨v2, b2, rfl, rfl, hf, h2⟩ b hb
    exact AtomSR.good.lt h2 b hb
  keep := by
    rintro w w' bs cs a ⟨v2, b2, rfl, rfl, hf, h2⟩ hh
    exact ⟨v2, _, rfl, rfl, hf, AtomSR.good.keep h2 fun b hb => hh b hb⟩
def Cond.bulk (a : Cond) : Nat := a.column.size + AtomS.bulk a.value
abbrev CondSR : Rd (List Cond) := SlR 3 CondR
theorem CondSR.good : Good CondSR := SlR.good CondR.good
def CondS.bulk (xs : List Cond) : Nat := bulkL Cond.bulk xs
structure Mut where
  column : ByteArray
  func : Int
  value : List Atom
  deriving Inhabited, DecidableEq
def Mut.fine (a : Mut) : Prop := a.column.size ≤ 9223372036854775807 ∧ (Lit.int .i64 a.func).wf = true
def MutR : Rd Mut := fun w bs cs a => ∃ v2 b2, bs = b2 ∧ cs = [.string a.column, .int .i64 a.func, v2] ∧ a.fine ∧ AtomSR w b2 [v2] a.value
theorem MutR.good : Good MutR where
  lt := by
    rintro w bs cs a ⟨v2, b2, rfl, rfl, hf, h2⟩ b hb
    exact AtomSR.good.lt h2 b hb
  keep := by
    rintro w w' bs cs a ⟨v2, b2, rfl, rfl, hf, h2⟩ hh
    exact ⟨v2, _, rfl, rfl, hf, AtomSR.good.keep h2 fun b hb => hh b hb⟩
def Mut.bulk (a : Mut) : Nat := a.column.size + AtomS.bulk a.value
abbrev MutSR : Rd (List Mut) := SlR 3 MutR
theorem MutSR.good : Good MutSR := SlR.good MutR.good
def MutS.bulk (xs : List Mut) : Nat := bulkL Mut.bulk xs
structure Result where
  code : Int
  count : Int
  id : Int
  columns : List ByteArray
  rows : List Row
  deriving Inhabited, DecidableEq
def Result.fine (a : Result) : Prop := (Lit.int .i64 a.code).wf = true ∧ (Lit.int .i64 a.count).wf = true ∧ (Lit.int .i64 a.id).wf = true
def ResultR : Rd Result := fun w bs cs a => ∃ v3 b3, ∃ v4 b4, bs = b3 ++ b4 ∧ cs = [.int .i64 a.code, .int .i64 a.count, .int .i64 a.id, v3, v4] ∧ a.fine ∧ StringSR w b3 [v3] a.columns ∧ RowSR w b4 [v4] a.rows
theorem ResultR.good : Good ResultR where
  lt := by
    rintro w bs cs a ⟨v3, b3, v4, b4, rfl, rfl, hf, h3, h4⟩ b hb
    simp only [List.mem_append] at hb
    rcases hb with hb | hb
    · exact StringSR.good.lt h3 b hb
    · exact RowSR.good.lt h4 b hb
  keep := by
    rintro w w' bs cs a ⟨v3, b3, v4, b4, rfl, rfl, hf, h3, h4⟩ hh
    exact ⟨v3, _, v4, _, rfl, rfl, hf, StringSR.good.keep h3 fun b hb => hh b (by simp [hb]), RowSR.good.keep h4 fun b hb => hh b (by simp [hb])⟩
def Result.bulk (a : Result) : Nat := StringS.bulk a.columns + RowS.bulk a.rows
end Go.Proofs.YtdleccpjejdgiaaGreatDoor
