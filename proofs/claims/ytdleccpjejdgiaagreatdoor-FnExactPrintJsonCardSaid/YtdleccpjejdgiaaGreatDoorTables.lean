/- Tables and schemas: what is found by a name. No statement is proved here; no conditions. -/
import Derived.Test.YtdleccpjejdgiaaGreatDoorColumn
import Derived.Test.YtdleccpjejdgiaaGreatDoorFunc
import Derived.Test.YtdleccpjejdgiaaGreatDoorOwn
namespace Go.Proofs.YtdleccpjejdgiaaGreatDoor
open Go.ChangeShapes Go.WideShapes Go.ChangeAt Go.RowKit Go.Deep
set_option maxRecDepth 100000
set_option linter.unusedVariables false

abbrev Column.cells (c : Column) : Array Value := #[.string c.name, .int .i64 c.kind, .int .i64 c.min, .int .i64 c.max, .int .i64 c.low, .int .i64 c.high, .string c.ref, .bool c.strong]
def colIdx (cs : List Column) (name : ByteArray) : Int := idxF (fun c : Column => eqS c.name name) cs
def tblIdx (ts : List Table) (name : ByteArray) : Int := idxF (fun t : Table => eqS t.name name) ts
/-- A block that is made and then filled from its first cell on. -/
theorem stored {w w1 : World} {Z : Array Value} {t : TypeId} {es : List Value} (hz : Z.size = es.length)
    (hb : Below (setMany (w.alloc (.cells Z t)) w.heap.size 0 es).heap.size (setMany (w.alloc (.cells Z t)) w.heap.size 0 es) w1) :
    (∀ j, w1.cell? ⟨w.heap.size, j, none⟩ = es.toArray[j]?) ∧ Below w.heap.size w w1 := by
  obtain ⟨cs', h1, h2, h3, h4⟩ := setMany_at es 0 (w.alloc (.cells Z t)) Z (blk_new w Z t) (by omega)
  refine ⟨fun j => ?_, nxt' (setMany_below es 0 _ (Nat.le_refl _) ((Below.refl w.heap.size w).alloc (Nat.le_refl _) _)) hb (by rw [setMany_size]; simp)⟩
  rw [blk_cells (blk_on h1 hb)]
  rcases Nat.lt_or_ge j es.length with h | h
  · have := h3 j es[j] (List.getElem?_eq_getElem h)
    rw [Nat.zero_add] at this
    rw [this]; simp [h]
  · rw [Array.getElem?_eq_none (by omega), Array.getElem?_eq_none (by simpa using h)]
def upTo (f : Nat → Bool) (n : Nat) : Bool := (List.range n).all f
theorem upTo_zero (f : Nat → Bool) : upTo f 0 = true := rfl
theorem upTo_succ (f : Nat → Bool) (n : Nat) : upTo f (n + 1) = (upTo f n && f n) := by unfold upTo; rw [List.range_succ, List.all_append]; simp
theorem upTo_bad {f : Nat → Bool} {n k : Nat} (hk : k < n) (h : f k = false) : upTo f n = false := by
  unfold upTo; rw [List.all_eq_false]; exact ⟨k, List.mem_range.2 hk, by simp [h]⟩
theorem upTo_at {f : Nat → Bool} {n k : Nat} (h : upTo f n = true) (hk : k < n) : f k = true := by
  unfold upTo at h; exact List.all_eq_true.1 h k (List.mem_range.2 hk)
theorem upTo_iff {f : Nat → Bool} {n : Nat} : upTo f n = true ↔ ∀ k, k < n → f k = true := by
  unfold upTo; simp [List.all_eq_true]
def nameFree (cs : List Column) (i : Nat) : Bool := upTo (fun k => !eqS (cs.getD k default).name (cs.getD i default).name) i
def colStep (cs : List Column) (i : Nat) : Bool := colOK (cs.getD i default) && nameFree cs i
def uniStep (n : Nat) (u : List Int) (i : Nat) : Bool := inB (u.getD i 0) 0 ((n : Int) - 1) && (decide (i = 0) || decide (u.getD (i - 1) 0 < u.getD i 0))
def tblOK (t : Table) : Bool := nameOK t.name && (inB t.columns.length 1 6 && (decide (t.unique.length ≤ 6) && (upTo (colStep t.columns) t.columns.length && upTo (uniStep t.columns.length t.unique) t.unique.length)))
theorem get_at {α : Type} [Inhabited α] (xs : List α) (k : Nat) (h : k < xs.length) : xs.getD k default = xs[k] := by simp [List.getD, h]
theorem get_at0 (xs : List Int) (k : Nat) (h : k < xs.length) : xs.getD k 0 = xs[k] := by simp [List.getD, h]
theorem eqS_self (s : ByteArray) : eqS s s = true := eqS_iff.2 rfl
theorem nameFree_eq (cs : List Column) (i : Nat) (h : i < cs.length) : (colIdx cs cs[i].name == (i : Int)) = nameFree cs i := by
  cases hf : nameFree cs i
  · have hb : ∃ k, k < i ∧ eqS (cs.getD k default).name (cs.getD i default).name = true := by
      false_or_by_contra
      rename_i hne
      have : nameFree cs i = true := upTo_iff.2 fun k hk => by
        cases he : eqS (cs.getD k default).name (cs.getD i default).name
        · rfl
        · exact absurd ⟨k, hk, he⟩ hne
      rw [this] at hf; cases hf
    obtain ⟨k, hk, he⟩ := hb
    rw [get_at cs k (by omega), get_at cs i h] at he
    have h1 : colIdx cs cs[i].name ≤ k := by
      unfold colIdx idxF
      rw [if_pos (List.any_eq_true.2 ⟨cs[k], List.getElem_mem (by omega), he⟩)]
      have : cs.findIdx (fun c => eqS c.name cs[i].name) ≤ k := Nat.not_lt.1 fun hlt => by have := List.not_of_lt_findIdx hlt; simp only [he] at this; simp at this
      omega
    simp only [beq_eq_false_iff_ne]; omega
  · have h1 := idxF_at (p := fun c : Column => eqS c.name cs[i].name) h (fun j hj hjk => by
      have := upTo_at hf hjk
      simp only [get_at cs j hj, get_at cs i h] at this
      simpa using this) (eqS_self _)
    unfold colIdx; rw [h1]; simp
theorem uni_le {n : Nat} {u : List Int} (h : upTo (uniStep n u) u.length = true) (hn : 1 ≤ n) : u.length ≤ n := by
  have hge : ∀ i, i < u.length → (i : Int) ≤ u.getD i 0 := by
    intro i
    induction i with
    | zero => intro hi; have := upTo_at h hi; unfold uniStep at this; rw [Bool.and_eq_true] at this; have h1 := inB_iff.1 this.1; omega
    | succ i ih =>
      intro hi
      have h0 := ih (by omega)
      have := upTo_at h hi
      unfold uniStep at this
      simp only [Nat.add_sub_cancel, Bool.and_eq_true, Bool.or_eq_true, decide_eq_true_eq] at this
      omega
  by_cases hz : u.length = 0
  · omega
  · have h1 := hge (u.length - 1) (by omega)
    have := upTo_at h (show u.length - 1 < u.length by omega)
    unfold uniStep at this; rw [Bool.and_eq_true] at this
    have h2 := inB_iff.1 this.1
    omega
theorem tblOK_long {t : Table} (h1 : inB t.columns.length 1 6 = true) (h : t.columns.length < t.unique.length) : tblOK t = false := by
  unfold tblOK
  have : upTo (uniStep t.columns.length t.unique) t.unique.length = false := by
    cases hu : upTo (uniStep t.columns.length t.unique) t.unique.length
    · rfl
    · have := uni_le hu (by have := inB_iff.1 h1; omega); omega
  rw [this]; simp
end Go.Proofs.YtdleccpjejdgiaaGreatDoor
