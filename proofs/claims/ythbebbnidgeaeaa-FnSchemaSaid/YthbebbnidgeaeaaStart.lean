/- What a column has at first. No statement is proved here; no conditions. Written by a program (gen15.py). -/
import Derived.Test.YthbebbnidgeaeaaColumn
import Derived.Test.YthbebbnidgeaeaaOrder
import Derived.Test.YthbebbnidgeaeaaBox
import Derived.Test.YthbebbnidgeaeaaMarkT
import Derived.Test.YthbebbnidgeaeaaTo
namespace Go.Proofs.Ythbebbnidgeaeaa
open Go.ChangeShapes Go.WideShapes Go.ChangeAt Go.RowKit Go.Deep
set_option maxRecDepth 100000
set_option linter.unusedVariables false
set_option linter.unusedSimpArgs false

section
variable {α : Type} {R : Rd α} {size : Nat}
theorem nil_row {w : World} {A : Option Addr} {c : Nat} (hc : c ≤ 9223372036854775807) : SlR size R w [] [.slice A 0 c] [] := ⟨A, c, rfl, Nat.zero_le _, by unfold maxLen; omega, .inl ⟨rfl, rfl⟩⟩
theorem one_row {w : World} {g : Nat} {t : TypeId} {cs : List Value} {bk : List Nat} {x : α} (h : w.heap[g]? = some (.cells cs.toArray t (0, 0))) (hR : R w bk cs x) (hl : cs.length = size) : SlR size R w (g :: bk) [.slice (some ⟨g, 0, none⟩) 1 1] [x] := by
  refine ⟨_, 1, rfl, Nat.le_refl _, by unfold maxLen; omega, .inr ⟨g, 0, [bk], rfl, lt_of_cells h, rfl, by simp, fun k y b hx hbk => ?_⟩⟩
  match k with
  | 0 =>
    simp only [List.getElem?_cons_zero, Option.some.injEq] at hx hbk
    subst hx; subst hbk
    refine ⟨cs, hl, fun j u hu => ?_, hR⟩
    rw [blk_cells h]; simpa using hu
  | k + 1 => simp at hx
theorem Fr.one {w : World} {lo g : Nat} {cur : Array Value} {t : TypeId} (h : w.heap[g]? = some (.cells cur t (0, 0))) (hl : lo ≤ g) : Fr lo w [g] := ⟨by simp, fun b hb => by simp at hb; subst hb; exact ⟨hl, cur, t, h⟩⟩
end
def startN (c : Column) : Int := if c.kind = 1 then max c.low (min c.high 0) else 0
def startOf (c : Column) : List Atom := if c.min = 0 then [] else [⟨c.kind, startN c, ⟨#[]⟩⟩]
theorem startN_wf {c : Column} (h : c.fine) : (Lit.int .i64 (startN c)).wf = true := by
  have h1 := wf_bounds h.2.2.2.2.1
  have h2 := wf_bounds h.2.2.2.2.2.1
  have : -9223372036854775808 ≤ startN c ∧ startN c ≤ 9223372036854775807 := by unfold startN; split <;> omega
  simpa [Lit.wf, IntKind.min, IntKind.max, IntKind.signed, IntKind.bits] using this
theorem impl_start {w : World}  (c : Column) (hf : c.fine) :
    Calls Try.prog 133 #[.agg #[.string c.name, .int .i64 c.kind, .int .i64 c.min, .int .i64 c.max, .int .i64 c.low, .int .i64 c.high, .string c.ref, .bool c.strong]] w (ToS AtomSR w (startOf c)) := by
  have hbx := ((Below.refl w.heap.size w).alloc (Nat.le_refl _) (.cells #[.string c.name, .int .i64 c.kind, .int .i64 c.min, .int .i64 c.max, .int .i64 c.low, .int .i64 c.high, .string c.ref, .bool c.strong] 38))
  have q_c := blk_cells (blk_new w #[.string c.name, .int .i64 c.kind, .int .i64 c.min, .int .i64 c.max, .int .i64 c.low, .int .i64 c.high, .string c.ref, .bool c.strong] 38)
  rcases Bool.eq_false_or_eq_true (c.min == 0) with hm | hm
  · have hs : Hid (startOf c = []) := by show _ = _; unfold startOf; rw [if_pos (eq_of_beq hm)]
    go_enter Try.func133, Try.ntmps133
    go_wp2
    go_ret
    rw [hs.out]
    exact ⟨_, [], rfl, nil_row (by omega), Fr.nil _ _, hbx⟩
  have hs : Hid (startOf c = [⟨c.kind, startN c, ⟨#[]⟩⟩]) := by show _ = _; unfold startOf; rw [if_neg (by simpa using hm)]
  rcases Bool.eq_false_or_eq_true (c.kind == 1) with hk | hk
  · have hn : Hid (startN c = max c.low (min c.high 0)) := by show _ = _; unfold startN; rw [if_pos (eq_of_beq hk)]
    go_enter Try.func133, Try.ntmps133
    go_wp2
    refine bodyPost_ret (v := .slice (some ⟨w.heap.size + 1 + 1, 0, none⟩) 1 1) (by simp [results, Try.results133, go_sem]) rfl ?_
    rw [hs.out, hn.out]
    have hwn := startN_wf hf
    rw [hn.out] at hwn
    have hB := (hbx.alloc (by simp) (.cells #[.int .i64 c.kind, .int .i64 (max c.low (min c.high 0)), .string ⟨#[]⟩] 167)).alloc (by simp; omega) (.cells #[.int .i64 c.kind, .int .i64 (max c.low (min c.high 0)), .string ⟨#[]⟩] 167)
    have hblk : (((w.alloc (.cells #[.string c.name, .int .i64 c.kind, .int .i64 c.min, .int .i64 c.max, .int .i64 c.low, .int .i64 c.high, .string c.ref, .bool c.strong] 38)).alloc (.cells #[.int .i64 c.kind, .int .i64 (max c.low (min c.high 0)), .string ⟨#[]⟩] 167)).alloc (.cells #[.int .i64 c.kind, .int .i64 (max c.low (min c.high 0)), .string ⟨#[]⟩] 167)).heap[w.heap.size + 1 + 1]? = some (.cells #[.int .i64 c.kind, .int .i64 (max c.low (min c.high 0)), .string ⟨#[]⟩] 167 (0, 0)) := by simpa using blk_new ((w.alloc (.cells #[.string c.name, .int .i64 c.kind, .int .i64 c.min, .int .i64 c.max, .int .i64 c.low, .int .i64 c.high, .string c.ref, .bool c.strong] 38)).alloc (.cells #[.int .i64 c.kind, .int .i64 (max c.low (min c.high 0)), .string ⟨#[]⟩] 167)) #[.int .i64 c.kind, .int .i64 (max c.low (min c.high 0)), .string ⟨#[]⟩] 167
    exact ⟨_, [w.heap.size + 1 + 1], rfl, one_row (R := AtomR) (bk := []) (x := ⟨c.kind, max c.low (min c.high 0), ⟨#[]⟩⟩) hblk ⟨rfl, rfl, hf.2.1, hwn, Nat.zero_le _⟩ rfl, Fr.one hblk (by omega), hB⟩
  have hn : Hid (startN c = 0) := by show _ = _; unfold startN; rw [if_neg (by simpa using hk)]
  go_enter Try.func133, Try.ntmps133
  go_wp2
  refine bodyPost_ret (v := .slice (some ⟨w.heap.size + 1 + 1, 0, none⟩) 1 1) (by simp [results, Try.results133, go_sem]) rfl ?_
  rw [hs.out, hn.out]
  have hwn := startN_wf hf
  rw [hn.out] at hwn
  have hB := (hbx.alloc (by simp) (.cells #[.int .i64 c.kind, .int .i64 (0), .string ⟨#[]⟩] 167)).alloc (by simp; omega) (.cells #[.int .i64 c.kind, .int .i64 (0), .string ⟨#[]⟩] 167)
  have hblk : (((w.alloc (.cells #[.string c.name, .int .i64 c.kind, .int .i64 c.min, .int .i64 c.max, .int .i64 c.low, .int .i64 c.high, .string c.ref, .bool c.strong] 38)).alloc (.cells #[.int .i64 c.kind, .int .i64 (0), .string ⟨#[]⟩] 167)).alloc (.cells #[.int .i64 c.kind, .int .i64 (0), .string ⟨#[]⟩] 167)).heap[w.heap.size + 1 + 1]? = some (.cells #[.int .i64 c.kind, .int .i64 (0), .string ⟨#[]⟩] 167 (0, 0)) := by simpa using blk_new ((w.alloc (.cells #[.string c.name, .int .i64 c.kind, .int .i64 c.min, .int .i64 c.max, .int .i64 c.low, .int .i64 c.high, .string c.ref, .bool c.strong] 38)).alloc (.cells #[.int .i64 c.kind, .int .i64 (0), .string ⟨#[]⟩] 167)) #[.int .i64 c.kind, .int .i64 (0), .string ⟨#[]⟩] 167
  exact ⟨_, [w.heap.size + 1 + 1], rfl, one_row (R := AtomR) (bk := []) (x := ⟨c.kind, 0, ⟨#[]⟩⟩) hblk ⟨rfl, rfl, hf.2.1, hwn, Nat.zero_le _⟩ rfl, Fr.one hblk (by omega), hB⟩
theorem spec_l04Default {w : World}  (c : Column) (hf : c.fine) :
    Calls Try.prog 131 #[.agg #[.string c.name, .int .i64 c.kind, .int .i64 c.min, .int .i64 c.max, .int .i64 c.low, .int .i64 c.high, .string c.ref, .bool c.strong]] w (ToS AtomSR w (startOf c)) := by
  have hbx := ((Below.refl w.heap.size w).alloc (Nat.le_refl _) (.cells #[.string c.name, .int .i64 c.kind, .int .i64 c.min, .int .i64 c.max, .int .i64 c.low, .int .i64 c.high, .string c.ref, .bool c.strong] 38))
  have q_c := blk_cells (blk_new w #[.string c.name, .int .i64 c.kind, .int .i64 c.min, .int .i64 c.max, .int .i64 c.low, .int .i64 c.high, .string c.ref, .bool c.strong] 38)
  rcases Bool.eq_false_or_eq_true (c.min == 0) with hm | hm
  · have hs : Hid (startOf c = []) := by show _ = _; unfold startOf; rw [if_pos (eq_of_beq hm)]
    go_enter Try.func131, Try.ntmps131
    go_wp2
    go_ret
    rw [hs.out]
    exact ⟨_, [], rfl, nil_row (by omega), Fr.nil _ _, hbx.alloc (by simp) _⟩
  have hs : Hid (startOf c = [⟨c.kind, startN c, ⟨#[]⟩⟩]) := by show _ = _; unfold startOf; rw [if_neg (by simpa using hm)]
  rcases Bool.eq_false_or_eq_true (c.kind == 1) with hk | hk
  · have hn : Hid (startN c = max c.low (min c.high 0)) := by show _ = _; unfold startN; rw [if_pos (eq_of_beq hk)]
    go_enter Try.func131, Try.ntmps131
    go_wp2
    refine bodyPost_ret (v := .slice (some ⟨w.heap.size + 1 + 1, 0, none⟩) 1 1) (by simp [results, Try.results131, go_sem]) rfl ?_
    rw [hs.out, hn.out]
    have hwn := startN_wf hf
    rw [hn.out] at hwn
    have hB := (hbx.alloc (by simp) (.cells #[.int .i64 c.kind, .int .i64 (max c.low (min c.high 0)), .string ⟨#[]⟩] 167)).alloc (by simp; omega) (.cells #[.int .i64 c.kind, .int .i64 (max c.low (min c.high 0)), .string ⟨#[]⟩] 167)
    have hblk : (((w.alloc (.cells #[.string c.name, .int .i64 c.kind, .int .i64 c.min, .int .i64 c.max, .int .i64 c.low, .int .i64 c.high, .string c.ref, .bool c.strong] 38)).alloc (.cells #[.int .i64 c.kind, .int .i64 (max c.low (min c.high 0)), .string ⟨#[]⟩] 167)).alloc (.cells #[.int .i64 c.kind, .int .i64 (max c.low (min c.high 0)), .string ⟨#[]⟩] 167)).heap[w.heap.size + 1 + 1]? = some (.cells #[.int .i64 c.kind, .int .i64 (max c.low (min c.high 0)), .string ⟨#[]⟩] 167 (0, 0)) := by simpa using blk_new ((w.alloc (.cells #[.string c.name, .int .i64 c.kind, .int .i64 c.min, .int .i64 c.max, .int .i64 c.low, .int .i64 c.high, .string c.ref, .bool c.strong] 38)).alloc (.cells #[.int .i64 c.kind, .int .i64 (max c.low (min c.high 0)), .string ⟨#[]⟩] 167)) #[.int .i64 c.kind, .int .i64 (max c.low (min c.high 0)), .string ⟨#[]⟩] 167
    exact ⟨_, [w.heap.size + 1 + 1], rfl, one_row (R := AtomR) (bk := []) (x := ⟨c.kind, max c.low (min c.high 0), ⟨#[]⟩⟩) hblk ⟨rfl, rfl, hf.2.1, hwn, Nat.zero_le _⟩ rfl, Fr.one hblk (by omega), hB⟩
  have hn : Hid (startN c = 0) := by show _ = _; unfold startN; rw [if_neg (by simpa using hk)]
  go_enter Try.func131, Try.ntmps131
  go_wp2
  refine bodyPost_ret (v := .slice (some ⟨w.heap.size + 1 + 1, 0, none⟩) 1 1) (by simp [results, Try.results131, go_sem]) rfl ?_
  rw [hs.out, hn.out]
  have hwn := startN_wf hf
  rw [hn.out] at hwn
  have hB := (hbx.alloc (by simp) (.cells #[.int .i64 c.kind, .int .i64 (0), .string ⟨#[]⟩] 167)).alloc (by simp; omega) (.cells #[.int .i64 c.kind, .int .i64 (0), .string ⟨#[]⟩] 167)
  have hblk : (((w.alloc (.cells #[.string c.name, .int .i64 c.kind, .int .i64 c.min, .int .i64 c.max, .int .i64 c.low, .int .i64 c.high, .string c.ref, .bool c.strong] 38)).alloc (.cells #[.int .i64 c.kind, .int .i64 (0), .string ⟨#[]⟩] 167)).alloc (.cells #[.int .i64 c.kind, .int .i64 (0), .string ⟨#[]⟩] 167)).heap[w.heap.size + 1 + 1]? = some (.cells #[.int .i64 c.kind, .int .i64 (0), .string ⟨#[]⟩] 167 (0, 0)) := by simpa using blk_new ((w.alloc (.cells #[.string c.name, .int .i64 c.kind, .int .i64 c.min, .int .i64 c.max, .int .i64 c.low, .int .i64 c.high, .string c.ref, .bool c.strong] 38)).alloc (.cells #[.int .i64 c.kind, .int .i64 (0), .string ⟨#[]⟩] 167)) #[.int .i64 c.kind, .int .i64 (0), .string ⟨#[]⟩] 167
  exact ⟨_, [w.heap.size + 1 + 1], rfl, one_row (R := AtomR) (bk := []) (x := ⟨c.kind, 0, ⟨#[]⟩⟩) hblk ⟨rfl, rfl, hf.2.1, hwn, Nat.zero_le _⟩ rfl, Fr.one hblk (by omega), hB⟩
def defAns (c : Column) : List Atom × Int := if colOK c then (startOf c, 0) else ([], 1)
theorem defAns_wt (c : Column) : AtomS.wt (defAns c).1 ≤ 3 := by
  unfold defAns startOf; split
  · split <;> simp [AtomS.wt, Atom.wt]
  · simp [AtomS.wt]
end Go.Proofs.Ythbebbnidgeaeaa
