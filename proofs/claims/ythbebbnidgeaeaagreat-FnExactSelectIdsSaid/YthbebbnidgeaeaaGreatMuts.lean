/- Mutations and their codes, in the program and in the reference. No statement is proved here; no conditions. Written by a program (gen10.py). -/
import Derived.Test.YthbebbnidgeaeaaGreatFitRow
import Derived.Test.YthbebbnidgeaeaaGreatBox
namespace Go.Proofs.YthbebbnidgeaeaaGreat
open Go.ChangeShapes Go.WideShapes Go.ChangeAt Go.RowKit Go.Deep
set_option maxRecDepth 100000
set_option linter.unusedVariables false
set_option linter.unusedSimpArgs false

def kind0 (d : List Atom) : Int := (d.getD 0 default).kind
theorem kind0_at {d : List Atom} (h : 0 < d.length) : kind0 d = d[0].kind := by unfold kind0; rw [getD_at d 0 h]
def muType (m : Mut) (k : Int) : Int := if 0 < m.value.length ∧ ¬ kind0 m.value = k then 9 else if m.func ≤ 5 ∧ (¬ k = 1 ∨ ¬ (m.value.length : Int) = 1) then 9 else 0
def colAt (t : Table) (name : ByteArray) : Column := t.columns.getD (colIdx t.columns name).toNat default
def mutCode (t : Table) (m : Mut) : Int := if colIdx t.columns m.column < 0 then 11 else muType m (colAt t m.column).kind
def mutOK (m : Mut) : Bool := inB m.func 1 7 && (datumOK m.value && decide ((m.column.size : Int) ≤ 40))
def mutAns (t : Table) (m : Mut) : Int × Int := cond (tblOK t && mutOK m) (mutCode t m, 0) (0, 1)
theorem colIdx_lt {cs : List Column} {s : ByteArray} (h : ¬ colIdx cs s < 0) : ∃ k : Nat, k < cs.length ∧ colIdx cs s = k := by
  unfold colIdx idxF at h ⊢
  by_cases ha : cs.any (fun c => eqS c.name s) = true
  · rw [if_pos ha]
    obtain ⟨x, hx, hp⟩ := List.any_eq_true.1 ha
    exact ⟨_, List.findIdx_lt_length_of_exists ⟨x, hx, hp⟩, rfl⟩
  · rw [if_neg ha] at h; omega
theorem clo_areShort {w : World} (s : ByteArray) (hs : s.size ≤ 9223372036854775807) :
    Calls Tryz.prog 167 #[.string s] w fun e w' => e = .returned (.bool (decide ((40 : Int) < s.size))) ∧ Below w.heap.size w w' := by
  go_enter Tryz.func167, Tryz.ntmps167
  go_wp2
  go_ret
  exact ⟨rfl, Below.refl _ _⟩
theorem impl_areShort {w : World} {bs : List Nat} {v : Value} {xs : List ByteArray} (h : StringSR w bs [v] xs) :
    Calls Tryz.prog 136 #[v] w fun e w' => e = .returned (.bool (!xs.any fun s => decide ((40 : Int) < s.size))) ∧ Below w.heap.size w w' := by
  have h0 := h
  obtain ⟨A, c, rfl, hlc, hcm, hel⟩ := h.use
  clear hel
  go_enter Tryz.func136, Tryz.ntmps136
  go_wp2_with fail
  refine (slices_ContainsFuncStringS h0 (fun s => decide ((40 : Int) < s.size)) 167 #[] (enters_of Tryz.func167 (by kernel_rfl) rfl) (fun k hk bk es hR W hW => by obtain ⟨_, hes, hs⟩ := hR; injection hes with hes _; subst hes; exact clo_areShort _ hs)).mono ?_; rintro e w1 ⟨rfl, hb1⟩
  go_wp2_with fail
  go_ret
  exact ⟨rfl, hb1⟩
theorem one_str {w : World} {g : Nat} {t : TypeId} {s : ByteArray} (h : w.heap[g]? = some (.cells #[.string s] t (0, 0))) (hs : s.size ≤ 9223372036854775807) : StringSR w [g] [.slice (some ⟨g, 0, none⟩) 1 1] [s] := by
  refine ⟨_, 1, rfl, Nat.le_refl _, by unfold maxLen; omega, .inr ⟨g, 0, [[]], rfl, lt_of_cells h, rfl, rfl, fun k x bk hx hbk => ?_⟩⟩
  match k with
  | 0 =>
    simp only [List.getElem?_cons_zero, Option.some.injEq] at hx hbk
    subst hx; subst hbk
    refine ⟨[.string s], rfl, fun j u hu => ?_, rfl, rfl, hs⟩
    match j with
    | 0 =>
      simp only [List.getElem?_cons_zero, Option.some.injEq] at hu
      subst hu
      rw [blk_cells h]; rfl
    | j + 1 => simp at hu
  | k + 1 => simp at hx
theorem short_one (s : ByteArray) : (!([s].any fun s => decide ((40 : Int) < s.size))) = decide ((s.size : Int) ≤ 40) := by
  simp only [List.any_cons, List.any_nil, Bool.or_false]
  by_cases h : (40 : Int) < s.size
  · rw [decide_eq_true h, decide_eq_false (by omega)]; rfl
  · rw [decide_eq_false h, decide_eq_true (by omega)]; rfl
theorem colAt_at {t : Table} {s : ByteArray} {k : Nat} (hk : k < t.columns.length) (he : colIdx t.columns s = k) : colAt t s = t.columns[k] := by
  unfold colAt; rw [he, Int.toNat_natCast, get_at _ k hk]
end Go.Proofs.YthbebbnidgeaeaaGreat
