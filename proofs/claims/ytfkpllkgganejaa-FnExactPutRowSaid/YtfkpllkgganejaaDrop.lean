/- DropRow, in the program and in the reference. No statement is proved here; no conditions. Written by a program (gen24.py). -/
import Derived.Test.YtfkpllkgganejaaRowAt
import Derived.Test.YtfkpllkgganejaaDelR
import Derived.Test.YtfkpllkgganejaaDrawn
import Derived.Shelf.Abstract
namespace Go.Proofs.Ytfkpllkgganejaa
open Go.ChangeShapes Go.WideShapes Go.ChangeAt Go.RowKit Go.Deep
set_option maxRecDepth 100000
set_option linter.unusedVariables false
set_option linter.unusedSimpArgs false

theorem impl_hasRow {w : World} {bs : List Nat} {cs : List Value} {x : Store} (H : StoreR w bs cs x) {m : Nat} (hm : m < x.tables.length) (id : Int) (hr : rising x.tables[m] = true) (hn : x.tables[m].length ≤ 1048576) :
    Calls Try.prog 26 #[.agg cs.toArray, .int .i64 m, .int .i64 id] w fun e w' => e = .returned (.bool (hasId x.tables[m] id)) ∧ Below w.heap.size w w' := by
  have H0 := H
  obtain ⟨v0, b0, rfl, rfl, hf, r0⟩ := H
  obtain ⟨A, c, rfl, hlc, hcm, hel⟩ := r0.use
  have hbx := (Below.refl w.heap.size w).alloc (Nat.le_refl _) (.cells #[.slice A x.tables.length c, .int .i64 x.next] 32)
  have q_x := blk_cells (blk_new w #[.slice A x.tables.length c, .int .i64 x.next] 32)
  obtain ⟨gb, go, gbk, ges, rfl, ghbl, ghcl, ghcell, gR, ghbk⟩ := hel m hm
  obtain ⟨gA, gc, ghlc, rfl⟩ : ∃ A0 c0, x.tables[m].length ≤ c0 ∧ ges = [.slice A0 x.tables[m].length c0] := by obtain ⟨A0, c0, h, h2, _⟩ := gR; exact ⟨A0, c0, h2, h⟩
  have g_0 := (hbx.cell (p := ⟨gb, _, none⟩) ghbl).trans (ghcell 0 _ rfl)
  simp only [Nat.add_zero, Nat.mul_one] at g_0
  clear hel ghcell ghcl
  go_enter Try.func26, Try.ntmps26
  go_wp2_with fail
  refine (impl_rowAt (RowSR.good.nxt hbx gR) id hr hn).mono ?_; rintro e w1 ⟨rfl, hb1⟩
  go_wp2_with fail
  go_ret
  exact ⟨rfl, nxt hbx hb1⟩
def dropAns (x : Store) (n id : Int) : Store × Int := if tblCode x n = 0 then cond (hasId (tabOf x n) id) (⟨x.tables.set n.toNat ((tabOf x n).filter fun r => !(r.id == id)), x.next⟩, 0) (x, 5) else (⟨[], 0⟩, tblCode x n)
theorem zeroStore {w : World} : StoreR w [] [.slice none 0 0, .int .i64 0] ⟨[], 0⟩ := ⟨_, [], rfl, rfl, (rfl : (Lit.int .i64 0).wf = true), nil_row (by omega)⟩
theorem wf_next {x : Store} (h : x.fine) : (Lit.int .i64 x.next).wf = true := h
theorem Below.mono' {w w' : World} {n : Nat} (h : Below n w w') (hn : w.heap.size = n) : Below w.heap.size w w' := by subst hn; exact h
theorem Gr.made' {α : Type} {R : Rd α} {size : Nat} {e : TypeId} {w : World} {n : Nat} (h : w.heap.size = n) : Gr size R e n (w.alloc (.cells #[] e)) (.slice (some ⟨n, 0, none⟩) 0 0) [] [] := by subst h; exact Gr.made w #[] 0 (Nat.le_refl _) (by simp [maxLen]) (by simp)
/-- 's[k:]': where it begins hangs on whether anything is left. -/
theorem SlR.drop2 {α : Type} {R : Rd α} {size : Nat} {w : World} {bs : List Nat} {b o n c : Nat} {xs : List α} (h : SlR size R w bs [.slice (some ⟨b, o, none⟩) n c] xs) {k : Nat} (hk : k ≤ xs.length) :
    ∃ A bs', (if c = k then some ⟨b, o, none⟩ else some ⟨b, o + k * size, none⟩ : Option Addr) = A ∧ SlR size R w bs' [.slice A (xs.length - k) (c - k)] (xs.drop k) ∧ ∀ b ∈ bs', b ∈ bs := by
  by_cases hc : c = k
  · obtain ⟨A', c', hv, h1, h2, _⟩ := h
    obtain ⟨rfl, rfl, rfl⟩ : some ⟨b, o, none⟩ = A' ∧ n = xs.length ∧ c = c' := by simpa using hv
    have h0 : xs.drop k = [] := List.drop_eq_nil_of_le (by omega)
    exact ⟨some ⟨b, o, none⟩, [], if_pos hc, ⟨some ⟨b, o, none⟩, c - k, by rw [List.length_drop], by rw [List.length_drop]; omega, by omega, .inl ⟨h0, rfl⟩⟩, fun b hb => by cases hb⟩
  · obtain ⟨bs', h1, h2⟩ := h.drop hk
    exact ⟨_, bs', if_neg hc, h1, h2⟩
theorem RowR.one : ∀ (w : World) bk cs (y : Row), RowR w bk cs y → ∀ u ∈ cs, u.oneCell' = true := by
  rintro w bk cs y ⟨v, b, rfl, rfl, _, r⟩ u hu
  obtain ⟨A, c, rfl, _⟩ := r.use
  simp at hu
  rcases hu with rfl | rfl <;> rfl
theorem size_set (w : World) (p : Addr) (u : Value) : (w.setCell p u).heap.size = w.heap.size := by simp [World.setCell]
theorem filter_lb {l : List Row} {id : Int} (hr : rising l = true) (h : hasId l id = true) : l.filter (fun r => !(r.id == id)) = l.take (lbOf l id) ++ l.drop (lbOf l id + 1) := by
  obtain ⟨_, hlb⟩ := rowIdx_lb hr h
  rw [hasId_lb hr hlb rfl] at h
  have he := eq_of_beq h
  generalize lbOf l id = k at hlb h he
  have hl : l = l.take k ++ l[k] :: l.drop (k + 1) := by rw [← List.drop_eq_getElem_cons hlb, List.take_append_drop]
  have h1 : (l.take k).filter (fun r => !(r.id == id)) = l.take k := by
    rw [List.filter_eq_self]
    intro x hx
    obtain ⟨j, hj, rfl⟩ := List.getElem_of_mem hx
    rw [List.length_take] at hj
    rw [List.getElem_take]
    have := rising_lt hr (show j < k by omega) hlb
    rw [Bool.not_eq_true', beq_eq_false_iff_ne]; omega
  have h2 : (l.drop (k + 1)).filter (fun r => !(r.id == id)) = l.drop (k + 1) := by
    rw [List.filter_eq_self]
    intro x hx
    obtain ⟨j, hj, rfl⟩ := List.getElem_of_mem hx
    rw [List.length_drop] at hj
    rw [List.getElem_drop]
    have := rising_lt hr (show k < k + 1 + j by omega) (by omega)
    rw [Bool.not_eq_true', beq_eq_false_iff_ne]; omega
  have h3 : l.filter (fun r => !(r.id == id)) = (l.take k ++ l[k] :: l.drop (k + 1)).filter (fun r => !(r.id == id)) := by rw [← hl]
  rw [h3, List.filter_append, List.filter_cons, h1, h2, h]
  rfl
theorem dropAns_wt {x : Store} (h : x.bulk ≤ 1048576) (n id : Int) : Store.wtV (dropAns x n id).1 ≤ 8388608 := by
  have h9 : RowSS.wt x.tables ≤ 8388608 := by have := Store.wtV_le x; have e : Store.wtV x = RowSS.wt x.tables := rfl; omega
  unfold dropAns
  split
  · rename_i h1
    obtain ⟨m, rfl, hm, ht, hr⟩ := tblCode_zero h1
    rw [ht, Int.toNat_natCast]
    cases h5 : hasId x.tables[m] id
    · exact h9
    · show RowSS.wt (x.tables.set m _) ≤ _
      refine Nat.le_trans ?_ h9
      have hf : ∀ (l : List Row) (p : Row → Bool), RowS.wt (l.filter p) ≤ RowS.wt l := by
        intro l p
        unfold RowS.wt
        induction l with
        | nil => simp
        | cons a l ih => rw [List.filter_cons]; split <;> simp <;> omega
      have hs : ∀ (ts : List (List Row)) (m : Nat) (hm : m < ts.length) (l : List Row), RowS.wt l ≤ RowS.wt ts[m] → RowSS.wt (ts.set m l) ≤ RowSS.wt ts := by
        intro ts
        unfold RowSS.wt
        induction ts with
        | nil => intro m hm; simp at hm
        | cons a ts ih =>
          intro m hm l hl
          match m with
          | 0 => simp at hl ⊢; omega
          | m + 1 => have := ih m (by simpa using hm) l (by simpa using hl); simp at this ⊢; omega
      exact hs _ m hm _ (hf _ _)
  · simp [Store.wtV, RowSS.wt]
end Go.Proofs.Ytfkpllkgganejaa
