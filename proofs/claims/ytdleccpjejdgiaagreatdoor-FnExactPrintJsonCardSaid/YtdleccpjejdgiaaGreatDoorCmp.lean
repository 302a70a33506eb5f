/- A row out of which elements are taken in place. No statement is proved here; no conditions. -/
import Derived.Test.YtdleccpjejdgiaaGreatDoorGrow
import Derived.Lib.SliceRun
namespace Go.Proofs.YtdleccpjejdgiaaGreatDoor
open Go.ChangeShapes Go.WideShapes Go.ChangeAt Go.RowKit Go.Deep
set_option maxRecDepth 100000
set_option linter.unusedVariables false
set_option linter.unusedSimpArgs false

theorem mem_zeroCells {z : Array Value} {n : Nat} (hz : 0 < z.size) {u : Value} (h : u ∈ (Builtin.zeroCells z n).toList) : u ∈ z := by
  simp only [Builtin.zeroCells, Array.toList_map, List.mem_map] at h
  obtain ⟨i, _, rfl⟩ := h
  have hi : i % z.size < z.size := Nat.mod_lt _ hz
  rw [getElem!_pos z _ hi]
  exact Array.getElem_mem hi
/-- 'clear(s)' on a slice of structs. -/
theorem run_clear_rows {P : Program} (w : World) (t e ty : TypeId) (z : Value) (ht : P.underlying t = some (.slice e)) (hv : ∀ w, (zeroValue e).run P w = .ok z w) (hs : 0 < z.cells.size) (h1 : ∀ u ∈ z.cells, u.oneCell' = true) (b o n c : Nat) (hn : 0 < n)
    (hc : ∀ j, j < n * z.cells.size → (w.cell? ⟨b, o + j, none⟩).isSome = true) (hf : ∀ j, j < n * z.cells.size → w.frozen? ⟨b, o + j, none⟩ = false) :
    (Builtin.clear_ #[t] ty #[.slice (some ⟨b, o, none⟩) n c]).run P w = .ok (.tuple #[]) (w.setCells b o (Builtin.zeroCells z.cells n).toList) := by
  have hl : (Builtin.zeroCells z.cells n).toList.length = n * z.cells.size := by rw [Array.length_toList, size_zeroCells]
  have hst := run_storeCells_cells (P := P) b o (Builtin.zeroCells z.cells n).toList 0 w (by rw [hl]; simpa using hc) (by rw [hl]; simpa using hf) (fun u hu => h1 u (mem_zeroCells hs hu))
  simp only [Nat.add_zero] at hst
  obtain ⟨m, rfl⟩ : ∃ m, n = m + 1 := ⟨n - 1, by omega⟩
  simp [Builtin.clear_, run_underlying ht, hv, hst]
theorem setCells_many (b : Nat) : ∀ (es : List Value) (o : Nat) (w : World), w.setCells b o es = setMany w b o es
  | [], _, _ => rfl
  | e :: es, o, w => by rw [World.setCells, setMany, setCells_many b es (o + 1)]
theorem Upd.many {bs : List Nat} {w : World} {b : Nat} (hb : b ∈ bs) : ∀ (es : List Value) (o : Nat) (w1 : World), Upd bs w w1 → Upd bs w (setMany w1 b o es)
  | [], _, _, h => h
  | e :: es, o, w1, h => Upd.many hb es (o + 1) _ (h.set (p := ⟨b, o, none⟩) hb rfl e)

section
variable {α : Type} [Inhabited α]
def keptIdx (p : α → Bool) (xs : List α) (k : Nat) : List Nat := (List.range k).filter fun q => !p (xs.getD q default)
theorem kept_succ (p : α → Bool) (xs : List α) (k : Nat) (h : k < xs.length) : keptIdx p xs (k + 1) = if p xs[k] then keptIdx p xs k else keptIdx p xs k ++ [k] := by
  unfold keptIdx
  rw [List.range_succ, List.filter_append]
  have hx : xs[k]?.getD default = xs[k] := by simp [h]
  cases hp : p xs[k] <;> simp [hx, hp]
theorem kept_lt {p : α → Bool} {xs : List α} {k q : Nat} (h : q ∈ keptIdx p xs k) : q < k := by
  unfold keptIdx at h; exact List.mem_range.1 (List.mem_filter.1 h).1
theorem kept_len (p : α → Bool) (xs : List α) (k : Nat) : (keptIdx p xs k).length ≤ k := by
  unfold keptIdx; have := List.length_filter_le (fun q => !p (xs.getD q default)) (List.range k); simpa using this
theorem kept_map (p : α → Bool) (xs : List α) : ∀ k, k ≤ xs.length → (keptIdx p xs k).map (fun q => xs.getD q default) = (xs.take k).filter fun x => !p x
  | 0, _ => rfl
  | k + 1, h => by
    have hk : k < xs.length := h
    have hx : xs[k]?.getD default = xs[k] := by simp [hk]
    rw [kept_succ p xs k hk, List.take_add_one, List.getElem?_eq_getElem hk, List.filter_append, ← kept_map p xs k (by omega)]
    cases hp : p xs[k] <;> simp [hp, hx]
theorem kept_first {p : α → Bool} {xs : List α} {k : Nat} (hk : k < xs.length) (hb : ∀ j (hj : j < xs.length), j < k → p xs[j] = false) (he : p xs[k] = true) : keptIdx p xs (k + 1) = List.range k := by
  rw [kept_succ p xs k hk, he, if_pos rfl]
  unfold keptIdx
  rw [List.filter_eq_self]
  intro q hq
  have hq' := List.mem_range.1 hq
  have hql : q < xs.length := by omega
  have : xs.getD q default = xs[q] := by simp [List.getD, hql]
  rw [this, hb q hql hq']; rfl
end

section
variable {α : Type} {R : Rd α} {size : Nat}
/-- What lies in the row while elements are taken out: the kept ones first, the rest from jj on. -/
def Cmp (size o : Nat) (css : List (List Value)) (cur : Array Value) (idx : List Nat) (jj : Nat) : Prop :=
  (∀ (q p : Nat) (cs : List Value), idx[q]? = some p → css[p]? = some cs → ∀ (j : Nat) (u : Value), cs[j]? = some u → cur[o + q * size + j]? = some u) ∧
  ∀ (p : Nat) (cs : List Value), jj ≤ p → css[p]? = some cs → ∀ (j : Nat) (u : Value), cs[j]? = some u → cur[o + p * size + j]? = some u
theorem Cmp.skip {o : Nat} {css : List (List Value)} {cur : Array Value} {idx : List Nat} {jj : Nat} (h : Cmp size o css cur idx jj) : Cmp size o css cur idx (jj + 1) := ⟨h.1, fun p cs hp => h.2 p cs (by omega)⟩
theorem Cmp.take {o : Nat} {css : List (List Value)} {cur cur' : Array Value} {idx : List Nat} {jj : Nat} (h : Cmp size o css cur idx jj) (hs : ∀ (p : Nat) (cs : List Value), css[p]? = some cs → cs.length = size) (hl : idx.length ≤ jj) {cs : List Value} (hc : css[jj]? = some cs)
    (h1 : ∀ (j : Nat) (u : Value), cs[j]? = some u → cur'[o + idx.length * size + j]? = some u) (h2 : ∀ p, p < o + idx.length * size ∨ o + idx.length * size + size ≤ p → cur'[p]? = cur[p]?) : Cmp size o css cur' (idx ++ [jj]) (jj + 1) := by
  refine ⟨fun q p ds hq hp j u hu => ?_, fun p ds hp hd j u hu => ?_⟩
  · have hjl : j < size := by have := idx_lt hu; rw [hs p ds hp] at this; exact this
    rcases Nat.lt_trichotomy q idx.length with hlt | rfl | hlt
    · rw [List.getElem?_append_left hlt] at hq
      rw [h2 _ (Or.inl (by have := Nat.mul_le_mul_right size (Nat.succ_le_of_lt hlt); rw [Nat.succ_mul] at this; omega))]
      exact h.1 q p ds hq hp j u hu
    · rw [List.getElem?_append_right (Nat.le_refl _), Nat.sub_self, List.getElem?_cons_zero] at hq
      injection hq with hq; subst hq
      rw [hc] at hp; injection hp with hp; subst hp
      exact h1 j u hu
    · rw [List.getElem?_eq_none (by simp; omega)] at hq; cases hq
  · rw [h2 _ (Or.inr (by have := Nat.mul_le_mul_right size (show idx.length + 1 ≤ p by omega); rw [Nat.add_mul, Nat.one_mul] at this; omega))]
    exact h.2 p ds (by omega) hd j u hu
/-- What the kept ones read as when the rest has been cleared. -/
theorem Cmp.done {w : World} {b o c : Nat} {e : TypeId} {css : List (List Value)} {bss : List (List Nat)} {xs : List α} {cur cur' : Array Value} {idx : List Nat} {jj : Nat} (h : Cmp size o css cur idx jj) (hw : w.heap[b]? = some (.cells cur' e (0, 0)))
    (hs : ∀ (p : Nat) (cs : List Value), css[p]? = some cs → cs.length = size)
    (hcl : ∀ p, p < o + idx.length * size → cur'[p]? = cur[p]?) (hxc : css.length = xs.length) (hxb : bss.length = xs.length) (hlt : ∀ q ∈ idx, q < xs.length) (hR : ∀ (k : Nat) (x : α) (cs : List Value) (bk : List Nat), xs[k]? = some x → css[k]? = some cs → bss[k]? = some bk → R w bk cs x)
    (hc : idx.length ≤ c) (hcm : c ≤ 9223372036854775807) {ys : List α} (hy : idx.map (fun q => xs[q]?) = ys.map some) :
    SlR size R w (if idx = [] then [] else b :: (idx.map fun q => bss.getD q []).flatten) [.slice (some ⟨b, o, none⟩) idx.length c] ys := by
  have hyl : ys.length = idx.length := by have := congrArg List.length hy; simpa using this.symm
  by_cases h0 : idx = []
  · subst h0
    rw [if_pos rfl]
    obtain rfl : ys = [] := List.eq_nil_of_length_eq_zero (by simpa using hyl)
    exact ⟨_, c, rfl, hc, by unfold maxLen; omega, .inl ⟨rfl, rfl⟩⟩
  · rw [if_neg h0]
    refine ⟨_, c, by rw [hyl], by rw [hyl]; exact hc, by unfold maxLen; omega, .inr ⟨b, o, idx.map fun q => bss.getD q [], rfl, lt_of_cells hw, by simp [hyl], rfl, fun k x bk hx hbk => ?_⟩⟩
    have hk := idx_lt hx
    obtain ⟨q, hq⟩ := idx_some (l := idx) (k := k) (by omega)
    have hql := hlt q (List.mem_of_getElem? hq)
    obtain ⟨cs, hcs⟩ := idx_some (l := css) (k := q) (by omega)
    have hxq : xs[q]? = some x := by
      have := congrArg (fun l => l[k]?) hy
      simp only [List.getElem?_map, hq, hx, Option.map_some, Option.some.injEq] at this
      exact this
    have hbq : bss[q]? = some bk := by
      simp only [List.getElem?_map, hq, Option.map_some, Option.some.injEq] at hbk
      obtain ⟨bq, hbq⟩ := idx_some (l := bss) (k := q) (by omega)
      rw [List.getD_eq_getElem?_getD, hbq] at hbk
      rw [hbq, ← hbk]; rfl
    refine ⟨cs, hs q cs hcs, fun j u hu => ?_, hR q x cs bk hxq hcs hbq⟩
    rw [blk_cells hw, hcl _ (by
      have hj := idx_lt hu
      rw [hs q cs hcs] at hj
      have := Nat.mul_le_mul_right size (show k + 1 ≤ idx.length by omega)
      rw [Nat.add_mul, Nat.one_mul] at this; omega)]
    exact h.1 k q cs hq hcs j u hu
theorem sub_flatten {β : Type} {a b : List (List β)} (h : a.Sublist b) : a.flatten.Sublist b.flatten := by
  induction h with
  | slnil => exact List.Sublist.refl _
  | cons x _ ih => simp only [List.flatten_cons]; exact ih.trans (List.sublist_append_right _ _)
  | cons_cons x _ ih => simp only [List.flatten_cons]; exact List.Sublist.append (List.Sublist.refl _) ih
theorem kept_nodup {bss : List (List Nat)} (h : bss.flatten.Nodup) {n : Nat} (hn : bss.length = n) {idx : List Nat} (hi : idx.Sublist (List.range n)) : (idx.map fun q => bss.getD q []).flatten.Nodup := by
  have h1 : (idx.map fun q => bss.getD q []).Sublist ((List.range n).map fun q => bss.getD q []) := hi.map _
  have h2 : (List.range n).map (fun q => bss.getD q []) = bss := by
    apply List.ext_getElem (by simp [hn])
    intro i h3 h4
    simp [List.getD, h4]
  rw [h2] at h1
  exact List.Nodup.sublist (sub_flatten h1) h
/-- A row of one's own, opened for good: where it lies, and what each element's cells are. -/
theorem SlR.whole {w : World} {lo : Nat} {bs : List Nat} {A : Option Addr} {n c : Nat} {xs : List α} (h : SlR size R w bs [.slice A n c] xs) (hf : Fr lo w bs) (hx : 0 < xs.length) :
    ∃ (b o : Nat) (cur : Array Value) (e : TypeId) (css : List (List Value)) (bss : List (List Nat)), A = some ⟨b, o, none⟩ ∧ w.heap[b]? = some (.cells cur e (0, 0)) ∧ bs = b :: bss.flatten ∧ css.length = xs.length ∧ bss.length = xs.length ∧ (∀ (p : Nat) (cs : List Value), css[p]? = some cs → cs.length = size) ∧
      (∀ (p : Nat) (cs : List Value), css[p]? = some cs → ∀ (j : Nat) (u : Value), cs[j]? = some u → cur[o + p * size + j]? = some u) ∧ ∀ (k : Nat) (x : α) (cs : List Value) (bk : List Nat), xs[k]? = some x → css[k]? = some cs → bss[k]? = some bk → R w bk cs x := by
  obtain ⟨A', c', hv, h1, h2, h3⟩ := h
  obtain ⟨rfl, rfl, rfl⟩ : A = A' ∧ n = xs.length ∧ c = c' := by simpa using hv
  rcases h3 with ⟨rfl, _⟩ | ⟨b, o, bss, rfl, hb, hl, rfl, hel⟩
  · simp at hx
  obtain ⟨_, cur, e, hcur⟩ := hf.2 b (by simp)
  have hall : ∀ k, k < xs.length → ∃ cs : List Value, cs.length = size ∧ (∀ j u, cs[j]? = some u → cur[o + k * size + j]? = some u) ∧ ∀ x bk, xs[k]? = some x → bss[k]? = some bk → R w bk cs x := by
    intro k hk
    obtain ⟨bk, hbk⟩ := idx_some (l := bss) (k := k) (by omega)
    obtain ⟨es, q1, q2, q3⟩ := hel k xs[k] bk (List.getElem?_eq_getElem hk) hbk
    refine ⟨es, q1, fun j u hu => by rw [← blk_cells hcur]; exact q2 j u hu, fun x bk' hx' hbk' => ?_⟩
    rw [List.getElem?_eq_getElem hk] at hx'; injection hx' with hx'; subst hx'
    rw [hbk] at hbk'; injection hbk' with hbk'; subst hbk'
    exact q3
  obtain ⟨f, hf'⟩ := choose_lt hall
  refine ⟨b, o, cur, e, (List.range xs.length).map f, bss, rfl, hcur, rfl, by simp, hl, fun p cs hp => ?_, fun p cs hp j u hu => ?_, fun k x cs bk hx' hcs hbk => ?_⟩
  · have hpl := idx_lt hp
    simp only [List.length_map, List.length_range] at hpl
    simp only [List.getElem?_map, List.getElem?_range hpl, Option.map_some, Option.some.injEq] at hp
    subst hp; exact (hf' p hpl).1
  · have hpl := idx_lt hp
    simp only [List.length_map, List.length_range] at hpl
    simp only [List.getElem?_map, List.getElem?_range hpl, Option.map_some, Option.some.injEq] at hp
    subst hp; exact (hf' p hpl).2.1 j u hu
  · have hpl := idx_lt hx'
    simp only [List.getElem?_map, List.getElem?_range hpl, Option.map_some, Option.some.injEq] at hcs
    subst hcs; exact (hf' k hpl).2.2 x bk hx' hbk
end
end Go.Proofs.YtdleccpjejdgiaaGreatDoor
