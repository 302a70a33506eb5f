/- append of a whole slice onto a row of the call's own; slices.Clone. No statement is proved here; no conditions. -/
import Derived.Test.YtdleccpjejdgiaaGreatDoorCmp
import Derived.Test.YtdleccpjejdgiaaGreatDoorTo
import Derived.Laws.AppendOwnNone
namespace Go.Proofs.YtdleccpjejdgiaaGreatDoor
open Go.ChangeShapes Go.WideShapes Go.ChangeAt Go.RowKit Go.Deep
set_option maxRecDepth 100000
set_option linter.unusedVariables false

theorem flat_at {size : Nat} : ∀ (cl : List (List Value)), (∀ c ∈ cl, c.length = size) → ∀ (j : Nat) (u : Value), cl.flatten[j]? = some u → ∃ k i cs, cl[k]? = some cs ∧ cs[i]? = some u ∧ j = k * size + i
  | [], _, j, u, h => by simp at h
  | c :: cl, hu, j, u, h => by
    rw [List.flatten_cons] at h
    have hc := hu c (by simp)
    rcases Nat.lt_or_ge j c.length with hj | hj
    · rw [List.getElem?_append_left hj] at h
      exact ⟨0, j, c, rfl, h, by omega⟩
    · rw [List.getElem?_append_right hj] at h
      obtain ⟨k, i, cs, h1, h2, h3⟩ := flat_at cl (fun c' hc' => hu c' (List.mem_cons_of_mem _ hc')) _ u h
      exact ⟨k + 1, i, cs, by simpa using h1, h2, by rw [Nat.succ_mul]; omega⟩
section
variable {α : Type} {R : Rd α} {size : Nat}
theorem SlR.flat {w : World} {bs : List Nat} {b o n c : Nat} {xs : List α} (h : SlR size R w bs [.slice (some ⟨b, o, none⟩) n c] xs) :
    ∃ (css : List (List Value)) (bss : List (List Nat)), css.length = xs.length ∧ bss.length = xs.length ∧ (∀ j u, css.flatten[j]? = some u → w.cell? ⟨b, o + j, none⟩ = some u) ∧ (∀ x ∈ bss.flatten, x ∈ bs) ∧ (∀ c ∈ css, c.length = size) ∧
      ∀ (k : Nat) (x : α) (cs : List Value) (bk : List Nat), xs[k]? = some x → css[k]? = some cs → bss[k]? = some bk → cs.length = size ∧ R w bk cs x := by
  obtain ⟨A', c', hv, h1, h2, h3⟩ := h
  obtain ⟨rfl, rfl, rfl⟩ : some ⟨b, o, none⟩ = A' ∧ n = xs.length ∧ c = c' := by simpa using hv
  rcases h3 with ⟨rfl, rfl⟩ | ⟨b', o', bss, hA, hb, hl, rfl, hel⟩
  · exact ⟨[], [], rfl, rfl, (fun j u h => by simp at h), (fun x h => by simp at h), (fun c h => by simp at h), (fun k x cs bk h => by simp at h)⟩
  injection hA with hA; injection hA with e1 e2; subst e1; subst e2
  have hall : ∀ k, k < xs.length → ∃ cs : List Value, cs.length = size ∧ (∀ j u, cs[j]? = some u → w.cell? ⟨b, o + k * size + j, none⟩ = some u) ∧ ∀ x bk, xs[k]? = some x → bss[k]? = some bk → R w bk cs x := by
    intro k hk
    obtain ⟨bk, hbk⟩ := idx_some (l := bss) (k := k) (by omega)
    obtain ⟨es, q1, q2, q3⟩ := hel k xs[k] bk (List.getElem?_eq_getElem hk) hbk
    refine ⟨es, q1, q2, fun x bk' hx' hbk' => ?_⟩
    rw [List.getElem?_eq_getElem hk] at hx'; injection hx' with hx'; subst hx'
    rw [hbk] at hbk'; injection hbk' with hbk'; subst hbk'
    exact q3
  obtain ⟨f, hf⟩ := choose_lt hall
  have hlen : ∀ c ∈ (List.range xs.length).map f, c.length = size := fun c hc => by
    obtain ⟨k, hk, rfl⟩ := List.mem_map.1 hc
    exact (hf k (List.mem_range.1 hk)).1
  refine ⟨(List.range xs.length).map f, bss, by simp, hl, fun j u hu => ?_, fun x hx => List.mem_cons_of_mem _ hx, hlen, fun k x cs bk hx' hcs hbk => ?_⟩
  · obtain ⟨k, i, cs, h4, h5, rfl⟩ := flat_at _ hlen j u hu
    have hk := idx_lt h4
    simp only [List.length_map, List.length_range] at hk
    simp only [List.getElem?_map, List.getElem?_range hk, Option.map_some, Option.some.injEq] at h4
    subst h4
    have := (hf k hk).2.1 i u h5
    rw [Nat.add_assoc] at this; exact this
  · have hpl := idx_lt hx'
    simp only [List.getElem?_map, List.getElem?_range hpl, Option.map_some, Option.some.injEq] at hcs
    subst hcs; exact ⟨(hf k hpl).1, (hf k hpl).2.2 x bk hx' hbk⟩
theorem SlR.none_nil {w : World} {bs : List Nat} {n c : Nat} {xs : List α} (h : SlR size R w bs [.slice none n c] xs) : xs = [] ∧ n = 0 := by
  obtain ⟨A', c', hv, h1, h2, h3⟩ := h
  obtain ⟨rfl, rfl, rfl⟩ : none = A' ∧ n = xs.length ∧ c = c' := by simpa using hv
  rcases h3 with ⟨rfl, rfl⟩ | ⟨b, o, bss, hA, _⟩
  · exact ⟨rfl, rfl⟩
  · cases hA
end
section
variable {α : Type} {R : Rd α} {P : Program}
/-- 'out = append(out, xs...)', xs a slice that reads as a list. -/
theorem wpList_append_grs {ops : Array Oper} {rest : List Oper} {o : Oper} {a : Act} {Q : Exit → Act → World → Prop} (g : Good R) (hgd : o.guard = none) (s x : Operand) (t : TypeId)
    (ho : o.op = .call { callee := .builtin .append, args := #[s, x], argTypes := #[t, t] })
    {lo : Nat} {e : TypeId} {i : TypeInfo} {z : Value} {size bytes : Nat} (ht : P.underlying t = some (.slice e)) (hi : P.info? e = some i) (hz : i.zero = some z)
    (hsize : i.size = size) (hby : i.bytes = bytes) (hzs : z.cells.size = size) (hsz : 0 < size)
    {w : World} {v : Value} {bss : List (List Nat)} {xs : List α} (hs : a.eval s = v) (hg : Gr size R e lo w v bss xs)
    {b0 o0 m c : Nat} {bs2 : List Nat} {ys : List α} (hS : SlR size R w bs2 [.slice (some ⟨b0, o0, none⟩) m c] ys) (hx : a.eval x = .slice (some ⟨b0, o0, none⟩) m c) (hone : ∀ (w : World) bk cs (y : α), R w bk cs y → ∀ u ∈ cs, u.oneCell' = true) (hnb : ∀ b ∈ bs2, v.ownBlock ≠ some b)
    (h63 : xs.length + ys.length ≤ 9223372036854775807) (hbytes : (xs.length + ys.length) * bytes ≤ 140737488355328) (hlo : lo ≤ w.heap.size)
    (h : ∀ v' w' bss2, Gr size R e lo w' v' (bss ++ bss2) (xs ++ ys) → (∀ b ∈ bss2.flatten, b ∈ bs2) → (∀ B w0, Below B w0 w → B ≤ lo → Below B w0 w') → (∀ k, k < w.heap.size → v.ownBlock ≠ some k → w'.heap[k]? = w.heap[k]?) → w.heap.size ≤ w'.heap.size →
      (v'.ownBlock = v.ownBlock ∨ ∃ k, v'.ownBlock = some k ∧ w.heap.size ≤ k) → wpList P ops Q rest (a.put o.dst v') w') :
    wpList P ops Q (o :: rest) a w := by
  have hg0 := hg
  obtain ⟨css, hc, hbl, hown, hn, hel⟩ := hg
  have hml : m = ys.length := by obtain ⟨A', c', hv, _⟩ := hS; have := hv; simp at this; exact this.2.1
  obtain ⟨css2, bss2, hc2, hb2, hcell, hsub, hlen2, hel2⟩ := hS.flat
  have hfl : css2.flatten.length = ys.length * size := by
    rw [List.length_flatten, ← hc2]
    have : css2.map List.length = List.replicate css2.length size := by
      apply List.ext_getElem (by simp)
      intro k h1 h2; simp; exact hlen2 _ (List.getElem_mem _)
    rw [this, List.sum_replicate_nat]
  have hone2 : ∀ u ∈ css2.flatten, u.oneCell' = true := fun u hu => by
    obtain ⟨cs, hcs, hu⟩ := List.mem_flatten.1 hu
    obtain ⟨k, hk⟩ := List.getElem?_of_mem hcs
    have hkl := idx_lt hk
    obtain ⟨y, hy⟩ := idx_some (l := ys) (k := k) (by omega)
    obtain ⟨bk, hbk⟩ := idx_some (l := bss2) (k := k) (by omega)
    exact hone w bk cs y (hel2 k y cs bk hy hk hbk).2 u hu
  have hlt2 : ∀ b ∈ bss2.flatten, b < w.heap.size := fun b hm => by
    obtain ⟨bk, hbk, hm⟩ := List.mem_flatten.1 hm
    obtain ⟨k, hk⟩ := List.getElem?_of_mem hbk
    have hkl := idx_lt hk
    obtain ⟨y, hy⟩ := idx_some (l := ys) (k := k) (by omega)
    obtain ⟨cs, hcs⟩ := idx_some (l := css2) (k := k) (by omega)
    exact g.lt (hel2 k y cs bk hy hcs hk).2 b hm
  subst hml
  refine wpList_append_own_at (P := P) w hgd s x t ho lo e i z size bytes ht hi hz hsize hby hzs hsz v xs.length css.flatten hs hown ⟨b0, o0, none⟩ ys.length c css2.flatten hx hfl (fun j u hu => by rw [add_form]; exact hcell j u hu) hone2 (by unfold maxLen; omega) hbytes hlo fun v' w' h2 h3 h4 h5 => ?_
  have hold : ∀ k, k < w.heap.size → v.ownBlock ≠ some k → w'.heap[k]? = w.heap[k]? := fun k hk hne => h3.block k hk (fun e => hne e.symm)
  refine h v' w' bss2 ?_ hsub (fun B w0 hB hBl => hB.grown h3 (by omega) (fun k hk => by have := (hown.lt k hk).1; omega)) hold h3.size ?_
  · refine ⟨css ++ css2, by simp [hc, hc2], by simp [hbl, hb2], ?_, fun k hk => ?_, fun k x' cs bk' hx' hcs hbk' => ?_⟩
    · rw [List.length_append, List.flatten_append]; exact h2
    · rw [List.flatten_append, List.mem_append]
      rcases h5 with h5 | h5
      · rw [h5] at hk
        exact fun hm => hm.elim (hn k hk) fun hm => hnb k (hsub k hm) hk
      · rw [h5] at hk; injection hk with hk; subst hk
        exact fun hm => hm.elim (fun hm => by have := Gr.lt g hg0 _ hm; omega) fun hm => by have := hlt2 _ hm; omega
    · rcases Nat.lt_or_ge k xs.length with hk | hk
      · rw [List.getElem?_append_left hk] at hx'
        rw [List.getElem?_append_left (by omega)] at hcs hbk'
        obtain ⟨q1, q2⟩ := hel k x' cs bk' hx' hcs hbk'
        exact ⟨q1, g.keep q2 fun b hm => hold b (g.lt q2 b hm) fun hv => hn b hv (List.mem_flatten.2 ⟨bk', List.mem_of_getElem? hbk', hm⟩)⟩
      · rw [List.getElem?_append_right hk] at hx'
        rw [List.getElem?_append_right (by omega), hc] at hcs
        rw [List.getElem?_append_right (by omega), hbl] at hbk'
        obtain ⟨q1, q2⟩ := hel2 (k - xs.length) x' cs bk' hx' hcs hbk'
        exact ⟨q1, g.keep q2 fun b hm => hold b (g.lt q2 b hm) (hnb b (hsub b (List.mem_flatten.2 ⟨bk', List.mem_of_getElem? hbk', hm⟩)))⟩
  · rcases h5 with h5 | h5
    · exact .inl h5
    · exact .inr ⟨_, h5, Nat.le_refl _⟩
end
theorem Gr.bss_nil {α : Type} {R : Rd α} {size : Nat} {e : TypeId} {lo : Nat} {w : World} {v : Value} {bss : List (List Nat)} {xs : List α} (h : Gr size R e lo w v bss xs) (h0 : ∀ (w : World) bk cs (y : α), R w bk cs y → bk = []) : bss.flatten = [] := by
  obtain ⟨css, hc, hb, _, _, hel⟩ := h
  rw [List.flatten_eq_nil_iff]
  intro bk hbk
  obtain ⟨k, hk⟩ := List.getElem?_of_mem hbk
  have hkl := idx_lt hk
  obtain ⟨y, hy⟩ := idx_some (l := xs) (k := k) (by omega)
  obtain ⟨cs, hcs⟩ := idx_some (l := css) (k := k) (by omega)
  exact h0 w bk cs y (hel k y cs bk hy hcs hk).2
theorem AtomR.one : ∀ (w : World) bk cs (y : Atom), AtomR w bk cs y → ∀ u ∈ cs, u.oneCell' = true := by
  rintro w bk cs y ⟨rfl, rfl, _⟩ u hu
  simp at hu
  rcases hu with rfl | rfl | rfl <;> rfl
theorem AtomR.flat : ∀ (w : World) bk cs (y : Atom), AtomR w bk cs y → bk = [] := fun _ _ _ _ h => h.1
end Go.Proofs.YtdleccpjejdgiaaGreatDoor
