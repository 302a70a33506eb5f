/- append of a whole slice onto a row of the call's own; slices.Clone. No statement is proved here; no conditions. -/
import Derived.Test.YtfkpllkgganejaaCmp
import Derived.Test.YtfkpllkgganejaaTo
import Derived.Laws.AppendOwnNone
namespace Go.Proofs.Ytfkpllkgganejaa
open Go.ChangeShapes Go.WideShapes Go.ChangeAt Go.RowKit Go.Deep
set_option maxRecDepth 100000
set_option linter.unusedVariables false

theorem flat_at {size : Nat} : ∀ (cl : List (List Value)), (∀ c ∈ cl, c.length = size) → ∀ (j : Nat) (u : Value), cl.flatten[j]? = some u → ∃ k i cs, cl[k]? = some cs ∧ cs[i]? = some u ∧ j = k * size + i
  | [], _, j, u, h => by simp at h
  | c :: cl, hu, j, u, h => by
    rw [List.flatten_cons] at h
    have hc := hu c (by simp)
    rcases Nat.lt_or_ge j c.length with hj | hj
    · rw [List.getElem?_append_left hj] at h
      exact ⟨0, j, c, rfl, h, by omega⟩
    · rw [List.getElem?_append_right hj] at h
      obtain ⟨k, i, cs, h1, h2, h3⟩ := flat_at cl (fun c' hc' => hu c' (List.mem_cons_of_mem _ hc')) _ u h
      exact ⟨k + 1, i, cs, by simpa using h1, h2, by rw [Nat.succ_mul]; omega⟩
section
variable {α : Type} {R : Rd α} {size : Nat}
theorem SlR.flat {w : World} {bs : List Nat} {b o n c : Nat} {xs : List α} (h : SlR size R w bs [.slice (some ⟨b, o, none⟩) n c] xs) :
    ∃ (css : List (List Value)) (bss : List (List Nat)), css.length = xs.length ∧ bss.length = xs.length ∧ (∀ j u, css.flatten[j]? = some u → w.cell? ⟨b, o + j, none⟩ = some u) ∧ (∀ x ∈ bss.flatten, x ∈ bs) ∧ (∀ c ∈ css, c.length = size) ∧
      ∀ (k : Nat) (x : α) (cs : List Value) (bk : List Nat), xs[k]? = some x → css[k]? = some cs → bss[k]? = some bk → cs.length = size ∧ R w bk cs x := by
  obtain ⟨A', c', hv, h1, h2, h3⟩ := h
  obtain ⟨rfl, rfl, rfl⟩ : some ⟨b, o, none⟩ = A' ∧ n = xs.length ∧ c = c' := by simpa using hv
  rcases h3 with ⟨rfl, rfl⟩ | ⟨b', o', bss, hA, hb, hl, rfl, hel⟩
  · exact ⟨[], [], rfl, rfl, (fun j u h => by simp at h), (fun x h => by simp at h), (fun c h => by simp at h), (fun k x cs bk h => by simp at h)⟩
  injection hA with hA; injection hA with e1 e2; subst e1; subst e2
  have hall : ∀ k, k < xs.length → ∃ cs : List Value, cs.length = size ∧ (∀ j u, cs[j]? = some u → w.cell? ⟨b, o + k * size + j, none⟩ = some u) ∧ ∀ x bk, xs[k]? = some x → bss[k]? = some bk → R w bk cs x := by
    intro k hk
    obtain ⟨bk, hbk⟩ := idx_some (l := bss) (k := k) (by omega)
    obtain ⟨es, q1, q2, q3⟩ := hel k xs[k] bk (List.getElem?_eq_getElem hk) hbk
    refine ⟨es, q1, q2, fun x bk' hx' hbk' => ?_⟩
    rw [List.getElem?_eq_getElem hk] at hx'; injection hx' with hx'; subst hx'
    rw [hbk] at hbk'; injection hbk' with hbk'; subst hbk'
    exact q3
  obtain ⟨f, hf⟩ := choose_lt hall
  have hlen : ∀ c ∈ (List.range xs.length).map f, c.length = size := fun c hc => by
    obtain ⟨k, hk, rfl⟩ := List.mem_map.1 hc
    exact (hf k (List.mem_range.1 hk)).1
  refine ⟨(List.range xs.length).map f, bss, by simp, hl, fun j u hu => ?_, fun x hx => List.mem_cons_of_mem _ hx, hlen, fun k x cs bk hx' hcs hbk => ?_⟩
  · obtain ⟨k, i, cs, h4, h5, rfl⟩ := flat_at _ hlen j u hu
    have hk := idx_lt h4
    simp only [List.length_map, List.length_range] at hk
    simp only [List.getElem?_map, List.getElem?_range hk, Option.map_some, Option.some.injEq] at h4
    subst h4
    have := (hf k hk).2.1 i u h5
    rw [Nat.add_assoc] at this; exact this
  · have hpl := idx_lt hx'
    simp only [List.getElem?_map, List.getElem?_range hpl, Option.map_some, Option.some.injEq] at hcs
    subst hcs; exact ⟨(hf k hpl).1, (hf k hpl).2.2 x bk hx' hbk⟩
theorem SlR.none_nil {w : World} {bs : List Nat} {n c : Nat} {xs : List α} (h : SlR size R w bs [.slice none n c] xs) : xs = [] ∧ n = 0 := by
  obtain ⟨A', c', hv, h1, h2, h3⟩ := h
  obtain ⟨rfl, rfl, rfl⟩ : none = A' ∧ n = xs.length ∧ c = c' := by simpa using hv
  rcases h3 with ⟨rfl, rfl⟩ | ⟨b, o, bss, hA, _⟩
  · exact ⟨rfl, rfl⟩
  · cases hA
end
section
variable {α : Type} {R : Rd α} {P : Program}
/-- 'out = append(out, xs...)', xs a slice that reads as a list. -/
theorem wpList_append_grs {ops : Array Oper} {rest : List Oper} {o : Oper} {a : Act} {Q : Exit → Act → World → Prop} (g : Good R) (hgd : o.guard = none) (s x : Operand) (t : TypeId)
    (ho : o.op = .call { callee := .builtin .append, args := #[s, x], argTypes := #[t, t] })
    {lo : Nat} {e : TypeId} {i : TypeInfo} {z : Value} {size bytes : Nat} (ht : P.underlying t = some (.slice e)) (hi : P.info? e = some i) (hz : i.zero = some z)
    (hsize : i.size = size) (hby : i.bytes = bytes) (hzs : z.cells.size = size) (hsz : 0 < size)
    {w : World} {v : Value} {bss : List (List Nat)} {xs : List α} (hs : a.eval s = v) (hg : Gr size R e lo w v bss xs)
    {b0 o0 m c : Nat} {bs2 : List Nat} {ys : List α} (hS : SlR size R w bs2 [.slice (some ⟨b0, o0, none⟩) m c] ys) (hx : a.eval x = .slice (some ⟨b0, o0, none⟩) m c) (hone : ∀ (w : World) bk cs (y : α), R w bk cs y → ∀ u ∈ cs, u.oneCell' = true) (hnb : ∀ b ∈ bs2, v.ownBlock ≠ some b)
    (h63 : xs.length + ys.length ≤ 9223372036854775807) (hbytes : (xs.length + ys.length) * bytes ≤ 140737488355328) (hlo : lo ≤ w.heap.size)
    (h : ∀ v' w' bss2, Gr size R e lo w' v' (bss ++ bss2) (xs ++ ys) → (∀ b ∈ bss2.flatten, b ∈ bs2) → (∀ B w0, Below B w0 w → B ≤ lo → Below B w0 w') → (∀ k, k < w.heap.size → v.ownBlock ≠ some k → w'.heap[k]? = w.heap[k]?) → w.heap.size ≤ w'.heap.size →
      (v'.ownBlock = v.ownBlock ∨ ∃ k, v'.ownBlock = some k ∧ w.heap.size ≤ k) → wpList P ops Q rest (a.put o.dst v') w') :
    wpList P ops Q (o :: rest) a w := by
  have hg0 := hg
  obtain ⟨css, hc, hbl, hown, hn, hel⟩ := hg
  have hml : m = ys.length := by obtain ⟨A', c', hv, _⟩ := hS; have := hv; simp at this; exact this.2.1
  obtain ⟨css2, bss2, hc2, hb2, hcell, hsub, hlen2, hel2⟩ := hS.flat
  have hfl : css2.flatten.length = ys.length * size := by
    rw [List.length_flatten, ← hc2]
    have : css2.map List.length = List.replicate css2.length size := by
      apply List.ext_getElem (by simp)
      intro k h1 h2; simp; exact hlen2 _ (List.getElem_mem _)
    rw [this, List.sum_replicate_nat]
  have hone2 : ∀ u ∈ css2.flatten, u.oneCell' = true := fun u hu => by
    obtain ⟨cs, hcs, hu⟩ := List.mem_flatten.1 hu
    obtain ⟨k, hk⟩ := List.getElem?_of_mem hcs
    have hkl := idx_lt hk
    obtain ⟨y, hy⟩ := idx_some (l := ys) (k := k) (by omega)
    obtain ⟨bk, hbk⟩ := idx_some (l := bss2) (k := k) (by omega)
    exact hone w bk cs y (hel2 k y cs bk hy hk hbk).2 u hu
  have hlt2 : ∀ b ∈ bss2.flatten, b < w.heap.size := fun b hm => by
    obtain ⟨bk, hbk, hm⟩ := List.mem_flatten.1 hm
    obtain ⟨k, hk⟩ := List.getElem?_of_mem hbk
    have hkl := idx_lt hk
    obtain ⟨y, hy⟩ := idx_some (l := ys) (k := k) (by omega)
    obtain ⟨cs, hcs⟩ := idx_some (l := css2) (k := k) (by omega)
    exact g.lt (hel2 k y cs bk hy hcs hk).2 b hm
  subst hml
  refine wpList_append_own_at (P := P) w hgd s x t ho lo e i z size bytes ht hi hz hsize hby hzs hsz v xs.length css.flatten hs hown ⟨b0, o0, none⟩ ys.length c css2.flatten hx hfl (fun j u hu => by rw [add_form]; exact hcell j u hu) hone2 (by unfold maxLen; omega) hbytes hlo fun v' w' h2 h3 h4 h5 => ?_
  have hold : ∀ k, k < w.heap.size → v.ownBlock ≠ some k → w'.heap[k]? = w.heap[k]? := fun k hk hne => h3.block k hk (fun e => hne e.symm)
  refine h v' w' bss2 ?_ hsub (fun B w0 hB hBl => hB.grown h3 (by omega) (fun k hk => by have := (hown.lt k hk).1; omega)) hold h3.size ?_
  · refine ⟨css ++ css2, by simp [hc, hc2], by simp [hbl, hb2], ?_, fun k hk => ?_, fun k x' cs bk' hx' hcs hbk' => ?_⟩
    · rw [List.length_append, List.flatten_append]; exact h2
    · rw [List.flatten_append, List.mem_append]
      rcases h5 with h5 | h5
      · rw [h5] at hk
        exact fun hm => hm.elim (hn k hk) fun hm => hnb k (hsub k hm) hk
      · rw [h5] at hk; injection hk with hk; subst hk
        exact fun hm => hm.elim (fun hm => by have := Gr.lt g hg0 _ hm; omega) fun hm => by have := hlt2 _ hm; omega
    · rcases Nat.lt_or_ge k xs.length with hk | hk
      · rw [List.getElem?_append_left hk] at hx'
        rw [List.getElem?_append_left (by omega)] at hcs hbk'
        obtain ⟨q1, q2⟩ := hel k x' cs bk' hx' hcs hbk'
        exact ⟨q1, g.keep q2 fun b hm => hold b (g.lt q2 b hm) fun hv => hn b hv (List.mem_flatten.2 ⟨bk', List.mem_of_getElem? hbk', hm⟩)⟩
      · rw [List.getElem?_append_right hk] at hx'
        rw [List.getElem?_append_right (by omega), hc] at hcs
        rw [List.getElem?_append_right (by omega), hbl] at hbk'
        obtain ⟨q1, q2⟩ := hel2 (k - xs.length) x' cs bk' hx' hcs hbk'
        exact ⟨q1, g.keep q2 fun b hm => hold b (g.lt q2 b hm) (hnb b (hsub b (List.mem_flatten.2 ⟨bk', List.mem_of_getElem? hbk', hm⟩)))⟩
  · rcases h5 with h5 | h5
    · exact .inl h5
    · exact .inr ⟨_, h5, Nat.le_refl _⟩
end
theorem Gr.bss_nil {α : Type} {R : Rd α} {size : Nat} {e : TypeId} {lo : Nat} {w : World} {v : Value} {bss : List (List Nat)} {xs : List α} (h : Gr size R e lo w v bss xs) (h0 : ∀ (w : World) bk cs (y : α), R w bk cs y → bk = []) : bss.flatten = [] := by
  obtain ⟨css, hc, hb, _, _, hel⟩ := h
  rw [List.flatten_eq_nil_iff]
  intro bk hbk
  obtain ⟨k, hk⟩ := List.getElem?_of_mem hbk
  have hkl := idx_lt hk
  obtain ⟨y, hy⟩ := idx_some (l := xs) (k := k) (by omega)
  obtain ⟨cs, hcs⟩ := idx_some (l := css) (k := k) (by omega)
  exact h0 w bk cs y (hel k y cs bk hy hcs hk).2
theorem AtomR.one : ∀ (w : World) bk cs (y : Atom), AtomR w bk cs y → ∀ u ∈ cs, u.oneCell' = true := by
  rintro w bk cs y ⟨rfl, rfl, _⟩ u hu
  simp at hu
  rcases hu with rfl | rfl | rfl <;> rfl
theorem AtomR.flat : ∀ (w : World) bk cs (y : Atom), AtomR w bk cs y → bk = [] := fun _ _ _ _ h => h.1
theorem slices_CloneA {w : World} {bs : List Nat} {v : Value} {xs : List Atom} (h : AtomSR w bs [v] xs) (hn : xs.length ≤ 1048576) :
    Calls Try.prog 46 #[v] w (ToS AtomSR w xs) := by
  have h0 := h
  obtain ⟨A, c, rfl, hlc, hcm, hel⟩ := h.use
  clear hel
  rcases A with _ | ⟨b, o, sp⟩
  · obtain ⟨rfl, _⟩ := h0.none_nil
    have hnil : ∀ W, (binOp .eql 68 (.slice none 0 c) (.slice none 0 0)).run Try.prog W = .ok (.bool true) W := fun W => Lib.run_eql_slice_nil (P := Try.prog) W 68 78 none 0 c 0 0 Try.underlying68
    go_enter Try.func46, Try.ntmps46
    go_wp2
    go_ret
    exact ⟨_, [], rfl, ⟨none, 0, rfl, Nat.le_refl _, by simp [maxLen], .inl ⟨rfl, rfl⟩⟩, Fr.nil _ _, Below.refl _ _⟩
  by_cases hsp : sp = none
  · subst hsp
    have hnil : ∀ W, (binOp .eql 68 (.slice (some ⟨b, o, none⟩) xs.length c) (.slice none 0 0)).run Try.prog W = .ok (.bool false) W := fun W => Lib.run_eql_slice_nil (P := Try.prog) W 68 78 (some ⟨b, o, none⟩) xs.length c 0 0 Try.underlying68
    obtain ⟨i, hi, hz, hs, hby⟩ := info_parts AtomS.info
    have hB := (Below.refl w.heap.size w).alloc (Nat.le_refl _) (.cells #[] 78)
    have hG := hide (Gr.made (size := 3) (R := AtomR) (e := 78) (lo := w.heap.size) w #[] 0 (Nat.le_refl _) (by simp [maxLen]) (by simp))
    have hS := hide (AtomSR.good.nxt hB h0)
    have hlt := hide (AtomSR.good.lt h0)
    have HN := hide hn
    clear hlc hcm h h0 hn
    go_enter Try.func46, Try.ntmps46
    go_wp2_with (at_builtin; refine wpList_append_grs AtomR.good rfl _ _ 68 rfl Try.underlying68 hi hz hs hby rfl (by decide) rfl hG.out hS.out rfl AtomR.one (fun b' hb' hv => by have h1 := hlt.out b' hb'; have h9 : w.heap.size = b' := (by injection hv); omega) (by have := HN.out; have h00 : ([] : List Atom).length = 0 := rfl; omega) (by have := HN.out; have h00 : ([] : List Atom).length = 0 := rfl; omega) (by simp) ?_; intro v' w' bss2 hg' hsub hB' hold hsz hv')
    go_ret
    obtain ⟨bs', q1, q2, q3⟩ := hg'.done
    have h9 := hg'.bss_nil AtomR.flat
    exact ⟨_, bs', rfl, q1, q2 (by rw [h9]; exact Fr.nil _ _), hB' _ _ hB (Nat.le_refl _)⟩
  · have hx0 : xs = [] := by
      by_cases hx : xs = []
      · exact hx
      · obtain ⟨A', c', hv, _, _, h3⟩ := h0
        rcases h3 with ⟨h3, _⟩ | ⟨b', o', bss, hA, _⟩
        · exact h3
        · simp at hv; rw [← hv.1] at hA; simp at hA; exact absurd hA.2.2 hsp
    subst hx0
    have hnil : ∀ W, (binOp .eql 68 (.slice (some ⟨b, o, sp⟩) 0 c) (.slice none 0 0)).run Try.prog W = .ok (.bool false) W := fun W => Lib.run_eql_slice_nil (P := Try.prog) W 68 78 (some ⟨b, o, sp⟩) 0 c 0 0 Try.underlying68
    obtain ⟨i, hi, hz, hs, hby⟩ := info_parts AtomS.info
    have hB := (Below.refl w.heap.size w).alloc (Nat.le_refl _) (.cells #[] 78)
    have hown := hide (World.ownsRow_made (base := w.heap.size) (e := 78) (size := 3) w #[] 0 (Nat.le_refl _) (by simp [maxLen]) (by simp))
    clear hlc hcm h h0 hn
    go_enter Try.func46, Try.ntmps46
    go_wp2_with (at_builtin; refine wpList_append_own_at _ rfl _ _ 68 rfl w.heap.size 78 i _ 3 32 Try.underlying68 hi hz hs hby rfl (by decide) (.slice (some ⟨w.heap.size, 0, none⟩) 0 0) 0 [] rfl hown.out ⟨b, o, sp⟩ 0 c [] rfl rfl (fun j u hu => by simp at hu) (fun u hu => by simp at hu) (by simp [maxLen]) (by omega) (by simp) ?_; intro v' w' h2 h3 h4 h5)
    go_ret
    have hG : Gr 3 AtomR 78 w.heap.size w' v' [] [] := ⟨[], rfl, rfl, by simpa using h2, (fun _ _ => by simp), (fun k x cs bk h => by simp at h)⟩
    obtain ⟨bs', q1, q2, q3⟩ := hG.done
    exact ⟨_, bs', rfl, q1, q2 (Fr.nil _ _), hB.grown h3 (by simp) (fun k hk => by have h9 : w.heap.size = k := (by injection hk); omega)⟩
end Go.Proofs.Ytfkpllkgganejaa
