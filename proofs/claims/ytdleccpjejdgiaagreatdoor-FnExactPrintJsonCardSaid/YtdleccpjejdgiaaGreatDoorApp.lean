/- append of a slice that reads as a list, onto a row of the call's own: the run, the step of a walk, the step of a region that draws. No statement is proved here; no conditions. -/
import Derived.Test.YtdleccpjejdgiaaGreatDoorOwns
import Derived.Laws.OwnMore
namespace Go.Proofs.YtdleccpjejdgiaaGreatDoor
open Go.ChangeShapes Go.WideShapes Go.ChangeAt Go.RowKit Go.Deep
set_option maxRecDepth 100000
set_option linter.unusedVariables false

/-- What is known behind an append onto the row v (its blocks bss, its elements xs, from block lo on). -/
structure Apd {α : Type} (size : Nat) (R : Rd α) (e : TypeId) (lo : Nat) (w : World) (v : Value) (bss : List (List Nat)) (xs : List α) (bs2 : List Nat) (ys : List α) (v' : Value) (w' : World) (bss2 : List (List Nat)) : Prop where
  gr : Gr size R e lo w' v' (bss ++ bss2) (xs ++ ys)
  sub : ∀ b ∈ bss2.flatten, b ∈ bs2
  nd : bs2.Nodup → bss2.flatten.Nodup
  below : ∀ B w0, Below B w0 w → B ≤ lo → Below B w0 w'
  hold : ∀ k, k < w.heap.size → v.ownBlock ≠ some k → w'.heap[k]? = w.heap[k]?
  size : w.heap.size ≤ w'.heap.size
  own : v'.ownBlock = v.ownBlock ∨ ∃ k, v'.ownBlock = some k ∧ w.heap.size ≤ k
section
variable {α : Type} {R : Rd α} {P : Program} {size : Nat}
theorem SlR.flat2 {w : World} {bs : List Nat} {b o n c : Nat} {xs : List α} (h : SlR size R w bs [.slice (some ⟨b, o, none⟩) n c] xs) :
    ∃ (css : List (List Value)) (bss : List (List Nat)), css.length = xs.length ∧ bss.length = xs.length ∧ (∀ j u, css.flatten[j]? = some u → w.cell? ⟨b, o + j, none⟩ = some u) ∧ (∀ x ∈ bss.flatten, x ∈ bs) ∧ (bs.Nodup → bss.flatten.Nodup) ∧ (∀ c ∈ css, c.length = size) ∧
      ∀ (k : Nat) (x : α) (cs : List Value) (bk : List Nat), xs[k]? = some x → css[k]? = some cs → bss[k]? = some bk → cs.length = size ∧ R w bk cs x := by
  obtain ⟨A', c', hv, h1, h2, h3⟩ := h
  obtain ⟨rfl, rfl, rfl⟩ : some ⟨b, o, none⟩ = A' ∧ n = xs.length ∧ c = c' := by simpa using hv
  rcases h3 with ⟨rfl, rfl⟩ | ⟨b', o', bss, hA, hb, hl, rfl, hel⟩
  · exact ⟨[], [], rfl, rfl, (fun j u h => by simp at h), (fun x h => by simp at h), (fun _ => List.nodup_nil), (fun c h => by simp at h), (fun k x cs bk h => by simp at h)⟩
  injection hA with hA; injection hA with e1 e2; subst e1; subst e2
  have hall : ∀ k, k < xs.length → ∃ cs : List Value, cs.length = size ∧ (∀ j u, cs[j]? = some u → w.cell? ⟨b, o + k * size + j, none⟩ = some u) ∧ ∀ x bk, xs[k]? = some x → bss[k]? = some bk → R w bk cs x := by
    intro k hk
    obtain ⟨bk, hbk⟩ := idx_some (l := bss) (k := k) (by omega)
    obtain ⟨es, q1, q2, q3⟩ := hel k xs[k] bk (List.getElem?_eq_getElem hk) hbk
    refine ⟨es, q1, q2, fun x bk' hx' hbk' => ?_⟩
    rw [List.getElem?_eq_getElem hk] at hx'; injection hx' with hx'; subst hx'
    rw [hbk] at hbk'; injection hbk' with hbk'; subst hbk'
    exact q3
  obtain ⟨f, hf⟩ := choose_lt hall
  have hlen : ∀ c ∈ (List.range xs.length).map f, c.length = size := fun c hc => by
    obtain ⟨k, hk, rfl⟩ := List.mem_map.1 hc
    exact (hf k (List.mem_range.1 hk)).1
  refine ⟨(List.range xs.length).map f, bss, by simp, hl, fun j u hu => ?_, fun x hx => List.mem_cons_of_mem _ hx, fun hn => (List.nodup_cons.1 hn).2, hlen, fun k x cs bk hx' hcs hbk => ?_⟩
  · obtain ⟨k, i, cs, h4, h5, rfl⟩ := flat_at _ hlen j u hu
    have hk := idx_lt h4
    simp only [List.length_map, List.length_range] at hk
    simp only [List.getElem?_map, List.getElem?_range hk, Option.map_some, Option.some.injEq] at h4
    subst h4
    have := (hf k hk).2.1 i u h5
    rw [Nat.add_assoc] at this; exact this
  · have hpl := idx_lt hx'
    simp only [List.getElem?_map, List.getElem?_range hpl, Option.map_some, Option.some.injEq] at hcs
    subst hcs; exact ⟨(hf k hpl).1, (hf k hpl).2.2 x bk hx' hbk⟩
theorem run_append_none_c {w : World} {base : Nat} {t ty e : TypeId} {i : TypeInfo} (ht : P.underlying t = some (.slice e)) (hi : P.info? e = some i)
    {v : Value} {n c : Nat} {xs : List Value} (hown : w.ownsRow base e size v n xs) : (Builtin.append_ #[t, t] ty #[v, .slice none 0 c]).run P w = .ok v w := by
  rcases hown.2 with ⟨rfl, rfl⟩ | ⟨g, cap, cur, rfl, _, _, hnc, _⟩
  · simp [Builtin.append_, run_underlying ht, sizeOf, typeInfo, hi, Builtin.lenOf, Builtin.firstCells]
  · simp [Builtin.append_, run_underlying ht, sizeOf, typeInfo, hi, Builtin.lenOf, Builtin.firstCells, hnc, storeCells]
theorem run_append_sl (g : Good R) {t ty : TypeId} {lo : Nat} {e : TypeId} {i : TypeInfo} {z : Value} {bytes : Nat} (ht : P.underlying t = some (.slice e)) (hi : P.info? e = some i) (hz : i.zero = some z)
    (hsize : i.size = size) (hby : i.bytes = bytes) (hzs : z.cells.size = size) (hsz : 0 < size)
    {w : World} {v : Value} {bss : List (List Nat)} {xs : List α} (hg : Gr size R e lo w v bss xs)
    {A : Option Addr} {m c : Nat} {bs2 : List Nat} {ys : List α} (hS : SlR size R w bs2 [.slice A m c] ys) (hone : ∀ (w : World) bk cs (y : α), R w bk cs y → ∀ u ∈ cs, u.oneCell' = true) (hnb : ∀ b ∈ bs2, v.ownBlock ≠ some b)
    (h63 : xs.length + ys.length ≤ 9223372036854775807) (hbytes : (xs.length + ys.length) * bytes ≤ 140737488355328) (hlo : lo ≤ w.heap.size) :
    ∃ v' w' bss2, (Builtin.append_ #[t, t] ty #[v, .slice A m c]).run P w = .ok v' w' ∧ Apd size R e lo w v bss xs bs2 ys v' w' bss2 := by
  have hg0 := hg
  obtain ⟨css, hc, hbl, hown, hn, hel⟩ := hg
  have hml : m = ys.length := by obtain ⟨A', c', hv, _⟩ := hS; have := hv; simp at this; exact this.2.1
  have hempty : ys = [] → ∀ v' w', w'.ownsRow lo e size v' (xs.length + 0) (css.flatten ++ []) → w.grownBy w' v.ownBlock → (v'.ownBlock = v.ownBlock ∨ v'.ownBlock = some w.heap.size) → Apd size R e lo w v bss xs bs2 ys v' w' [] := by
    intro hy v' w' h2 h3 h5
    subst hy
    have hold : ∀ k, k < w.heap.size → v.ownBlock ≠ some k → w'.heap[k]? = w.heap[k]? := fun k hk hne => h3.block k hk (fun e => hne e.symm)
    refine ⟨?_, (fun b hb => by simp at hb), (fun _ => List.nodup_nil), fun B w0 hB hBl => hB.grown h3 (by omega) (fun k hk => by have := (hown.lt k hk).1; omega), hold, h3.size, ?_⟩
    · rw [List.append_nil, List.append_nil]
      refine ⟨css, hc, hbl, by simpa using h2, fun k hk => ?_, fun k x' cs bk' hx' hcs hbk' => ?_⟩
      · rcases h5 with h5 | h5
        · rw [h5] at hk; exact hn k hk
        · rw [h5] at hk; injection hk with hk; subst hk
          exact fun hm => by have := Gr.lt g hg0 _ hm; omega
      · obtain ⟨q1, q2⟩ := hel k x' cs bk' hx' hcs hbk'
        exact ⟨q1, g.keep q2 fun b hm => hold b (g.lt q2 b hm) fun hv => hn b hv (List.mem_flatten.2 ⟨bk', List.mem_of_getElem? hbk', hm⟩)⟩
    · rcases h5 with h5 | h5
      · exact .inl h5
      · exact .inr ⟨_, h5, Nat.le_refl _⟩
  rcases A with _ | ⟨b0, o0, sp⟩
  · obtain ⟨rfl, rfl⟩ := hS.none_nil
    exact ⟨v, w, [], run_append_none_c ht hi hown, hempty rfl v w (by simpa using hown) ⟨rfl, rfl, rfl, Nat.le_refl _, fun _ _ _ => rfl⟩ (.inl rfl)⟩
  by_cases hsp : sp = none
  · subst hsp
    obtain ⟨css2, bss2, hc2, hb2, hcell, hsub, hnd, hlen2, hel2⟩ := hS.flat2
    have hfl : css2.flatten.length = ys.length * size := by
      rw [List.length_flatten, ← hc2]
      have : css2.map List.length = List.replicate css2.length size := by
        apply List.ext_getElem (by simp)
        intro k h1 h2; simp; exact hlen2 _ (List.getElem_mem _)
      rw [this, List.sum_replicate_nat]
    have hone2 : ∀ u ∈ css2.flatten, u.oneCell' = true := fun u hu => by
      obtain ⟨cs, hcs, hu⟩ := List.mem_flatten.1 hu
      obtain ⟨k, hk⟩ := List.getElem?_of_mem hcs
      have hkl := idx_lt hk
      obtain ⟨y, hy⟩ := idx_some (l := ys) (k := k) (by omega)
      obtain ⟨bk, hbk⟩ := idx_some (l := bss2) (k := k) (by omega)
      exact hone w bk cs y (hel2 k y cs bk hy hk hbk).2 u hu
    have hlt2 : ∀ b ∈ bss2.flatten, b < w.heap.size := fun b hm => by
      obtain ⟨bk, hbk, hm⟩ := List.mem_flatten.1 hm
      obtain ⟨k, hk⟩ := List.getElem?_of_mem hbk
      have hkl := idx_lt hk
      obtain ⟨y, hy⟩ := idx_some (l := ys) (k := k) (by omega)
      obtain ⟨cs, hcs⟩ := idx_some (l := css2) (k := k) (by omega)
      exact g.lt (hel2 k y cs bk hy hcs hk).2 b hm
    subst hml
    obtain ⟨v', w', hr, h2, h3, h4, h5⟩ := run_append_own_at (P := P) w lo t ty e i z size bytes ht hi hz hsize hby hzs hsz v xs.length css.flatten hown ⟨b0, o0, none⟩ ys.length c css2.flatten hfl (fun j u hu => by rw [add_form]; exact hcell j u hu) hone2 (by unfold maxLen; omega) hbytes hlo
    have hold : ∀ k, k < w.heap.size → v.ownBlock ≠ some k → w'.heap[k]? = w.heap[k]? := fun k hk hne => h3.block k hk (fun e => hne e.symm)
    refine ⟨v', w', bss2, hr, ⟨⟨css ++ css2, by simp [hc, hc2], by simp [hbl, hb2], ?_, fun k hk => ?_, fun k x' cs bk' hx' hcs hbk' => ?_⟩, hsub, hnd, fun B w0 hB hBl => hB.grown h3 (by omega) (fun k hk => by have := (hown.lt k hk).1; omega), hold, h3.size, ?_⟩⟩
    · rw [List.length_append, List.flatten_append]; exact h2
    · rw [List.flatten_append, List.mem_append]
      rcases h5 with h5 | h5
      · rw [h5] at hk
        exact fun hm => hm.elim (hn k hk) fun hm => hnb k (hsub k hm) hk
      · rw [h5] at hk; injection hk with hk; subst hk
        exact fun hm => hm.elim (fun hm => by have := Gr.lt g hg0 _ hm; omega) fun hm => by have := hlt2 _ hm; omega
    · rcases Nat.lt_or_ge k xs.length with hk | hk
      · rw [List.getElem?_append_left hk] at hx'
        rw [List.getElem?_append_left (by omega)] at hcs hbk'
        obtain ⟨q1, q2⟩ := hel k x' cs bk' hx' hcs hbk'
        exact ⟨q1, g.keep q2 fun b hm => hold b (g.lt q2 b hm) fun hv => hn b hv (List.mem_flatten.2 ⟨bk', List.mem_of_getElem? hbk', hm⟩)⟩
      · rw [List.getElem?_append_right hk] at hx'
        rw [List.getElem?_append_right (by omega), hc] at hcs
        rw [List.getElem?_append_right (by omega), hbl] at hbk'
        obtain ⟨q1, q2⟩ := hel2 (k - xs.length) x' cs bk' hx' hcs hbk'
        exact ⟨q1, g.keep q2 fun b hm => hold b (g.lt q2 b hm) (hnb b (hsub b (List.mem_flatten.2 ⟨bk', List.mem_of_getElem? hbk', hm⟩)))⟩
    · rcases h5 with h5 | h5
      · exact .inl h5
      · exact .inr ⟨_, h5, Nat.le_refl _⟩
  · have hx0 : ys = [] := by
      by_cases hx : ys = []
      · exact hx
      · obtain ⟨A', c', hv, _, _, h3⟩ := hS
        rcases h3 with ⟨h3, _⟩ | ⟨b', o', bss, hA, _⟩
        · exact h3
        · simp at hv; rw [← hv.1] at hA; simp at hA; exact absurd hA.2.2 hsp
    subst hx0
    obtain rfl : m = 0 := by simpa using hml
    obtain ⟨v', w', hr, h2, h3, h4, h5⟩ := run_append_own_at (P := P) w lo t ty e i z size bytes ht hi hz hsize hby hzs hsz v xs.length css.flatten hown ⟨b0, o0, sp⟩ 0 c [] (by simp) (fun j u hu => by simp at hu) (fun u hu => by simp at hu) (by unfold maxLen; omega) (by simpa using hbytes) hlo
    exact ⟨v', w', [], hr, hempty rfl v' w' h2 h3 h5⟩
/-- 'out = append(out, xs...)', for the walk. -/
theorem wpList_append_sl {ops : Array Oper} {rest : List Oper} {o : Oper} {a : Act} {Q : Exit → Act → World → Prop} (g : Good R) (hgd : o.guard = none) (s x : Operand) (t : TypeId)
    (ho : o.op = .call { callee := .builtin .append, args := #[s, x], argTypes := #[t, t] })
    {lo : Nat} {e : TypeId} {i : TypeInfo} {z : Value} {bytes : Nat} (ht : P.underlying t = some (.slice e)) (hi : P.info? e = some i) (hz : i.zero = some z)
    (hsize : i.size = size) (hby : i.bytes = bytes) (hzs : z.cells.size = size) (hsz : 0 < size)
    {w : World} {v : Value} {bss : List (List Nat)} {xs : List α} (hs : a.eval s = v) (hg : Gr size R e lo w v bss xs)
    {A : Option Addr} {m c : Nat} {bs2 : List Nat} {ys : List α} (hS : SlR size R w bs2 [.slice A m c] ys) (hx : a.eval x = .slice A m c) (hone : ∀ (w : World) bk cs (y : α), R w bk cs y → ∀ u ∈ cs, u.oneCell' = true) (hnb : ∀ b ∈ bs2, v.ownBlock ≠ some b)
    (h63 : xs.length + ys.length ≤ 9223372036854775807) (hbytes : (xs.length + ys.length) * bytes ≤ 140737488355328) (hlo : lo ≤ w.heap.size)
    (h : ∀ v' w' bss2, Apd size R e lo w v bss xs bs2 ys v' w' bss2 → wpList P ops Q rest (a.put o.dst v') w') : wpList P ops Q (o :: rest) a w := by
  refine wpList_plain hgd fun K hK => ?_
  obtain ⟨v', w', bss2, hr, hA⟩ := run_append_sl (P := P) (ty := o.type) g ht hi hz hsize hby hzs hsz hg hS hone hnb h63 hbytes hlo
  unfold Oper.wp execOp
  simp only [ho, resolve, invoke, builtin, Sem.run_bind, Sem.run_pure, Result.andThen_ok, List.map_toArray, List.map_cons, List.map_nil, hs, hx, hr]
  exact hK _ _ (h v' w' bss2 hA)
/-- .. and at a step of a region that draws its order. -/
theorem step_append_sl {ops : Array Oper} {o : Oper} {a : Act} {K : Act → World → Prop} {Q : Exit → Act → World → Prop} {E : Prop} (g : Good R) (hgd : o.guard = none) (s x : Operand) (t : TypeId)
    (ho : o.op = .call { callee := .builtin .append, args := #[s, x], argTypes := #[t, t] })
    {lo : Nat} {e : TypeId} {i : TypeInfo} {z : Value} {bytes : Nat} (ht : P.underlying t = some (.slice e)) (hi : P.info? e = some i) (hz : i.zero = some z)
    (hsize : i.size = size) (hby : i.bytes = bytes) (hzs : z.cells.size = size) (hsz : 0 < size)
    {w : World} {v : Value} {bss : List (List Nat)} {xs : List α} (hs : a.eval s = v) (hg : Gr size R e lo w v bss xs)
    {A : Option Addr} {m c : Nat} {bs2 : List Nat} {ys : List α} (hS : SlR size R w bs2 [.slice A m c] ys) (hx : a.eval x = .slice A m c) (hone : ∀ (w : World) bk cs (y : α), R w bk cs y → ∀ u ∈ cs, u.oneCell' = true) (hnb : ∀ b ∈ bs2, v.ownBlock ≠ some b)
    (h63 : xs.length + ys.length ≤ 9223372036854775807) (hbytes : (xs.length + ys.length) * bytes ≤ 140737488355328) (hlo : lo ≤ w.heap.size)
    (h : ∀ v' w' bss2, Apd size R e lo w v bss xs bs2 ys v' w' bss2 → K (a.put o.dst v') w') : if Region.wanted o (yielded ops a.tmps) = true then Oper.wp P o a w K Q else E := by
  have hw : Region.wanted o (yielded ops a.tmps) = true := by simp [Region.wanted, hgd]
  rw [if_pos hw]
  obtain ⟨v', w', bss2, hr, hA⟩ := run_append_sl (P := P) (ty := o.type) g ht hi hz hsize hby hzs hsz hg hS hone hnb h63 hbytes hlo
  unfold Oper.wp execOp
  simp only [ho, resolve, invoke, builtin, Sem.run_bind, Sem.run_pure, Result.andThen_ok, List.map_toArray, List.map_cons, List.map_nil, hs, hx, hr]
  exact h v' w' bss2 hA
end
section
variable {α : Type} {R : Rd α} {size : Nat}
/-- One element that lies in a block of its own. -/
theorem row_of_one {w : World} {g : Nat} {t : TypeId} {cs : List Value} {bk : List Nat} {x : α} (h : w.heap[g]? = some (.cells cs.toArray t (0, 0))) (hR : R w bk cs x) (hl : cs.length = size) : SlR size R w (g :: bk) [.slice (some ⟨g, 0, none⟩) 1 1] [x] := by
  refine ⟨_, 1, rfl, Nat.le_refl _, by unfold maxLen; omega, .inr ⟨g, 0, [bk], rfl, lt_of_cells h, rfl, by simp, fun k y b hx hbk => ?_⟩⟩
  match k with
  | 0 =>
    simp only [List.getElem?_cons_zero, Option.some.injEq] at hx hbk
    subst hx; subst hbk
    refine ⟨cs, hl, fun j u hu => ?_, hR⟩
    rw [blk_cells h]; simpa using hu
  | k + 1 => simp at hx
theorem Apd.fr {lo mid : Nat} {e : TypeId} {w : World} {v : Value} {bss : List (List Nat)} {xs ys : List α} {bs2 : List Nat} {v' : Value} {w' : World} {bss2 : List (List Nat)} (g : Good R) (h : Apd size R e lo w v bss xs bs2 ys v' w' bss2)
    (hg : Gr size R e lo w v bss xs) (hf : Fr lo w bss.flatten) (hf2 : Fr mid w bs2) (hlm : lo ≤ mid) (hm : ∀ b ∈ bss.flatten, b < mid) (hnb : ∀ b ∈ bs2, v.ownBlock ≠ some b) : Fr lo w' (bss ++ bss2).flatten := by
  rw [List.flatten_append]
  obtain ⟨css, _, _, _, hn, _⟩ := hg
  refine Fr.append (mid := mid) (hf.keep fun b hb => h.hold b (hf.lt b hb) fun hv => hn b hv hb) (Fr.keep ⟨h.nd hf2.1, fun b hb => hf2.2 b (h.sub b hb)⟩ fun b hb => h.hold b (hf2.lt b (h.sub b hb)) (hnb b (h.sub b hb))) hlm hm
end
section
variable {α : Type} {R : Rd α} {P : Program} {size : Nat}
theorem cell_on {w w1 : World} {a : Addr} {v : Value} (h : w.cell? a = some v) (hb : Below w.heap.size w w1) : w1.cell? a = some v := (hb.cell (World.block_lt_of_cell? w a h)).trans h
theorem cell_al {w : World} {a : Addr} {v : Value} (h : w.cell? a = some v) (o : Obj) : (w.alloc o).cell? a = some v := cell_on h ((Below.refl _ _).alloc (Nat.le_refl _) o)
theorem Own.push {lo : Nat} {e : TypeId} {w w1 : World} {v : Value} {xs : List α} (g : Good R) (hg : Own size R e lo w v xs) (hb : Below w.heap.size w w1) {bk : List Nat} {cy : List Value} {y : α} (hR : R w1 bk cy y) (hfk : Fr w.heap.size w1 bk) (hl : cy.length = size) (hlo : lo ≤ w.heap.size) :
    ∃ bss bs2, Gr size R e lo (w1.alloc (.cells cy.toArray e)) v bss xs ∧ SlR size R (w1.alloc (.cells cy.toArray e)) bs2 [.slice (some ⟨w1.heap.size, 0, none⟩) 1 1] [y] ∧ (∀ b ∈ bs2, v.ownBlock ≠ some b) ∧
      ∀ v' w' bss2, Apd size R e lo (w1.alloc (.cells cy.toArray e)) v bss xs bs2 [y] v' w' bss2 → Own size R e lo w' v' (xs ++ [y]) ∧ (∀ B w0, Below B w0 w1 → B ≤ lo → Below B w0 w') ∧ w1.heap.size ≤ w'.heap.size ∧ (∀ k, k < w1.heap.size → v.ownBlock ≠ some k → w'.heap[k]? = w1.heap[k]?) ∧ (v'.ownBlock = v.ownBlock ∨ ∃ k, v'.ownBlock = some k ∧ w1.heap.size ≤ k) := by
  obtain ⟨bss, hG, hf⟩ := hg
  have hal := (Below.refl w1.heap.size w1).alloc (Nat.le_refl _) (.cells cy.toArray e)
  have hG1 := (hG.below g hb).below g hal
  have hS := row_of_one (size := size) (blk_new w1 cy.toArray e) (g.nxt hal hR) hl
  have hblk := hG.blk
  have hs := hb.size
  have hlt := hfk.lt
  have hnb : ∀ b ∈ w1.heap.size :: bk, v.ownBlock ≠ some b := fun b hm hv => by
    have h1 := (hblk b hv).2
    rcases List.mem_cons.1 hm with rfl | hm
    · omega
    · have := (hfk.2 b hm).1; omega
  refine ⟨bss, _, hG1, hS, hnb, fun v' w' bss2 hA => ⟨⟨_, hA.gr, ?_⟩, fun B w0 hB hl => hA.below B w0 (hB.alloc (Nat.le_trans hl (by omega)) _) hl, by have := hA.size; simp at this; omega, fun k hk hne => (hA.hold k (by simp; omega) hne).trans (Below.heap_alloc w1 _ k hk), ?_⟩⟩
  · have hf1 := (hf.below hb).below hal
    have hf2 : Fr w.heap.size (w1.alloc (.cells cy.toArray e)) (w1.heap.size :: bk) := ⟨List.nodup_cons.2 ⟨fun hm => by have := hlt _ hm; omega, hfk.1⟩, fun b hm => by
      rcases List.mem_cons.1 hm with rfl | hm
      · exact ⟨hs, _, _, blk_new w1 _ _⟩
      · exact (hfk.below hal).2 b hm⟩
    exact hA.fr g hG1 hf1 hf2 hlo (fun b hm => hf.lt b hm) hnb
  · rcases hA.own with h | ⟨k, h, h2⟩
    · exact .inl h
    · exact .inr ⟨k, h, by simp at h2; omega⟩
/-- 'out = append(out, x)' in a region that draws its order. -/
theorem step_append_own {ops : Array Oper} {o : Oper} {a : Act} {K : Act → World → Prop} {Q : Exit → Act → World → Prop} {E : Prop} (g : Good R) (hgd : o.guard = none) (s x : Operand) (t : TypeId)
    (ho : o.op = .call { callee := .builtin .append, args := #[s, x], argTypes := #[t, t] })
    {lo : Nat} {e : TypeId} {i : TypeInfo} {z : Value} {bytes : Nat} (ht : P.underlying t = some (.slice e)) (hi : P.info? e = some i) (hz : i.zero = some z)
    (hsize : i.size = size) (hby : i.bytes = bytes) (hzs : z.cells.size = size) (hsz : 0 < size) (hone : ∀ (w : World) bk cs (y : α), R w bk cs y → ∀ u ∈ cs, u.oneCell' = true)
    {w w1 : World} {v : Value} {xs : List α} (hs : a.eval s = v) (hg : Own size R e lo w v xs) (hb : Below w.heap.size w w1)
    {bk : List Nat} {cy : List Value} {y : α} (hR : R w1 bk cy y) (hfk : Fr w.heap.size w1 bk) (hx : a.eval x = .slice (some ⟨w1.heap.size, 0, none⟩) 1 1) (hl : cy.length = size)
    (h63 : xs.length + 1 ≤ 9223372036854775807) (hbytes : (xs.length + 1) * bytes ≤ 140737488355328) (hlo : lo ≤ w.heap.size)
    (h : ∀ v' w', Own size R e lo w' v' (xs ++ [y]) → (∀ B w0, Below B w0 w1 → B ≤ lo → Below B w0 w') → w1.heap.size ≤ w'.heap.size → (∀ k, k < w1.heap.size → v.ownBlock ≠ some k → w'.heap[k]? = w1.heap[k]?) → (v'.ownBlock = v.ownBlock ∨ ∃ k, v'.ownBlock = some k ∧ w1.heap.size ≤ k) → K (a.put o.dst v') w') :
    if Region.wanted o (yielded ops a.tmps) = true then Oper.wp P o a (w1.alloc (.cells cy.toArray e)) K Q else E := by
  obtain ⟨bss, bs2, hG, hS, hnb, hf⟩ := hg.push g hb hR hfk hl hlo
  refine step_append_sl g hgd s x t ho ht hi hz hsize hby hzs hsz hs hG hS hx hone hnb (by simpa using h63) (by simpa using hbytes) (by have := hb.size; simp; omega) fun v' w' bss2 hA => ?_
  obtain ⟨h1, h2, h3, h4, h5⟩ := hf v' w' bss2 hA
  exact h v' w' h1 h2 h3 h4 h5
end
section
variable {α : Type} {R : Rd α} {P : Program} {size : Nat}
/-- A row of the call's own, apart from the block 'out' (which holds the row's value). -/
def OwnA (size : Nat) (R : Rd α) (e : TypeId) (lo out : Nat) (w : World) (v : Value) (xs : List α) : Prop := ∃ bss, Gr size R e lo w v bss xs ∧ Fr lo w bss.flatten ∧ v.ownBlock ≠ some out ∧ out ∉ bss.flatten
theorem OwnA.own {e : TypeId} {lo out : Nat} {w : World} {v : Value} {xs : List α} (h : OwnA size R e lo out w v xs) : Own size R e lo w v xs := by obtain ⟨bss, h1, h2, _⟩ := h; exact ⟨bss, h1, h2⟩
theorem OwnA.made {e : TypeId} {w : World} {n out : Nat} (h : w.heap.size = n) (ho : n ≠ out) : OwnA size R e w.heap.size out (w.alloc (.cells #[] e)) (.slice (some ⟨n, 0, none⟩) 0 0) [] := by
  obtain ⟨bss, h1, h2⟩ := Own.made' (size := size) (R := R) (e := e) h
  have hb : bss = [] := by obtain ⟨css, _, hb, _⟩ := h1; exact List.eq_nil_of_length_eq_zero hb
  subst hb
  exact ⟨[], h1, h2, by simp [Value.ownBlock, ho], by simp⟩
theorem OwnA.below {e : TypeId} {lo out : Nat} {w w' : World} {v : Value} {xs : List α} (g : Good R) (h : OwnA size R e lo out w v xs) (hb : Below w.heap.size w w') : OwnA size R e lo out w' v xs := by
  obtain ⟨bss, h, hf, h2⟩ := h; exact ⟨bss, h.below g hb, hf.below hb, h2⟩
theorem OwnA.set {e : TypeId} {lo out : Nat} {w : World} {v : Value} {xs : List α} (g : Good R) (h : OwnA size R e lo out w v xs) (j : Nat) (u : Value) : OwnA size R e lo out (w.setCell ⟨out, j, none⟩ u) v xs := by
  obtain ⟨bss, h1, hf, h2, h3⟩ := h
  exact ⟨bss, h1.keep g (fun k hk => blk_far (p := ⟨out, j, none⟩) (fun e => h2 (by have e : k = out := e; rw [← e]; exact hk)) u) (fun b hb => blk_far (p := ⟨out, j, none⟩) (fun e => h3 (by have e : b = out := e; rw [← e]; exact hb)) u), hf.keep fun b hb => blk_far (p := ⟨out, j, none⟩) (fun e => h3 (by have e : b = out := e; rw [← e]; exact hb)) u, h2, h3⟩
theorem OwnA.push {lo out : Nat} {e : TypeId} {w w1 : World} {v : Value} {xs : List α} (g : Good R) (hg : OwnA size R e lo out w v xs) (hb : Below w.heap.size w w1) (hout : out < w.heap.size) {bk : List Nat} {cy : List Value} {y : α} (hR : R w1 bk cy y) (hfk : Fr w.heap.size w1 bk) (hl : cy.length = size) (hlo : lo ≤ w.heap.size) :
    ∃ bss bs2, Gr size R e lo (w1.alloc (.cells cy.toArray e)) v bss xs ∧ SlR size R (w1.alloc (.cells cy.toArray e)) bs2 [.slice (some ⟨w1.heap.size, 0, none⟩) 1 1] [y] ∧ (∀ b ∈ bs2, v.ownBlock ≠ some b) ∧
      ∀ v' w' bss2, Apd size R e lo (w1.alloc (.cells cy.toArray e)) v bss xs bs2 [y] v' w' bss2 → OwnA size R e lo out w' v' (xs ++ [y]) ∧ (∀ B w0, Below B w0 w1 → B ≤ lo → Below B w0 w') ∧ w1.heap.size ≤ w'.heap.size ∧ w'.heap[out]? = w1.heap[out]? ∧ (∀ k, w.heap.size ≤ k → k < w1.heap.size → w'.heap[k]? = w1.heap[k]?) := by
  obtain ⟨bss, hG, hf, ho1, ho2⟩ := hg
  have hal := (Below.refl w1.heap.size w1).alloc (Nat.le_refl _) (.cells cy.toArray e)
  have hG1 := (hG.below g hb).below g hal
  have hS := row_of_one (size := size) (blk_new w1 cy.toArray e) (g.nxt hal hR) hl
  have hblk := hG.blk
  have hs := hb.size
  have hlt := hfk.lt
  have hnb : ∀ b ∈ w1.heap.size :: bk, v.ownBlock ≠ some b := fun b hm hv => by
    have h1 := (hblk b hv).2
    rcases List.mem_cons.1 hm with rfl | hm
    · omega
    · have := (hfk.2 b hm).1; omega
  refine ⟨bss, _, hG1, hS, hnb, fun v' w' bss2 hA => ⟨⟨_, hA.gr, ?_, ?_, ?_⟩, fun B w0 hB hl => hA.below B w0 (hB.alloc (Nat.le_trans hl (by omega)) _) hl, by have := hA.size; simp at this; omega, (hA.hold out (by simp; omega) ho1).trans (Below.heap_alloc w1 _ out (by omega)), fun k hk hk1 => (hA.hold k (by simp; omega) (fun hv => by have := (hblk k hv).2; omega)).trans (Below.heap_alloc w1 _ k hk1)⟩⟩
  · have hf1 := (hf.below hb).below hal
    have hf2 : Fr w.heap.size (w1.alloc (.cells cy.toArray e)) (w1.heap.size :: bk) := ⟨List.nodup_cons.2 ⟨fun hm => by have := hlt _ hm; omega, hfk.1⟩, fun b hm => by
      rcases List.mem_cons.1 hm with rfl | hm
      · exact ⟨hs, _, _, blk_new w1 _ _⟩
      · exact (hfk.below hal).2 b hm⟩
    exact hA.fr g hG1 hf1 hf2 hlo (fun b hm => hf.lt b hm) hnb
  · rcases hA.own with h | ⟨k, h, h2⟩
    · rw [h]; exact ho1
    · rw [h]; intro he; injection he with he; simp at h2; omega
  · rw [List.flatten_append, List.mem_append]
    rintro (hm | hm)
    · exact ho2 hm
    · rcases List.mem_cons.1 (hA.sub _ hm) with h | h
      · omega
      · have := (hfk.2 _ h).1; omega
/-- 'x.f = append(x.f, y)' in a region that draws its order: the append. -/
theorem step_append_ownA {ops : Array Oper} {o : Oper} {a : Act} {K : Act → World → Prop} {Q : Exit → Act → World → Prop} {E : Prop} (g : Good R) (hgd : o.guard = none) (s x : Operand) (t : TypeId)
    (ho : o.op = .call { callee := .builtin .append, args := #[s, x], argTypes := #[t, t] })
    {lo out : Nat} {e : TypeId} {i : TypeInfo} {z : Value} {bytes : Nat} (ht : P.underlying t = some (.slice e)) (hi : P.info? e = some i) (hz : i.zero = some z)
    (hsize : i.size = size) (hby : i.bytes = bytes) (hzs : z.cells.size = size) (hsz : 0 < size) (hone : ∀ (w : World) bk cs (y : α), R w bk cs y → ∀ u ∈ cs, u.oneCell' = true)
    {w w1 : World} {v : Value} {xs : List α} (hs : a.eval s = v) (hg : OwnA size R e lo out w v xs) (hb : Below w.heap.size w w1) (hout : out < w.heap.size)
    {bk : List Nat} {cy : List Value} {y : α} (hR : R w1 bk cy y) (hfk : Fr w.heap.size w1 bk) (hx : a.eval x = .slice (some ⟨w1.heap.size, 0, none⟩) 1 1) (hl : cy.length = size)
    (h63 : xs.length + 1 ≤ 9223372036854775807) (hbytes : (xs.length + 1) * bytes ≤ 140737488355328) (hlo : lo ≤ w.heap.size)
    (h : ∀ v' w', OwnA size R e lo out w' v' (xs ++ [y]) → (∀ B w0, Below B w0 w1 → B ≤ lo → Below B w0 w') → w1.heap.size ≤ w'.heap.size → w'.heap[out]? = w1.heap[out]? → (∀ k, w.heap.size ≤ k → k < w1.heap.size → w'.heap[k]? = w1.heap[k]?) → K (a.put o.dst v') w') :
    if Region.wanted o (yielded ops a.tmps) = true then Oper.wp P o a (w1.alloc (.cells cy.toArray e)) K Q else E := by
  obtain ⟨bss, bs2, hG, hS, hnb, hf⟩ := hg.push g hb hout hR hfk hl hlo
  refine step_append_sl g hgd s x t ho ht hi hz hsize hby hzs hsz hs hG hS hx hone hnb (by simpa using h63) (by simpa using hbytes) (by have := hb.size; simp; omega) fun v' w' bss2 hA => ?_
  obtain ⟨h1, h2, h3, h4, h5⟩ := hf v' w' bss2 hA
  exact h v' w' h1 h2 h3 h4 h5
/-- .. in a plain region. -/
theorem wpList_append_ownA {ops : Array Oper} {rest : List Oper} {o : Oper} {a : Act} {Q : Exit → Act → World → Prop} (g : Good R) (hgd : o.guard = none) (s x : Operand) (t : TypeId)
    (ho : o.op = .call { callee := .builtin .append, args := #[s, x], argTypes := #[t, t] })
    {lo out : Nat} {e : TypeId} {i : TypeInfo} {z : Value} {bytes : Nat} (ht : P.underlying t = some (.slice e)) (hi : P.info? e = some i) (hz : i.zero = some z)
    (hsize : i.size = size) (hby : i.bytes = bytes) (hzs : z.cells.size = size) (hsz : 0 < size) (hone : ∀ (w : World) bk cs (y : α), R w bk cs y → ∀ u ∈ cs, u.oneCell' = true)
    {w w1 : World} {v : Value} {xs : List α} (hs : a.eval s = v) (hg : OwnA size R e lo out w v xs) (hb : Below w.heap.size w w1) (hout : out < w.heap.size)
    {bk : List Nat} {cy : List Value} {y : α} (hR : R w1 bk cy y) (hfk : Fr w.heap.size w1 bk) (hx : a.eval x = .slice (some ⟨w1.heap.size, 0, none⟩) 1 1) (hl : cy.length = size)
    (h63 : xs.length + 1 ≤ 9223372036854775807) (hbytes : (xs.length + 1) * bytes ≤ 140737488355328) (hlo : lo ≤ w.heap.size)
    (h : ∀ v' w', OwnA size R e lo out w' v' (xs ++ [y]) → (∀ B w0, Below B w0 w1 → B ≤ lo → Below B w0 w') → w1.heap.size ≤ w'.heap.size → w'.heap[out]? = w1.heap[out]? → (∀ k, w.heap.size ≤ k → k < w1.heap.size → w'.heap[k]? = w1.heap[k]?) → wpList P ops Q rest (a.put o.dst v') w') :
    wpList P ops Q (o :: rest) a (w1.alloc (.cells cy.toArray e)) := by
  obtain ⟨bss, bs2, hG, hS, hnb, hf⟩ := hg.push g hb hout hR hfk hl hlo
  refine wpList_append_sl g hgd s x t ho ht hi hz hsize hby hzs hsz hs hG hS hx hone hnb (by simpa using h63) (by simpa using hbytes) (by have := hb.size; simp; omega) fun v' w' bss2 hA => ?_
  obtain ⟨h1, h2, h3, h4, h5⟩ := hf v' w' bss2 hA
  exact h v' w' h1 h2 h3 h4 h5
end
end Go.Proofs.YtdleccpjejdgiaaGreatDoor
