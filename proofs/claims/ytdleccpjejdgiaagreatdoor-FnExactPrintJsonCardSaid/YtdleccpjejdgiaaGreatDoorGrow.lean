/- A row of the call's own that grows by append; parts of slices. No statement is proved here; no conditions. -/
import Derived.Test.YtdleccpjejdgiaaGreatDoorUpd
import Derived.Maps.AppendAt
namespace Go.Proofs.YtdleccpjejdgiaaGreatDoor
open Go.ChangeShapes Go.WideShapes Go.ChangeAt Go.RowKit Go.Deep
set_option maxRecDepth 100000
set_option linter.unusedVariables false

section
variable {α : Type} {R : Rd α} {size : Nat}
/-- A row of the call's own (from block lo on), as append leaves it: element k reads at the blocks bss[k]. -/
def Gr (size : Nat) (R : Rd α) (e : TypeId) (lo : Nat) (w : World) (v : Value) (bss : List (List Nat)) (xs : List α) : Prop :=
  ∃ css : List (List Value), css.length = xs.length ∧ bss.length = xs.length ∧ w.ownsRow lo e size v xs.length css.flatten ∧ (∀ k, v.ownBlock = some k → k ∉ bss.flatten) ∧
    ∀ (k : Nat) (x : α) (cs : List Value) (bk : List Nat), xs[k]? = some x → css[k]? = some cs → bss[k]? = some bk → cs.length = size ∧ R w bk cs x

theorem Gr.nil (e : TypeId) (lo : Nat) (w : World) : Gr size R e lo w (.slice none 0 0) [] [] := ⟨[], rfl, rfl, World.ownsRow_nil w lo e size, (fun _ _ => by simp), (fun k x cs bk h => by simp at h)⟩
theorem Gr.made {e : TypeId} {lo : Nat} (w : World) (cur : Array Value) (cap : Nat) (hb : lo ≤ w.heap.size) (hm : cap ≤ maxLen) (hs : cur.size = cap * size) :
    Gr size R e lo (w.alloc (.cells cur e)) (.slice (some ⟨w.heap.size, 0, none⟩) 0 cap) [] [] := ⟨[], rfl, rfl, World.ownsRow_made w cur cap hb hm hs, (fun _ _ => by simp), (fun k x cs bk h => by simp at h)⟩
theorem idx_some {β : Type} {l : List β} {k : Nat} (h : k < l.length) : ∃ x, l[k]? = some x := ⟨l[k], List.getElem?_eq_getElem h⟩
theorem idx_lt {β : Type} {l : List β} {k : Nat} {x : β} (h : l[k]? = some x) : k < l.length := by
  rcases Nat.lt_or_ge k l.length with h' | h'
  · exact h'
  · rw [List.getElem?_eq_none h'] at h; cases h
theorem Gr.form {e : TypeId} {lo : Nat} {w : World} {v : Value} {bss : List (List Nat)} {xs : List α} (h : Gr size R e lo w v bss xs) : ∃ A c, v = .slice A xs.length c ∧ xs.length ≤ c ∧ c ≤ 9223372036854775807 := by
  obtain ⟨css, _, _, ⟨_, ho⟩, _⟩ := h
  rcases ho with ⟨rfl, h0⟩ | ⟨g, cap, cur, rfl, _, _, h1, h2, _⟩
  · exact ⟨none, 0, by rw [h0], by omega, by omega⟩
  · exact ⟨_, cap, rfl, h1, by unfold maxLen at h2; omega⟩
theorem Gr.blk {e : TypeId} {lo : Nat} {w : World} {v : Value} {bss : List (List Nat)} {xs : List α} (h : Gr size R e lo w v bss xs) : ∀ k, v.ownBlock = some k → lo ≤ k ∧ k < w.heap.size := by
  obtain ⟨css, _, _, ho, _⟩ := h
  exact ho.lt
theorem Gr.lt {e : TypeId} {lo : Nat} {w : World} {v : Value} {bss : List (List Nat)} {xs : List α} (g : Good R) (h : Gr size R e lo w v bss xs) : ∀ b ∈ bss.flatten, b < w.heap.size := by
  obtain ⟨css, hc, hb, ho, hn, hel⟩ := h
  intro b hm
  obtain ⟨bk, hbk, hm⟩ := List.mem_flatten.1 hm
  obtain ⟨i, hi⟩ := List.getElem?_of_mem hbk
  have hil := idx_lt hi
  obtain ⟨x, hx⟩ := idx_some (l := xs) (k := i) (by omega)
  obtain ⟨cs, hcs⟩ := idx_some (l := css) (k := i) (by omega)
  exact g.lt (hel i x cs bk hx hcs hi).2 b hm
/-- What it hangs on: its own block and the elements'. -/
theorem Gr.keep {e : TypeId} {lo : Nat} {w w' : World} {v : Value} {bss : List (List Nat)} {xs : List α} (g : Good R) (h : Gr size R e lo w v bss xs)
    (h1 : ∀ k, v.ownBlock = some k → w'.heap[k]? = w.heap[k]?) (h2 : ∀ b ∈ bss.flatten, w'.heap[b]? = w.heap[b]?) : Gr size R e lo w' v bss xs := by
  obtain ⟨css, hc, hb, ⟨hl, ho⟩, hn, hel⟩ := h
  refine ⟨css, hc, hb, ⟨hl, ?_⟩, hn, fun k x cs bk hx hcs hbk => ?_⟩
  · rcases ho with h0 | ⟨gg, cap, cur, rfl, a1, a2, a3⟩
    · exact .inl h0
    · exact .inr ⟨gg, cap, cur, rfl, a1, (h1 gg rfl).trans a2, a3⟩
  · obtain ⟨q1, q2⟩ := hel k x cs bk hx hcs hbk
    exact ⟨q1, g.keep q2 fun b hm => h2 b (List.mem_flatten.2 ⟨bk, List.mem_of_getElem? hbk, hm⟩)⟩
theorem Gr.below {e : TypeId} {lo : Nat} {w w' : World} {v : Value} {bss : List (List Nat)} {xs : List α} (g : Good R) (h : Gr size R e lo w v bss xs) (hb : Below w.heap.size w w') : Gr size R e lo w' v bss xs :=
  h.keep g (fun k hk => hb.block k (h.blk k hk).2) (fun b hm => hb.block b (h.lt g b hm))
theorem Gr.done {e : TypeId} {lo : Nat} {w : World} {v : Value} {bss : List (List Nat)} {xs : List α} (h : Gr size R e lo w v bss xs) : ∃ bs, SlR size R w bs [v] xs ∧ (Fr lo w bss.flatten → Fr lo w bs) ∧ ∀ b ∈ bs, b ∈ bss.flatten ∨ v.ownBlock = some b := by
  obtain ⟨css, hc, hb, ⟨hl, ho⟩, hn, hel⟩ := h
  by_cases hx : xs = []
  · subst hx
    refine ⟨[], ?_, fun _ => Fr.nil _ _, fun b hb => by cases hb⟩
    rcases ho with ⟨rfl, _⟩ | ⟨g, cap, cur, rfl, a1, a2, a3, a4, _⟩
    · exact ⟨none, 0, rfl, Nat.le_refl _, by simp [maxLen], .inl ⟨rfl, rfl⟩⟩
    · exact ⟨_, cap, rfl, a3, a4, .inl ⟨rfl, rfl⟩⟩
  · rcases ho with ⟨_, h0⟩ | ⟨g, cap, cur, rfl, a1, a2, a3, a4, a5, a6⟩
    · exact absurd (List.eq_nil_of_length_eq_zero h0) hx
    · refine ⟨g :: bss.flatten, ⟨_, cap, rfl, a3, a4, .inr ⟨g, 0, bss, rfl, lt_of_cells a2, hb, rfl, fun k x bk hxk hbk => ?_⟩⟩, fun hf => ?_, fun b hm => ?_⟩
      · have hk := idx_lt hxk
        obtain ⟨cs, hcs⟩ := idx_some (l := css) (k := k) (by omega)
        obtain ⟨q1, q2⟩ := hel k x cs bk hxk hcs hbk
        refine ⟨cs, q1, fun j u hu => ?_, q2⟩
        have hj := idx_lt hu
        have huni : ∀ c ∈ css, c.length = size := fun c hcm => by
          obtain ⟨i, hi⟩ := List.getElem?_of_mem hcm
          have hil := idx_lt hi
          obtain ⟨y, hy⟩ := idx_some (l := xs) (k := i) (by omega)
          obtain ⟨bk', hbk'⟩ := idx_some (l := bss) (k := i) (by omega)
          exact (hel i y c bk' hy hi hbk').1
        have hflat : ∀ (cl : List (List Value)), (∀ c ∈ cl, c.length = size) → ∀ (k : Nat) (cs : List Value), cl[k]? = some cs → ∀ j u, cs[j]? = some u → cl.flatten[k * size + j]? = some u := by
          intro cl
          induction cl with
          | nil => intro _ k cs hk; simp at hk
          | cons c cl ih =>
            intro hu k cs hk j u hju
            have hcl := hu c (by simp)
            match k, hk with
            | 0, hk =>
              simp only [List.getElem?_cons_zero, Option.some.injEq] at hk
              subst hk
              rw [List.flatten_cons, Nat.zero_mul, Nat.zero_add, List.getElem?_append_left (idx_lt hju)]; exact hju
            | k + 1, hk =>
              rw [List.getElem?_cons_succ] at hk
              rw [List.flatten_cons, List.getElem?_append_right (by rw [hcl, Nat.succ_mul]; omega), hcl]
              rw [show (k + 1) * size + j - size = k * size + j by rw [Nat.succ_mul]; omega]
              exact ih (fun c' hc' => hu c' (List.mem_cons_of_mem _ hc')) k cs hk j u hju
        have h7 := hflat css huni k cs hcs j u hu
        rw [← a6] at h7
        rw [Nat.zero_add, blk_cells a2]
        have h8 : k * size + j < xs.length * size := by
          have := Nat.mul_le_mul_right size (Nat.succ_le_of_lt hk)
          rw [Nat.succ_mul] at this; omega
        rw [List.getElem?_take_of_lt h8, Array.getElem?_toList] at h7
        exact h7
      · refine ⟨List.nodup_cons.2 ⟨hn g rfl, hf.1⟩, fun b hm => ?_⟩
        rcases List.mem_cons.1 hm with rfl | hm
        · exact ⟨a1, cur, e, a2⟩
        · exact hf.2 b hm
      · rcases List.mem_cons.1 hm with rfl | hm
        · exact .inr rfl
        · exact .inl hm

/-! ### Parts of slices -/
theorem SlR.take {w : World} {bs : List Nat} {A : Option Addr} {n c : Nat} {xs : List α} (h : SlR size R w bs [.slice A n c] xs) {k : Nat} (hk : k ≤ xs.length) : ∃ bs', SlR size R w bs' [.slice A k c] (xs.take k) ∧ ∀ b ∈ bs', b ∈ bs := by
  obtain ⟨A', c', hv, h1, h2, h3⟩ := h
  obtain ⟨rfl, rfl, rfl⟩ : A = A' ∧ n = xs.length ∧ c = c' := by simpa using hv
  by_cases h0 : xs.take k = []
  · refine ⟨[], ⟨A, c, ?_, ?_, h2, .inl ⟨h0, rfl⟩⟩, fun b hb => by cases hb⟩
    · rw [List.length_take]; congr 2; omega
    · rw [List.length_take]; omega
  rcases h3 with ⟨rfl, rfl⟩ | ⟨b, o, bss, rfl, hb, hl, rfl, hel⟩
  · simp at h0
  · refine ⟨b :: (bss.take k).flatten, ⟨_, c, ?_, ?_, h2, .inr ⟨b, o, bss.take k, rfl, hb, by rw [List.length_take, List.length_take, hl], rfl, fun i x bk hx hbk => ?_⟩⟩, fun y hy => ?_⟩
    · rw [List.length_take]; congr 2; omega
    · rw [List.length_take]; omega
    · have hi := idx_lt hx
      rw [List.length_take] at hi
      rw [List.getElem?_take_of_lt (by omega)] at hx hbk
      exact hel i x bk hx hbk
    · rcases List.mem_cons.1 hy with rfl | hy
      · simp
      · obtain ⟨bk, hbk, hy⟩ := List.mem_flatten.1 hy
        exact List.mem_cons_of_mem _ (List.mem_flatten.2 ⟨bk, List.mem_of_mem_take hbk, hy⟩)
theorem SlR.drop {w : World} {bs : List Nat} {b o n c : Nat} {xs : List α} (h : SlR size R w bs [.slice (some ⟨b, o, none⟩) n c] xs) {k : Nat} (hk : k ≤ xs.length) : ∃ bs', SlR size R w bs' [.slice (some ⟨b, o + k * size, none⟩) (xs.length - k) (c - k)] (xs.drop k) ∧ ∀ b ∈ bs', b ∈ bs := by
  obtain ⟨A', c', hv, h1, h2, h3⟩ := h
  obtain ⟨rfl, rfl, rfl⟩ : some ⟨b, o, none⟩ = A' ∧ n = xs.length ∧ c = c' := by simpa using hv
  by_cases h0 : xs.drop k = []
  · refine ⟨[], ⟨some ⟨b, o + k * size, none⟩, c - k, ?_, ?_, by omega, .inl ⟨h0, rfl⟩⟩, fun b hb => by cases hb⟩
    · rw [List.length_drop]
    · rw [List.length_drop]; omega
  rcases h3 with ⟨rfl, rfl⟩ | ⟨b', o', bss, hA, hb, hl, rfl, hel⟩
  · simp at h0
  · injection hA with hA; injection hA with e1 e2; subst e1; subst e2
    refine ⟨b :: (bss.drop k).flatten, ⟨_, c - k, ?_, ?_, by omega, .inr ⟨b, o + k * size, bss.drop k, rfl, hb, by rw [List.length_drop, List.length_drop, hl], rfl, fun i x bk hx hbk => ?_⟩⟩, fun y hy => ?_⟩
    · rw [List.length_drop]
    · rw [List.length_drop]; omega
    · rw [List.getElem?_drop] at hx hbk
      obtain ⟨es, q1, q2, q3⟩ := hel (k + i) x bk hx hbk
      refine ⟨es, q1, fun j u hu => ?_, q3⟩
      have := q2 j u hu
      rw [Nat.add_mul] at this
      rw [show o + k * size + i * size + j = o + (k * size + i * size) + j by omega]
      exact this
    · rcases List.mem_cons.1 hy with rfl | hy
      · simp
      · obtain ⟨bk, hbk, hy⟩ := List.mem_flatten.1 hy
        exact List.mem_cons_of_mem _ (List.mem_flatten.2 ⟨bk, List.mem_of_mem_drop hbk, hy⟩)
end

/-! ### append -/
section
variable {α : Type} {R : Rd α} {P : Program}
/-- 'out = append(out, x)': x lies in a block that has just been made. -/
theorem wpList_append_gr {ops : Array Oper} {rest : List Oper} {o : Oper} {a : Act} {Q : Exit → Act → World → Prop} (g : Good R) (hgd : o.guard = none) (s x : Operand) (t : TypeId)
    (ho : o.op = .call { callee := .builtin .append, args := #[s, x], argTypes := #[t, t] })
    {lo : Nat} {e : TypeId} {i : TypeInfo} {z : Value} {size bytes : Nat} (ht : P.underlying t = some (.slice e)) (hi : P.info? e = some i) (hz : i.zero = some z)
    (hsize : i.size = size) (hby : i.bytes = bytes) (hzs : z.cells.size = size) (hsz : 0 < size)
    {w w1 : World} {v : Value} {bss : List (List Nat)} {xs : List α} (hs : a.eval s = v) (hg : Gr size R e lo w v bss xs) (hb : Below w.heap.size w w1)
    {bk : List Nat} {cy : List Value} {y : α} (hR : R w1 bk cy y) (hnb : ∀ b ∈ bk, v.ownBlock ≠ some b) {c : Nat} (hx : a.eval x = .slice (some ⟨w1.heap.size, 0, none⟩) 1 c) (hl : cy.length = size) (h1 : ∀ u ∈ cy, u.oneCell' = true)
    (h63 : xs.length + 1 ≤ 9223372036854775807) (hbytes : (xs.length + 1) * bytes ≤ 140737488355328) (hlo : lo ≤ w.heap.size)
    (h : ∀ v' w', Gr size R e lo w' v' (bss ++ [bk]) (xs ++ [y]) → (∀ B w0, Below B w0 w1 → B ≤ lo → Below B w0 w') → (∀ k, k < w1.heap.size → v.ownBlock ≠ some k → w'.heap[k]? = w1.heap[k]?) → w1.heap.size ≤ w'.heap.size →
      (v'.ownBlock = v.ownBlock ∨ ∃ k, v'.ownBlock = some k ∧ w1.heap.size ≤ k) → wpList P ops Q rest (a.put o.dst v') w') :
    wpList P ops Q (o :: rest) a (w1.alloc (.cells cy.toArray e)) := by
  have hg1 := hg.below g hb
  obtain ⟨css, hc, hbl, hown, hn, hel⟩ := hg1
  have hcell : ∀ j u, cy[j]? = some u → (w1.alloc (.cells cy.toArray e)).cell? ((⟨w1.heap.size, 0, none⟩ : Addr).add j) = some u := fun j u hu => by
    rw [add_form, Nat.zero_add, blk_cells (blk_new w1 cy.toArray e)]; simpa using hu
  have hrun := wpList_append_own_at (P := P) (ops := ops) (rest := rest) (o := o) (a := a) (Q := Q) (w := w1.alloc (.cells cy.toArray e)) hgd s x t ho lo e i z size bytes ht hi hz hsize hby hzs hsz v xs.length css.flatten hs (hown.alloc _) ⟨w1.heap.size, 0, none⟩ 1 c cy hx (by omega) hcell h1 (by unfold maxLen; omega) hbytes (by have := hb.size; simp; omega)
  refine hrun fun v' w' h2 h3 h4 h5 => h v' w' ?_ (fun B w0 hB hBl => ?_) (fun k hk hne => ?_) (Nat.le_trans (by simp) h3.size) ?_
  · have hlt := Gr.lt g (hg.below g hb)
    have hold : ∀ k, k < w1.heap.size → v.ownBlock ≠ some k → w'.heap[k]? = w1.heap[k]? := fun k hk hne => (h3.block k (by simp; omega) (fun e => hne e.symm)).trans (Below.heap_alloc w1 _ k hk)
    refine ⟨css ++ [cy], by simp [hc], by simp [hbl], ?_, fun k hk => ?_, fun k x' cs bk' hx' hcs hbk' => ?_⟩
    · rw [List.length_append]; simpa using h2
    · have hk2 : k ∉ bss.flatten ∧ k ∉ bk := by
        rcases h5 with h5 | h5
        · rw [h5] at hk
          exact ⟨hn k hk, fun hm => hnb k hm hk⟩
        · rw [h5] at hk
          injection hk with hk
          have hge : w1.heap.size ≤ k := by rw [← hk]; simp
          exact ⟨fun hm => by have := hlt k hm; omega, fun hm => by have := g.lt hR k hm; omega⟩
      simp [hk2.1, hk2.2]
    · rcases Nat.lt_trichotomy k xs.length with hk | rfl | hk
      · rw [List.getElem?_append_left hk] at hx'
        rw [List.getElem?_append_left (by omega)] at hcs hbk'
        obtain ⟨q1, q2⟩ := hel k x' cs bk' hx' hcs hbk'
        refine ⟨q1, g.keep q2 fun b hm => hold b (g.lt q2 b hm) fun hv => hn b hv (List.mem_flatten.2 ⟨bk', List.mem_of_getElem? hbk', hm⟩)⟩
      · rw [List.getElem?_append_right (Nat.le_refl _), Nat.sub_self, List.getElem?_cons_zero] at hx'
        rw [List.getElem?_append_right (by omega), hc, Nat.sub_self, List.getElem?_cons_zero] at hcs
        rw [List.getElem?_append_right (by omega), hbl, Nat.sub_self, List.getElem?_cons_zero] at hbk'
        injection hx' with hx'; subst hx'; injection hcs with hcs; subst hcs; injection hbk' with hbk'; subst hbk'
        exact ⟨hl, g.keep hR fun b hm => hold b (g.lt hR b hm) (hnb b hm)⟩
      · rw [List.getElem?_eq_none (by simp; omega)] at hx'; cases hx'
  · exact (hB.alloc (by have := hb.size; omega) _).grown h3 (by have := hb.size; simp; omega) (fun k hk => by have := (hown.lt k hk).1; omega)
  · exact (h3.block k (by simp; omega) (fun e => hne e.symm)).trans (Below.heap_alloc w1 _ k hk)
  · rcases h5 with h5 | h5
    · exact .inl h5
    · exact .inr ⟨_, h5, by simp⟩
end
end Go.Proofs.YtdleccpjejdgiaaGreatDoor
