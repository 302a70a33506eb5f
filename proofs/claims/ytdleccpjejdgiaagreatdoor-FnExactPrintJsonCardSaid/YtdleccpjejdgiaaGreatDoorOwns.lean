/- A row of the call's own that grows by append, its elements' blocks of the call's own too; an element put in the place of another one. No statement is proved here; no conditions. -/
import Derived.Test.YtdleccpjejdgiaaGreatDoorClone
namespace Go.Proofs.YtdleccpjejdgiaaGreatDoor
open Go.ChangeShapes Go.WideShapes Go.ChangeAt Go.RowKit Go.Deep
set_option maxRecDepth 100000
set_option linter.unusedVariables false

section
variable {α : Type} {R : Rd α} {size : Nat}
/-- A row that grows by append, all of it of the call's own (from block lo on). -/
def Own (size : Nat) (R : Rd α) (e : TypeId) (lo : Nat) (w : World) (v : Value) (xs : List α) : Prop := ∃ bss, Gr size R e lo w v bss xs ∧ Fr lo w bss.flatten
theorem Own.nil (e : TypeId) (lo : Nat) (w : World) : Own size R e lo w (.slice none 0 0) [] := ⟨[], Gr.nil e lo w, Fr.nil _ _⟩
theorem Own.made {e : TypeId} (w : World) : Own size R e w.heap.size (w.alloc (.cells #[] e)) (.slice (some ⟨w.heap.size, 0, none⟩) 0 0) [] := ⟨[], Gr.made w #[] 0 (Nat.le_refl _) (by simp [maxLen]) (by simp), Fr.nil _ _⟩
theorem Own.made' {e : TypeId} {w : World} {n : Nat} (h : w.heap.size = n) : Own size R e w.heap.size (w.alloc (.cells #[] e)) (.slice (some ⟨n, 0, none⟩) 0 0) [] := by subst h; exact Own.made w
theorem Own.form {e : TypeId} {lo : Nat} {w : World} {v : Value} {xs : List α} (h : Own size R e lo w v xs) : ∃ A c, v = .slice A xs.length c ∧ xs.length ≤ c ∧ c ≤ 9223372036854775807 := by obtain ⟨bss, h, _⟩ := h; exact h.form
theorem Own.below {e : TypeId} {lo : Nat} {w w' : World} {v : Value} {xs : List α} (g : Good R) (h : Own size R e lo w v xs) (hb : Below w.heap.size w w') : Own size R e lo w' v xs := by
  obtain ⟨bss, h, hf⟩ := h; exact ⟨bss, h.below g hb, hf.below hb⟩
theorem SlR.oneCell {w : World} {bk : List Nat} {cs : List Value} {y : List α} (h : SlR size R w bk cs y) : ∀ u ∈ cs, u.oneCell' = true := by
  obtain ⟨A, c, rfl, _⟩ := h
  intro u hu; simp at hu; subst hu; rfl
theorem Own.done {e : TypeId} {lo : Nat} {w : World} {v : Value} {xs : List α} (h : Own size R e lo w v xs) : ∃ bs, SlR size R w bs [v] xs ∧ Fr lo w bs := by
  obtain ⟨bss, h, hf⟩ := h
  obtain ⟨bs, h1, h2, _⟩ := h.done
  exact ⟨bs, h1, h2 hf⟩
end
section
variable {α : Type} {R : Rd α} {P : Program}
/-- 'out = append(out, x)': x has been made by a call (from world w to w1), and lies in a block that has just been made. -/
theorem wpList_append_own {ops : Array Oper} {rest : List Oper} {o : Oper} {a : Act} {Q : Exit → Act → World → Prop} (g : Good R) (hgd : o.guard = none) (s x : Operand) (t : TypeId)
    (ho : o.op = .call { callee := .builtin .append, args := #[s, x], argTypes := #[t, t] })
    {lo : Nat} {e : TypeId} {i : TypeInfo} {z : Value} {size bytes : Nat} (ht : P.underlying t = some (.slice e)) (hi : P.info? e = some i) (hz : i.zero = some z)
    (hsize : i.size = size) (hby : i.bytes = bytes) (hzs : z.cells.size = size) (hsz : 0 < size)
    {w w1 : World} {v : Value} {xs : List α} (hs : a.eval s = v) (hg : Own size R e lo w v xs) (hb : Below w.heap.size w w1)
    {bk : List Nat} {cy : List Value} {y : α} (hR : R w1 bk cy y) (hfk : Fr w.heap.size w1 bk) {c : Nat} (hx : a.eval x = .slice (some ⟨w1.heap.size, 0, none⟩) 1 c) (hl : cy.length = size) (h1 : ∀ u ∈ cy, u.oneCell' = true)
    (h63 : xs.length + 1 ≤ 9223372036854775807) (hbytes : (xs.length + 1) * bytes ≤ 140737488355328) (hlo : lo ≤ w.heap.size)
    (h : ∀ v' w', Own size R e lo w' v' (xs ++ [y]) → (∀ B w0, Below B w0 w1 → B ≤ lo → Below B w0 w') → w1.heap.size ≤ w'.heap.size → (∀ k, k < w1.heap.size → v.ownBlock ≠ some k → w'.heap[k]? = w1.heap[k]?) → (v'.ownBlock = v.ownBlock ∨ ∃ k, v'.ownBlock = some k ∧ w1.heap.size ≤ k) → wpList P ops Q rest (a.put o.dst v') w') :
    wpList P ops Q (o :: rest) a (w1.alloc (.cells cy.toArray e)) := by
  obtain ⟨bss, hG, hf⟩ := hg
  have hblk := hG.blk
  refine wpList_append_gr g hgd s x t ho ht hi hz hsize hby hzs hsz hs hG hb hR (fun b hbm hv => by have := (hblk b hv).2; have := (hfk.2 b hbm).1; omega) hx hl h1 h63 hbytes hlo fun v' w' hg' hB hold hsz' hob => h v' w' ⟨bss ++ [bk], hg', ?_⟩ hB hsz' hold hob
  have hfl : (bss ++ [bk]).flatten = bss.flatten ++ bk := by simp
  have hlt := hf.lt
  obtain ⟨css, _, _, _, hn, _⟩ := hG
  rw [hfl]
  refine Fr.append (mid := w.heap.size) ((hf.below hb).keep fun b hm => hold b (Nat.lt_of_lt_of_le (hlt b hm) hb.size) fun hv => hn b hv hm) (hfk.keep fun b hm => hold b (hfk.lt b hm) fun hv => ?_) hlo hlt
  have := (hblk b hv).2; have := (hfk.2 b hm).1; omega
/-- 'out = append(out, xs...)' of elements that lie in one piece each. -/
theorem wpList_append_owns {ops : Array Oper} {rest : List Oper} {o : Oper} {a : Act} {Q : Exit → Act → World → Prop} (g : Good R) (hflat : ∀ (w : World) bk cs (y : α), R w bk cs y → bk = []) (hgd : o.guard = none) (s x : Operand) (t : TypeId)
    (ho : o.op = .call { callee := .builtin .append, args := #[s, x], argTypes := #[t, t] })
    {lo : Nat} {e : TypeId} {i : TypeInfo} {z : Value} {size bytes : Nat} (ht : P.underlying t = some (.slice e)) (hi : P.info? e = some i) (hz : i.zero = some z)
    (hsize : i.size = size) (hby : i.bytes = bytes) (hzs : z.cells.size = size) (hsz : 0 < size)
    {w : World} {v : Value} {xs : List α} (hs : a.eval s = v) (hg : Own size R e lo w v xs)
    {b0 o0 m c : Nat} {bs2 : List Nat} {ys : List α} (hS : SlR size R w bs2 [.slice (some ⟨b0, o0, none⟩) m c] ys) (hx : a.eval x = .slice (some ⟨b0, o0, none⟩) m c) (hone : ∀ (w : World) bk cs (y : α), R w bk cs y → ∀ u ∈ cs, u.oneCell' = true) (hnb : ∀ b ∈ bs2, v.ownBlock ≠ some b)
    (h63 : xs.length + ys.length ≤ 9223372036854775807) (hbytes : (xs.length + ys.length) * bytes ≤ 140737488355328) (hlo : lo ≤ w.heap.size)
    (h : ∀ v' w', Own size R e lo w' v' (xs ++ ys) → (∀ B w0, Below B w0 w → B ≤ lo → Below B w0 w') → w.heap.size ≤ w'.heap.size → wpList P ops Q rest (a.put o.dst v') w') :
    wpList P ops Q (o :: rest) a w := by
  obtain ⟨bss, hG, hf⟩ := hg
  refine wpList_append_grs g hgd s x t ho ht hi hz hsize hby hzs hsz hs hG hS hx hone hnb h63 hbytes hlo fun v' w' bss2 hg' _ hB _ hsz' _ => h v' w' ⟨_, hg', ?_⟩ hB hsz'
  rw [hg'.bss_nil hflat]; exact Fr.nil _ _
end

section
variable {α : Type} {R : Rd α} {size : Nat}
theorem fr_flat {lo : Nat} {w : World} {bss : List (List Nat)} (h1 : ∀ bk ∈ bss, Fr lo w bk) (h2 : bss.Pairwise fun a b => ∀ x ∈ a, x ∉ b) : Fr lo w bss.flatten := by
  refine ⟨List.pairwise_flatten.2 ⟨fun l hl => (h1 l hl).1, h2.imp (fun {a b} h x hx y hy he => by subst he; exact h x hx hy)⟩, fun b hb => ?_⟩
  obtain ⟨bk, hbk, hm⟩ := List.mem_flatten.1 hb
  exact (h1 bk hbk).2 b hm
/-- Element i of a row of one's own, and what the row reads as when another element, of one's own too, stands in its place. -/
theorem SlR.put {w : World} {lo : Nat} {bs : List Nat} {A : Option Addr} {n c : Nat} {ys : List α} (g : Good R) (h : SlR size R w bs [.slice A n c] ys) (hf : Fr lo w bs) {i : Nat} (hi : i < ys.length) :
    ∃ b o bk es cur e, A = some ⟨b, o, none⟩ ∧ w.heap[b]? = some (.cells cur e (0, 0)) ∧ b ∈ bs ∧ b ∉ bk ∧ (∀ x ∈ bk, x ∈ bs) ∧ es.length = size ∧ (∀ j u, es[j]? = some u → cur[o + i * size + j]? = some u) ∧ R w bk es ys[i] ∧ Fr lo w bk ∧
      ∀ w' cur' es' y bk', Upd (b :: bk) w w' → w'.heap[b]? = some (.cells cur' e (0, 0)) → es'.length = size → (∀ j u, es'[j]? = some u → cur'[o + i * size + j]? = some u) →
        (∀ p, p < o + i * size ∨ o + i * size + size ≤ p → cur'[p]? = cur[p]?) → R w' bk' es' y → ∃ bs', SlR size R w' bs' [.slice A n c] (ys.set i y) ∧ (∀ x ∈ bs', x ∈ bs ∨ x ∈ bk') ∧ (Fr lo w' bk' → (∀ x ∈ bk', x ∈ bk ∨ w.heap.size ≤ x) → Fr lo w' bs') := by
  obtain ⟨A', c', hv, h1, h2, h3⟩ := h
  obtain ⟨rfl, rfl, rfl⟩ : A = A' ∧ n = ys.length ∧ c = c' := by simpa using hv
  rcases h3 with ⟨rfl, _⟩ | ⟨b, o, bss, rfl, hb, hl, rfl, hel⟩
  · simp at hi
  have hnd := List.nodup_cons.1 hf.1
  obtain ⟨hlo, cur, e, hcur⟩ := hf.2 b (by simp)
  have hil : i < bss.length := by omega
  have hbi : bss[i]? = some bss[i] := List.getElem?_eq_getElem hil
  obtain ⟨es, he, hc, hr⟩ := hel i ys[i] bss[i] (List.getElem?_eq_getElem hi) hbi
  have hsub : ∀ x ∈ bss[i], x ∈ bss.flatten := fun x hx => List.mem_flatten.2 ⟨_, List.getElem_mem hil, hx⟩
  have hndi : bss[i].Nodup := (List.pairwise_flatten.1 hnd.2).1 _ (List.getElem_mem hil)
  refine ⟨b, o, bss[i], es, cur, e, rfl, hcur, by simp, fun hm => hnd.1 (hsub b hm), fun x hx => List.mem_cons_of_mem _ (hsub x hx), he, fun j u hu => by rw [← blk_cells hcur]; exact hc j u hu, hr,
    ⟨hndi, fun x hx => hf.2 x (List.mem_cons_of_mem _ (hsub x hx))⟩, ?_⟩
  intro w' cur' es' y bk' hu hcur' hle hin hout hry
  have hother : ∀ (k : Nat) (bk : List Nat), bss[k]? = some bk → i ≠ k → ∀ z ∈ bk, z ∉ b :: bss[i] := fun k bk hbk hki z hz hm => by
    rcases List.mem_cons.1 hm with rfl | hm
    · exact hnd.1 (List.mem_flatten.2 ⟨bk, List.mem_of_getElem? hbk, hz⟩)
    · exact nodup_other hnd.2 hbi hbk hki hz hm
  have hlt : ∀ (k : Nat) (bk : List Nat), bss[k]? = some bk → ∀ z ∈ bk, z < w.heap.size := fun k bk hbk z hz => hf.lt z (List.mem_cons_of_mem _ (List.mem_flatten.2 ⟨bk, List.mem_of_getElem? hbk, hz⟩))
  refine ⟨b :: (bss.set i bk').flatten, ⟨some ⟨b, o, none⟩, c, by rw [List.length_set], by rw [List.length_set]; exact h1, h2, .inr ⟨b, o, bss.set i bk', rfl, lt_of_cells hcur', by rw [List.length_set, List.length_set]; exact hl, rfl, fun k x bk hx hbk => ?_⟩⟩, fun x hx => ?_, fun hfk hbk' => ?_⟩
  · by_cases hki : i = k
    · subst hki
      rw [List.getElem?_set_self hil] at hbk; injection hbk with hbk; subst hbk
      rw [List.getElem?_set_self hi] at hx; injection hx with hx; subst hx
      exact ⟨es', hle, fun j u hju => by rw [blk_cells hcur']; exact hin j u hju, hry⟩
    · rw [List.getElem?_set_ne hki] at hx hbk
      obtain ⟨ek, hek, hck, hrk⟩ := hel k x bk hx hbk
      refine ⟨ek, hek, fun j u hju => ?_, g.keep hrk fun z hz => hu.far z (g.lt hrk z hz) (hother k bk hbk hki z hz)⟩
      have hj : j < size := by
        rcases Nat.lt_or_ge j size with h' | h'
        · exact h'
        · rw [List.getElem?_eq_none (by omega)] at hju; cases hju
      have hold := hck j u hju
      rw [blk_cells hcur] at hold
      rw [blk_cells hcur', hout _ _, hold]
      rcases Nat.lt_or_gt_of_ne hki with h' | h'
      · right
        have := Nat.mul_le_mul_right size h'
        rw [Nat.succ_mul] at this
        omega
      · left
        have := Nat.mul_le_mul_right size h'
        rw [Nat.succ_mul] at this
        omega
  · rcases List.mem_cons.1 hx with rfl | hx
    · exact .inl (by simp)
    · obtain ⟨l, hl', hx2⟩ := List.mem_flatten.1 hx
      rcases List.mem_or_eq_of_mem_set hl' with h | h
      · exact .inl (List.mem_cons_of_mem _ (List.mem_flatten.2 ⟨l, h, hx2⟩))
      · exact .inr (h ▸ hx2)
  · have hfl : Fr lo w' (bss.set i bk').flatten := by
      refine fr_flat (fun bk hbk => ?_) ?_
      · obtain ⟨k, hk⟩ := List.getElem?_of_mem hbk
        by_cases hki : i = k
        · subst hki
          rw [List.getElem?_set_self hil] at hk; injection hk with hk; subst hk; exact hfk
        · rw [List.getElem?_set_ne hki] at hk
          have hm := List.mem_of_getElem? hk
          exact (Fr.keep ⟨(List.pairwise_flatten.1 hnd.2).1 _ hm, fun x hx => hf.2 x (List.mem_cons_of_mem _ (List.mem_flatten.2 ⟨bk, hm, hx⟩))⟩ fun z hz => hu.far z (hlt k bk hk z hz) (hother k bk hk hki z hz))
      · rw [List.pairwise_iff_getElem]
        intro p q hp hq hpq x hx hx2
        rw [List.getElem_set] at hx hx2
        rw [List.length_set] at hp hq
        have one : ∀ (k : Nat) (hk : k < bss.length), i ≠ k → ∀ z ∈ bss[k], z ∉ bk' := fun k hk hik z hz hz' => by
          have hbk := List.getElem?_eq_getElem hk
          rcases hbk' z hz' with h' | h'
          · exact hother k _ hbk hik z hz (List.mem_cons_of_mem _ h')
          · have := hlt k _ hbk z hz; omega
        by_cases hip : i = p
        · rw [if_pos hip] at hx
          rw [if_neg (by omega)] at hx2
          exact one q hq (by omega) x hx2 hx
        · rw [if_neg hip] at hx
          by_cases hiq : i = q
          · rw [if_pos hiq] at hx2; exact one p hp hip x hx hx2
          · rw [if_neg hiq] at hx2
            exact nodup_other hnd.2 (List.getElem?_eq_getElem hq) (List.getElem?_eq_getElem hp) (by omega) hx hx2
    refine ⟨List.nodup_cons.2 ⟨fun hm => ?_, hfl.1⟩, fun z hz => ?_⟩
    · obtain ⟨bk, hbk, hz⟩ := List.mem_flatten.1 hm
      obtain ⟨k, hk⟩ := List.getElem?_of_mem hbk
      by_cases hki : i = k
      · subst hki
        rw [List.getElem?_set_self hil] at hk; injection hk with hk; subst hk
        rcases hbk' b hz with h' | h'
        · exact hnd.1 (hsub b h')
        · omega
      · rw [List.getElem?_set_ne hki] at hk
        exact hother k bk hk hki b hz (by simp)
    · rcases List.mem_cons.1 hz with rfl | hz
      · exact ⟨hlo, cur', e, hcur'⟩
      · exact hfl.2 z hz
end
end Go.Proofs.YtdleccpjejdgiaaGreatDoor
