/- slices.Insert at rows that lie in a block known whole. No statement is proved here; no conditions. -/
import Derived.Test.YtfkpllkgganejaaIns
namespace Go.Proofs.Ytfkpllkgganejaa
open Go.ChangeShapes Go.WideShapes Go.ChangeAt Go.RowKit Go.Deep
set_option maxRecDepth 100000
set_option linter.unusedVariables false
set_option linter.unusedSimpArgs false
theorem flat_len2 {β : Type} {size : Nat} : ∀ {css : List (List β)} (h : ∀ c ∈ css, c.length = size), css.flatten.length = css.length * size
  | [], _ => by simp
  | c :: css, h => by rw [List.flatten_cons, List.length_append, h c (by simp), flat_len2 (fun c' hm => h c' (List.mem_cons_of_mem _ hm)), List.length_cons, Nat.add_mul]; omega
theorem flat_take2 {β : Type} {size : Nat} : ∀ {css : List (List β)} (h : ∀ c ∈ css, c.length = size) (i : Nat), (css.take i).flatten = css.flatten.take (i * size)
  | [], _, i => by simp
  | c :: css, h, 0 => by simp
  | c :: css, h, i + 1 => by
    have hc := h c (by simp)
    rw [List.take_succ_cons, List.flatten_cons, List.flatten_cons, flat_take2 (fun c' hm => h c' (List.mem_cons_of_mem _ hm)) i, List.take_append, hc, List.take_of_length_le (l := c) (by rw [hc, Nat.add_mul]; omega), show (i + 1) * size - size = i * size by rw [Nat.add_mul]; omega]
theorem flat_drop2 {β : Type} {size : Nat} : ∀ {css : List (List β)} (h : ∀ c ∈ css, c.length = size) (i : Nat), (css.drop i).flatten = css.flatten.drop (i * size)
  | [], _, i => by simp
  | c :: css, h, 0 => by simp
  | c :: css, h, i + 1 => by
    have hc := h c (by simp)
    have hd : c.drop ((i + 1) * size) = [] := List.drop_eq_nil_of_le (by rw [hc, Nat.add_mul]; omega)
    rw [List.drop_succ_cons, List.flatten_cons, flat_drop2 (fun c' hm => h c' (List.mem_cons_of_mem _ hm)) i, List.drop_append, hc, hd, show (i + 1) * size - size = i * size by rw [Nat.add_mul]; omega, List.nil_append]
/-- What holds of each place holds where one is put between. -/
theorem el_put {α β γ : Type} {Q : α → β → γ → Prop} {xs : List α} {css : List β} {bss : List γ} (hl1 : css.length = xs.length) (hl2 : bss.length = xs.length)
    (h : ∀ (k : Nat) x c b, xs[k]? = some x → css[k]? = some c → bss[k]? = some b → Q x c b) {i j : Nat} (hi : i ≤ xs.length) {x0 : α} {c0 : β} {b0 : γ} (hp : Q x0 c0 b0) :
    ∀ (k : Nat) x c b, (xs.take i ++ x0 :: xs.drop j)[k]? = some x → (css.take i ++ c0 :: css.drop j)[k]? = some c → (bss.take i ++ b0 :: bss.drop j)[k]? = some b → Q x c b := by
  intro k x c b hx hc hb
  have e1 : (xs.take i).length = i := by rw [List.length_take]; omega
  have e2 : (css.take i).length = i := by rw [List.length_take]; omega
  have e3 : (bss.take i).length = i := by rw [List.length_take]; omega
  by_cases hk : k < i
  · rw [List.getElem?_append_left (by omega), List.getElem?_take, if_pos hk] at hx hc hb
    exact h k x c b hx hc hb
  · rw [List.getElem?_append_right (by omega)] at hx hc hb
    rw [e1] at hx; rw [e2] at hc; rw [e3] at hb
    obtain ⟨q, hq⟩ : ∃ q, k = i + q := ⟨k - i, by omega⟩
    subst hq
    rw [Nat.add_sub_cancel_left] at hx hc hb
    cases q with
    | zero =>
      simp only [List.getElem?_cons_zero, Option.some.injEq] at hx hc hb
      subst hx; subst hc; subst hb; exact hp
    | succ q =>
      rw [List.getElem?_cons_succ, List.getElem?_drop] at hx hc hb
      exact h (j + q) x c b hx hc hb
theorem nodup_put {bss : List (List Nat)} {bk : List Nat} {i j : Nat} (hij : i ≤ j) (h1 : bss.flatten.Nodup) (h2 : bk.Nodup) (h3 : ∀ b ∈ bk, b ∉ bss.flatten) : (bss.take i ++ bk :: bss.drop j).flatten.Nodup := by
  have hs : ((bss.take i).flatten ++ (bss.drop j).flatten).Sublist bss.flatten := by
    have e : bss.flatten = (bss.take i).flatten ++ (bss.drop i).flatten := by rw [← List.flatten_append, List.take_append_drop]
    rw [e]
    refine List.Sublist.append (List.Sublist.refl _) ?_
    obtain ⟨q, rfl⟩ : ∃ q, j = i + q := ⟨j - i, by omega⟩
    rw [← List.drop_drop]
    have e2 : (bss.drop i).flatten = ((bss.drop i).take q).flatten ++ ((bss.drop i).drop q).flatten := by rw [← List.flatten_append, List.take_append_drop]
    rw [e2]
    exact List.sublist_append_right _ _
  rw [List.flatten_append, List.flatten_cons]
  have hp : ((bss.take i).flatten ++ (bk ++ (bss.drop j).flatten)).Perm (bk ++ ((bss.take i).flatten ++ (bss.drop j).flatten)) := by
    rw [← List.append_assoc, ← List.append_assoc]
    exact List.Perm.append_right _ List.perm_append_comm
  rw [hp.nodup_iff, List.nodup_append]
  exact ⟨h2, h1.sublist hs, fun a ha b hb e => h3 a ha (hs.subset (e ▸ hb))⟩
theorem mem_put {bss : List (List Nat)} {bk : List Nat} {i j : Nat} {b : Nat} (h : b ∈ (bss.take i ++ bk :: bss.drop j).flatten) : b ∈ bss.flatten ∨ b ∈ bk := by
  rw [List.flatten_append, List.flatten_cons, List.mem_append, List.mem_append] at h
  rcases h with h | h | h
  · obtain ⟨l, hl, hb⟩ := List.mem_flatten.1 h; exact Or.inl (List.mem_flatten.2 ⟨l, List.mem_of_mem_take hl, hb⟩)
  · exact Or.inr h
  · obtain ⟨l, hl, hb⟩ := List.mem_flatten.1 h; exact Or.inl (List.mem_flatten.2 ⟨l, List.mem_of_mem_drop hl, hb⟩)
/-- The block's cells have been laid anew: the row reads with one element put between. -/
theorem put_done {w w' : World} {lo g cap : Nat} {cur' : Array Value} {css : List (List Value)} {bss : List (List Nat)} {l : List Row} {i j : Nat} {r : Row} {cy : List Value} {bk : List Nat}
    (hc : css.length = l.length) (hb : bss.length = l.length) (hel : ∀ (k : Nat) (x : Row) (cs : List Value) (bk : List Nat), l[k]? = some x → css[k]? = some cs → bss[k]? = some bk → cs.length = 2 ∧ RowR w bk cs x)
    (hcy : cy.length = 2) (hr : RowR w bk cy r) (hi : i ≤ j) (hj : j ≤ l.length)
    (hw : w'.heap[g]? = some (.cells cur' 38 (0, 0))) (h1 : l.length + 1 - (j - i) ≤ cap) (h2 : cap ≤ maxLen) (h3 : cur'.size = cap * 2) (h4 : cur'.toList.take ((l.length + 1 - (j - i)) * 2) = css.flatten.take (i * 2) ++ cy ++ css.flatten.drop (j * 2))
    (hkeep : ∀ b, b ∈ bss.flatten ∨ b ∈ bk → w'.heap[b]? = w.heap[b]?) (hg : g ∉ bss.flatten) (hgk : g ∉ bk) (hlg : lo ≤ g) (hf : Fr lo w bss.flatten) (hfr : Fr lo w bk) (hd : ∀ b ∈ bk, b ∉ bss.flatten) :
    ∃ bs', RowSO w' bs' [.slice (some ⟨g, 0, none⟩) (l.length + 1 - (j - i)) cap] (l.take i ++ r :: l.drop j) ∧ Fr lo w' bs' ∧ ∀ x ∈ bs', x = g ∨ x ∈ bss.flatten ∨ x ∈ bk := by
  have hlen : (l.take i ++ r :: l.drop j).length = l.length + 1 - (j - i) := by rw [List.length_append, List.length_cons, List.length_take, List.length_drop]; omega
  have hcs : ∀ c ∈ css, c.length = 2 := fun c hm => by
    obtain ⟨q, hq, rfl⟩ := List.mem_iff_getElem.1 hm
    exact (hel q l[q] css[q] bss[q] (List.getElem?_eq_getElem (by omega)) (List.getElem?_eq_getElem hq) (List.getElem?_eq_getElem (by omega))).1
  have hgn : g ∉ (bss.take i ++ bk :: bss.drop j).flatten := fun h => by rcases mem_put h with h | h; (exact hg h); exact hgk h
  have hfn : Fr lo w' (g :: (bss.take i ++ bk :: bss.drop j).flatten) := ⟨List.nodup_cons.2 ⟨hgn, nodup_put hi hf.1 hfr.1 hd⟩, fun b hb => by
    rcases List.mem_cons.1 hb with rfl | hb
    · exact ⟨hlg, _, _, hw⟩
    · have hm := mem_put hb
      rw [hkeep b hm]
      rcases hm with hm | hm
      · exact hf.2 b hm
      · exact hfr.2 b hm⟩
  refine ⟨g :: (bss.take i ++ bk :: bss.drop j).flatten, ⟨_, bss.take i ++ bk :: bss.drop j, rfl, ⟨css.take i ++ cy :: css.drop j, ?_, ?_, ⟨?_, Or.inr ⟨g, cap, cur', ?_, Nat.zero_le _, hw, ?_, h2, h3, ?_⟩⟩, ?_, ?_⟩, rfl⟩, hfn, fun x hx => ?_⟩
  · rw [hlen, List.length_append, List.length_cons, List.length_take, List.length_drop]; omega
  · rw [hlen, List.length_append, List.length_cons, List.length_take, List.length_drop]; omega
  · rw [List.flatten_append, List.flatten_cons, flat_take2 hcs, flat_drop2 hcs, hlen]
    have hfl : css.flatten.length = l.length * 2 := by rw [← hc]; exact flat_len2 hcs
    simp only [List.length_append, List.length_take, List.length_drop, hfl, hcy]; omega
  · rw [hlen]
  · rw [hlen]; exact h1
  · rw [hlen, h4, List.flatten_append, List.flatten_cons, flat_take2 hcs, flat_drop2 hcs, List.append_assoc]
  · intro k hk; injection hk with hk; subst hk; exact hgn
  · have hx := el_put (Q := fun (x : Row) (cs : List Value) (bk : List Nat) => cs.length = 2 ∧ (RowR w bk cs x ∧ ∀ b ∈ bk, w'.heap[b]? = w.heap[b]?)) hc hb
      (fun k x c b h1 h2 h3 => ⟨(hel k x c b h1 h2 h3).1, (hel k x c b h1 h2 h3).2, fun q hq => hkeep q (Or.inl (List.mem_flatten.2 ⟨b, List.mem_of_getElem? h3, hq⟩))⟩) (i := i) (j := j) (by omega) (x0 := r) (c0 := cy) (b0 := bk) ⟨hcy, hr, fun q hq => hkeep q (Or.inr hq)⟩
    intro k x c b h1 h2 h3
    obtain ⟨p1, p2, p3⟩ := hx k x c b h1 h2 h3
    exact ⟨p1, RowR.good.keep p2 p3⟩
  · rcases List.mem_cons.1 hx with h | h
    · exact Or.inl h
    · exact Or.inr (mem_put h)
/-- The cells of a block that hold one list's head, then an element's cells, then another's. -/
theorem seg3 {cur : Array Value} {a b c : List Value} (h1 : ∀ (j : Nat) (u : Value), a[j]? = some u → cur[j]? = some u) (h2 : ∀ (j : Nat) (u : Value), b[j]? = some u → cur[a.length + j]? = some u) (h3 : ∀ (j : Nat) (u : Value), c[j]? = some u → cur[a.length + b.length + j]? = some u) :
    cur.toList.take (a.length + b.length + c.length) = a ++ b ++ c := by
  have hat : ∀ (j : Nat) (u : Value), (a ++ b ++ c)[j]? = some u → cur[j]? = some u := fun j u hu => by
    by_cases hj : j < a.length
    · rw [List.append_assoc, List.getElem?_append_left hj] at hu; exact h1 j u hu
    · by_cases hj2 : j < a.length + b.length
      · rw [List.getElem?_append_left (by rw [List.length_append]; omega), List.getElem?_append_right (by omega)] at hu
        have := h2 _ _ hu; rwa [show a.length + (j - a.length) = j by omega] at this
      · rw [List.getElem?_append_right (by rw [List.length_append]; omega), List.length_append] at hu
        have := h3 _ _ hu; rwa [show a.length + b.length + (j - (a.length + b.length)) = j by omega] at this
  refine List.ext_getElem? fun j => ?_
  by_cases hj : j < (a ++ b ++ c).length
  · rw [List.getElem?_take, if_pos (by simpa [Nat.add_assoc] using hj), Array.getElem?_toList, hat j _ (List.getElem?_eq_getElem hj), List.getElem?_eq_getElem hj]
  · rw [List.getElem?_take, if_neg (by simpa [Nat.add_assoc] using hj), List.getElem?_eq_none (by omega)]
theorem RowR.two {w : World} {bk : List Nat} {cs : List Value} {r : Row} (h : RowR w bk cs r) : cs.length = 2 := by obtain ⟨v, b, rfl, rfl, _⟩ := h; rfl
theorem drop_all {β : Type} {l : List β} {n : Nat} (h : l.length = n) : l.take n = l ∧ l.drop n = [] := ⟨List.take_of_length_le (by omega), List.drop_eq_nil_of_le (by omega)⟩
set_option maxHeartbeats 2000000 in
theorem slices_InsertO {w : World} {lo mid : Nat} {bs : List Nat} {v : Value} {l : List Row} (H : RowSO w bs [v] l) (hf : Fr lo w bs) {i : Nat} (hi : i ≤ l.length) (hn : l.length ≤ 1048576)
    {vb : Nat} {cy : List Value} {bk : List Nat} {r : Row} (hv : w.heap[vb]? = some (.cells cy.toArray 38 (0, 0))) (hr : RowR w bk cy r) (hfr : Fr mid w bk) (hlm : lo ≤ mid) (hm : ∀ b ∈ bs, b < mid) (hvm : mid ≤ vb) :
    Calls Try.prog 45 #[v, .int .i64 i, .slice (some ⟨vb, 0, none⟩) 1 1] w fun e w' => ∃ v' bs', e = .returned v' ∧ RowSO w' bs' [v'] (l.take i ++ r :: l.drop i) ∧ Fr lo w' bs' ∧ Upd bs w w' ∧ ∀ x ∈ bs', x ∈ bs ∨ x ∈ bk ∨ w.heap.size ≤ x := by
  obtain ⟨bss, hG, hfl, rfl⟩ := H.gr hf
  have hblt := hG.lt RowR.good
  obtain ⟨css, hc, hb, ⟨hlen, ho⟩, hno, hel⟩ := hG
  have hcy := hr.two
  have h1v := RowR.one _ _ _ _ hr
  have hklt := RowR.good.lt hr
  have hvlt := lt_of_cells hv
  have hd : ∀ b ∈ bk, b ∉ bss.flatten := fun b hb hm' => by have := (hfr.2 b hb).1; have := hm b (List.mem_append_right _ hm'); omega
  have hfk : Fr lo w bk := hfr.mono hlm
  have hcs2 : ∀ c ∈ css, c.length = 2 := fun c hm => by
    obtain ⟨q, hq, rfl⟩ := List.mem_iff_getElem.1 hm
    exact (hel q l[q] css[q] bss[q] (List.getElem?_eq_getElem (by omega)) (List.getElem?_eq_getElem hq) (List.getElem?_eq_getElem (by omega))).1
  have h1c : ∀ u ∈ css.flatten, u.oneCell' = true := fun u hu => by
    obtain ⟨c, hm, hu⟩ := List.mem_flatten.1 hu
    obtain ⟨q, hq, rfl⟩ := List.mem_iff_getElem.1 hm
    exact RowR.one _ _ _ _ (hel q l[q] css[q] bss[q] (List.getElem?_eq_getElem (by omega)) (List.getElem?_eq_getElem hq) (List.getElem?_eq_getElem (by omega))).2 u hu
  obtain ⟨i0, ji, jz, js, jby⟩ := info_parts RowS.info
  have hvs : ∀ (j : Nat) (u : Value), cy[j]? = some u → w.cell? ⟨vb, 0 + j, none⟩ = some u := fun j u hu => by rw [Nat.zero_add, blk_cells hv j]; simpa using hu
  have hsrc : Src Try.prog i0.size 50 (.slice (some ⟨vb, 0, none⟩) 1 1) 1 cy w := by
    rw [js]; exact Src.ofSlice w Try.underlying50 ⟨vb, 0, none⟩ 1 1 cy (by omega) (fun j u hj => by rw [Addr.add_lit]; exact hvs j u hj) h1v
  -- a new row at the world's end
  have fresh : ∀ (w' : World) (cap : Nat) (cur' : Array Value), Below w.heap.size w w' → w'.heap[w.heap.size]? = some (.cells cur' 38 (0, 0)) → l.length + 1 ≤ cap → cap ≤ maxLen → cur'.size = cap * 2 → cur'.toList.take ((l.length + 1 - (i - i)) * 2) = css.flatten.take (i * 2) ++ cy ++ css.flatten.drop (i * 2) →
      ∃ v' bs', Ending.returned (.slice (some ⟨w.heap.size, 0, none⟩) (l.length + 1) cap) = .returned v' ∧ RowSO w' bs' [v'] (l.take i ++ r :: l.drop i) ∧ Fr lo w' bs' ∧ Upd (v.ownBlock.toList ++ bss.flatten) w w' ∧ ∀ x ∈ bs', x ∈ v.ownBlock.toList ++ bss.flatten ∨ x ∈ bk ∨ w.heap.size ≤ x := fun w' cap cur' hB hw h1 h2 h3 h4 => by
    obtain ⟨bs', q1, q2, q3⟩ := put_done (lo := lo) hc hb hel hcy hr (Nat.le_refl i) hi hw (by omega) h2 h3 h4 (fun b hb => by rcases hb with hb | hb; (exact hB.block b (hblt b hb)); exact hB.block b (hklt b hb))
      (fun h => by have := hblt _ h; omega) (fun h => by have := hklt _ h; omega) (by omega) hfl hfk hd
    rw [Nat.sub_self, Nat.sub_zero] at q1
    exact ⟨_, bs', rfl, q1, q2, Upd.of hB, fun x hx => by rcases q3 x hx with rfl | h | h; (exact Or.inr (Or.inr (Nat.le_refl _))); (exact Or.inl (List.mem_append_right _ h)); exact Or.inr (Or.inl h)⟩
  have inplace : ∀ (g cap : Nat) (w' : World) (cur' : Array Value), v = .slice (some ⟨g, 0, none⟩) l.length cap → lo ≤ g → Upd (v.ownBlock.toList ++ bss.flatten) w w' → (∀ b, b ≠ g → w'.heap[b]? = w.heap[b]?) → w'.heap[g]? = some (.cells cur' 38 (0, 0)) → l.length + 1 ≤ cap → cap ≤ maxLen → cur'.size = cap * 2 → cur'.toList.take ((l.length + 1 - (i - i)) * 2) = css.flatten.take (i * 2) ++ cy ++ css.flatten.drop (i * 2) →
      ∃ v' bs', Ending.returned (.slice (some ⟨g, 0, none⟩) (l.length + 1) cap) = .returned v' ∧ RowSO w' bs' [v'] (l.take i ++ r :: l.drop i) ∧ Fr lo w' bs' ∧ Upd (v.ownBlock.toList ++ bss.flatten) w w' ∧ ∀ x ∈ bs', x ∈ v.ownBlock.toList ++ bss.flatten ∨ x ∈ bk ∨ w.heap.size ≤ x := fun g cap w' cur' hv0 hlg hU hk hw h1 h2 h3 h4 => by
    subst hv0
    have hgn : g ∉ bss.flatten := hno g rfl
    have hgm : g < mid := hm g (by simp [Value.ownBlock])
    have hgk : g ∉ bk := fun h => by have := (hfr.2 g h).1; omega
    obtain ⟨bs', q1, q2, q3⟩ := put_done (lo := lo) hc hb hel hcy hr (Nat.le_refl i) hi hw (by omega) h2 h3 h4 (fun b hb => hk b (fun e => by subst e; rcases hb with hb | hb; (exact hgn hb); exact hgk hb))
      hgn hgk hlg hfl hfk hd
    rw [Nat.sub_self, Nat.sub_zero] at q1
    exact ⟨_, bs', rfl, q1, q2, hU, fun x hx => by rcases q3 x hx with rfl | h | h; (exact Or.inl (by simp [Value.ownBlock])); (exact Or.inl (List.mem_append_right _ h)); exact Or.inr (Or.inl h)⟩
  by_cases hin : i = l.length
  · have endgrow : ∀ (A : Option Addr) (c : Nat), v = .slice A l.length c → c < l.length + 1 → l.length ≤ c → (Builtin.firstCells i0.size l.length (.slice A l.length c)).run Try.prog w.drew = .ok css.flatten.toArray w.drew → Calls Try.prog 45 #[v, .int .i64 i, .slice (some ⟨vb, 0, none⟩) 1 1] w fun e w' => ∃ v' bs', e = .returned v' ∧ RowSO w' bs' [v'] (l.take i ++ r :: l.drop i) ∧ Fr lo w' bs' ∧ Upd (v.ownBlock.toList ++ bss.flatten) w w' ∧ ∀ x ∈ bs', x ∈ v.ownBlock.toList ++ bss.flatten ∨ x ∈ bk ∨ w.heap.size ≤ x := fun A c hv0 hroom hnc hold => by
      have hrun := run_append_grow_src w 50 50 50 38 i0 _ Try.underlying50 ji jz A l.length c css.flatten hold _ 1 cy hsrc hroom (by omega) (by rw [jby]; exact growslice_fits hroom (by omega))
      have hGn : l.length + 1 ≤ grownCap w (l.length + 1) c 38 := grownCap_ge w _ _ _
      have hGm := grownCap_le_maxLen w (l.length + 1) c 38 (by unfold maxLen; omega)
      rw [hv0, hin]
      refine (Ins_end hnc hrun).mono ?_; rintro e w1 ⟨rfl, rfl⟩
      rw [← hv0, ← hin]
      have hfr2 := drop_all (l := css.flatten) (n := i * 2) (by rw [hlen, hin])
      rw [hin] at fresh hfr2 ⊢
      refine fresh _ _ _ (((Below.refl w.heap.size w).drew).alloc (Nat.le_refl _) _) (blk_new w.drew _ _) hGn hGm ?_ ?_
      · simp [Builtin.zeroCells, Value.cells, hlen, hcy]; omega
      · rw [hfr2.1, hfr2.2, List.append_nil, Nat.sub_self, Nat.sub_zero, Array.toList_append, List.take_append_of_le_length (by simp [hlen, hcy]; omega), List.take_of_length_le (by simp [hlen, hcy]; omega)]
    rcases ho with ⟨hv0, h0⟩ | ⟨g, cap, cur, hv0, hlg, hblk, hle, hmax, hsz, htk⟩
    · refine endgrow none 0 (by rw [hv0, h0]) (by omega) (by omega) ?_
      have hnil : css.flatten = [] := List.eq_nil_of_length_eq_zero (by omega)
      rw [js, hnil, h0]
      exact run_firstCells_none w.drew 2 0 0 0
    · have hcs : ∀ (j : Nat) (u : Value), css.flatten[j]? = some u → w.cell? ⟨g, j, none⟩ = some u := fun j u hu => by
        rw [← htk, List.getElem?_take] at hu
        split at hu
        · rw [blk_cells hblk j, ← Array.getElem?_toList]; exact hu
        · cases hu
      by_cases hroom : l.length + 1 ≤ cap
      · have hrun := run_append_room_src w 50 50 50 38 i0 Try.underlying50 ji g 0 l.length cap _ 1 cy hsrc hroom
          (fun j hj => by rw [blk_cells hblk, js, Array.getElem?_eq_getElem (by omega)]; rfl) (fun j hj => blk_free hblk _)
        have hat := setMany_at cy (0 + l.length * i0.size) w cur hblk (by rw [js]; omega)
        obtain ⟨cur', q1, q2, q3, q4⟩ := hat
        have hUm : Upd (v.ownBlock.toList ++ bss.flatten) w (setMany w g (0 + l.length * i0.size) cy) := Upd.many (by rw [hv0]; simp [Value.ownBlock]) cy _ w (Upd.refl _ _)
        have hip := inplace g cap _ cur' hv0 hlg hUm (fun b hb => setMany_far _ _ _ hb) q1 hroom hmax (by rw [q2, hsz])
        rw [hv0, hin]
        refine (Ins_end hle hrun).mono ?_; rintro e w1 ⟨rfl, rfl⟩
        rw [← hv0, ← hin, setCells_many]
        rw [hin] at hip ⊢
        refine hip ?_
        have h3 := seg3 (cur := cur') (a := css.flatten.take (l.length * 2)) (b := cy) (c := css.flatten.drop (l.length * 2)) (fun j u hu => ?_) (fun j u hu => ?_) (fun j u hu => ?_)
        · rw [← h3]
          congr 1
          simp only [List.length_take, List.length_drop, hlen, hcy]; omega
        · rw [q4 j (by left; have := idx_lt hu; simp at this; rw [js]; omega)]
          rw [List.getElem?_take] at hu
          split at hu
          · have := hcs j u hu; rw [blk_cells hblk j] at this; exact this
          · cases hu
        · have := q3 j u hu
          rw [js, Nat.zero_add] at this
          rw [List.length_take, hlen, Nat.min_self]; exact this
        · rw [(drop_all (l := css.flatten) hlen).2] at hu; cases hu
      · refine endgrow _ cap hv0 (by omega) hle ?_
        rw [js]
        exact run_firstCells_some w.drew 2 l.length ⟨g, 0, none⟩ l.length cap css.flatten hlen (fun j u hj => by rw [Addr.add_lit, Nat.zero_add]; exact hcs j u hj)
  · have hin' : i < l.length := by omega
    rcases ho with ⟨hv0, h0⟩ | ⟨g, cap, cur, hv0, hlg, hblk, hle, hmax, hsz, htk⟩
    · omega
    have hcs : ∀ (j : Nat) (u : Value), css.flatten[j]? = some u → w.cell? ⟨g, j, none⟩ = some u := fun j u hu => by
      rw [← htk, List.getElem?_take] at hu
      split at hu
      · rw [blk_cells hblk j, ← Array.getElem?_toList]; exact hu
      · cases hu
    have hcut : ∀ (cur' : Array Value), (∀ (j : Nat) (u : Value), j < i * 2 → css.flatten[j]? = some u → cur'[j]? = some u) → (∀ (j : Nat) (u : Value), cy[j]? = some u → cur'[i * 2 + j]? = some u) → (∀ (j : Nat) (u : Value), (css.flatten.drop (i * 2))[j]? = some u → cur'[(i + 1) * 2 + j]? = some u) →
        cur'.toList.take ((l.length + 1 - (i - i)) * 2) = css.flatten.take (i * 2) ++ cy ++ css.flatten.drop (i * 2) := fun cur' a1 a2 a3 => by
      have e1 : (css.flatten.take (i * 2)).length = i * 2 := by rw [List.length_take, hlen]; omega
      have h3 := seg3 (cur := cur') (a := css.flatten.take (i * 2)) (b := cy) (c := css.flatten.drop (i * 2)) (fun j u hu => by
          rw [List.getElem?_take] at hu
          split at hu
          · rename_i hj; exact a1 j u hj hu
          · cases hu) (fun j u hu => by rw [e1]; exact a2 j u hu) (fun j u hu => by rw [e1, hcy, show i * 2 + 2 + j = (i + 1) * 2 + j by omega]; exact a3 j u hu)
      rw [← h3]
      congr 1
      rw [e1, List.length_drop, hlen, hcy]; omega
    by_cases hroom : l.length + 1 ≤ cap
    · have hat := setMany_at (css.flatten.drop (i * 2)) ((i + 1) * 2) w.drew cur hblk (by rw [List.length_drop, hlen]; omega)
      obtain ⟨cur1, q1, q2, q3, q4⟩ := hat
      obtain ⟨cur2, p1, p2, p3, p4⟩ := setMany_at cy (i * 2) _ cur1 q1 (by omega)
      have hgo : g ∈ v.ownBlock.toList ++ bss.flatten := by rw [hv0]; simp [Value.ownBlock]
      have hUm := Upd.many (bs := v.ownBlock.toList ++ bss.flatten) hgo cy (i * 2) _ (Upd.many hgo (css.flatten.drop (i * 2)) ((i + 1) * 2) w.drew (Upd.of (Below.refl w.heap.size w).drew))
      have hip := inplace g cap _ cur2 hv0 hlg hUm (fun b hb => (setMany_far _ _ _ hb).trans (setMany_far _ _ _ hb)) p1 hroom hmax (by rw [p2, q2, hsz]) (hcut cur2 (fun j u hj hu => ?_) p3 (fun j u hu => ?_))
      · rw [hv0]
        refine (Ins_shift hin' hroom (by unfold maxLen at hmax; omega) (fun e => ?_) hlen hcy hblk hv hsz hcs h1c h1v).mono ?_
        · have := hm g hgo; omega
        rintro e w1 ⟨rfl, rfl⟩
        rw [← hv0, setCells_many, setCells_many]
        exact hip
      · rw [p4 j (by omega), q4 j (by omega)]
        have := hcs j u hu; rw [blk_cells hblk j] at this; exact this
      · rw [p4 _ (by omega)]; exact q3 j u hu
    · rw [hv0]
      refine (Ins_grow hin' hle (by omega) (by omega) hlen hcy hblk hv hcs h1c h1v).mono ?_
      rintro e w1 ⟨G, ROW, g1, g2, g3, g4, rfl, rfl⟩
      rw [← hv0, setCells_many, setCells_many]
      have hN : (World.heap (w.alloc (.cells ROW 38)).drew)[w.heap.size]? = some (.cells ROW 38 (0, 0)) := blk_new w ROW 38
      obtain ⟨cur1, q1, q2, q3, q4⟩ := setMany_at cy (i * 2) _ ROW hN (by omega)
      obtain ⟨cur2, p1, p2, p3, p4⟩ := setMany_at (css.flatten.drop (i * 2)) ((i + 1) * 2) (setMany (w.alloc (.cells ROW 38)).drew w.heap.size (i * 2) cy).drew cur1 q1 (by rw [List.length_drop, hlen]; omega)
      refine fresh _ G cur2 (setMany_below _ _ _ (Nat.le_refl _) ((setMany_below _ _ _ (Nat.le_refl _) ((Below.refl w.heap.size w).alloc (Nat.le_refl _) _).drew).drew)) p1 g1 (by unfold maxLen; omega) (by rw [p2, q2, g3]) (hcut cur2 (fun j u hj hu => ?_) (fun j u hu => ?_) p3)
      · rw [p4 j (by omega), q4 j (by omega)]
        have h5 : (css.flatten.take (i * 2))[j]? = some u := by rw [List.getElem?_take, if_pos hj]; exact hu
        rw [← g4, List.getElem?_take, if_pos hj, Array.getElem?_toList] at h5
        exact h5
      · have hj := idx_lt hu
        rw [p4 _ (by omega)]; exact q3 j u hu
end Go.Proofs.Ytfkpllkgganejaa
