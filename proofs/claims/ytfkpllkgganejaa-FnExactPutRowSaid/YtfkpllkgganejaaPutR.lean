/- A row put among a table's rows, in the program. No statement is proved here; no conditions. -/
import Derived.Test.YtfkpllkgganejaaInsO
namespace Go.Proofs.Ytfkpllkgganejaa
open Go.ChangeShapes Go.WideShapes Go.ChangeAt Go.RowKit Go.Deep
set_option maxRecDepth 100000
set_option linter.unusedVariables false
set_option linter.unusedSimpArgs false
def putL (l : List Row) (r : Row) : List Row := l.take (lbOf l r.id) ++ r :: l.drop (cond (hasId l r.id) (lbOf l r.id + 1) (lbOf l r.id))
set_option maxHeartbeats 4000000 in
theorem impl_put {w : World} {lo mid : Nat} {bs : List Nat} {v : Value} {l : List Row} (H : RowSO w bs [v] l) (hf : Fr lo w bs) (hrs : rising l = true) (hn : l.length ≤ 1048576)
    {cy : List Value} {bk : List Nat} {r : Row} (hr : RowR w bk cy r) (hfr : Fr mid w bk) (hlm : lo ≤ mid) (hm : ∀ b ∈ bs, b < mid) (hmw : mid ≤ w.heap.size) :
    Calls Try.prog 27 #[v, .agg cy.toArray] w fun e w' => ∃ v' bs', e = .returned v' ∧ RowSO w' bs' [v'] (putL l r) ∧ Fr lo w' bs' ∧ Upd bs w w' ∧ ∀ x ∈ bs', x ∈ bs ∨ x ∈ bk ∨ w.heap.size ≤ x := by
  have hr0 := hr
  obtain ⟨bsP, rP, sP⟩ := H.plain
  obtain ⟨A, c, hv, hlc, hcm⟩ := H.form
  obtain ⟨v1, b1, rfl, rfl, hfR, r1⟩ := hr
  obtain ⟨A1, c1, rfl, _, _, _⟩ := r1.use
  have hbx := (Below.refl w.heap.size w).alloc (Nat.le_refl _) (.cells #[.int .i64 r.id, .slice A1 r.cells.length c1] 38)
  have q_r := blk_cells (blk_new w #[.int .i64 r.id, .slice A1 r.cells.length c1] 38)
  have hlb : lbOf l r.id ≤ l.length := List.findIdx_le_length
  cases hh : hasId l r.id
  · have hpl : Hid (putL l r = l.take (lbOf l r.id) ++ r :: l.drop (lbOf l r.id)) := by show _ = _; unfold putL; rw [hh]; rfl
    have hcall := hide (impl_rowAt (RowSR.good.nxt hbx rP) r.id hrs hn); rw [hh] at hcall; clear hh
    generalize lbOf l r.id = q at hlb hpl hcall
    subst hv
    go_enter Try.func27, Try.ntmps27
    go_wp2_with fail
    refine hcall.out.mono ?_; rintro e w1 ⟨rfl, hb1⟩
    have hw1 := nxt hbx hb1; replace q_r := box_on q_r rfl hb1; clear hcall
    have hal := (Below.refl w1.heap.size w1).alloc (Nat.le_refl _) (.cells #[.int .i64 r.id, .slice A1 r.cells.length c1] 38)
    have hw2 := nxt hw1 hal
    have hcall := hide (slices_InsertO (mid := mid) (RowSO.good.nxt hw2 H) (hf.below hw2) hlb hn (vb := w1.heap.size) (cy := [.int .i64 r.id, .slice A1 r.cells.length c1]) (blk_new w1 _ _) (RowR.good.nxt hw2 hr0) (hfr.below hw2) hlm hm (by have := hw1.size; omega))
    go_wp2_with fail
    refine hcall.out.mono ?_; rintro e w3 ⟨v', bs', rfl, q1, q2, q3, q4⟩
    clear hcall
    generalize hL : l.take q ++ r :: l.drop q = L at q1 hpl
    obtain ⟨A', c', hv', _, _⟩ := q1.form
    subst hv'; clear hL
    go_wp2_with fail
    go_ret
    exact ⟨.slice A' L.length c', bs', rfl, by rw [hpl.out]; exact q1, q2, (Upd.of hw2).trans q3 (fun _ h => h), fun x hx => by rcases q4 x hx with h | h | h; (exact Or.inl h); (exact Or.inr (Or.inl h)); exact Or.inr (Or.inr (Nat.le_trans hw2.size h))⟩
  · obtain ⟨_, hlt⟩ := rowIdx_lb hrs hh
    have hpl : Hid (putL l r = l.take (lbOf l r.id) ++ r :: l.drop (lbOf l r.id + 1)) := by show _ = _; unfold putL; rw [hh]; rfl
    have hcall := hide (impl_rowAt (RowSR.good.nxt hbx rP) r.id hrs hn); rw [hh] at hcall; clear hh
    generalize lbOf l r.id = q at hlb hlt hpl hcall
    obtain ⟨bss, hG, hfl, hbs⟩ := H.gr hf
    have hblt := hG.lt RowR.good
    obtain ⟨css, hc, hb, ⟨hlen, ho⟩, hno, hel⟩ := hG
    rcases ho with ⟨hv0, h0⟩ | ⟨g, cap, cur, hv0, hlg, hblk, hle, hmax, hsz, htk⟩
    · omega
    have hgo : g ∈ bs := by rw [hbs, hv0]; simp [Value.ownBlock]
    have hgn : g ∉ bss.flatten := hno g (by rw [hv0]; rfl)
    have hgk : g ∉ bk := fun h => by have := (hfr.2 g h).1; have := hm g hgo; omega
    have hklt := RowR.good.lt hr0
    have hd : ∀ b ∈ bk, b ∉ bss.flatten := fun b hb hm' => by have := (hfr.2 b hb).1; have := hm b (by rw [hbs]; exact List.mem_append_right _ hm'); omega
    have HE := hide (And.intro hel hcm); have HNO := hide hno; clear hel hno hv
    subst hv0
    go_enter Try.func27, Try.ntmps27
    go_wp2_with fail
    refine hcall.out.mono ?_; rintro e w1 ⟨rfl, hb1⟩
    have hw1 := nxt hbx hb1; replace q_r := box_on q_r rfl hb1; clear hcall
    have B1 := blk_on hblk hw1; have F1 := blk_free B1
    have e0 : w1.cell? ⟨g, q * 2, none⟩ = cur[q * 2]? := blk_cells B1 _
    rw [Array.getElem?_eq_getElem (by omega)] at e0
    have e1 : w1.cell? ⟨g, q * 2 + 1, none⟩ = cur[q * 2 + 1]? := blk_cells B1 _
    rw [Array.getElem?_eq_getElem (by omega)] at e1
    have BF := hide (blk_set (blk_set B1 (q * 2) (.int .i64 r.id)) (q * 2 + 1) (.slice A1 r.cells.length c1))
    have HT := hide htk; clear htk
    go_wp2_with fail
    go_ret
    have hU : Upd bs w ((w1.setCell ⟨g, q * 2, none⟩ (.int .i64 r.id)).setCell ⟨g, q * 2 + 1, none⟩ (.slice A1 r.cells.length c1)) := ((Upd.of hw1).set (p := ⟨g, q * 2, none⟩) hgo rfl _).set (p := ⟨g, q * 2 + 1, none⟩) hgo rfl _
    refine Exists.elim (put_done (w := w) (lo := lo) hc hb HE.out.1 (cy := [.int .i64 r.id, .slice A1 r.cells.length c1]) rfl hr0 (i := q) (j := q + 1) (by omega) (by omega) BF.out (cap := cap) (by omega) hmax (by simpa using hsz) ?_
      (fun b hb => by
        have hne : b ≠ g := fun e => by subst e; rcases hb with hb | hb; (exact hgn hb); exact hgk hb
        rw [blk_far (p := ⟨g, q * 2 + 1, none⟩) hne, blk_far (p := ⟨g, q * 2, none⟩) hne]
        rcases hb with hb | hb
        · exact hw1.block b (hblt b hb)
        · exact hw1.block b (hklt b hb)) hgn hgk hlg hfl (hfr.mono hlm) hd) fun bs' ⟨q1, q2, q3⟩ => ?_
    rotate_left
    · rw [show l.length + 1 - (q + 1 - q) = l.length by omega] at q1
      exact ⟨.slice (some ⟨g, 0, none⟩) l.length cap, bs', rfl, by rw [hpl.out]; exact q1, q2, hU, fun x hx => by rcases q3 x hx with rfl | h | h; (exact Or.inl hgo); (exact Or.inl (by rw [hbs]; exact List.mem_append_right _ h)); exact Or.inr (Or.inl h)⟩
    · have hcs : ∀ (j : Nat) (u : Value), css.flatten[j]? = some u → cur[j]? = some u := fun j u hu => by
        rw [← HT.out, List.getElem?_take] at hu
        split at hu
        · rw [← Array.getElem?_toList]; exact hu
        · cases hu
      have e5 : (css.flatten.take (q * 2)).length = q * 2 := by rw [List.length_take, hlen]; omega
      have h3 := seg3 (cur := (cur.setIfInBounds (q * 2) (.int .i64 r.id)).setIfInBounds (q * 2 + 1) (.slice A1 r.cells.length c1)) (a := css.flatten.take (q * 2)) (b := [.int .i64 r.id, .slice A1 r.cells.length c1]) (c := css.flatten.drop ((q + 1) * 2)) (fun j u hu => ?_) (fun j u hu => ?_) (fun j u hu => ?_)
      · rw [← h3]
        congr 1
        rw [e5, List.length_drop, hlen]; simp only [List.length_cons, List.length_nil]; omega
      · rw [List.getElem?_take] at hu
        split at hu
        · rw [Array.getElem?_setIfInBounds_ne (by omega), Array.getElem?_setIfInBounds_ne (by omega)]; exact hcs j u hu
        · cases hu
      · rw [e5]
        match j, hu with
        | 0, hu =>
          simp only [List.getElem?_cons_zero, Option.some.injEq] at hu; subst hu
          rw [Array.getElem?_setIfInBounds_ne (by omega)]; exact Array.getElem?_setIfInBounds_self_of_lt (by omega)
        | 1, hu =>
          simp only [List.getElem?_cons_succ, List.getElem?_cons_zero, Option.some.injEq] at hu; subst hu
          rw [Array.getElem?_setIfInBounds_self_of_lt (by simp; omega)]
        | j + 2, hu => simp at hu
      · rw [e5]; simp only [List.length_cons, List.length_nil]
        rw [List.getElem?_drop] at hu
        rw [Array.getElem?_setIfInBounds_ne (by omega), Array.getElem?_setIfInBounds_ne (by omega), show q * 2 + (0 + 1 + 1) + j = (q + 1) * 2 + j by omega]; exact hcs _ u hu
end Go.Proofs.Ytfkpllkgganejaa
