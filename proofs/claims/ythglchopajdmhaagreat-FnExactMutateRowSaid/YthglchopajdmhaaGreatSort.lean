/- slices.SortFunc of atoms. No statement is proved here; no conditions. Written by a program (gen38.py). -/
import Derived.Test.YthglchopajdmhaaGreatSetP
import Derived.Test.YthglchopajdmhaaGreatClone
import Derived.Test.YthglchopajdmhaaGreatOrder
import Derived.Test.YthglchopajdmhaaGreatSortLay
import Derived.Shelf.Abstract
namespace Go.Proofs.YthglchopajdmhaaGreat
open Go.ChangeShapes Go.WideShapes Go.ChangeAt Go.RowKit Go.Deep
set_option maxRecDepth 100000
set_option linter.unusedVariables false
set_option linter.unusedSimpArgs false

theorem ordA_swo : Go.Sort.SWO (ltOf ordA) := by
  refine ⟨fun x => ltOf_not.2 (LtA.irrefl x), fun x y z h1 h2 => ltOf_iff.2 ((ltOf_iff.1 h1).trans (ltOf_iff.1 h2)), fun x y z h1 h2 => ltOf_not.2 fun h => ?_⟩
  have h1 := ltOf_not.1 h1; have h2 := ltOf_not.1 h2
  rcases LtA.tri x y with rfl | h3 | h3
  · exact h2 h
  · exact h1 h3
  · exact h2 (h3.trans h)
def encA (a : Atom) : List Value := [.int .i64 a.kind, .int .i64 a.n, .string a.t]
theorem grow_below (w : World) (os : Array Obj) : Below w.heap.size w (Go.Sort.grow w os) :=
  ⟨rfl, rfl, rfl, by simp, fun k hk => by unfold Go.Sort.grow; simp [Array.getElem?_append, hk]⟩
theorem drewN_below (w : World) (n : Nat) : Below w.heap.size w (w.drewN n) := ⟨rfl, rfl, rfl, Nat.le_refl _, fun _ _ => rfl⟩
theorem map_block (w : World) (b : Nat) (f : Array Value → Array Value) {cur : Array Value} {e : TypeId} (h : w.heap[b]? = some (.cells cur e (0, 0))) : (Go.Sort.mapBlock w b f).heap[b]? = some (.cells (f cur) e (0, 0)) := by
  simp [Go.Sort.mapBlock, Array.getElem?_modify, h, Go.Sort.onCells]
theorem map_far (w : World) (b : Nat) (f : Array Value → Array Value) {g : Nat} (h : g ≠ b) : (Go.Sort.mapBlock w b f).heap[g]? = w.heap[g]? := by
  have h' : b ≠ g := fun e => h e.symm
  simp [Go.Sort.mapBlock, Array.getElem?_modify, h']
theorem map_upd (w : World) (b : Nat) (f : Array Value → Array Value) (hf : ∀ c, (f c).size = c.size) {cur : Array Value} {e : TypeId} (h : w.heap[b]? = some (.cells cur e (0, 0))) : Upd [b] w (Go.Sort.mapBlock w b f) where
  below := fun B hB hb => ⟨rfl, rfl, rfl, by simp [Go.Sort.mapBlock], fun k hk => map_far w b f (by have := hb b (by simp); omega)⟩
  far := fun g _ hg => map_far w b f (by simpa using hg)
  cells := fun g c t hc => by
    by_cases hg : g = b
    · subst hg; exact ⟨f c, map_block w g f hc, hf c⟩
    · exact ⟨c, (map_far w b f hg).trans hc, rfl⟩
theorem atomR_cs {w : World} {bk : List Nat} {cs : List Value} {a : Atom} (h : AtomR w bk cs a) : bk = [] ∧ cs = encA a ∧ a.fine := by
  obtain ⟨h1, h2, h3⟩ := h; exact ⟨h1, h2, h3⟩
theorem holdsK_of {w : World} {b o : Nat} {cur : Array Value} {e : TypeId} {xs : List Atom} (hc : w.heap[b]? = some (.cells cur e (0, 0)))
    (h : ∀ p (hp : p < xs.length), ∀ (j : Nat) (u : Value), (encA xs[p])[j]? = some u → cur[o + p * 3 + j]? = some u) : Go.Sort.HoldsK encA 3 w b o xs.toArray := by
  intro t ht
  rw [Go.Sort.size_flatK] at ht
  rw [Go.Sort.get_flatK _ _ _ _ ht]
  have hp : t / 3 < xs.length := by have : xs.toArray.size = xs.length := rfl; omega
  have hm : t % 3 < 3 := Nat.mod_lt _ (by decide)
  refine ⟨?_, blk_free hc _⟩
  have he : xs.toArray[t / 3]! = xs[t / 3] := by simp [hp]
  rw [he, blk_cells hc]
  have := h (t / 3) hp (t % 3) ((encA xs[t / 3])[t % 3]'(by simpa [encA] using hm)) (List.getElem?_eq_getElem _)
  rw [show o + t / 3 * 3 + t % 3 = o + t from by omega] at this
  rw [this]
  congr 1
  exact (getElem!_pos _ _ _).symm
theorem slR_of {w : World} {b o c : Nat} {cur : Array Value} {e : TypeId} {ys : List Atom} (hc : w.heap[b]? = some (.cells cur e (0, 0))) (hlc : ys.length ≤ c) (hcm : c ≤ 9223372036854775807)
    (hf : ∀ y ∈ ys, y.fine) (h : Go.Sort.HoldsK encA 3 w b o ys.toArray) (bss : List (List Nat)) (hl : bss.length = ys.length) (hb : ∀ bk ∈ bss, bk = []) (h0 : 0 < ys.length) : AtomSR w (b :: bss.flatten) [.slice (some ⟨b, o, none⟩) ys.length c] ys := by
  refine ⟨_, c, rfl, hlc, by unfold maxLen; omega, .inr ⟨b, o, bss, rfl, lt_of_cells hc, hl, rfl, fun k x bk hx hbk => ?_⟩⟩
  have hk := idx_lt hx
  refine ⟨encA x, rfl, fun j u hu => ?_, ?_⟩
  · have hj : j < 3 := idx_lt hu
    have h1 := (h.cell (i := k) (c := j) (by simpa using hk) hj).1
    rw [show o + k * 3 + j = o + k * 3 + j from rfl] at h1
    rw [h1]
    have hxk : ys.toArray[k]! = x := by
      have : ys[k]? = some x := hx
      simp [hk] ; rw [List.getElem?_eq_getElem hk] at this; injection this
    rw [hxk, ← hu]
    have hj2 : j < (encA x).length := hj
    rw [List.getElem?_eq_getElem hj2]; congr 1; exact getElem!_pos _ _ _
  · have := hb bk (List.mem_of_getElem? hbk); subst this
    exact ⟨rfl, rfl, hf x (List.mem_of_getElem? hx)⟩
theorem impl_compareAtomsG (a b : Atom) (w : World) : Calls Tryz.prog 102 #[a.val, b.val] w fun e w' => e = .returned (.int .i64 (ordA a b)) ∧ ∃ q os', w' = Go.Sort.grow (w.drewN q) os' := by
  rw [← ordA_or3]
  obtain ⟨k1, n1, t1⟩ := a
  obtain ⟨k2, n2, t2⟩ := b
  unfold Atom.val
  go_enter Tryz.func102, Tryz.ntmps102
  go_wp2
  refine region_still_tail 15 (by kernel_rfl) (by kernel_rfl) ?_
  simp only [List.take_succ_cons, List.take_zero, List.drop_succ_cons, List.drop_zero]
  repeat (first | still_step | still_call ((cmp_Compare _ _ _).mono fun _ _ h => ⟨h.1, h.2.symm⟩) | still_call (Tryz.strings_Compare _ _ _))
  refine wpStill_nil ?_
  go_wp2_with fail
  refine (cmp_Or3 _ _ _ (by simpa [World.drew] using blk_new ((w.alloc _).alloc _) _ _)).mono ?_
  rintro e w1 ⟨rfl, rfl⟩
  go_wp2_with fail
  go_ret
  exact ⟨rfl, 1, _, by simp only [Go.Sort.alloc_eq_grow, Go.Sort.grow_grow]; rfl⟩
theorem slices_SortFuncA {w : World} {lo : Nat} {bs : List Nat} {v : Value} {xs : List Atom} (ha : AtomSR w bs [v] xs) (hf : Fr lo w bs) (hn : xs.length ≤ 1048576) :
    Calls Tryz.prog 109 #[v, .func (.func 102) #[] #[]] w fun e w' => e = .returned (.tuple #[]) ∧ AtomSR w' bs [v] (sortA xs) ∧ Fr lo w' bs ∧ Upd bs w w' := by
  have ha0 := ha
  obtain ⟨A, c, rfl, hlc, hcm, _⟩ := ha.use
  by_cases h0 : 0 < xs.length
  · obtain ⟨b, o, cur, e0, css, bss, rfl, hcur, rfl, hcl, hbl, hsz, hcell, hRd⟩ := SlR.whole ha0 hf h0
    have hR : ∀ p (hp : p < xs.length), ∃ bk cs, bss[p]? = some bk ∧ css[p]? = some cs ∧ bk = [] ∧ cs = encA xs[p] ∧ xs[p].fine := by
      intro p hp
      obtain ⟨bk, hbk⟩ := idx_some (l := bss) (k := p) (by omega)
      obtain ⟨cs, hcs⟩ := idx_some (l := css) (k := p) (by omega)
      exact ⟨bk, cs, hbk, hcs, atomR_cs (hRd p xs[p] cs bk (List.getElem?_eq_getElem hp) hcs hbk)⟩
    have hH : Go.Sort.HoldsK encA 3 w b o xs.toArray := holdsK_of hcur fun p hp j u hu => by
      obtain ⟨bk, cs, _, hcs, _, rfl, _⟩ := hR p hp
      exact hcell p _ hcs j u hu
    have hbs : ∀ bk ∈ bss, bk = [] := fun bk hm => by
      obtain ⟨p, hp, rfl⟩ := List.mem_iff_getElem.1 hm
      obtain ⟨bk', cs, h1, _, h2, _⟩ := hR p (by omega)
      rw [List.getElem?_eq_getElem hp] at h1; injection h1 with h1; rw [h1]; exact h2
    have hfine : ∀ y ∈ sortA xs, y.fine := fun y hy => by
      obtain ⟨p, hp, rfl⟩ := List.mem_iff_getElem.1 ((sortA_mem xs y).1 hy)
      obtain ⟨_, _, _, _, _, _, h⟩ := hR p hp
      exact h
    have hsl : (sortA xs).length = xs.length := sortA_len xs
    have hc := AnyQ.slices_SortFunc_total (P := Tryz.prog) Tryz.sortAtoms 3 (fun _ => rfl) (fun _ => rfl) encA (fun _ => rfl) (fun x v hv => by
        simp only [encA, List.mem_cons, List.not_mem_nil, or_false] at hv; rcases hv with rfl | rfl | rfl <;> rfl) ordA ordA_swo 102 #[] b o c xs.toArray w (enters_of Tryz.func102 (by kernel_rfl) rfl)
        (fun m os dk hdk x y => impl_compareAtomsG x y _) hH (lt_of_cells hcur) (by show xs.length < _; omega) ordA_total
    refine hc.mono ?_
    rintro e w' ⟨rfl, n, os, rfl⟩
    refine ⟨rfl, ?_⟩
    have hu : Upd (b :: bss.flatten) w (sortWorldK encA 3 w b o n (sortA xs).toArray os) := by
      have h1 : Upd [b] w (Go.Sort.ahead w n) := Upd.of (drewN_below w n)
      have h2 : Upd [b] (Go.Sort.ahead w n) (Go.Sort.putRowK encA 3 (Go.Sort.ahead w n) b o (sortA xs).toArray) := map_upd _ b _ (fun c => by simp [Go.Sort.putCells]) hcur
      have h3 := (h1.trans h2 (fun _ h => h)).call (grow_below _ os)
      exact h3.wide (by simp)
    have hK : Go.Sort.HoldsK encA 3 (sortWorldK encA 3 w b o n (sortA xs).toArray os) b o (sortA xs).toArray := holdsK_sortWorldK_c encA 3 w b o xs.toArray _ n os hH (lt_of_cells hcur) (by show (sortA xs).length = xs.length; exact hsl)
    obtain ⟨cur', hc', _⟩ := hu.cells b cur e0 hcur
    have hres := slR_of (c := c) hc' (by omega) (by omega) hfine hK bss (by omega) hbs (by omega)
    rw [hsl] at hres
    exact ⟨hres, hf.upd hu, hu⟩
  · have hx : xs = [] := List.eq_nil_of_length_eq_zero (by omega)
    subst hx
    refine (AnyF.slices_SortFunc_none (P := Tryz.prog) Tryz.sortAtoms A c (.func (.func 102) #[] #[]) w).mono ?_
    rintro e w' ⟨rfl, rfl⟩
    exact ⟨rfl, by simpa [sortA] using ha0, hf, Upd.refl _ _⟩
end Go.Proofs.YthglchopajdmhaaGreat
