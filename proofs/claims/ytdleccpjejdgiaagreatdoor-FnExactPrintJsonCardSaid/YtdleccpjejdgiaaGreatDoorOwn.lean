/- Memory that a call makes: fresh blocks, rows that are filled one by one. No statement is proved here; no conditions. -/
import Derived.Test.YtdleccpjejdgiaaGreatDoorCodes
namespace Go.Proofs.YtdleccpjejdgiaaGreatDoor
open Go.ChangeShapes Go.WideShapes Go.ChangeAt Go.RowKit Go.Deep
set_option maxRecDepth 100000
set_option linter.unusedVariables false

/-- Blocks of the call's own: from 'lo' on, no two alike, none marked. -/
def Fr (lo : Nat) (w : World) (bs : List Nat) : Prop := bs.Nodup ∧ ∀ b ∈ bs, lo ≤ b ∧ ∃ cur e, w.heap[b]? = some (.cells cur e (0, 0))
theorem Fr.nil (lo : Nat) (w : World) : Fr lo w [] := ⟨List.nodup_nil, fun b hb => by cases hb⟩
theorem lt_of_cells {w : World} {b : Nat} {o : Obj} (h : w.heap[b]? = some o) : b < w.heap.size := by
  rcases Nat.lt_or_ge b w.heap.size with h' | h'
  · exact h'
  · rw [Array.getElem?_eq_none h'] at h; cases h
theorem Fr.lt {lo : Nat} {w : World} {bs : List Nat} (h : Fr lo w bs) : ∀ b ∈ bs, b < w.heap.size := fun b hb => by
  obtain ⟨_, cur, e, hc⟩ := h.2 b hb
  exact lt_of_cells hc
theorem Fr.keep {lo : Nat} {w w' : World} {bs : List Nat} (h : Fr lo w bs) (hk : ∀ b ∈ bs, w'.heap[b]? = w.heap[b]?) : Fr lo w' bs :=
  ⟨h.1, fun b hb => by obtain ⟨h1, cur, e, hc⟩ := h.2 b hb; exact ⟨h1, cur, e, (hk b hb).trans hc⟩⟩
theorem Fr.below {lo : Nat} {w w' : World} {bs : List Nat} (h : Fr lo w bs) (hb : Below w.heap.size w w') : Fr lo w' bs := h.keep fun b hm => hb.block b (h.lt b hm)
theorem Fr.mono {lo lo' : Nat} {w : World} {bs : List Nat} (h : Fr lo w bs) (hl : lo' ≤ lo) : Fr lo' w bs := ⟨h.1, fun b hb => ⟨Nat.le_trans hl (h.2 b hb).1, (h.2 b hb).2⟩⟩
theorem Fr.append {lo mid : Nat} {w : World} {bs cs : List Nat} (h : Fr lo w bs) (k : Fr mid w cs) (hlm : lo ≤ mid) (hm : ∀ b ∈ bs, b < mid) : Fr lo w (bs ++ cs) := by
  refine ⟨List.nodup_append.2 ⟨h.1, k.1, fun a ha b hb he => ?_⟩, fun b hb => ?_⟩
  · subst he
    have := hm _ ha
    have := (k.2 _ hb).1
    omega
  · rcases List.mem_append.1 hb with hb | hb
    · exact h.2 b hb
    · exact ⟨Nat.le_trans hlm (k.2 b hb).1, (k.2 b hb).2⟩

/-! ### A block that is known whole -/
theorem blk_cells {w : World} {g : Nat} {cs : Array Value} {t : TypeId} (h : w.heap[g]? = some (.cells cs t (0, 0))) (j : Nat) : w.cell? ⟨g, j, none⟩ = cs[j]? := cell_of_row w g j cs t (0, 0) h
theorem blk_free {w : World} {g : Nat} {cs : Array Value} {t : TypeId} (h : w.heap[g]? = some (.cells cs t (0, 0))) (j : Nat) : w.frozen? ⟨g, j, none⟩ = false := by simp [World.frozen?, h]
theorem blk_cell {w : World} {g : Nat} {cs : Array Value} {t : TypeId} (h : w.heap[g]? = some (.cells cs t (0, 0))) {j : Nat} (hj : j < cs.size) : ∃ u, w.cell? ⟨g, j, none⟩ = some u :=
  ⟨cs[j], by rw [blk_cells h, Array.getElem?_eq_getElem hj]⟩
theorem blk_set {w : World} {g : Nat} {cs : Array Value} {t : TypeId} (h : w.heap[g]? = some (.cells cs t (0, 0))) (i : Nat) (u : Value) : (w.setCell ⟨g, i, none⟩ u).heap[g]? = some (.cells (cs.setIfInBounds i u) t (0, 0)) := by
  simp [World.setCell, Array.getElem?_modify, h]
theorem blk_far {w : World} {g : Nat} {p : Addr} (hp : g ≠ p.block) (u : Value) : (w.setCell p u).heap[g]? = w.heap[g]? := Below.heap_setCell w p u g hp
theorem blk_old {w : World} {g : Nat} {o : Obj} (h : w.heap[g]? = some o) (x : Obj) : (w.alloc x).heap[g]? = some o := (Below.heap_alloc w x g (lt_of_cells h)).trans h
theorem blk_new (w : World) (cs : Array Value) (t : TypeId) : (w.alloc (.cells cs t)).heap[w.heap.size]? = some (.cells cs t (0, 0)) := heap_alloc_new w _
theorem blk_on {w w1 : World} {g : Nat} {o : Obj} (h : w.heap[g]? = some o) (hb : Below w.heap.size w w1) : w1.heap[g]? = some o := (hb.block g (lt_of_cells h)).trans h

/-- From block B on, what was there is as it was. -/
structure Away (B : Nat) (w w' : World) : Prop where
  size : w.heap.size ≤ w'.heap.size
  keep : ∀ b, B ≤ b → b < w.heap.size → w'.heap[b]? = w.heap[b]?
theorem Away.refl (B : Nat) (w : World) : Away B w w := ⟨Nat.le_refl _, fun _ _ _ => rfl⟩
theorem Away.set {B : Nat} {w w1 : World} (h : Away B w w1) {p : Addr} (hp : p.block < B) (u : Value) : Away B w (w1.setCell p u) :=
  ⟨Nat.le_trans h.size (by simp [World.setCell]), fun b h1 h2 => (blk_far (by omega) u).trans (h.keep b h1 h2)⟩
theorem Away.call {B : Nat} {w w1 w2 : World} (h : Away B w w1) (hb : Below w1.heap.size w1 w2) : Away B w w2 :=
  ⟨Nat.le_trans h.size hb.size, fun b h1 h2 => (hb.block b (Nat.lt_of_lt_of_le h2 h.size)).trans (h.keep b h1 h2)⟩
theorem Away.fr {B lo : Nat} {w w' : World} (h : Away B w w') {bs : List Nat} (hf : Fr lo w bs) (hlo : B ≤ lo) : Fr lo w' bs :=
  hf.keep fun b hb => h.keep b (Nat.le_trans hlo (hf.2 b hb).1) (hf.lt b hb)
theorem Away.rd {α : Type} {R : Rd α} {B lo : Nat} {w w' : World} (h : Away B w w') (g : Good R) {bs : List Nat} {cs : List Value} {x : α} (hr : R w bs cs x) (hf : Fr lo w bs) (hlo : B ≤ lo) : R w' bs cs x :=
  g.keep hr fun b hb => h.keep b (Nat.le_trans hlo (hf.2 b hb).1) (hf.lt b hb)

theorem make_row {P : Program} {t e : TypeId} {z : Value} {size bytes : Nat} (ht : P.underlying t = some (.slice e)) (hi : (P.info? e).map (fun i => (i.zero, i.size, i.bytes)) = some (some z, size, bytes))
    (n : Nat) (hb : bytes * n ≤ 281474976710656) (hn : n ≤ 9223372036854775807) :
    ∃ cur : Array Value, cur.size = n * size ∧ ∀ W : World, (Instr.makeSlice t (.int .i64 (n : Int)) (.int .i64 (n : Int))).run P W = .ok (.slice (some ⟨W.heap.size, 0, none⟩) n n) (W.alloc (.cells cur e)) := by
  obtain ⟨i, hi, hz, hs, hby⟩ := info_parts hi
  refine ⟨madeCells z.cells (n * i.size), by rw [size_madeCells, hs], fun W => ?_⟩
  have hb' : (i.bytes : Int) * (n : Int) ≤ 281474976710656 := by
    have h : ((i.bytes * n : Nat) : Int) ≤ 281474976710656 := by rw [hby]; omega
    rwa [Int.natCast_mul] at h
  have hr := run_make (P := P) W t e i z ht hi hz .i64 .i64 n n (by omega) (by omega) hb' (by omega)
  simp only [Int.toNat_natCast] at hr
  exact hr

/-! ### Cells that are stored one behind the other -/
def setMany (w : World) (g : Nat) : Nat → List Value → World
  | _, [] => w
  | o, e :: es => setMany (w.setCell ⟨g, o, none⟩ e) g (o + 1) es
theorem setMany_far {g : Nat} : ∀ (es : List Value) (o : Nat) (w : World) {b : Nat}, b ≠ g → (setMany w g o es).heap[b]? = w.heap[b]?
  | [], _, _, _, _ => rfl
  | e :: es, o, w, b, h => (setMany_far es (o + 1) _ h).trans (blk_far (p := ⟨g, o, none⟩) h e)
theorem setMany_size {g : Nat} : ∀ (es : List Value) (o : Nat) (w : World), (setMany w g o es).heap.size = w.heap.size
  | [], _, _ => rfl
  | e :: es, o, w => (setMany_size es (o + 1) _).trans (by simp [World.setCell])
theorem setMany_below {g B : Nat} {w0 : World} : ∀ (es : List Value) (o : Nat) (w : World), B ≤ g → Below B w0 w → Below B w0 (setMany w g o es)
  | [], _, _, _, h => h
  | e :: es, o, w, hg, h => setMany_below es (o + 1) _ hg (h.setCell (p := ⟨g, o, none⟩) hg e)
theorem setMany_at {g : Nat} {t : TypeId} : ∀ (es : List Value) (o : Nat) (w : World) (cs : Array Value), w.heap[g]? = some (.cells cs t (0, 0)) → o + es.length ≤ cs.size →
    ∃ cs', (setMany w g o es).heap[g]? = some (.cells cs' t (0, 0)) ∧ cs'.size = cs.size ∧ (∀ j u, es[j]? = some u → cs'[o + j]? = some u) ∧ ∀ i, i < o ∨ o + es.length ≤ i → cs'[i]? = cs[i]?
  | [], o, w, cs, h, _ => ⟨cs, h, rfl, (fun j u hu => by cases hu), fun _ _ => rfl⟩
  | e :: es, o, w, cs, h, hl => by
    simp only [List.length_cons] at hl
    obtain ⟨cs', h1, h2, h3, h4⟩ := setMany_at es (o + 1) (w.setCell ⟨g, o, none⟩ e) (cs.setIfInBounds o e) (blk_set h o e) (by simp; omega)
    refine ⟨cs', h1, by simpa using h2, fun j u hu => ?_, fun i hi => ?_⟩
    · match j, hu with
      | 0, hu =>
        simp only [List.getElem?_cons_zero, Option.some.injEq] at hu
        subst hu
        rw [Nat.add_zero, h4 o (by omega), Array.getElem?_setIfInBounds_self_of_lt (by omega)]
      | j + 1, hu =>
        have := h3 j u (by simpa using hu)
        rw [show o + (j + 1) = o + 1 + j by omega]
        exact this
    · rw [h4 i (by simp only [List.length_cons] at hi; omega), Array.getElem?_setIfInBounds_ne (by simp only [List.length_cons] at hi; omega)]

theorem setMany_1 (w : World) (g o : Nat) (a : Value) : setMany w g o [a] = (w.setCell ⟨g, o, none⟩ a) := rfl
theorem setMany_2 (w : World) (g o : Nat) (a b : Value) : setMany w g o [a, b] = ((w.setCell ⟨g, o, none⟩ a).setCell ⟨g, o + 1, none⟩ b) := rfl
theorem setMany_3 (w : World) (g o : Nat) (a b c : Value) : setMany w g o [a, b, c] = (((w.setCell ⟨g, o, none⟩ a).setCell ⟨g, o + 1, none⟩ b).setCell ⟨g, o + 2, none⟩ c) := rfl
theorem setMany_4 (w : World) (g o : Nat) (a b c d : Value) : setMany w g o [a, b, c, d] = ((((w.setCell ⟨g, o, none⟩ a).setCell ⟨g, o + 1, none⟩ b).setCell ⟨g, o + 2, none⟩ c).setCell ⟨g, o + 3, none⟩ d) := rfl
theorem setMany_5 (w : World) (g o : Nat) (a b c d e : Value) : setMany w g o [a, b, c, d, e] = (((((w.setCell ⟨g, o, none⟩ a).setCell ⟨g, o + 1, none⟩ b).setCell ⟨g, o + 2, none⟩ c).setCell ⟨g, o + 3, none⟩ d).setCell ⟨g, o + 4, none⟩ e) := rfl
theorem setMany_8 (w : World) (g o : Nat) (a b c d e f h i : Value) : setMany w g o [a, b, c, d, e, f, h, i] = ((((((((w.setCell ⟨g, o, none⟩ a).setCell ⟨g, o + 1, none⟩ b).setCell ⟨g, o + 2, none⟩ c).setCell ⟨g, o + 3, none⟩ d).setCell ⟨g, o + 4, none⟩ e).setCell ⟨g, o + 5, none⟩ f).setCell ⟨g, o + 6, none⟩ h).setCell ⟨g, o + 7, none⟩ i) := rfl

/-! ### A row that a call makes and fills element by element -/
section
variable {α : Type}
def Bld (size : Nat) (R : Rd α) (e : TypeId) (w : World) (g : Nat) (xs : List α) (k : Nat) : Prop :=
  ∃ (cur : Array Value) (bss : List (List Nat)), w.heap[g]? = some (.cells cur e (0, 0)) ∧ cur.size = xs.length * size ∧ bss.length = k ∧ Fr (g + 1) w bss.flatten ∧
    ∀ j x bk, xs[j]? = some x → bss[j]? = some bk → ∃ es, es.length = size ∧ (∀ i u, es[i]? = some u → cur[j * size + i]? = some u) ∧ R w bk es x

theorem Bld.start {size : Nat} {R : Rd α} {e : TypeId} (w : World) {cur : Array Value} (xs : List α) (hc : cur.size = xs.length * size) : Bld size R e (w.alloc (.cells cur e)) w.heap.size xs 0 :=
  ⟨cur, [], blk_new w cur e, hc, rfl, Fr.nil _ _, (fun j x bk _ h => by cases h)⟩
theorem Bld.glt {size : Nat} {R : Rd α} {e : TypeId} {w : World} {g : Nat} {xs : List α} {k : Nat} (h : Bld size R e w g xs k) : g < w.heap.size := by
  obtain ⟨cur, bss, hg, _⟩ := h
  exact lt_of_cells hg
/-- The row's cells are there to be stored into, behind a call that made what element k is to hold. -/
theorem Bld.cells {size : Nat} {R : Rd α} {e : TypeId} {w w1 : World} {g : Nat} {xs : List α} {k : Nat} (h : Bld size R e w g xs k) (hb : Below w.heap.size w w1) (hk : k < xs.length) :
    (∀ j, j < size → ∃ u, w1.cell? ⟨g, k * size + j, none⟩ = some u) ∧ ∀ j, w1.frozen? ⟨g, j, none⟩ = false := by
  obtain ⟨cur, bss, hg, hc, _⟩ := h
  have hg1 := blk_on hg hb
  refine ⟨fun j hj => blk_cell hg1 ?_, blk_free hg1⟩
  rw [hc]
  have : (k + 1) * size ≤ xs.length * size := Nat.mul_le_mul_right _ hk
  rw [Nat.add_mul] at this
  omega
theorem Bld.step {size : Nat} {R : Rd α} {e : TypeId} {w w1 : World} {g : Nat} {xs : List α} {k : Nat} (gd : Good R) (h : Bld size R e w g xs k) (hb : Below w.heap.size w w1) (hk : k < xs.length)
    {bk : List Nat} {es : List Value} (hR : R w1 bk es xs[k]) (hl : es.length = size) (hf : Fr w.heap.size w1 bk) : Bld size R e (setMany w1 g (k * size) es) g xs (k + 1) := by
  obtain ⟨cur, bss, hg, hc, hbl, hfr, hel⟩ := h
  have hg1 := blk_on hg hb
  have hle : (k + 1) * size ≤ xs.length * size := Nat.mul_le_mul_right _ hk
  rw [Nat.add_mul] at hle
  obtain ⟨cur', h1, h2, h3, h4⟩ := setMany_at es (k * size) w1 cur hg1 (by rw [hl, hc]; omega)
  have hglt := lt_of_cells hg
  have hne : ∀ b ∈ bss.flatten, b ≠ g := fun b hm => by have := (hfr.2 b hm).1; omega
  have hnk : ∀ b ∈ bk, b ≠ g := fun b hm => by have := (hf.2 b hm).1; omega
  have hfl : (bss ++ [bk]).flatten = bss.flatten ++ bk := by simp
  refine ⟨cur', bss ++ [bk], h1, by omega, by simp [hbl], ?_, fun j x b' hx hb' => ?_⟩
  · rw [hfl]
    refine Fr.append (mid := w.heap.size) ?_ ?_ (by omega) (fun b hm => hfr.lt b hm)
    · exact (hfr.below hb).keep fun b hm => setMany_far es _ w1 (hne b hm)
    · exact hf.keep fun b hm => setMany_far es _ w1 (hnk b hm)
  · rcases Nat.lt_trichotomy j k with hjk | rfl | hjk
    · rw [List.getElem?_append_left (by omega)] at hb'
      obtain ⟨es', q1, q2, q3⟩ := hel j x b' hx hb'
      refine ⟨es', q1, fun i u hu => ?_, ?_⟩
      · rw [h4]
        · exact q2 i u hu
        · left
          have hi : i < size := by
            rcases Nat.lt_or_ge i size with h' | h'
            · exact h'
            · rw [List.getElem?_eq_none (by omega)] at hu; cases hu
          have : (j + 1) * size ≤ k * size := Nat.mul_le_mul_right _ hjk
          rw [Nat.add_mul] at this
          omega
      · refine gd.keep q3 fun b hm => ?_
        have hin : b ∈ bss.flatten := List.mem_flatten.2 ⟨b', List.mem_of_getElem? hb', hm⟩
        exact (setMany_far es _ w1 (hne b hin)).trans (hb.block b (hfr.lt b hin))
    · rw [List.getElem?_append_right (by omega), hbl, Nat.sub_self, List.getElem?_cons_zero] at hb'
      injection hb' with hb'
      subst hb'
      rw [List.getElem?_eq_getElem hk] at hx
      injection hx with hx
      subst hx
      exact ⟨es, hl, fun i u hu => h3 i u hu, gd.keep hR fun b hm => setMany_far es _ w1 (hnk b hm)⟩
    · rw [List.getElem?_eq_none (by simp; omega)] at hb'; cases hb'
theorem Bld.done {size : Nat} {R : Rd α} {e : TypeId} {w : World} {g : Nat} {xs : List α} (h : Bld size R e w g xs xs.length) (hm : xs.length ≤ 9223372036854775807) :
    ∃ bs, SlR size R w bs [.slice (some ⟨g, 0, none⟩) xs.length xs.length] xs ∧ Fr g w bs := by
  obtain ⟨cur, bss, hg, hc, hbl, hfr, hel⟩ := h
  by_cases hx : xs = []
  · exact ⟨[], ⟨_, _, rfl, Nat.le_refl _, by unfold maxLen; omega, .inl ⟨hx, rfl⟩⟩, Fr.nil _ _⟩
  · refine ⟨g :: bss.flatten, ⟨_, _, rfl, Nat.le_refl _, by unfold maxLen; omega, .inr ⟨g, 0, bss, rfl, lt_of_cells hg, hbl, rfl, fun k x bk h1 h2 => ?_⟩⟩, ?_⟩
    · obtain ⟨es, q1, q2, q3⟩ := hel k x bk h1 h2
      refine ⟨es, q1, fun j u hu => ?_, q3⟩
      rw [Nat.zero_add, blk_cells hg]
      exact q2 j u hu
    · refine ⟨List.nodup_cons.2 ⟨fun hm => ?_, hfr.1⟩, fun b hb => ?_⟩
      · have := (hfr.2 g hm).1; omega
      · rcases List.mem_cons.1 hb with rfl | hb
        · exact ⟨Nat.le_refl _, cur, e, hg⟩
        · exact ⟨by have := (hfr.2 b hb).1; omega, (hfr.2 b hb).2⟩
end
end Go.Proofs.YtdleccpjejdgiaaGreatDoor
