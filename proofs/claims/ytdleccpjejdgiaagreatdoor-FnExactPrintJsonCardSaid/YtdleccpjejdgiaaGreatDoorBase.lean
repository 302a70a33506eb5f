/- Plain words on memory that the proofs of this claim share: worlds, slices that read as lists. No statement is proved here; no conditions. -/
import Derived.Test.YtdleccpjejdgiaaGreatDoorRows
import Derived.WalkKit
import Derived.ProofKit
import Derived.OpenShut
import Derived.WalkLawsBesides
import Derived.BigQuiet
import Derived.Deep.QuietTactic
import Derived.Deep.LoopGhost
import Derived.Deep.Slices
import Derived.Deep.Fields
namespace Go.Proofs.YtdleccpjejdgiaaGreatDoor
open Go.ChangeShapes Go.WideShapes Go.ChangeAt Go.RowKit Go.Deep

theorem hide {p : Prop} (h : p) : Hid p := h

theorem ret_bool {a b : Bool} (h : a = b) : Ending.returned (.bool a) = .returned (.bool b) := by rw [h]
theorem ret_int {a b : Int} (h : a = b) : Ending.returned (.int .i64 a) = .returned (.int .i64 b) := by rw [h]

def clip (z : Int) : Int := if z < 0 then -1 else z
theorem clip_neg {z : Int} (h : z < 0) : clip z = -1 := by unfold clip; rw [if_pos h]
theorem clip_pos {z : Int} (h : 0 ≤ z) : clip z = z := by unfold clip; rw [if_neg (by omega)]

/-- How a value that lies in some cells reads: the world, the blocks that are met, the cells, the datum. -/
abbrev Rd (α : Type) : Type := World → List Nat → List Value → α → Prop

section
variable {α : Type}
/-- A slice whose elements lie in 'size' cells each, and read as 'R' says. -/
def SlR (size : Nat) (R : Rd α) : Rd (List α) := fun w bs cs xs =>
  ∃ A c, cs = [.slice A xs.length c] ∧ xs.length ≤ c ∧ c ≤ maxLen ∧
    ((xs = [] ∧ bs = []) ∨ ∃ (b o : Nat) (bss : List (List Nat)), A = some ⟨b, o, none⟩ ∧ b < w.heap.size ∧ bss.length = xs.length ∧ bs = b :: bss.flatten ∧
      ∀ k x bk, xs[k]? = some x → bss[k]? = some bk → ∃ es, es.length = size ∧ (∀ j u, es[j]? = some u → w.cell? ⟨b, o + k * size + j, none⟩ = some u) ∧ R w bk es x)

/-- The reading hangs on the blocks that it meets alone, and these are there. -/
structure Good (R : Rd α) : Prop where
  lt : ∀ {w bs cs x}, R w bs cs x → ∀ b ∈ bs, b < w.heap.size
  keep : ∀ {w w' : World} {bs cs x}, R w bs cs x → (∀ b ∈ bs, w'.heap[b]? = w.heap[b]?) → R w' bs cs x

theorem Good.below {R : Rd α} (g : Good R) {w w' : World} (hb : Below w.heap.size w w') {bs cs x} (h : R w bs cs x) : R w' bs cs x :=
  g.keep h fun b hm => hb.block b (g.lt h b hm)
theorem Good.below' {R : Rd α} (g : Good R) {B : Nat} {w w' : World} (hb : Below B w w') {bs cs x} (h : R w bs cs x) (hB : ∀ b ∈ bs, b < B) : R w' bs cs x :=
  g.keep h fun b hm => hb.block b (hB b hm)

theorem lt_of_block {w w' : World} {b : Nat} (h : w'.heap[b]? = w.heap[b]?) (hb : b < w.heap.size) : b < w'.heap.size := by
  rcases Nat.lt_or_ge b w'.heap.size with h' | h'
  · exact h'
  · rw [Array.getElem?_eq_none h', Array.getElem?_eq_getElem hb] at h; cases h

theorem SlR.good {size : Nat} {R : Rd α} (g : Good R) : Good (SlR size R) where
  lt := by
    rintro w bs cs xs ⟨A, c, rfl, h1, h2, ⟨rfl, rfl⟩ | ⟨b, o, bss, rfl, hb, hl, rfl, hk⟩⟩ x hx
    · cases hx
    · rcases List.mem_cons.1 hx with rfl | hx
      · exact hb
      · obtain ⟨bk, hbk, hxb⟩ := List.mem_flatten.1 hx
        obtain ⟨i, hi⟩ := List.getElem?_of_mem hbk
        have hlt : i < bss.length := by
          rcases Nat.lt_or_ge i bss.length with h | h
          · exact h
          · rw [List.getElem?_eq_none h] at hi; cases hi
        obtain ⟨es, _, _, hr⟩ := hk i xs[i] bk (List.getElem?_eq_getElem (by omega)) hi
        exact g.lt hr x hxb
  keep := by
    rintro w w' bs cs xs ⟨A, c, rfl, h1, h2, ⟨rfl, rfl⟩ | ⟨b, o, bss, rfl, hb, hl, rfl, hk⟩⟩ hh
    · exact ⟨A, c, rfl, h1, h2, .inl ⟨rfl, rfl⟩⟩
    · have hb0 := hh b (by simp)
      refine ⟨_, c, rfl, h1, h2, .inr ⟨b, o, bss, rfl, lt_of_block hb0 hb, hl, rfl, fun k x bk hx hbk => ?_⟩⟩
      obtain ⟨es, he, hc, hr⟩ := hk k x bk hx hbk
      refine ⟨es, he, fun j u hu => (World.cell?_of_block (w := w) hb0).trans (hc j u hu), g.keep hr fun y hy => hh y ?_⟩
      exact List.mem_cons_of_mem _ (List.mem_flatten.2 ⟨bk, List.mem_of_getElem? hbk, hy⟩)

/-- What a reader of a slice wants: the value's shape, and each element where it lies. -/
theorem SlR.use {size : Nat} {R : Rd α} {w : World} {bs : List Nat} {v : Value} {xs : List α} (h : SlR size R w bs [v] xs) :
    ∃ A c, v = .slice A xs.length c ∧ xs.length ≤ c ∧ c ≤ 9223372036854775807 ∧ ∀ k (hk : k < xs.length), ∃ b o bk es, A = some ⟨b, o, none⟩ ∧ b < w.heap.size ∧ es.length = size ∧
      (∀ j u, es[j]? = some u → w.cell? ⟨b, o + k * size + j, none⟩ = some u) ∧ R w bk es xs[k] ∧ ∀ x ∈ bk, x ∈ bs := by
  obtain ⟨A, c, hv, h1, h2, h3⟩ := h
  refine ⟨A, c, by simpa using hv, h1, by unfold maxLen at h2; omega, fun k hk => ?_⟩
  rcases h3 with ⟨rfl, _⟩ | ⟨b, o, bss, rfl, hb, hl, rfl, hel⟩
  · simp at hk
  · obtain ⟨es, he, hc, hr⟩ := hel k xs[k] bss[k] (List.getElem?_eq_getElem hk) (List.getElem?_eq_getElem (by omega))
    exact ⟨b, o, bss[k], es, rfl, hb, he, hc, hr, fun x hx => List.mem_cons_of_mem _ (List.mem_flatten.2 ⟨_, List.getElem_mem (by omega), hx⟩)⟩
end

/-- One call more, behind a base. -/
theorem nxt {w0 w w1 : World} (hb : Below w0.heap.size w0 w) (h1 : Below w.heap.size w w1) : Below w0.heap.size w0 w1 := hb.trans (h1.mono hb.size)
theorem nxt' {B : Nat} {w0 w w1 : World} (hb : Below B w0 w) (h1 : Below w.heap.size w w1) (hB : B ≤ w.heap.size := by first | omega | (simp; try omega)) : Below B w0 w1 := hb.trans (h1.mono hB)
theorem Good.nxt {α : Type} {R : Rd α} (g : Good R) {w0 w : World} (hb : Below w0.heap.size w0 w) {bs cs x} (h : R w0 bs cs x) : R w bs cs x := g.below hb h
/-- A block of the call's own, behind a call. -/
theorem box_at {w w1 : World} {cs : Array Value} {t : TypeId} (hb1 : Below (w.alloc (.cells cs t)).heap.size (w.alloc (.cells cs t)) w1) (j : Nat) : w1.cell? ⟨w.heap.size, j, none⟩ = cs[j]? := by
  rw [hb1.cell (p := ⟨w.heap.size, j, none⟩) (by simp), cell_of_row _ _ _ _ _ _ (heap_alloc_new w _)]

theorem two_at {w w1 : World} {cs ds : Array Value} {t u : TypeId} (hb1 : Below ((w.alloc (.cells cs t)).alloc (.cells ds u)).heap.size ((w.alloc (.cells cs t)).alloc (.cells ds u)) w1) :
    (∀ j, w1.cell? ⟨w.heap.size, j, none⟩ = cs[j]?) ∧ ∀ j, w1.cell? ⟨w.heap.size + 1, j, none⟩ = ds[j]? := by
  have h1 : ((w.alloc (.cells cs t)).alloc (.cells ds u)).heap[w.heap.size]? = some (.cells cs t (0, 0)) := (Below.heap_alloc _ _ _ (by simp)).trans (heap_alloc_new w _)
  have h2 : ((w.alloc (.cells cs t)).alloc (.cells ds u)).heap[w.heap.size + 1]? = some (.cells ds u (0, 0)) := by simpa using heap_alloc_new (w.alloc (.cells cs t)) (.cells ds u)
  exact ⟨fun j => by rw [cell_of_row _ _ _ _ _ _ ((hb1.block _ (by simp; omega)).trans h1)], fun j => by rw [cell_of_row _ _ _ _ _ _ ((hb1.block _ (by simp)).trans h2)]⟩
theorem box_on {w1 w2 : World} {b : Nat} {cs : Array Value} {v : Value} (q : ∀ j, w1.cell? ⟨b, j, none⟩ = cs[j]?) (h0 : cs[0]? = some v) (hb2 : Below w1.heap.size w1 w2) (j : Nat) : w2.cell? ⟨b, j, none⟩ = cs[j]? := by
  rw [← q j]
  exact hb2.cell (p := ⟨b, j, none⟩) (World.block_lt_of_cell? w1 ⟨b, 0, none⟩ ((q 0).trans h0))

/-- A world that has grown out of 'w': what 'w' had is as it was. -/
structure Fw (w : World) where
  W : World
  h : Below w.heap.size w W
instance (w : World) : Nonempty (Fw w) := ⟨⟨w, Below.refl _ _⟩⟩
theorem Fw.cell {w : World} {a : Addr} {v : Value} (hc : w.cell? a = some v) (i : Fw w) : i.W.cell? a = some v := (i.h.cell (World.block_lt_of_cell? w a hc)).trans hc
theorem Fw.box {w : World} {b : Nat} {cs : Array Value} {v : Value} (q : ∀ j, w.cell? ⟨b, j, none⟩ = cs[j]?) (h0 : cs[0]? = some v) (i : Fw w) (j : Nat) : i.W.cell? ⟨b, j, none⟩ = cs[j]? := box_on q h0 i.h j
/-- A region that draws its order, whose callees may make memory: one walk, in the order of the text, in every world that has grown out of this one. -/
theorem region_quiet {P : Program} {id : Nat} {Q : Exit → Act → World → Prop} {a : Act} {w : World} {l : List Oper} (hm : P.follows .mixedOrders = true) (hB : Region.lexB .any l.toArray = true)
    (h : wpQuiet P l.toArray (fun w' => ∃ i : Fw w, w' = i.W) (fun a' => ∀ w', Below w.heap.size w w' → Q .normal a' w') l a) : (Code.region id l.toArray true).wp P Q a w := by
  refine wp_region_quiet (C := fun w' => ∃ i : Fw w, w' = i.W) hm hB ⟨⟨{ w with drawn := w.drawn + 1 }, (Below.refl _ w).drew⟩, rfl⟩ ?_
  simp only
  have he : (fun a' => ∀ w', (∃ i : Fw w, w' = i.W) → Q .normal a' w') = fun a' => ∀ w', Below w.heap.size w w' → Q .normal a' w' := by
    funext a'
    exact propext ⟨fun h w' hb => h w' ⟨⟨w', hb⟩, rfl⟩, fun h w' ⟨i, hi⟩ => hi ▸ h i.W i.h⟩
  rw [he]
  exact h
theorem quiet_of {P : Program} {f : FuncId} {args : Array Value} {w : World} {i : Fw w} {v : Value} (h : Calls P f args i.W fun e w' => e = .returned v ∧ Below i.W.heap.size i.W w') :
    Calls P f args i.W fun e w'' => e = .returned v ∧ ∃ j : Fw w, w'' = j.W := h.mono fun _ w' ⟨he, hb⟩ => ⟨he, ⟨w', i.h.trans (hb.mono i.h.size)⟩, rfl⟩
theorem quiet_of_eq {P : Program} {f : FuncId} {args : Array Value} {w : World} {i : Fw w} {v : Value} (h : Calls P f args i.W fun e w' => e = .returned v ∧ i.W = w') :
    Calls P f args i.W fun e w'' => e = .returned v ∧ ∃ j : Fw w, w'' = j.W := h.mono fun _ _ ⟨he, hb⟩ => ⟨he, i, hb.symm⟩

/-! ### Cells that hold one plain value -/
def IntR : Rd Int := fun _ bs cs n => bs = [] ∧ cs = [.int .i64 n] ∧ (Lit.int .i64 n).wf = true
def StrR : Rd ByteArray := fun _ bs cs s => bs = [] ∧ cs = [.string s] ∧ s.size ≤ 9223372036854775807
theorem IntR.good : Good IntR := ⟨(by rintro w bs cs x ⟨rfl, _⟩ b hb; cases hb), fun h _ => h⟩
theorem StrR.good : Good StrR := ⟨(by rintro w bs cs x ⟨rfl, _⟩ b hb; cases hb), fun h _ => h⟩
theorem wf_bounds {n : Int} (h : (Lit.int .i64 n).wf = true) : -9223372036854775808 ≤ n ∧ n ≤ 9223372036854775807 := by
  simpa [Lit.wf, IntKind.min, IntKind.max, IntKind.signed, IntKind.bits] using h

/-! ### Sums over lists -/
def bulkL {α : Type} (f : α → Nat) (xs : List α) : Nat := xs.length + (xs.map f).sum
def psum {α : Type} (f : α → Nat) (xs : List α) (k : Nat) : Nat := ((xs.take k).map f).sum
theorem psum_zero {α : Type} (f : α → Nat) (xs : List α) : psum f xs 0 = 0 := by simp [psum]
theorem psum_succ {α : Type} (f : α → Nat) (xs : List α) (k : Nat) (h : k < xs.length) : psum f xs (k + 1) = psum f xs k + f xs[k] := by
  unfold psum; rw [List.take_add_one, List.getElem?_eq_getElem h, List.map_append, List.sum_append]; simp
theorem psum_le {α : Type} (f : α → Nat) (xs : List α) (k : Nat) : psum f xs k ≤ (xs.map f).sum := by
  unfold psum
  conv => rhs; rw [← List.take_append_drop k xs, List.map_append, List.sum_append]
  omega
theorem psum_all {α : Type} (f : α → Nat) (xs : List α) : psum f xs xs.length = (xs.map f).sum := by simp [psum]
end Go.Proofs.YtdleccpjejdgiaaGreatDoor
