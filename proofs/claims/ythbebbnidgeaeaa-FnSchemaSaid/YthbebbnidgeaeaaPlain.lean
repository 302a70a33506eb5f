/- PlainSchema, in the program and in the reference. No statement is proved here; no conditions. Written by a program (gen27.py). -/
import Derived.Test.YthbebbnidgeaeaaNew
import Derived.Test.YthbebbnidgeaeaaMarkT
namespace Go.Proofs.Ythbebbnidgeaeaa
open Go.ChangeShapes Go.WideShapes Go.ChangeAt Go.RowKit Go.Deep
set_option maxRecDepth 100000
set_option linter.unusedVariables false
set_option linter.unusedSimpArgs false

theorem allocs_at : ∀ (os : List Obj) (w : World) (k : Nat) (o : Obj), os[k]? = some o → (os.foldl World.alloc w).heap[w.heap.size + k]? = some o
  | [], _, _, _, h => by simp at h
  | p :: os, w, 0, o, h => by
    simp only [List.getElem?_cons_zero, Option.some.injEq] at h; subst h
    have : ∀ (os : List Obj) (w1 : World) (g : Nat) (o : Obj), w1.heap[g]? = some o → (os.foldl World.alloc w1).heap[g]? = some o := by
      intro os
      induction os with
      | nil => intro w1 g o h; exact h
      | cons q os ih => intro w1 g o h; exact ih _ g o (blk_old h q)
    exact this os (w.alloc p) w.heap.size p (heap_alloc_new w p)
  | p :: os, w, k + 1, o, h => by
    have := allocs_at os (w.alloc p) k o (by simpa using h)
    rw [show (w.alloc p).heap.size + k = w.heap.size + (k + 1) by simp; omega] at this
    exact this
theorem allocs_below : ∀ (os : List Obj) (w0 w : World) (B : Nat), Below B w0 w → B ≤ w.heap.size → Below B w0 (os.foldl World.alloc w)
  | [], _, _, _, h, _ => h
  | o :: os, w0, w, B, h, hB => allocs_below os w0 (w.alloc o) B (h.alloc hB o) (by simp; omega)
section
variable {α : Type} {R : Rd α} {size : Nat}
/-- A row that lies whole in a block, from its beginning on. -/
theorem row_of_block {w : World} {g : Nat} {t : TypeId} {css : List (List Value)} {bss : List (List Nat)} {xs : List α} (h : w.heap[g]? = some (.cells css.flatten.toArray t (0, 0))) (hc : css.length = xs.length) (hb : bss.length = xs.length) (hx : xs.length ≤ 1048576)
    (hs : ∀ c ∈ css, c.length = size) (hR : ∀ (k : Nat) (x : α) (cs : List Value) (bk : List Nat), xs[k]? = some x → css[k]? = some cs → bss[k]? = some bk → R w bk cs x) :
    SlR size R w (g :: bss.flatten) [.slice (some ⟨g, 0, none⟩) xs.length xs.length] xs ∨ xs = [] := by
  by_cases h0 : xs = []
  · exact .inr h0
  refine .inl ⟨_, xs.length, rfl, Nat.le_refl _, by unfold maxLen; omega, .inr ⟨g, 0, bss, rfl, lt_of_cells h, hb, rfl, fun k x bk hxk hbk => ?_⟩⟩
  have hk := idx_lt hxk
  obtain ⟨cs, hcs⟩ := idx_some (l := css) (k := k) (by omega)
  refine ⟨cs, hs cs (List.mem_of_getElem? hcs), fun j u hu => ?_, hR k x cs bk hxk hcs hbk⟩
  rw [Nat.zero_add, blk_cells h]
  have : ∀ (cl : List (List Value)), (∀ c ∈ cl, c.length = size) → ∀ (k : Nat) (cs : List Value), cl[k]? = some cs → ∀ j u, cs[j]? = some u → cl.flatten[k * size + j]? = some u := by
    intro cl
    induction cl with
    | nil => intro _ k cs hk; simp at hk
    | cons c cl ih =>
      intro hu k cs hk j u hju
      have hcl := hu c (by simp)
      match k, hk with
      | 0, hk =>
        simp only [List.getElem?_cons_zero, Option.some.injEq] at hk
        subst hk
        rw [List.flatten_cons, Nat.zero_mul, Nat.zero_add, List.getElem?_append_left (idx_lt hju)]; exact hju
      | k + 1, hk =>
        rw [List.getElem?_cons_succ] at hk
        rw [List.flatten_cons, List.getElem?_append_right (by rw [hcl, Nat.succ_mul]; omega), hcl]
        rw [show (k + 1) * size + j - size = k * size + j by rw [Nat.succ_mul]; omega]
        exact ih (fun c' hc' => hu c' (List.mem_cons_of_mem _ hc')) k cs hk j u hju
  simpa using this css hs k cs hcs j u hu
end
section
variable {α : Type}
def Lay (size : Nat) (R : Rd α) (w : World) : List (List Value) → List (List Nat) → List α → Prop
  | [], [], [] => True
  | c :: cs, b :: bs, x :: xs => c.length = size ∧ R w b c x ∧ Lay size R w cs bs xs
  | _, _, _ => False
theorem Lay.all {size : Nat} {R : Rd α} {w : World} : ∀ {css : List (List Value)} {bss : List (List Nat)} {xs : List α}, Lay size R w css bss xs → css.length = xs.length ∧ bss.length = xs.length ∧ (∀ c ∈ css, c.length = size) ∧ ∀ (k : Nat) (x : α) (cs : List Value) (bk : List Nat), xs[k]? = some x → css[k]? = some cs → bss[k]? = some bk → R w bk cs x
  | [], [], [], _ => ⟨rfl, rfl, (fun c h => by cases h), (fun k x cs bk h => by simp at h)⟩
  | c :: cs, b :: bs, x :: xs, h => by
    obtain ⟨h1, h2, h3⟩ := h
    obtain ⟨a1, a2, a3, a4⟩ := Lay.all h3
    refine ⟨by simp [a1], by simp [a2], fun d hd => ?_, fun k y ds bk hy hd hb => ?_⟩
    · rcases List.mem_cons.1 hd with rfl | hd
      · exact h1
      · exact a3 d hd
    · match k with
      | 0 =>
        simp only [List.getElem?_cons_zero, Option.some.injEq] at hy hd hb
        subst hy; subst hd; subst hb; exact h2
      | k + 1 => exact a4 k y ds bk (by simpa using hy) (by simpa using hd) (by simpa using hb)
theorem lay_row {size : Nat} {R : Rd α} {w : World} {g n : Nat} {t : TypeId} {css : List (List Value)} {bss : List (List Nat)} {xs : List α} (h : w.heap[g]? = some (.cells css.flatten.toArray t (0, 0))) (hl : Lay size R w css bss xs) (hn : xs.length = n) (h0 : 0 < n) (h1 : n ≤ 1048576) : SlR size R w (g :: bss.flatten) [.slice (some ⟨g, 0, none⟩) n n] xs := by
  obtain ⟨a1, a2, a3, a4⟩ := hl.all
  subst hn
  rcases row_of_block h a1 a2 h1 a3 a4 with h | h
  · exact h
  · subst h; simp at h0
end
def nameC : Column := ⟨⟨#[110, 97, 109, 101]⟩, 2, 1, 1, 0, 0, ⟨#[]⟩, false⟩
def plainS : Schema := ⟨[⟨⟨#[110, 111, 116, 101]⟩, [⟨⟨#[110, 97, 109, 101]⟩, 2, 1, 1, 0, 0, ⟨#[]⟩, false⟩, ⟨⟨#[97, 98, 111, 117, 116]⟩, 4, 0, 4, 0, 0, ⟨#[112, 111, 114, 116]⟩, false⟩], [], true⟩, ⟨⟨#[112, 111, 114, 116]⟩, [⟨⟨#[110, 97, 109, 101]⟩, 2, 1, 1, 0, 0, ⟨#[]⟩, false⟩, ⟨⟨#[116, 97, 103]⟩, 1, 0, 1, 0, 99, ⟨#[]⟩, false⟩, ⟨⟨#[117, 112]⟩, 3, 1, 1, 0, 0, ⟨#[]⟩, false⟩], [0], false⟩, ⟨⟨#[115, 119, 105, 116, 99, 104]⟩, [⟨⟨#[110, 97, 109, 101]⟩, 2, 1, 1, 0, 0, ⟨#[]⟩, false⟩, ⟨⟨#[99, 111, 117, 110, 116]⟩, 1, 1, 1, (-1000), 1000, ⟨#[]⟩, false⟩, ⟨⟨#[112, 111, 114, 116, 115]⟩, 4, 0, 8, 0, 0, ⟨#[112, 111, 114, 116]⟩, true⟩], [0], true⟩]⟩
theorem plain_wt : Schema.wtV plainS ≤ 100 := by decide
set_option maxHeartbeats 8000000 in
theorem impl_PlainSchema {w : World} : Calls Try.prog 11 #[] w (ToP SchemaR w plainS) := by
  go_enter Try.func11, Try.ntmps11
  go_wp2
  have HB := allocs_at [.cells #[.slice (some ⟨w.heap.size + 1 + 1 + 1 + 1 + 1 + 1 + 1 + 1 + 1 + 1, 0, none⟩) 3 3] 25, .cells #[.string ⟨#[110, 97, 109, 101]⟩, .int .i64 2, .int .i64 1, .int .i64 1, .int .i64 0, .int .i64 0, .string ⟨#[]⟩, .bool false] 38, .cells #[.string ⟨#[110, 97, 109, 101]⟩, .int .i64 2, .int .i64 1, .int .i64 1, .int .i64 0, .int .i64 0, .string ⟨#[]⟩, .bool false, .string ⟨#[97, 98, 111, 117, 116]⟩, .int .i64 4, .int .i64 0, .int .i64 4, .int .i64 0, .int .i64 0, .string ⟨#[112, 111, 114, 116]⟩, .bool false] 38, .cells #[.string ⟨#[110, 111, 116, 101]⟩, .slice (some ⟨w.heap.size + 1 + 1, 0, none⟩) 2 2, .slice none 0 0, .bool true] 34, .cells #[.string ⟨#[110, 97, 109, 101]⟩, .int .i64 2, .int .i64 1, .int .i64 1, .int .i64 0, .int .i64 0, .string ⟨#[]⟩, .bool false, .string ⟨#[116, 97, 103]⟩, .int .i64 1, .int .i64 0, .int .i64 1, .int .i64 0, .int .i64 99, .string ⟨#[]⟩, .bool false, .string ⟨#[117, 112]⟩, .int .i64 3, .int .i64 1, .int .i64 1, .int .i64 0, .int .i64 0, .string ⟨#[]⟩, .bool false] 38, .cells #[.int .i64 0] 3, .cells #[.string ⟨#[112, 111, 114, 116]⟩, .slice (some ⟨w.heap.size + 1 + 1 + 1 + 1, 0, none⟩) 3 3, .slice (some ⟨w.heap.size + 1 + 1 + 1 + 1 + 1, 0, none⟩) 1 1, .bool false] 34, .cells #[.string ⟨#[110, 97, 109, 101]⟩, .int .i64 2, .int .i64 1, .int .i64 1, .int .i64 0, .int .i64 0, .string ⟨#[]⟩, .bool false, .string ⟨#[99, 111, 117, 110, 116]⟩, .int .i64 1, .int .i64 1, .int .i64 1, .int .i64 (-1000), .int .i64 1000, .string ⟨#[]⟩, .bool false, .string ⟨#[112, 111, 114, 116, 115]⟩, .int .i64 4, .int .i64 0, .int .i64 8, .int .i64 0, .int .i64 0, .string ⟨#[112, 111, 114, 116]⟩, .bool true] 38, .cells #[.int .i64 0] 3, .cells #[.string ⟨#[115, 119, 105, 116, 99, 104]⟩, .slice (some ⟨w.heap.size + 1 + 1 + 1 + 1 + 1 + 1 + 1, 0, none⟩) 3 3, .slice (some ⟨w.heap.size + 1 + 1 + 1 + 1 + 1 + 1 + 1 + 1, 0, none⟩) 1 1, .bool true] 34, .cells #[.string ⟨#[110, 111, 116, 101]⟩, .slice (some ⟨w.heap.size + 1 + 1, 0, none⟩) 2 2, .slice none 0 0, .bool true, .string ⟨#[112, 111, 114, 116]⟩, .slice (some ⟨w.heap.size + 1 + 1 + 1 + 1, 0, none⟩) 3 3, .slice (some ⟨w.heap.size + 1 + 1 + 1 + 1 + 1, 0, none⟩) 1 1, .bool false, .string ⟨#[115, 119, 105, 116, 99, 104]⟩, .slice (some ⟨w.heap.size + 1 + 1 + 1 + 1 + 1 + 1 + 1, 0, none⟩) 3 3, .slice (some ⟨w.heap.size + 1 + 1 + 1 + 1 + 1 + 1 + 1 + 1, 0, none⟩) 1 1, .bool true] 34] w
  have h_c0 := HB 2 _ rfl
  have h_c1 := HB 4 _ rfl
  have h_u1 := HB 5 _ rfl
  have h_c2 := HB 7 _ rfl
  have h_u2 := HB 8 _ rfl
  have h_t := HB 10 _ rfl
  have hR0 := (allocs_below [.cells #[.slice (some ⟨w.heap.size + 1 + 1 + 1 + 1 + 1 + 1 + 1 + 1 + 1 + 1, 0, none⟩) 3 3] 25, .cells #[.string ⟨#[110, 97, 109, 101]⟩, .int .i64 2, .int .i64 1, .int .i64 1, .int .i64 0, .int .i64 0, .string ⟨#[]⟩, .bool false] 38, .cells #[.string ⟨#[110, 97, 109, 101]⟩, .int .i64 2, .int .i64 1, .int .i64 1, .int .i64 0, .int .i64 0, .string ⟨#[]⟩, .bool false, .string ⟨#[97, 98, 111, 117, 116]⟩, .int .i64 4, .int .i64 0, .int .i64 4, .int .i64 0, .int .i64 0, .string ⟨#[112, 111, 114, 116]⟩, .bool false] 38, .cells #[.string ⟨#[110, 111, 116, 101]⟩, .slice (some ⟨w.heap.size + 1 + 1, 0, none⟩) 2 2, .slice none 0 0, .bool true] 34, .cells #[.string ⟨#[110, 97, 109, 101]⟩, .int .i64 2, .int .i64 1, .int .i64 1, .int .i64 0, .int .i64 0, .string ⟨#[]⟩, .bool false, .string ⟨#[116, 97, 103]⟩, .int .i64 1, .int .i64 0, .int .i64 1, .int .i64 0, .int .i64 99, .string ⟨#[]⟩, .bool false, .string ⟨#[117, 112]⟩, .int .i64 3, .int .i64 1, .int .i64 1, .int .i64 0, .int .i64 0, .string ⟨#[]⟩, .bool false] 38, .cells #[.int .i64 0] 3, .cells #[.string ⟨#[112, 111, 114, 116]⟩, .slice (some ⟨w.heap.size + 1 + 1 + 1 + 1, 0, none⟩) 3 3, .slice (some ⟨w.heap.size + 1 + 1 + 1 + 1 + 1, 0, none⟩) 1 1, .bool false] 34, .cells #[.string ⟨#[110, 97, 109, 101]⟩, .int .i64 2, .int .i64 1, .int .i64 1, .int .i64 0, .int .i64 0, .string ⟨#[]⟩, .bool false, .string ⟨#[99, 111, 117, 110, 116]⟩, .int .i64 1, .int .i64 1, .int .i64 1, .int .i64 (-1000), .int .i64 1000, .string ⟨#[]⟩, .bool false, .string ⟨#[112, 111, 114, 116, 115]⟩, .int .i64 4, .int .i64 0, .int .i64 8, .int .i64 0, .int .i64 0, .string ⟨#[112, 111, 114, 116]⟩, .bool true] 38, .cells #[.int .i64 0] 3, .cells #[.string ⟨#[115, 119, 105, 116, 99, 104]⟩, .slice (some ⟨w.heap.size + 1 + 1 + 1 + 1 + 1 + 1 + 1, 0, none⟩) 3 3, .slice (some ⟨w.heap.size + 1 + 1 + 1 + 1 + 1 + 1 + 1 + 1, 0, none⟩) 1 1, .bool true] 34, .cells #[.string ⟨#[110, 111, 116, 101]⟩, .slice (some ⟨w.heap.size + 1 + 1, 0, none⟩) 2 2, .slice none 0 0, .bool true, .string ⟨#[112, 111, 114, 116]⟩, .slice (some ⟨w.heap.size + 1 + 1 + 1 + 1, 0, none⟩) 3 3, .slice (some ⟨w.heap.size + 1 + 1 + 1 + 1 + 1, 0, none⟩) 1 1, .bool false, .string ⟨#[115, 119, 105, 116, 99, 104]⟩, .slice (some ⟨w.heap.size + 1 + 1 + 1 + 1 + 1 + 1 + 1, 0, none⟩) 3 3, .slice (some ⟨w.heap.size + 1 + 1 + 1 + 1 + 1 + 1 + 1 + 1, 0, none⟩) 1 1, .bool true] 34] w w w.heap.size (Below.refl _ _) (Nat.le_refl _))
  refine bodyPost_ret (v := .agg #[.slice (some ⟨w.heap.size + 1 + 1 + 1 + 1 + 1 + 1 + 1 + 1 + 1 + 1, 0, none⟩) 3 3]) (by simp [results, Try.results11, go_sem]) rfl ?_
  have r_c0 := lay_row (size := 8) (R := ColumnR) (xs := [⟨⟨#[110, 97, 109, 101]⟩, 2, 1, 1, 0, 0, ⟨#[]⟩, false⟩, ⟨⟨#[97, 98, 111, 117, 116]⟩, 4, 0, 4, 0, 0, ⟨#[112, 111, 114, 116]⟩, false⟩]) (css := [[.string ⟨#[110, 97, 109, 101]⟩, .int .i64 2, .int .i64 1, .int .i64 1, .int .i64 0, .int .i64 0, .string ⟨#[]⟩, .bool false], [.string ⟨#[97, 98, 111, 117, 116]⟩, .int .i64 4, .int .i64 0, .int .i64 4, .int .i64 0, .int .i64 0, .string ⟨#[112, 111, 114, 116]⟩, .bool false]]) (bss := [[], []]) h_c0 ⟨rfl, ⟨rfl, rfl, (by unfold Column.fine; decide)⟩, rfl, ⟨rfl, rfl, (by unfold Column.fine; decide)⟩, trivial⟩ (n := 2) rfl (by decide) (by decide)
  have r_c1 := lay_row (size := 8) (R := ColumnR) (xs := [⟨⟨#[110, 97, 109, 101]⟩, 2, 1, 1, 0, 0, ⟨#[]⟩, false⟩, ⟨⟨#[116, 97, 103]⟩, 1, 0, 1, 0, 99, ⟨#[]⟩, false⟩, ⟨⟨#[117, 112]⟩, 3, 1, 1, 0, 0, ⟨#[]⟩, false⟩]) (css := [[.string ⟨#[110, 97, 109, 101]⟩, .int .i64 2, .int .i64 1, .int .i64 1, .int .i64 0, .int .i64 0, .string ⟨#[]⟩, .bool false], [.string ⟨#[116, 97, 103]⟩, .int .i64 1, .int .i64 0, .int .i64 1, .int .i64 0, .int .i64 99, .string ⟨#[]⟩, .bool false], [.string ⟨#[117, 112]⟩, .int .i64 3, .int .i64 1, .int .i64 1, .int .i64 0, .int .i64 0, .string ⟨#[]⟩, .bool false]]) (bss := [[], [], []]) h_c1 ⟨rfl, ⟨rfl, rfl, (by unfold Column.fine; decide)⟩, rfl, ⟨rfl, rfl, (by unfold Column.fine; decide)⟩, rfl, ⟨rfl, rfl, (by unfold Column.fine; decide)⟩, trivial⟩ (n := 3) rfl (by decide) (by decide)
  have r_u1 := lay_row (size := 1) (R := IntR) (xs := [0]) (css := [[.int .i64 0]]) (bss := [[]]) h_u1 ⟨rfl, ⟨rfl, rfl, rfl⟩, trivial⟩ (n := 1) rfl (by decide) (by decide)
  have r_c2 := lay_row (size := 8) (R := ColumnR) (xs := [⟨⟨#[110, 97, 109, 101]⟩, 2, 1, 1, 0, 0, ⟨#[]⟩, false⟩, ⟨⟨#[99, 111, 117, 110, 116]⟩, 1, 1, 1, (-1000), 1000, ⟨#[]⟩, false⟩, ⟨⟨#[112, 111, 114, 116, 115]⟩, 4, 0, 8, 0, 0, ⟨#[112, 111, 114, 116]⟩, true⟩]) (css := [[.string ⟨#[110, 97, 109, 101]⟩, .int .i64 2, .int .i64 1, .int .i64 1, .int .i64 0, .int .i64 0, .string ⟨#[]⟩, .bool false], [.string ⟨#[99, 111, 117, 110, 116]⟩, .int .i64 1, .int .i64 1, .int .i64 1, .int .i64 (-1000), .int .i64 1000, .string ⟨#[]⟩, .bool false], [.string ⟨#[112, 111, 114, 116, 115]⟩, .int .i64 4, .int .i64 0, .int .i64 8, .int .i64 0, .int .i64 0, .string ⟨#[112, 111, 114, 116]⟩, .bool true]]) (bss := [[], [], []]) h_c2 ⟨rfl, ⟨rfl, rfl, (by unfold Column.fine; decide)⟩, rfl, ⟨rfl, rfl, (by unfold Column.fine; decide)⟩, rfl, ⟨rfl, rfl, (by unfold Column.fine; decide)⟩, trivial⟩ (n := 3) rfl (by decide) (by decide)
  have r_u2 := lay_row (size := 1) (R := IntR) (xs := [0]) (css := [[.int .i64 0]]) (bss := [[]]) h_u2 ⟨rfl, ⟨rfl, rfl, rfl⟩, trivial⟩ (n := 1) rfl (by decide) (by decide)
  have r_t := lay_row (size := 4) (R := TableR) (xs := plainS.tables) (css := [[.string ⟨#[110, 111, 116, 101]⟩, .slice (some ⟨w.heap.size + 1 + 1, 0, none⟩) 2 2, .slice none 0 0, .bool true], [.string ⟨#[112, 111, 114, 116]⟩, .slice (some ⟨w.heap.size + 1 + 1 + 1 + 1, 0, none⟩) 3 3, .slice (some ⟨w.heap.size + 1 + 1 + 1 + 1 + 1, 0, none⟩) 1 1, .bool false], [.string ⟨#[115, 119, 105, 116, 99, 104]⟩, .slice (some ⟨w.heap.size + 1 + 1 + 1 + 1 + 1 + 1 + 1, 0, none⟩) 3 3, .slice (some ⟨w.heap.size + 1 + 1 + 1 + 1 + 1 + 1 + 1 + 1, 0, none⟩) 1 1, .bool true]]) (bss := [([w.heap.size + 2] ++ []), ([w.heap.size + 4] ++ [w.heap.size + 5]), ([w.heap.size + 7] ++ [w.heap.size + 8])]) h_t ⟨rfl, ⟨_, [w.heap.size + 2], _, [], rfl, rfl, (by unfold Table.fine; decide), r_c0, nil_row (by omega)⟩, rfl, ⟨_, [w.heap.size + 4], _, [w.heap.size + 5], rfl, rfl, (by unfold Table.fine; decide), r_c1, r_u1⟩, rfl, ⟨_, [w.heap.size + 7], _, [w.heap.size + 8], rfl, rfl, (by unfold Table.fine; decide), r_c2, r_u2⟩, trivial⟩ (n := 3) rfl (by decide) (by decide)
  refine ⟨[.slice (some ⟨w.heap.size + 1 + 1 + 1 + 1 + 1 + 1 + 1 + 1 + 1 + 1, 0, none⟩) 3 3], _, rfl, ⟨_, _, rfl, rfl, trivial, r_t⟩, ?_, hR0⟩
  refine ⟨by simp, fun b hb => ?_⟩
  simp at hb
  rcases hb with rfl | rfl | rfl | rfl | rfl | rfl
  · exact ⟨by omega, _, _, h_t⟩
  · exact ⟨by omega, _, _, h_c0⟩
  · exact ⟨by omega, _, _, h_c1⟩
  · exact ⟨by omega, _, _, h_u1⟩
  · exact ⟨by omega, _, _, h_c2⟩
  · exact ⟨by omega, _, _, h_u2⟩
set_option maxHeartbeats 8000000 in
theorem spec_PlainSchema {w : World} : Calls Try.prog 12 #[] w (ToP SchemaR w plainS) := by
  go_enter Try.func12, Try.ntmps12
  go_wp2
  have HB := allocs_at [.cells #[.slice (some ⟨w.heap.size + 1 + 1 + 1 + 1 + 1 + 1 + 1, 0, none⟩) 3 3] 25, .cells #[.string ⟨#[110, 97, 109, 101]⟩, .int .i64 2, .int .i64 1, .int .i64 1, .int .i64 0, .int .i64 0, .string ⟨#[]⟩, .bool false] 38, .cells #[.string ⟨#[110, 97, 109, 101]⟩, .int .i64 2, .int .i64 1, .int .i64 1, .int .i64 0, .int .i64 0, .string ⟨#[]⟩, .bool false, .string ⟨#[97, 98, 111, 117, 116]⟩, .int .i64 4, .int .i64 0, .int .i64 4, .int .i64 0, .int .i64 0, .string ⟨#[112, 111, 114, 116]⟩, .bool false] 38, .cells #[.string ⟨#[110, 97, 109, 101]⟩, .int .i64 2, .int .i64 1, .int .i64 1, .int .i64 0, .int .i64 0, .string ⟨#[]⟩, .bool false, .string ⟨#[116, 97, 103]⟩, .int .i64 1, .int .i64 0, .int .i64 1, .int .i64 0, .int .i64 99, .string ⟨#[]⟩, .bool false, .string ⟨#[117, 112]⟩, .int .i64 3, .int .i64 1, .int .i64 1, .int .i64 0, .int .i64 0, .string ⟨#[]⟩, .bool false] 38, .cells #[.int .i64 0] 3, .cells #[.string ⟨#[110, 97, 109, 101]⟩, .int .i64 2, .int .i64 1, .int .i64 1, .int .i64 0, .int .i64 0, .string ⟨#[]⟩, .bool false, .string ⟨#[99, 111, 117, 110, 116]⟩, .int .i64 1, .int .i64 1, .int .i64 1, .int .i64 (-1000), .int .i64 1000, .string ⟨#[]⟩, .bool false, .string ⟨#[112, 111, 114, 116, 115]⟩, .int .i64 4, .int .i64 0, .int .i64 8, .int .i64 0, .int .i64 0, .string ⟨#[112, 111, 114, 116]⟩, .bool true] 38, .cells #[.int .i64 0] 3, .cells #[.string ⟨#[110, 111, 116, 101]⟩, .slice (some ⟨w.heap.size + 1 + 1, 0, none⟩) 2 2, .slice none 0 0, .bool true, .string ⟨#[112, 111, 114, 116]⟩, .slice (some ⟨w.heap.size + 1 + 1 + 1, 0, none⟩) 3 3, .slice (some ⟨w.heap.size + 1 + 1 + 1 + 1, 0, none⟩) 1 1, .bool false, .string ⟨#[115, 119, 105, 116, 99, 104]⟩, .slice (some ⟨w.heap.size + 1 + 1 + 1 + 1 + 1, 0, none⟩) 3 3, .slice (some ⟨w.heap.size + 1 + 1 + 1 + 1 + 1 + 1, 0, none⟩) 1 1, .bool true] 34] w
  have h_c0 := HB 2 _ rfl
  have h_c1 := HB 3 _ rfl
  have h_u1 := HB 4 _ rfl
  have h_c2 := HB 5 _ rfl
  have h_u2 := HB 6 _ rfl
  have h_t := HB 7 _ rfl
  have hR0 := (allocs_below [.cells #[.slice (some ⟨w.heap.size + 1 + 1 + 1 + 1 + 1 + 1 + 1, 0, none⟩) 3 3] 25, .cells #[.string ⟨#[110, 97, 109, 101]⟩, .int .i64 2, .int .i64 1, .int .i64 1, .int .i64 0, .int .i64 0, .string ⟨#[]⟩, .bool false] 38, .cells #[.string ⟨#[110, 97, 109, 101]⟩, .int .i64 2, .int .i64 1, .int .i64 1, .int .i64 0, .int .i64 0, .string ⟨#[]⟩, .bool false, .string ⟨#[97, 98, 111, 117, 116]⟩, .int .i64 4, .int .i64 0, .int .i64 4, .int .i64 0, .int .i64 0, .string ⟨#[112, 111, 114, 116]⟩, .bool false] 38, .cells #[.string ⟨#[110, 97, 109, 101]⟩, .int .i64 2, .int .i64 1, .int .i64 1, .int .i64 0, .int .i64 0, .string ⟨#[]⟩, .bool false, .string ⟨#[116, 97, 103]⟩, .int .i64 1, .int .i64 0, .int .i64 1, .int .i64 0, .int .i64 99, .string ⟨#[]⟩, .bool false, .string ⟨#[117, 112]⟩, .int .i64 3, .int .i64 1, .int .i64 1, .int .i64 0, .int .i64 0, .string ⟨#[]⟩, .bool false] 38, .cells #[.int .i64 0] 3, .cells #[.string ⟨#[110, 97, 109, 101]⟩, .int .i64 2, .int .i64 1, .int .i64 1, .int .i64 0, .int .i64 0, .string ⟨#[]⟩, .bool false, .string ⟨#[99, 111, 117, 110, 116]⟩, .int .i64 1, .int .i64 1, .int .i64 1, .int .i64 (-1000), .int .i64 1000, .string ⟨#[]⟩, .bool false, .string ⟨#[112, 111, 114, 116, 115]⟩, .int .i64 4, .int .i64 0, .int .i64 8, .int .i64 0, .int .i64 0, .string ⟨#[112, 111, 114, 116]⟩, .bool true] 38, .cells #[.int .i64 0] 3, .cells #[.string ⟨#[110, 111, 116, 101]⟩, .slice (some ⟨w.heap.size + 1 + 1, 0, none⟩) 2 2, .slice none 0 0, .bool true, .string ⟨#[112, 111, 114, 116]⟩, .slice (some ⟨w.heap.size + 1 + 1 + 1, 0, none⟩) 3 3, .slice (some ⟨w.heap.size + 1 + 1 + 1 + 1, 0, none⟩) 1 1, .bool false, .string ⟨#[115, 119, 105, 116, 99, 104]⟩, .slice (some ⟨w.heap.size + 1 + 1 + 1 + 1 + 1, 0, none⟩) 3 3, .slice (some ⟨w.heap.size + 1 + 1 + 1 + 1 + 1 + 1, 0, none⟩) 1 1, .bool true] 34] w w w.heap.size (Below.refl _ _) (Nat.le_refl _))
  refine bodyPost_ret (v := .agg #[.slice (some ⟨w.heap.size + 1 + 1 + 1 + 1 + 1 + 1 + 1, 0, none⟩) 3 3]) (by simp [results, Try.results12, go_sem]) rfl ?_
  have r_c0 := lay_row (size := 8) (R := ColumnR) (xs := [⟨⟨#[110, 97, 109, 101]⟩, 2, 1, 1, 0, 0, ⟨#[]⟩, false⟩, ⟨⟨#[97, 98, 111, 117, 116]⟩, 4, 0, 4, 0, 0, ⟨#[112, 111, 114, 116]⟩, false⟩]) (css := [[.string ⟨#[110, 97, 109, 101]⟩, .int .i64 2, .int .i64 1, .int .i64 1, .int .i64 0, .int .i64 0, .string ⟨#[]⟩, .bool false], [.string ⟨#[97, 98, 111, 117, 116]⟩, .int .i64 4, .int .i64 0, .int .i64 4, .int .i64 0, .int .i64 0, .string ⟨#[112, 111, 114, 116]⟩, .bool false]]) (bss := [[], []]) h_c0 ⟨rfl, ⟨rfl, rfl, (by unfold Column.fine; decide)⟩, rfl, ⟨rfl, rfl, (by unfold Column.fine; decide)⟩, trivial⟩ (n := 2) rfl (by decide) (by decide)
  have r_c1 := lay_row (size := 8) (R := ColumnR) (xs := [⟨⟨#[110, 97, 109, 101]⟩, 2, 1, 1, 0, 0, ⟨#[]⟩, false⟩, ⟨⟨#[116, 97, 103]⟩, 1, 0, 1, 0, 99, ⟨#[]⟩, false⟩, ⟨⟨#[117, 112]⟩, 3, 1, 1, 0, 0, ⟨#[]⟩, false⟩]) (css := [[.string ⟨#[110, 97, 109, 101]⟩, .int .i64 2, .int .i64 1, .int .i64 1, .int .i64 0, .int .i64 0, .string ⟨#[]⟩, .bool false], [.string ⟨#[116, 97, 103]⟩, .int .i64 1, .int .i64 0, .int .i64 1, .int .i64 0, .int .i64 99, .string ⟨#[]⟩, .bool false], [.string ⟨#[117, 112]⟩, .int .i64 3, .int .i64 1, .int .i64 1, .int .i64 0, .int .i64 0, .string ⟨#[]⟩, .bool false]]) (bss := [[], [], []]) h_c1 ⟨rfl, ⟨rfl, rfl, (by unfold Column.fine; decide)⟩, rfl, ⟨rfl, rfl, (by unfold Column.fine; decide)⟩, rfl, ⟨rfl, rfl, (by unfold Column.fine; decide)⟩, trivial⟩ (n := 3) rfl (by decide) (by decide)
  have r_u1 := lay_row (size := 1) (R := IntR) (xs := [0]) (css := [[.int .i64 0]]) (bss := [[]]) h_u1 ⟨rfl, ⟨rfl, rfl, rfl⟩, trivial⟩ (n := 1) rfl (by decide) (by decide)
  have r_c2 := lay_row (size := 8) (R := ColumnR) (xs := [⟨⟨#[110, 97, 109, 101]⟩, 2, 1, 1, 0, 0, ⟨#[]⟩, false⟩, ⟨⟨#[99, 111, 117, 110, 116]⟩, 1, 1, 1, (-1000), 1000, ⟨#[]⟩, false⟩, ⟨⟨#[112, 111, 114, 116, 115]⟩, 4, 0, 8, 0, 0, ⟨#[112, 111, 114, 116]⟩, true⟩]) (css := [[.string ⟨#[110, 97, 109, 101]⟩, .int .i64 2, .int .i64 1, .int .i64 1, .int .i64 0, .int .i64 0, .string ⟨#[]⟩, .bool false], [.string ⟨#[99, 111, 117, 110, 116]⟩, .int .i64 1, .int .i64 1, .int .i64 1, .int .i64 (-1000), .int .i64 1000, .string ⟨#[]⟩, .bool false], [.string ⟨#[112, 111, 114, 116, 115]⟩, .int .i64 4, .int .i64 0, .int .i64 8, .int .i64 0, .int .i64 0, .string ⟨#[112, 111, 114, 116]⟩, .bool true]]) (bss := [[], [], []]) h_c2 ⟨rfl, ⟨rfl, rfl, (by unfold Column.fine; decide)⟩, rfl, ⟨rfl, rfl, (by unfold Column.fine; decide)⟩, rfl, ⟨rfl, rfl, (by unfold Column.fine; decide)⟩, trivial⟩ (n := 3) rfl (by decide) (by decide)
  have r_u2 := lay_row (size := 1) (R := IntR) (xs := [0]) (css := [[.int .i64 0]]) (bss := [[]]) h_u2 ⟨rfl, ⟨rfl, rfl, rfl⟩, trivial⟩ (n := 1) rfl (by decide) (by decide)
  have r_t := lay_row (size := 4) (R := TableR) (xs := plainS.tables) (css := [[.string ⟨#[110, 111, 116, 101]⟩, .slice (some ⟨w.heap.size + 1 + 1, 0, none⟩) 2 2, .slice none 0 0, .bool true], [.string ⟨#[112, 111, 114, 116]⟩, .slice (some ⟨w.heap.size + 1 + 1 + 1, 0, none⟩) 3 3, .slice (some ⟨w.heap.size + 1 + 1 + 1 + 1, 0, none⟩) 1 1, .bool false], [.string ⟨#[115, 119, 105, 116, 99, 104]⟩, .slice (some ⟨w.heap.size + 1 + 1 + 1 + 1 + 1, 0, none⟩) 3 3, .slice (some ⟨w.heap.size + 1 + 1 + 1 + 1 + 1 + 1, 0, none⟩) 1 1, .bool true]]) (bss := [([w.heap.size + 2] ++ []), ([w.heap.size + 3] ++ [w.heap.size + 4]), ([w.heap.size + 5] ++ [w.heap.size + 6])]) h_t ⟨rfl, ⟨_, [w.heap.size + 2], _, [], rfl, rfl, (by unfold Table.fine; decide), r_c0, nil_row (by omega)⟩, rfl, ⟨_, [w.heap.size + 3], _, [w.heap.size + 4], rfl, rfl, (by unfold Table.fine; decide), r_c1, r_u1⟩, rfl, ⟨_, [w.heap.size + 5], _, [w.heap.size + 6], rfl, rfl, (by unfold Table.fine; decide), r_c2, r_u2⟩, trivial⟩ (n := 3) rfl (by decide) (by decide)
  refine ⟨[.slice (some ⟨w.heap.size + 1 + 1 + 1 + 1 + 1 + 1 + 1, 0, none⟩) 3 3], _, rfl, ⟨_, _, rfl, rfl, trivial, r_t⟩, ?_, hR0⟩
  refine ⟨by simp, fun b hb => ?_⟩
  simp at hb
  rcases hb with rfl | rfl | rfl | rfl | rfl | rfl
  · exact ⟨by omega, _, _, h_t⟩
  · exact ⟨by omega, _, _, h_c0⟩
  · exact ⟨by omega, _, _, h_c1⟩
  · exact ⟨by omega, _, _, h_u1⟩
  · exact ⟨by omega, _, _, h_c2⟩
  · exact ⟨by omega, _, _, h_u2⟩
theorem spec_PlainSchemaS {w : World} : Calls Try.prog 12 #[] w (See1 SchemaR w plainS) := spec_PlainSchema.mono fun _ _ ⟨cs, bs, h1, h2, _, h4⟩ => ⟨cs, bs, h1, h2, h4⟩
end Go.Proofs.Ythbebbnidgeaeaa
