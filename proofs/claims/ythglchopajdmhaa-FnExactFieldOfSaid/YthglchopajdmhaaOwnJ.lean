/- Copies of values, in the reference. No statement is proved here; no conditions. Written by a program (gen65.py). -/
import Derived.Test.YthglchopajdmhaaCopyJ
import Derived.Test.YthglchopajdmhaaPut
import Derived.Deep.RegionHeld3
namespace Go.Proofs.Ythglchopajdmhaa
open Go.ChangeShapes Go.WideShapes Go.ChangeAt Go.RowKit Go.Deep
set_option maxRecDepth 100000
set_option linter.unusedVariables false
set_option linter.unusedSimpArgs false

section
variable {P : Program} {md : Region.Mode} {Q : Exit → Act → World → Prop} {S : World → Prop} {n : Nat} {L : Array Bool → Act → World → Prop}
/-- One of three operations may come up. -/
theorem wpT_three {l : List Oper} {i j q : Nat} {o o' o'' : Oper} {f : Nat} {listed : Array Bool} {a : Act} {w : World} (ho : l.toArray[i]? = some o) (ho' : l.toArray[j]? = some o') (ho'' : l.toArray[q]? = some o'') (hB : (decide (Region.ready md l.toArray listed = [i, j, q]) && (decide (i < n) && (decide (j < n) && decide (q < n)))) = true)
    (h : ∀ K' : Act → World → Prop, Shut (∀ a w, S w → (S w → wpT P md l.toArray Q S n L f (listed.setIfInBounds i true) a w) → K' a w) → if Region.wanted o (yielded l.toArray a.tmps) = true then Oper.wp P o a w K' Q else K' (a.put o.dst undef) w)
    (h' : ∀ K' : Act → World → Prop, Shut (∀ a w, S w → (S w → wpT P md l.toArray Q S n L f (listed.setIfInBounds j true) a w) → K' a w) → if Region.wanted o' (yielded l.toArray a.tmps) = true then Oper.wp P o' a w K' Q else K' (a.put o'.dst undef) w)
    (h'' : ∀ K' : Act → World → Prop, Shut (∀ a w, S w → (S w → wpT P md l.toArray Q S n L f (listed.setIfInBounds q true) a w) → K' a w) → if Region.wanted o'' (yielded l.toArray a.tmps) = true then Oper.wp P o'' a w K' Q else K' (a.put o''.dst undef) w) :
    wpT P md l.toArray Q S n L (f + 1) listed a w := by
  simp only [Bool.and_eq_true, decide_eq_true_eq] at hB
  refine ⟨by rw [hB.1]; simp, fun r hr => ?_⟩
  rw [hB.1] at hr
  have hr' : r = i ∨ r = j ∨ r = q := by simpa using hr
  rcases hr' with rfl | rfl | rfl
  · exact ⟨hB.2.1, wpOp_step ho (fun K' hK => h K' (fun a w hS hW => hK a w ⟨hS, hW hS⟩))⟩
  · exact ⟨hB.2.2.1, wpOp_step ho' (fun K' hK => h' K' (fun a w hS hW => hK a w ⟨hS, hW hS⟩))⟩
  · exact ⟨hB.2.2.2, wpOp_step ho'' (fun K' hK => h'' K' (fun a w hS hW => hK a w ⟨hS, hW hS⟩))⟩
end
theorem cutK {K G : Prop} (k : K) (h : Hid K → G) : G := h (hide k)
section
variable {α : Type} {R : Rd α} {size : Nat}
theorem Gr.raw {e : TypeId} {lo : Nat} {w : World} {g : Nat} (hb : lo ≤ g) (h : w.heap[g]? = some (.cells #[] e (0, 0))) : Gr size R e lo w (.slice (some ⟨g, 0, none⟩) 0 0) [] [] :=
  ⟨[], rfl, rfl, ⟨by simp, .inr ⟨g, 0, #[], rfl, hb, h, Nat.zero_le _, by simp [maxLen], by simp, by simp⟩⟩, (fun _ _ => by simp), (fun k x cs bk h => by simp at h)⟩
/-- A row of the call's own that lies apart from the blocks X. -/
def OwnX (size : Nat) (R : Rd α) (e : TypeId) (lo : Nat) (X : List Nat) (w : World) (v : Value) (xs : List α) : Prop := ∃ bss, Gr size R e lo w v bss xs ∧ Fr lo w bss.flatten ∧ (∀ x ∈ X, v.ownBlock ≠ some x) ∧ ∀ x ∈ X, x ∉ bss.flatten
theorem OwnX.own {e : TypeId} {lo : Nat} {X : List Nat} {w : World} {v : Value} {xs : List α} (h : OwnX size R e lo X w v xs) : Own size R e lo w v xs := by obtain ⟨bss, h1, h2, _⟩ := h; exact ⟨bss, h1, h2⟩
theorem OwnX.raw {e : TypeId} {lo : Nat} {X : List Nat} {w : World} {g : Nat} (hb : lo ≤ g) (h : w.heap[g]? = some (.cells #[] e (0, 0))) (hX : ∀ x ∈ X, g ≠ x) : OwnX size R e lo X w (.slice (some ⟨g, 0, none⟩) 0 0) [] :=
  ⟨[], Gr.raw hb h, Fr.nil _ _, fun x hx he => hX x hx (by injection he), by simp⟩
theorem OwnX.below {e : TypeId} {lo : Nat} {X : List Nat} {w w' : World} {v : Value} {xs : List α} (g : Good R) (h : OwnX size R e lo X w v xs) (hb : Below w.heap.size w w') : OwnX size R e lo X w' v xs := by
  obtain ⟨bss, h, hf, h2⟩ := h; exact ⟨bss, h.below g hb, hf.below hb, h2⟩
theorem OwnX.set {e : TypeId} {lo : Nat} {X : List Nat} {w : World} {v : Value} {xs : List α} (g : Good R) (h : OwnX size R e lo X w v xs) {out : Nat} (ho : out ∈ X) (j : Nat) (u : Value) : OwnX size R e lo X (w.setCell ⟨out, j, none⟩ u) v xs := by
  obtain ⟨bss, h1, hf, h2, h3⟩ := h
  exact ⟨bss, h1.keep g (fun k hk => blk_far (p := ⟨out, j, none⟩) (fun e => h2 out ho (by have e : k = out := e; rw [← e]; exact hk)) u) (fun b hb => blk_far (p := ⟨out, j, none⟩) (fun e => h3 out ho (by have e : b = out := e; rw [← e]; exact hb)) u), hf.keep fun b hb => blk_far (p := ⟨out, j, none⟩) (fun e => h3 out ho (by have e : b = out := e; rw [← e]; exact hb)) u, h2, h3⟩
/-- What the row is made of lies apart from X. -/
theorem OwnX.done {e : TypeId} {lo : Nat} {X : List Nat} {w : World} {v : Value} {xs : List α} (h : OwnX size R e lo X w v xs) : ∃ bs, SlR size R w bs [v] xs ∧ Fr lo w bs ∧ ∀ x ∈ X, x ∉ bs := by
  obtain ⟨bss, h1, h2, h3, h4⟩ := h
  obtain ⟨bs, r, f, s⟩ := h1.done
  exact ⟨bs, r, f h2, fun x hx hm => by rcases s x hm with h | h; (exact h4 x hx h); exact h3 x hx h⟩
theorem OwnX.push {lo : Nat} {X : List Nat} {e : TypeId} {w w1 : World} {v : Value} {xs : List α} (g : Good R) (hg : OwnX size R e lo X w v xs) (hb : Below w.heap.size w w1) (hout : ∀ x ∈ X, x < w.heap.size) {bk : List Nat} {cy : List Value} {y : α} (hR : R w1 bk cy y) (hfk : Fr w.heap.size w1 bk) (hl : cy.length = size) (hlo : lo ≤ w.heap.size) :
    ∃ bss bs2, Gr size R e lo (w1.alloc (.cells cy.toArray e)) v bss xs ∧ SlR size R (w1.alloc (.cells cy.toArray e)) bs2 [.slice (some ⟨w1.heap.size, 0, none⟩) 1 1] [y] ∧ (∀ b ∈ bs2, v.ownBlock ≠ some b) ∧
      ∀ v' w' bss2, Apd size R e lo (w1.alloc (.cells cy.toArray e)) v bss xs bs2 [y] v' w' bss2 → OwnX size R e lo X w' v' (xs ++ [y]) ∧ (∀ B w0, Below B w0 w1 → B ≤ lo → Below B w0 w') ∧ w1.heap.size ≤ w'.heap.size ∧ (∀ x ∈ X, w'.heap[x]? = w1.heap[x]?) ∧ (∀ k, w.heap.size ≤ k → k < w1.heap.size → w'.heap[k]? = w1.heap[k]?) := by
  obtain ⟨bss, hG, hf, ho1, ho2⟩ := hg
  have hal := (Below.refl w1.heap.size w1).alloc (Nat.le_refl _) (.cells cy.toArray e)
  have hG1 := (hG.below g hb).below g hal
  have hS := row_of_one (size := size) (blk_new w1 cy.toArray e) (g.nxt hal hR) hl
  have hblk := hG.blk
  have hs := hb.size
  have hlt := hfk.lt
  have hnb : ∀ b ∈ w1.heap.size :: bk, v.ownBlock ≠ some b := fun b hm hv => by
    have h1 := (hblk b hv).2
    rcases List.mem_cons.1 hm with rfl | hm
    · omega
    · have := (hfk.2 b hm).1; omega
  refine ⟨bss, _, hG1, hS, hnb, fun v' w' bss2 hA => ⟨⟨_, hA.gr, ?_, ?_, ?_⟩, fun B w0 hB hl => hA.below B w0 (hB.alloc (Nat.le_trans hl (by omega)) _) hl, by have := hA.size; simp at this; omega, fun x hx => (hA.hold x (by have := hout x hx; simp; omega) (ho1 x hx)).trans (Below.heap_alloc w1 _ x (by have := hout x hx; omega)), fun k hk hk1 => (hA.hold k (by simp; omega) (fun hv => by have := (hblk k hv).2; omega)).trans (Below.heap_alloc w1 _ k hk1)⟩⟩
  · have hf1 := (hf.below hb).below hal
    have hf2 : Fr w.heap.size (w1.alloc (.cells cy.toArray e)) (w1.heap.size :: bk) := ⟨List.nodup_cons.2 ⟨fun hm => by have := hlt _ hm; omega, hfk.1⟩, fun b hm => by
      rcases List.mem_cons.1 hm with rfl | hm
      · exact ⟨hs, _, _, blk_new w1 _ _⟩
      · exact (hfk.below hal).2 b hm⟩
    exact hA.fr g hG1 hf1 hf2 hlo (fun b hm => hf.lt b hm) hnb
  · intro x hx
    have := hout x hx
    rcases hA.own with h | ⟨k, h, h2⟩
    · rw [h]; exact ho1 x hx
    · rw [h]; intro he; injection he with he; simp at h2; omega
  · intro x hx
    have := hout x hx
    rw [List.flatten_append, List.mem_append]
    rintro (hm | hm)
    · exact ho2 x hx hm
    · rcases List.mem_cons.1 (hA.sub _ hm) with h | h
      · omega
      · have := (hfk.2 _ h).1; omega
variable {P : Program}
theorem step_append_ownX {ops : Array Oper} {o : Oper} {a : Act} {K : Act → World → Prop} {Q : Exit → Act → World → Prop} {E : Prop} (g : Good R) (hgd : o.guard = none) (s x : Operand) (t : TypeId)
    (ho : o.op = .call { callee := .builtin .append, args := #[s, x], argTypes := #[t, t] })
    {lo : Nat} {X : List Nat} {e : TypeId} {i : TypeInfo} {z : Value} {bytes : Nat} (ht : P.underlying t = some (.slice e)) (hi : P.info? e = some i) (hz : i.zero = some z)
    (hsize : i.size = size) (hby : i.bytes = bytes) (hzs : z.cells.size = size) (hsz : 0 < size) (hone : ∀ (w : World) bk cs (y : α), R w bk cs y → ∀ u ∈ cs, u.oneCell' = true)
    {w w1 : World} {v : Value} {xs : List α} (hs : a.eval s = v) (hg : OwnX size R e lo X w v xs) (hb : Below w.heap.size w w1) (hout : ∀ x ∈ X, x < w.heap.size)
    {bk : List Nat} {cy : List Value} {y : α} (hR : R w1 bk cy y) (hfk : Fr w.heap.size w1 bk) (hx : a.eval x = .slice (some ⟨w1.heap.size, 0, none⟩) 1 1) (hl : cy.length = size)
    (h63 : xs.length + 1 ≤ 9223372036854775807) (hbytes : (xs.length + 1) * bytes ≤ 140737488355328) (hlo : lo ≤ w.heap.size)
    (h : ∀ v' w', OwnX size R e lo X w' v' (xs ++ [y]) → (∀ B w0, Below B w0 w1 → B ≤ lo → Below B w0 w') → w1.heap.size ≤ w'.heap.size → (∀ x ∈ X, w'.heap[x]? = w1.heap[x]?) → (∀ k, w.heap.size ≤ k → k < w1.heap.size → w'.heap[k]? = w1.heap[k]?) → K (a.put o.dst v') w') :
    if Region.wanted o (yielded ops a.tmps) = true then Oper.wp P o a (w1.alloc (.cells cy.toArray e)) K Q else E := by
  obtain ⟨bss, bs2, hG, hS, hnb, hf⟩ := hg.push g hb hout hR hfk hl hlo
  refine step_append_sl g hgd s x t ho ht hi hz hsize hby hzs hsz hs hG hS hx hone hnb (by simpa using h63) (by simpa using hbytes) (by have := hb.size; simp; omega) fun v' w' bss2 hA => ?_
  obtain ⟨h1, h2, h3, h4, h5⟩ := hf v' w' bss2 hA
  exact h v' w' h1 h2 h3 h4 h5
theorem Fr.two {lo : Nat} {w : World} {bs cs : List Nat} (h : Fr lo w bs) (k : Fr lo w cs) (hm : ∀ b ∈ bs, b ∉ cs) : Fr lo w (bs ++ cs) :=
  ⟨List.nodup_append.2 ⟨h.1, k.1, fun a ha b hb e => hm a ha (e ▸ hb)⟩, fun b hb => by rcases List.mem_append.1 hb with hb | hb; (exact h.2 b hb); exact k.2 b hb⟩
end
theorem JsonR.one : ∀ (w : World) bk cs (y : Json), JsonR w bk cs y → ∀ u ∈ cs, u.oneCell' = true := by
  intro w bk cs y h u hu
  obtain ⟨v3, b3, v4, b4, _, rfl, _, r3, r4⟩ := h.open
  obtain ⟨A3, c3, rfl, _⟩ := r3.use; obtain ⟨A4, c4, rfl, _⟩ := r4.use
  simp at hu
  rcases hu with rfl | rfl | rfl | rfl | rfl <;> rfl
/-- The state behind the drawn region that makes the copy's parts. -/
structure OwnSt (W0 : World) (a : Json) (W : World) (n6 n10 n12 : Nat) (A : Option Addr) (c : Nat) (bk : List Nat) (zs : Array Value) : Prop where
  box : W.heap[n12]? = some (.cells zs 30 (0, 0))
  row : W.heap[n10]? = some (.cells #[] 30 (0, 0))
  ne : n10 ≠ n12
  l10 : W0.heap.size ≤ n10
  l12 : W0.heap.size ≤ n12
  keys : StringSR W bk [.slice A a.keys.length c] a.keys
  fr : Fr W0.heap.size W bk
  k10 : n10 ∉ bk
  k12 : n12 ∉ bk
  below : Below W0.heap.size W0 W
set_option maxHeartbeats 32000000 in
theorem own_step {w : World} {d : Nat} (IH : CJ 57 d) {bs_a : List Nat} {cs_a : List Value} {a : Json} (H_a : JsonR w bs_a cs_a a) (hg : goodJ (d + 1) a = true) (hk : a.bulk ≤ 1048576) :
    Calls Try.prog 57 #[.agg cs_a.toArray] w (ToP JsonR w a) := by
  have H0_a := H_a
  obtain ⟨a_v3, a_b3, a_v4, a_b4, rfl, rfl, hf_a, a_r3, a_r4⟩ := H_a.open
  obtain ⟨A_a3, c_a3, rfl, hlc_a3, hcm_a3, hel_a3⟩ := a_r3.use
  obtain ⟨A_a4, c_a4, rfl, hlc_a4, hcm_a4, hel_a4⟩ := a_r4.use
  have hbx := (((Below.refl w.heap.size w).alloc (Nat.le_refl _) (.cells #[.int .i64 a.kind, .int .i64 a.n, .string a.t, .slice A_a3 a.keys.length c_a3, .slice A_a4 a.items.length c_a4] 30)).alloc (by simp; try omega) (.cells #[.int .i64 0, .int .i64 0, .string ⟨#[]⟩, .slice none 0 0, .slice none 0 0] 30))
  obtain ⟨q_a, q_res⟩ := two_at (Below.refl ((w.alloc (.cells #[.int .i64 a.kind, .int .i64 a.n, .string a.t, .slice A_a3 a.keys.length c_a3, .slice A_a4 a.items.length c_a4] 30)).alloc (.cells #[.int .i64 0, .int .i64 0, .string ⟨#[]⟩, .slice none 0 0, .slice none 0 0] 30)).heap.size _)
  have R_res : World.heap ((w.alloc (.cells #[.int .i64 a.kind, .int .i64 a.n, .string a.t, .slice A_a3 a.keys.length c_a3, .slice A_a4 a.items.length c_a4] 30)).alloc (.cells #[.int .i64 0, .int .i64 0, .string ⟨#[]⟩, .slice none 0 0, .slice none 0 0] 30)) = World.heap ((w.alloc (.cells #[.int .i64 a.kind, .int .i64 a.n, .string a.t, .slice A_a3 a.keys.length c_a3, .slice A_a4 a.items.length c_a4] 30)).alloc (.cells #[.int .i64 0, .int .i64 0, .string ⟨#[]⟩, .slice none 0 0, .slice none 0 0] 30)) := rfl
  clear R_res
  have R_res : (World.heap ((w.alloc (.cells #[.int .i64 a.kind, .int .i64 a.n, .string a.t, .slice A_a3 a.keys.length c_a3, .slice A_a4 a.items.length c_a4] 30)).alloc (.cells #[.int .i64 0, .int .i64 0, .string ⟨#[]⟩, .slice none 0 0, .slice none 0 0] 30)))[w.heap.size + 1]? = some (.cells #[.int .i64 0, .int .i64 0, .string ⟨#[]⟩, .slice none 0 0, .slice none 0 0] 30 (0, 0)) := by simpa using blk_new ((w.alloc (.cells #[.int .i64 a.kind, .int .i64 a.n, .string a.t, .slice A_a3 a.keys.length c_a3, .slice A_a4 a.items.length c_a4] 30))) #[.int .i64 0, .int .i64 0, .string ⟨#[]⟩, .slice none 0 0, .slice none 0 0] 30
  have R_free := blk_free R_res
  have HK := hide (Json.bulk_items hk); have hgp := hide (good_parts hg).2; clear hk hg hel_a3
  have HL : Hid ((World.heap (((w.alloc (.cells #[.int .i64 a.kind, .int .i64 a.n, .string a.t, .slice A_a3 a.keys.length c_a3, .slice A_a4 a.items.length c_a4] 30)).alloc (.cells #[.int .i64 0, .int .i64 0, .string ⟨#[]⟩, .slice none 0 0, .slice none 0 0] 30)))).size = w.heap.size + 1 + 1) := by show _ = _; simp
  have d0 := box_cell q_a 0 rfl
  have d1 := box_cell q_a 1 rfl
  have d2 := box_cell q_a 2 rfl
  have d3 := box_cell q_a 3 rfl
  have d4 := box_cell q_a 4 rfl
  have KR0 := a_r3; have klt := hide (StringSR.good.lt a_r3)
  go_enter Try.func57, Try.ntmps57
  go_wp2_with fail
  apply cutK
  case h =>
    intro key
    have b0 := (Below.refl (World.heap (((w.alloc (.cells #[.int .i64 a.kind, .int .i64 a.n, .string a.t, .slice A_a3 a.keys.length c_a3, .slice A_a4 a.items.length c_a4] 30)).alloc (.cells #[.int .i64 0, .int .i64 0, .string ⟨#[]⟩, .slice none 0 0, .slice none 0 0] 30)))).size (((w.alloc (.cells #[.int .i64 a.kind, .int .i64 a.n, .string a.t, .slice A_a3 a.keys.length c_a3, .slice A_a4 a.items.length c_a4] 30)).alloc (.cells #[.int .i64 0, .int .i64 0, .string ⟨#[]⟩, .slice none 0 0, .slice none 0 0] 30)))).drew
    refine wp_region_tail (fun w' => w'.cell? ⟨w.heap.size, 0, none⟩ = some (.int .i64 a.kind) ∧ w'.cell? ⟨w.heap.size, 1, none⟩ = some (.int .i64 a.n) ∧ w'.cell? ⟨w.heap.size, 2, none⟩ = some (.string a.t) ∧ w'.cell? ⟨w.heap.size, 3, none⟩ = some (.slice A_a3 a.keys.length c_a3)) 13 (by kernel_rfl) (by decide) (show _ from ⟨cell_on d0 b0, cell_on d1 b0, cell_on d2 b0, cell_on d3 b0⟩) (fun hHeld => ?_)
    refine wpT_take (i := 0) rfl (by kernel_rfl) (fun _ _ _ h => h) (Or.inl ⟨by rfl, fun w hSw => by (try dsimp only at hSw); first | (go_simp; done) | (go_simp; with_reducible rfl)⟩) (by assumption) ?_
    (try simp only [Act.put, List.setIfInBounds_toArray, List.set_cons_zero, List.set_cons_succ])
    refine wpT_take (i := 1) rfl (by kernel_rfl) (fun _ _ _ h => h) (Or.inl ⟨by rfl, fun w hSw => by (try dsimp only at hSw); first | (go_simp; done) | (go_simp; with_reducible rfl)⟩) (by assumption) ?_
    (try simp only [Act.put, List.setIfInBounds_toArray, List.set_cons_zero, List.set_cons_succ])
    refine wpT_take (i := 2) rfl (by kernel_rfl) (fun _ _ _ h => h) (Or.inl ⟨by rfl, fun w hSw => by (try dsimp only at hSw); first | (go_simp; done) | (go_simp; with_reducible rfl)⟩) (by assumption) ?_
    (try simp only [Act.put, List.setIfInBounds_toArray, List.set_cons_zero, List.set_cons_succ])
    refine wpT_take (i := 3) rfl (by kernel_rfl) (fun _ _ _ h => h) (Or.inl ⟨by rfl, fun w hSw => by (try dsimp only at hSw); first | (go_simp; done) | (go_simp; with_reducible rfl)⟩) (by assumption) ?_
    (try simp only [Act.put, List.setIfInBounds_toArray, List.set_cons_zero, List.set_cons_succ])
    refine wpT_take (i := 4) rfl (by kernel_rfl) (fun _ _ _ h => h) (Or.inl ⟨by rfl, fun w hSw => by (try dsimp only at hSw); first | (go_simp; done) | (go_simp; with_reducible rfl)⟩) (by assumption) ?_
    (try simp only [Act.put, List.setIfInBounds_toArray, List.set_cons_zero, List.set_cons_succ])
    refine wpT_take (i := 5) rfl (by kernel_rfl) (fun _ _ _ h => h) (Or.inl ⟨by rfl, fun w hSw => by (try dsimp only at hSw); first | (go_simp; done) | (go_simp; with_reducible rfl)⟩) (by assumption) ?_
    (try simp only [Act.put, List.setIfInBounds_toArray, List.set_cons_zero, List.set_cons_succ])
    refine wpT_take (i := 7) rfl (by kernel_rfl) (fun _ _ _ h => h) (Or.inl ⟨by rfl, fun w hSw => by (try dsimp only at hSw); first | (go_simp; done) | (go_simp; with_reducible rfl)⟩) (by assumption) ?_
    (try simp only [Act.put, List.setIfInBounds_toArray, List.set_cons_zero, List.set_cons_succ])
    refine wpT_take (i := 8) rfl (by kernel_rfl) (fun _ _ _ h => h) (Or.inl ⟨by rfl, fun w hSw => by (try dsimp only at hSw); first | (go_simp; done) | (go_simp; with_reducible rfl)⟩) (by assumption) ?_
    (try simp only [Act.put, List.setIfInBounds_toArray, List.set_cons_zero, List.set_cons_succ])
    generalize hu_0 : World.drew (((w.alloc (.cells #[.int .i64 a.kind, .int .i64 a.n, .string a.t, .slice A_a3 a.keys.length c_a3, .slice A_a4 a.items.length c_a4] 30)).alloc (.cells #[.int .i64 0, .int .i64 0, .string ⟨#[]⟩, .slice none 0 0, .slice none 0 0] 30))) = u_0 at *
    refine wpT_three (i := 6) (j := 10) (q := 12) rfl rfl rfl (by kernel_rfl) (fun K hK => ?_) (fun K hK => ?_) (fun K hK => ?_)
    · go_simp
      have e6_1 := blk_new u_0 #[] 9
      have g6_1 := b0.size
      have b_1 := b0.alloc b0.size (.cells #[] 9)
      clear hHeld; refine hK.out _ _ (show _ from ⟨cell_on d0 b_1, cell_on d1 b_1, cell_on d2 b_1, cell_on d3 b_1⟩) (fun hHeld => ?_)
      clear hK K
      (try simp only [Act.put, List.setIfInBounds_toArray, List.set_cons_zero, List.set_cons_succ])
      generalize hu_1 : (World.alloc u_0 (.cells #[] 9)) = u_1 at *
      refine wpT_three (i := 9) (j := 10) (q := 12) rfl rfl rfl (by kernel_rfl) (fun K hK => ?_) (fun K hK => ?_) (fun K hK => ?_)
      · have kk_2 := StringSR.good.nxt (nxt hbx b_1) KR0
        obtain ⟨ki, ik, kz, ks, kby⟩ := info_parts StringS.info
        refine step_append_sl StrR.good rfl _ _ 22 rfl Try.underlying22 ik kz ks kby rfl (by decide) rfl (Gr.raw (size := 1) (R := StrR) (lo := (World.heap (((w.alloc (.cells #[.int .i64 a.kind, .int .i64 a.n, .string a.t, .slice A_a3 a.keys.length c_a3, .slice A_a4 a.items.length c_a4] 30)).alloc (.cells #[.int .i64 0, .int .i64 0, .string ⟨#[]⟩, .slice none 0 0, .slice none 0 0] 30)))).size) g6_1 e6_1) kk_2 rfl StrR.one (fun b hb hv => by have h1 := klt.out b hb; have h9 : (World.heap u_0).size = b := (by injection hv); have h8 := g6_1; have h7 := HL.out; omega) (by have h00 : ([] : List ByteArray).length = 0 := rfl; have := HK.out.1; omega) (by have h00 : ([] : List ByteArray).length = 0 := rfl; have := HK.out.1; omega) b_1.size ?_; intro v9 u9 bss9 hA
        have b_2 := hA.below _ _ b_1 (Nat.le_refl _)
        obtain ⟨bk9, r9, f9, s9⟩ := hA.gr.done; have hnil := hA.gr.bss_nil StrR.flat; replace f9 := f9 (by rw [hnil]; exact Fr.nil _ _); rw [hnil] at s9; have r9 : StringSR u9 bk9 [v9] a.keys := r9; have r90 := r9; obtain ⟨A9, c9, hv9, _, _, _⟩ := r90.use; have how := hA.own; subst hv9; clear r90 ik kz ks kby
        clear hHeld; refine hK.out _ _ (show _ from ⟨cell_on d0 b_2, cell_on d1 b_2, cell_on d2 b_2, cell_on d3 b_2⟩) (fun hHeld => ?_)
        clear hK K
        (try simp only [Act.put, List.setIfInBounds_toArray, List.set_cons_zero, List.set_cons_succ])
        refine wpT_two (i := 10) (j := 12) rfl rfl (by kernel_rfl) (fun K hK => ?_) (fun K hK => ?_)
        · go_simp
          have e10_3 := blk_new u9 #[] 30
          have g10_3 := b_2.size
          have al_3 := (Below.refl (World.heap u9).size u9).alloc (Nat.le_refl _) (.cells #[] 30)
          have r9_3 := StringSR.good.nxt al_3 r9; have f9_3 := Fr.below f9 al_3; have n10_3 : (World.heap u9).size ∉ bk9 := fun h => Nat.lt_irrefl _ (Fr.lt f9 _ h)
          have b_3 := b_2.alloc b_2.size (.cells #[] 30)
          clear hHeld; refine hK.out _ _ (show _ from ⟨cell_on d0 b_3, cell_on d1 b_3, cell_on d2 b_3, cell_on d3 b_3⟩) (fun hHeld => ?_)
          clear hK K
          (try simp only [Act.put, List.setIfInBounds_toArray, List.set_cons_zero, List.set_cons_succ])
          generalize hu_3 : (World.alloc u9 (.cells #[] 30)) = u_3 at *
          refine wpT_take (i := 11) rfl (by kernel_rfl) (fun _ _ _ h => h) (Or.inl ⟨by rfl, fun w hSw => by (try dsimp only at hSw); first | (go_simp; done) | (go_simp; with_reducible rfl)⟩) (by assumption) ?_
          (try simp only [Act.put, List.setIfInBounds_toArray, List.set_cons_zero, List.set_cons_succ])
          refine wpT_one (i := 12) rfl (by kernel_rfl) (fun K hK => ?_)
          go_simp
          have l10_4 := lt_of_cells e10_3; have e10_4 := blk_old e10_3 (.cells #[.int .i64 0, .int .i64 0, .string ⟨#[]⟩, .slice none 0 0, .slice none 0 0] 30)
          have e12_4 := blk_new u_3 #[.int .i64 0, .int .i64 0, .string ⟨#[]⟩, .slice none 0 0, .slice none 0 0] 30
          have g12_4 := b_3.size
          have al_4 := (Below.refl (World.heap u_3).size u_3).alloc (Nat.le_refl _) (.cells #[.int .i64 0, .int .i64 0, .string ⟨#[]⟩, .slice none 0 0, .slice none 0 0] 30)
          have r9_4 := StringSR.good.nxt al_4 r9_3; have f9_4 := Fr.below f9_3 al_4; have n12_4 : (World.heap u_3).size ∉ bk9 := fun h => Nat.lt_irrefl _ (Fr.lt f9_3 _ h)
          have b_4 := b_3.alloc b_3.size (.cells #[.int .i64 0, .int .i64 0, .string ⟨#[]⟩, .slice none 0 0, .slice none 0 0] 30)
          clear hHeld; refine hK.out _ _ (show _ from ⟨cell_on d0 b_4, cell_on d1 b_4, cell_on d2 b_4, cell_on d3 b_4⟩) (fun hHeld => ?_)
          clear hK K
          (try simp only [Act.put, List.setIfInBounds_toArray, List.set_cons_zero, List.set_cons_succ])
          generalize hu_4 : (World.alloc u_3 (.cells #[.int .i64 0, .int .i64 0, .string ⟨#[]⟩, .slice none 0 0, .slice none 0 0] 30)) = u_4 at *
          refine wpT_done (by kernel_rfl) ?_
          simp only [List.drop_succ_cons, List.drop_zero]
          clear hHeld
          have hst : OwnSt (((w.alloc (.cells #[.int .i64 a.kind, .int .i64 a.n, .string a.t, .slice A_a3 a.keys.length c_a3, .slice A_a4 a.items.length c_a4] 30)).alloc (.cells #[.int .i64 0, .int .i64 0, .string ⟨#[]⟩, .slice none 0 0, .slice none 0 0] 30))) a u_4 (World.heap u_0).size (World.heap u9).size (World.heap u_3).size A9 c9 bk9 #[.int .i64 0, .int .i64 0, .string ⟨#[]⟩, .slice none 0 0, .slice none 0 0] := ⟨e12_4, e10_4, (Nat.ne_of_lt l10_4), g10_3, g12_4, r9_4, f9_4, n10_3, n12_4, b_4⟩
          generalize (World.heap u_0).size = n6 at hst ⊢
          generalize (World.heap u9).size = n10 at hst ⊢
          generalize (World.heap u_3).size = n12 at hst ⊢
          generalize u_4 = Ue at hst ⊢
          generalize A9 = Ae at hst ⊢
          generalize c9 = ce at hst ⊢
          generalize bk9 = bke at hst ⊢
          revert hst; revert n6 n10 n12 Ue Ae ce bke
          exact key.out
        · go_simp
          have e12_5 := blk_new u9 #[.int .i64 0, .int .i64 0, .string ⟨#[]⟩, .slice none 0 0, .slice none 0 0] 30
          have g12_5 := b_2.size
          have al_5 := (Below.refl (World.heap u9).size u9).alloc (Nat.le_refl _) (.cells #[.int .i64 0, .int .i64 0, .string ⟨#[]⟩, .slice none 0 0, .slice none 0 0] 30)
          have r9_5 := StringSR.good.nxt al_5 r9; have f9_5 := Fr.below f9 al_5; have n12_5 : (World.heap u9).size ∉ bk9 := fun h => Nat.lt_irrefl _ (Fr.lt f9 _ h)
          have b_5 := b_2.alloc b_2.size (.cells #[.int .i64 0, .int .i64 0, .string ⟨#[]⟩, .slice none 0 0, .slice none 0 0] 30)
          clear hHeld; refine hK.out _ _ (show _ from ⟨cell_on d0 b_5, cell_on d1 b_5, cell_on d2 b_5, cell_on d3 b_5⟩) (fun hHeld => ?_)
          clear hK K
          (try simp only [Act.put, List.setIfInBounds_toArray, List.set_cons_zero, List.set_cons_succ])
          generalize hu_5 : (World.alloc u9 (.cells #[.int .i64 0, .int .i64 0, .string ⟨#[]⟩, .slice none 0 0, .slice none 0 0] 30)) = u_5 at *
          refine wpT_one (i := 10) rfl (by kernel_rfl) (fun K hK => ?_)
          go_simp
          have l12_6 := lt_of_cells e12_5; have e12_6 := blk_old e12_5 (.cells #[] 30)
          have e10_6 := blk_new u_5 #[] 30
          have g10_6 := b_5.size
          have al_6 := (Below.refl (World.heap u_5).size u_5).alloc (Nat.le_refl _) (.cells #[] 30)
          have r9_6 := StringSR.good.nxt al_6 r9_5; have f9_6 := Fr.below f9_5 al_6; have n10_6 : (World.heap u_5).size ∉ bk9 := fun h => Nat.lt_irrefl _ (Fr.lt f9_5 _ h)
          have b_6 := b_5.alloc b_5.size (.cells #[] 30)
          clear hHeld; refine hK.out _ _ (show _ from ⟨cell_on d0 b_6, cell_on d1 b_6, cell_on d2 b_6, cell_on d3 b_6⟩) (fun hHeld => ?_)
          clear hK K
          (try simp only [Act.put, List.setIfInBounds_toArray, List.set_cons_zero, List.set_cons_succ])
          generalize hu_6 : (World.alloc u_5 (.cells #[] 30)) = u_6 at *
          refine wpT_take (i := 11) rfl (by kernel_rfl) (fun _ _ _ h => h) (Or.inl ⟨by rfl, fun w hSw => by (try dsimp only at hSw); first | (go_simp; done) | (go_simp; with_reducible rfl)⟩) (by assumption) ?_
          (try simp only [Act.put, List.setIfInBounds_toArray, List.set_cons_zero, List.set_cons_succ])
          refine wpT_done (by kernel_rfl) ?_
          simp only [List.drop_succ_cons, List.drop_zero]
          clear hHeld
          have hst : OwnSt (((w.alloc (.cells #[.int .i64 a.kind, .int .i64 a.n, .string a.t, .slice A_a3 a.keys.length c_a3, .slice A_a4 a.items.length c_a4] 30)).alloc (.cells #[.int .i64 0, .int .i64 0, .string ⟨#[]⟩, .slice none 0 0, .slice none 0 0] 30))) a u_6 (World.heap u_0).size (World.heap u_5).size (World.heap u9).size A9 c9 bk9 #[.int .i64 0, .int .i64 0, .string ⟨#[]⟩, .slice none 0 0, .slice none 0 0] := ⟨e12_6, e10_6, (Ne.symm (Nat.ne_of_lt l12_6)), g10_6, g12_5, r9_6, f9_6, n10_6, n12_5, b_6⟩
          exact key.out _ _ _ _ _ _ _ hst
      · go_simp
        have l6_7 := lt_of_cells e6_1; have e6_7 := blk_old e6_1 (.cells #[] 30)
        have e10_7 := blk_new u_1 #[] 30
        have g10_7 := b_1.size
        have b_7 := b_1.alloc b_1.size (.cells #[] 30)
        clear hHeld; refine hK.out _ _ (show _ from ⟨cell_on d0 b_7, cell_on d1 b_7, cell_on d2 b_7, cell_on d3 b_7⟩) (fun hHeld => ?_)
        clear hK K
        (try simp only [Act.put, List.setIfInBounds_toArray, List.set_cons_zero, List.set_cons_succ])
        generalize hu_7 : (World.alloc u_1 (.cells #[] 30)) = u_7 at *
        refine wpT_two (i := 9) (j := 12) rfl rfl (by kernel_rfl) (fun K hK => ?_) (fun K hK => ?_)
        · have kk_8 := StringSR.good.nxt (nxt hbx b_7) KR0
          obtain ⟨ki, ik, kz, ks, kby⟩ := info_parts StringS.info
          refine step_append_sl StrR.good rfl _ _ 22 rfl Try.underlying22 ik kz ks kby rfl (by decide) rfl (Gr.raw (size := 1) (R := StrR) (lo := (World.heap (((w.alloc (.cells #[.int .i64 a.kind, .int .i64 a.n, .string a.t, .slice A_a3 a.keys.length c_a3, .slice A_a4 a.items.length c_a4] 30)).alloc (.cells #[.int .i64 0, .int .i64 0, .string ⟨#[]⟩, .slice none 0 0, .slice none 0 0] 30)))).size) g6_1 e6_7) kk_8 rfl StrR.one (fun b hb hv => by have h1 := klt.out b hb; have h9 : (World.heap u_0).size = b := (by injection hv); have h8 := g6_1; have h7 := HL.out; omega) (by have h00 : ([] : List ByteArray).length = 0 := rfl; have := HK.out.1; omega) (by have h00 : ([] : List ByteArray).length = 0 := rfl; have := HK.out.1; omega) b_7.size ?_; intro v9 u9 bss9 hA
          have b_8 := hA.below _ _ b_7 (Nat.le_refl _)
          have e10_8 := (hA.hold _ (lt_of_cells e10_7) (fun h => (Nat.ne_of_lt l6_7) (by injection h))).trans e10_7
          obtain ⟨bk9, r9, f9, s9⟩ := hA.gr.done; have hnil := hA.gr.bss_nil StrR.flat; replace f9 := f9 (by rw [hnil]; exact Fr.nil _ _); rw [hnil] at s9; have r9 : StringSR u9 bk9 [v9] a.keys := r9; have r90 := r9; obtain ⟨A9, c9, hv9, _, _, _⟩ := r90.use; have how := hA.own; subst hv9; clear r90 ik kz ks kby
          have n10_8 : (World.heap u_1).size ∉ bk9 := fun h => by rcases s9 _ h with h | h; (cases h); rcases how with h2 | ⟨k, h2, h3⟩; (rw [h2] at h; exact (Nat.ne_of_lt l6_7) (by injection h)); (rw [h2] at h; have h4 : k = _ := (by injection h); have h5 := lt_of_cells e10_7; omega)
          clear hHeld; refine hK.out _ _ (show _ from ⟨cell_on d0 b_8, cell_on d1 b_8, cell_on d2 b_8, cell_on d3 b_8⟩) (fun hHeld => ?_)
          clear hK K
          (try simp only [Act.put, List.setIfInBounds_toArray, List.set_cons_zero, List.set_cons_succ])
          refine wpT_take (i := 11) rfl (by kernel_rfl) (fun _ _ _ h => h) (Or.inl ⟨by rfl, fun w hSw => by (try dsimp only at hSw); first | (go_simp; done) | (go_simp; with_reducible rfl)⟩) (by assumption) ?_
          (try simp only [Act.put, List.setIfInBounds_toArray, List.set_cons_zero, List.set_cons_succ])
          refine wpT_one (i := 12) rfl (by kernel_rfl) (fun K hK => ?_)
          go_simp
          have l10_9 := lt_of_cells e10_8; have e10_9 := blk_old e10_8 (.cells #[.int .i64 0, .int .i64 0, .string ⟨#[]⟩, .slice none 0 0, .slice none 0 0] 30)
          have e12_9 := blk_new u9 #[.int .i64 0, .int .i64 0, .string ⟨#[]⟩, .slice none 0 0, .slice none 0 0] 30
          have g12_9 := b_8.size
          have al_9 := (Below.refl (World.heap u9).size u9).alloc (Nat.le_refl _) (.cells #[.int .i64 0, .int .i64 0, .string ⟨#[]⟩, .slice none 0 0, .slice none 0 0] 30)
          have r9_9 := StringSR.good.nxt al_9 r9; have f9_9 := Fr.below f9 al_9; have n12_9 : (World.heap u9).size ∉ bk9 := fun h => Nat.lt_irrefl _ (Fr.lt f9 _ h)
          have b_9 := b_8.alloc b_8.size (.cells #[.int .i64 0, .int .i64 0, .string ⟨#[]⟩, .slice none 0 0, .slice none 0 0] 30)
          clear hHeld; refine hK.out _ _ (show _ from ⟨cell_on d0 b_9, cell_on d1 b_9, cell_on d2 b_9, cell_on d3 b_9⟩) (fun hHeld => ?_)
          clear hK K
          (try simp only [Act.put, List.setIfInBounds_toArray, List.set_cons_zero, List.set_cons_succ])
          generalize hu_9 : (World.alloc u9 (.cells #[.int .i64 0, .int .i64 0, .string ⟨#[]⟩, .slice none 0 0, .slice none 0 0] 30)) = u_9 at *
          refine wpT_done (by kernel_rfl) ?_
          simp only [List.drop_succ_cons, List.drop_zero]
          clear hHeld
          have hst : OwnSt (((w.alloc (.cells #[.int .i64 a.kind, .int .i64 a.n, .string a.t, .slice A_a3 a.keys.length c_a3, .slice A_a4 a.items.length c_a4] 30)).alloc (.cells #[.int .i64 0, .int .i64 0, .string ⟨#[]⟩, .slice none 0 0, .slice none 0 0] 30))) a u_9 (World.heap u_0).size (World.heap u_1).size (World.heap u9).size A9 c9 bk9 #[.int .i64 0, .int .i64 0, .string ⟨#[]⟩, .slice none 0 0, .slice none 0 0] := ⟨e12_9, e10_9, (Nat.ne_of_lt l10_9), g10_7, g12_9, r9_9, f9_9, n10_8, n12_9, b_9⟩
          exact key.out _ _ _ _ _ _ _ hst
        · go_simp
          have l6_10 := lt_of_cells e6_7; have e6_10 := blk_old e6_7 (.cells #[.int .i64 0, .int .i64 0, .string ⟨#[]⟩, .slice none 0 0, .slice none 0 0] 30)
          have l10_10 := lt_of_cells e10_7; have e10_10 := blk_old e10_7 (.cells #[.int .i64 0, .int .i64 0, .string ⟨#[]⟩, .slice none 0 0, .slice none 0 0] 30)
          have e12_10 := blk_new u_7 #[.int .i64 0, .int .i64 0, .string ⟨#[]⟩, .slice none 0 0, .slice none 0 0] 30
          have g12_10 := b_7.size
          have b_10 := b_7.alloc b_7.size (.cells #[.int .i64 0, .int .i64 0, .string ⟨#[]⟩, .slice none 0 0, .slice none 0 0] 30)
          clear hHeld; refine hK.out _ _ (show _ from ⟨cell_on d0 b_10, cell_on d1 b_10, cell_on d2 b_10, cell_on d3 b_10⟩) (fun hHeld => ?_)
          clear hK K
          (try simp only [Act.put, List.setIfInBounds_toArray, List.set_cons_zero, List.set_cons_succ])
          generalize hu_10 : (World.alloc u_7 (.cells #[.int .i64 0, .int .i64 0, .string ⟨#[]⟩, .slice none 0 0, .slice none 0 0] 30)) = u_10 at *
          refine wpT_one (i := 9) rfl (by kernel_rfl) (fun K hK => ?_)
          have kk_11 := StringSR.good.nxt (nxt hbx b_10) KR0
          obtain ⟨ki, ik, kz, ks, kby⟩ := info_parts StringS.info
          refine step_append_sl StrR.good rfl _ _ 22 rfl Try.underlying22 ik kz ks kby rfl (by decide) rfl (Gr.raw (size := 1) (R := StrR) (lo := (World.heap (((w.alloc (.cells #[.int .i64 a.kind, .int .i64 a.n, .string a.t, .slice A_a3 a.keys.length c_a3, .slice A_a4 a.items.length c_a4] 30)).alloc (.cells #[.int .i64 0, .int .i64 0, .string ⟨#[]⟩, .slice none 0 0, .slice none 0 0] 30)))).size) g6_1 e6_10) kk_11 rfl StrR.one (fun b hb hv => by have h1 := klt.out b hb; have h9 : (World.heap u_0).size = b := (by injection hv); have h8 := g6_1; have h7 := HL.out; omega) (by have h00 : ([] : List ByteArray).length = 0 := rfl; have := HK.out.1; omega) (by have h00 : ([] : List ByteArray).length = 0 := rfl; have := HK.out.1; omega) b_10.size ?_; intro v9 u9 bss9 hA
          have b_11 := hA.below _ _ b_10 (Nat.le_refl _)
          have e10_11 := (hA.hold _ (lt_of_cells e10_10) (fun h => (Nat.ne_of_lt l6_7) (by injection h))).trans e10_10
          have e12_11 := (hA.hold _ (lt_of_cells e12_10) (fun h => (Nat.ne_of_lt l6_10) (by injection h))).trans e12_10
          obtain ⟨bk9, r9, f9, s9⟩ := hA.gr.done; have hnil := hA.gr.bss_nil StrR.flat; replace f9 := f9 (by rw [hnil]; exact Fr.nil _ _); rw [hnil] at s9; have r9 : StringSR u9 bk9 [v9] a.keys := r9; have r90 := r9; obtain ⟨A9, c9, hv9, _, _, _⟩ := r90.use; have how := hA.own; subst hv9; clear r90 ik kz ks kby
          have n10_11 : (World.heap u_1).size ∉ bk9 := fun h => by rcases s9 _ h with h | h; (cases h); rcases how with h2 | ⟨k, h2, h3⟩; (rw [h2] at h; exact (Nat.ne_of_lt l6_7) (by injection h)); (rw [h2] at h; have h4 : k = _ := (by injection h); have h5 := lt_of_cells e10_10; omega)
          have n12_11 : (World.heap u_7).size ∉ bk9 := fun h => by rcases s9 _ h with h | h; (cases h); rcases how with h2 | ⟨k, h2, h3⟩; (rw [h2] at h; exact (Nat.ne_of_lt l6_10) (by injection h)); (rw [h2] at h; have h4 : k = _ := (by injection h); have h5 := lt_of_cells e12_10; omega)
          clear hHeld; refine hK.out _ _ (show _ from ⟨cell_on d0 b_11, cell_on d1 b_11, cell_on d2 b_11, cell_on d3 b_11⟩) (fun hHeld => ?_)
          clear hK K
          (try simp only [Act.put, List.setIfInBounds_toArray, List.set_cons_zero, List.set_cons_succ])
          refine wpT_take (i := 11) rfl (by kernel_rfl) (fun _ _ _ h => h) (Or.inl ⟨by rfl, fun w hSw => by (try dsimp only at hSw); first | (go_simp; done) | (go_simp; with_reducible rfl)⟩) (by assumption) ?_
          (try simp only [Act.put, List.setIfInBounds_toArray, List.set_cons_zero, List.set_cons_succ])
          refine wpT_done (by kernel_rfl) ?_
          simp only [List.drop_succ_cons, List.drop_zero]
          clear hHeld
          have hst : OwnSt (((w.alloc (.cells #[.int .i64 a.kind, .int .i64 a.n, .string a.t, .slice A_a3 a.keys.length c_a3, .slice A_a4 a.items.length c_a4] 30)).alloc (.cells #[.int .i64 0, .int .i64 0, .string ⟨#[]⟩, .slice none 0 0, .slice none 0 0] 30))) a u9 (World.heap u_0).size (World.heap u_1).size (World.heap u_7).size A9 c9 bk9 #[.int .i64 0, .int .i64 0, .string ⟨#[]⟩, .slice none 0 0, .slice none 0 0] := ⟨e12_11, e10_11, (Nat.ne_of_lt l10_10), g10_7, g12_10, r9, f9, n10_11, n12_11, b_11⟩
          exact key.out _ _ _ _ _ _ _ hst
      · go_simp
        have l6_12 := lt_of_cells e6_1; have e6_12 := blk_old e6_1 (.cells #[.int .i64 0, .int .i64 0, .string ⟨#[]⟩, .slice none 0 0, .slice none 0 0] 30)
        have e12_12 := blk_new u_1 #[.int .i64 0, .int .i64 0, .string ⟨#[]⟩, .slice none 0 0, .slice none 0 0] 30
        have g12_12 := b_1.size
        have b_12 := b_1.alloc b_1.size (.cells #[.int .i64 0, .int .i64 0, .string ⟨#[]⟩, .slice none 0 0, .slice none 0 0] 30)
        clear hHeld; refine hK.out _ _ (show _ from ⟨cell_on d0 b_12, cell_on d1 b_12, cell_on d2 b_12, cell_on d3 b_12⟩) (fun hHeld => ?_)
        clear hK K
        (try simp only [Act.put, List.setIfInBounds_toArray, List.set_cons_zero, List.set_cons_succ])
        generalize hu_12 : (World.alloc u_1 (.cells #[.int .i64 0, .int .i64 0, .string ⟨#[]⟩, .slice none 0 0, .slice none 0 0] 30)) = u_12 at *
        refine wpT_two (i := 9) (j := 10) rfl rfl (by kernel_rfl) (fun K hK => ?_) (fun K hK => ?_)
        · have kk_13 := StringSR.good.nxt (nxt hbx b_12) KR0
          obtain ⟨ki, ik, kz, ks, kby⟩ := info_parts StringS.info
          refine step_append_sl StrR.good rfl _ _ 22 rfl Try.underlying22 ik kz ks kby rfl (by decide) rfl (Gr.raw (size := 1) (R := StrR) (lo := (World.heap (((w.alloc (.cells #[.int .i64 a.kind, .int .i64 a.n, .string a.t, .slice A_a3 a.keys.length c_a3, .slice A_a4 a.items.length c_a4] 30)).alloc (.cells #[.int .i64 0, .int .i64 0, .string ⟨#[]⟩, .slice none 0 0, .slice none 0 0] 30)))).size) g6_1 e6_12) kk_13 rfl StrR.one (fun b hb hv => by have h1 := klt.out b hb; have h9 : (World.heap u_0).size = b := (by injection hv); have h8 := g6_1; have h7 := HL.out; omega) (by have h00 : ([] : List ByteArray).length = 0 := rfl; have := HK.out.1; omega) (by have h00 : ([] : List ByteArray).length = 0 := rfl; have := HK.out.1; omega) b_12.size ?_; intro v9 u9 bss9 hA
          have b_13 := hA.below _ _ b_12 (Nat.le_refl _)
          have e12_13 := (hA.hold _ (lt_of_cells e12_12) (fun h => (Nat.ne_of_lt l6_12) (by injection h))).trans e12_12
          obtain ⟨bk9, r9, f9, s9⟩ := hA.gr.done; have hnil := hA.gr.bss_nil StrR.flat; replace f9 := f9 (by rw [hnil]; exact Fr.nil _ _); rw [hnil] at s9; have r9 : StringSR u9 bk9 [v9] a.keys := r9; have r90 := r9; obtain ⟨A9, c9, hv9, _, _, _⟩ := r90.use; have how := hA.own; subst hv9; clear r90 ik kz ks kby
          have n12_13 : (World.heap u_1).size ∉ bk9 := fun h => by rcases s9 _ h with h | h; (cases h); rcases how with h2 | ⟨k, h2, h3⟩; (rw [h2] at h; exact (Nat.ne_of_lt l6_12) (by injection h)); (rw [h2] at h; have h4 : k = _ := (by injection h); have h5 := lt_of_cells e12_12; omega)
          clear hHeld; refine hK.out _ _ (show _ from ⟨cell_on d0 b_13, cell_on d1 b_13, cell_on d2 b_13, cell_on d3 b_13⟩) (fun hHeld => ?_)
          clear hK K
          (try simp only [Act.put, List.setIfInBounds_toArray, List.set_cons_zero, List.set_cons_succ])
          refine wpT_one (i := 10) rfl (by kernel_rfl) (fun K hK => ?_)
          go_simp
          have l12_14 := lt_of_cells e12_13; have e12_14 := blk_old e12_13 (.cells #[] 30)
          have e10_14 := blk_new u9 #[] 30
          have g10_14 := b_13.size
          have al_14 := (Below.refl (World.heap u9).size u9).alloc (Nat.le_refl _) (.cells #[] 30)
          have r9_14 := StringSR.good.nxt al_14 r9; have f9_14 := Fr.below f9 al_14; have n10_14 : (World.heap u9).size ∉ bk9 := fun h => Nat.lt_irrefl _ (Fr.lt f9 _ h)
          have b_14 := b_13.alloc b_13.size (.cells #[] 30)
          clear hHeld; refine hK.out _ _ (show _ from ⟨cell_on d0 b_14, cell_on d1 b_14, cell_on d2 b_14, cell_on d3 b_14⟩) (fun hHeld => ?_)
          clear hK K
          (try simp only [Act.put, List.setIfInBounds_toArray, List.set_cons_zero, List.set_cons_succ])
          generalize hu_14 : (World.alloc u9 (.cells #[] 30)) = u_14 at *
          refine wpT_take (i := 11) rfl (by kernel_rfl) (fun _ _ _ h => h) (Or.inl ⟨by rfl, fun w hSw => by (try dsimp only at hSw); first | (go_simp; done) | (go_simp; with_reducible rfl)⟩) (by assumption) ?_
          (try simp only [Act.put, List.setIfInBounds_toArray, List.set_cons_zero, List.set_cons_succ])
          refine wpT_done (by kernel_rfl) ?_
          simp only [List.drop_succ_cons, List.drop_zero]
          clear hHeld
          have hst : OwnSt (((w.alloc (.cells #[.int .i64 a.kind, .int .i64 a.n, .string a.t, .slice A_a3 a.keys.length c_a3, .slice A_a4 a.items.length c_a4] 30)).alloc (.cells #[.int .i64 0, .int .i64 0, .string ⟨#[]⟩, .slice none 0 0, .slice none 0 0] 30))) a u_14 (World.heap u_0).size (World.heap u9).size (World.heap u_1).size A9 c9 bk9 #[.int .i64 0, .int .i64 0, .string ⟨#[]⟩, .slice none 0 0, .slice none 0 0] := ⟨e12_14, e10_14, (Ne.symm (Nat.ne_of_lt l12_14)), g10_14, g12_12, r9_14, f9_14, n10_14, n12_13, b_14⟩
          exact key.out _ _ _ _ _ _ _ hst
        · go_simp
          have l6_15 := lt_of_cells e6_12; have e6_15 := blk_old e6_12 (.cells #[] 30)
          have l12_15 := lt_of_cells e12_12; have e12_15 := blk_old e12_12 (.cells #[] 30)
          have e10_15 := blk_new u_12 #[] 30
          have g10_15 := b_12.size
          have b_15 := b_12.alloc b_12.size (.cells #[] 30)
          clear hHeld; refine hK.out _ _ (show _ from ⟨cell_on d0 b_15, cell_on d1 b_15, cell_on d2 b_15, cell_on d3 b_15⟩) (fun hHeld => ?_)
          clear hK K
          (try simp only [Act.put, List.setIfInBounds_toArray, List.set_cons_zero, List.set_cons_succ])
          generalize hu_15 : (World.alloc u_12 (.cells #[] 30)) = u_15 at *
          refine wpT_one (i := 9) rfl (by kernel_rfl) (fun K hK => ?_)
          have kk_16 := StringSR.good.nxt (nxt hbx b_15) KR0
          obtain ⟨ki, ik, kz, ks, kby⟩ := info_parts StringS.info
          refine step_append_sl StrR.good rfl _ _ 22 rfl Try.underlying22 ik kz ks kby rfl (by decide) rfl (Gr.raw (size := 1) (R := StrR) (lo := (World.heap (((w.alloc (.cells #[.int .i64 a.kind, .int .i64 a.n, .string a.t, .slice A_a3 a.keys.length c_a3, .slice A_a4 a.items.length c_a4] 30)).alloc (.cells #[.int .i64 0, .int .i64 0, .string ⟨#[]⟩, .slice none 0 0, .slice none 0 0] 30)))).size) g6_1 e6_15) kk_16 rfl StrR.one (fun b hb hv => by have h1 := klt.out b hb; have h9 : (World.heap u_0).size = b := (by injection hv); have h8 := g6_1; have h7 := HL.out; omega) (by have h00 : ([] : List ByteArray).length = 0 := rfl; have := HK.out.1; omega) (by have h00 : ([] : List ByteArray).length = 0 := rfl; have := HK.out.1; omega) b_15.size ?_; intro v9 u9 bss9 hA
          have b_16 := hA.below _ _ b_15 (Nat.le_refl _)
          have e10_16 := (hA.hold _ (lt_of_cells e10_15) (fun h => (Nat.ne_of_lt l6_15) (by injection h))).trans e10_15
          have e12_16 := (hA.hold _ (lt_of_cells e12_15) (fun h => (Nat.ne_of_lt l6_12) (by injection h))).trans e12_15
          obtain ⟨bk9, r9, f9, s9⟩ := hA.gr.done; have hnil := hA.gr.bss_nil StrR.flat; replace f9 := f9 (by rw [hnil]; exact Fr.nil _ _); rw [hnil] at s9; have r9 : StringSR u9 bk9 [v9] a.keys := r9; have r90 := r9; obtain ⟨A9, c9, hv9, _, _, _⟩ := r90.use; have how := hA.own; subst hv9; clear r90 ik kz ks kby
          have n10_16 : (World.heap u_12).size ∉ bk9 := fun h => by rcases s9 _ h with h | h; (cases h); rcases how with h2 | ⟨k, h2, h3⟩; (rw [h2] at h; exact (Nat.ne_of_lt l6_15) (by injection h)); (rw [h2] at h; have h4 : k = _ := (by injection h); have h5 := lt_of_cells e10_15; omega)
          have n12_16 : (World.heap u_1).size ∉ bk9 := fun h => by rcases s9 _ h with h | h; (cases h); rcases how with h2 | ⟨k, h2, h3⟩; (rw [h2] at h; exact (Nat.ne_of_lt l6_12) (by injection h)); (rw [h2] at h; have h4 : k = _ := (by injection h); have h5 := lt_of_cells e12_15; omega)
          clear hHeld; refine hK.out _ _ (show _ from ⟨cell_on d0 b_16, cell_on d1 b_16, cell_on d2 b_16, cell_on d3 b_16⟩) (fun hHeld => ?_)
          clear hK K
          (try simp only [Act.put, List.setIfInBounds_toArray, List.set_cons_zero, List.set_cons_succ])
          refine wpT_take (i := 11) rfl (by kernel_rfl) (fun _ _ _ h => h) (Or.inl ⟨by rfl, fun w hSw => by (try dsimp only at hSw); first | (go_simp; done) | (go_simp; with_reducible rfl)⟩) (by assumption) ?_
          (try simp only [Act.put, List.setIfInBounds_toArray, List.set_cons_zero, List.set_cons_succ])
          refine wpT_done (by kernel_rfl) ?_
          simp only [List.drop_succ_cons, List.drop_zero]
          clear hHeld
          have hst : OwnSt (((w.alloc (.cells #[.int .i64 a.kind, .int .i64 a.n, .string a.t, .slice A_a3 a.keys.length c_a3, .slice A_a4 a.items.length c_a4] 30)).alloc (.cells #[.int .i64 0, .int .i64 0, .string ⟨#[]⟩, .slice none 0 0, .slice none 0 0] 30))) a u9 (World.heap u_0).size (World.heap u_12).size (World.heap u_1).size A9 c9 bk9 #[.int .i64 0, .int .i64 0, .string ⟨#[]⟩, .slice none 0 0, .slice none 0 0] := ⟨e12_16, e10_16, (Ne.symm (Nat.ne_of_lt l12_15)), g10_15, g12_12, r9, f9, n10_16, n12_16, b_16⟩
          exact key.out _ _ _ _ _ _ _ hst
    · go_simp
      have e10_17 := blk_new u_0 #[] 30
      have g10_17 := b0.size
      have b_17 := b0.alloc b0.size (.cells #[] 30)
      clear hHeld; refine hK.out _ _ (show _ from ⟨cell_on d0 b_17, cell_on d1 b_17, cell_on d2 b_17, cell_on d3 b_17⟩) (fun hHeld => ?_)
      clear hK K
      (try simp only [Act.put, List.setIfInBounds_toArray, List.set_cons_zero, List.set_cons_succ])
      generalize hu_17 : (World.alloc u_0 (.cells #[] 30)) = u_17 at *
      refine wpT_two (i := 6) (j := 12) rfl rfl (by kernel_rfl) (fun K hK => ?_) (fun K hK => ?_)
      · go_simp
        have l10_18 := lt_of_cells e10_17; have e10_18 := blk_old e10_17 (.cells #[] 9)
        have e6_18 := blk_new u_17 #[] 9
        have g6_18 := b_17.size
        have b_18 := b_17.alloc b_17.size (.cells #[] 9)
        clear hHeld; refine hK.out _ _ (show _ from ⟨cell_on d0 b_18, cell_on d1 b_18, cell_on d2 b_18, cell_on d3 b_18⟩) (fun hHeld => ?_)
        clear hK K
        (try simp only [Act.put, List.setIfInBounds_toArray, List.set_cons_zero, List.set_cons_succ])
        generalize hu_18 : (World.alloc u_17 (.cells #[] 9)) = u_18 at *
        refine wpT_two (i := 9) (j := 12) rfl rfl (by kernel_rfl) (fun K hK => ?_) (fun K hK => ?_)
        · have kk_19 := StringSR.good.nxt (nxt hbx b_18) KR0
          obtain ⟨ki, ik, kz, ks, kby⟩ := info_parts StringS.info
          refine step_append_sl StrR.good rfl _ _ 22 rfl Try.underlying22 ik kz ks kby rfl (by decide) rfl (Gr.raw (size := 1) (R := StrR) (lo := (World.heap (((w.alloc (.cells #[.int .i64 a.kind, .int .i64 a.n, .string a.t, .slice A_a3 a.keys.length c_a3, .slice A_a4 a.items.length c_a4] 30)).alloc (.cells #[.int .i64 0, .int .i64 0, .string ⟨#[]⟩, .slice none 0 0, .slice none 0 0] 30)))).size) g6_18 e6_18) kk_19 rfl StrR.one (fun b hb hv => by have h1 := klt.out b hb; have h9 : (World.heap u_17).size = b := (by injection hv); have h8 := g6_18; have h7 := HL.out; omega) (by have h00 : ([] : List ByteArray).length = 0 := rfl; have := HK.out.1; omega) (by have h00 : ([] : List ByteArray).length = 0 := rfl; have := HK.out.1; omega) b_18.size ?_; intro v9 u9 bss9 hA
          have b_19 := hA.below _ _ b_18 (Nat.le_refl _)
          have e10_19 := (hA.hold _ (lt_of_cells e10_18) (fun h => (Ne.symm (Nat.ne_of_lt l10_18)) (by injection h))).trans e10_18
          obtain ⟨bk9, r9, f9, s9⟩ := hA.gr.done; have hnil := hA.gr.bss_nil StrR.flat; replace f9 := f9 (by rw [hnil]; exact Fr.nil _ _); rw [hnil] at s9; have r9 : StringSR u9 bk9 [v9] a.keys := r9; have r90 := r9; obtain ⟨A9, c9, hv9, _, _, _⟩ := r90.use; have how := hA.own; subst hv9; clear r90 ik kz ks kby
          have n10_19 : (World.heap u_0).size ∉ bk9 := fun h => by rcases s9 _ h with h | h; (cases h); rcases how with h2 | ⟨k, h2, h3⟩; (rw [h2] at h; exact (Ne.symm (Nat.ne_of_lt l10_18)) (by injection h)); (rw [h2] at h; have h4 : k = _ := (by injection h); have h5 := lt_of_cells e10_18; omega)
          clear hHeld; refine hK.out _ _ (show _ from ⟨cell_on d0 b_19, cell_on d1 b_19, cell_on d2 b_19, cell_on d3 b_19⟩) (fun hHeld => ?_)
          clear hK K
          (try simp only [Act.put, List.setIfInBounds_toArray, List.set_cons_zero, List.set_cons_succ])
          refine wpT_take (i := 11) rfl (by kernel_rfl) (fun _ _ _ h => h) (Or.inl ⟨by rfl, fun w hSw => by (try dsimp only at hSw); first | (go_simp; done) | (go_simp; with_reducible rfl)⟩) (by assumption) ?_
          (try simp only [Act.put, List.setIfInBounds_toArray, List.set_cons_zero, List.set_cons_succ])
          refine wpT_one (i := 12) rfl (by kernel_rfl) (fun K hK => ?_)
          go_simp
          have l10_20 := lt_of_cells e10_19; have e10_20 := blk_old e10_19 (.cells #[.int .i64 0, .int .i64 0, .string ⟨#[]⟩, .slice none 0 0, .slice none 0 0] 30)
          have e12_20 := blk_new u9 #[.int .i64 0, .int .i64 0, .string ⟨#[]⟩, .slice none 0 0, .slice none 0 0] 30
          have g12_20 := b_19.size
          have al_20 := (Below.refl (World.heap u9).size u9).alloc (Nat.le_refl _) (.cells #[.int .i64 0, .int .i64 0, .string ⟨#[]⟩, .slice none 0 0, .slice none 0 0] 30)
          have r9_20 := StringSR.good.nxt al_20 r9; have f9_20 := Fr.below f9 al_20; have n12_20 : (World.heap u9).size ∉ bk9 := fun h => Nat.lt_irrefl _ (Fr.lt f9 _ h)
          have b_20 := b_19.alloc b_19.size (.cells #[.int .i64 0, .int .i64 0, .string ⟨#[]⟩, .slice none 0 0, .slice none 0 0] 30)
          clear hHeld; refine hK.out _ _ (show _ from ⟨cell_on d0 b_20, cell_on d1 b_20, cell_on d2 b_20, cell_on d3 b_20⟩) (fun hHeld => ?_)
          clear hK K
          (try simp only [Act.put, List.setIfInBounds_toArray, List.set_cons_zero, List.set_cons_succ])
          generalize hu_20 : (World.alloc u9 (.cells #[.int .i64 0, .int .i64 0, .string ⟨#[]⟩, .slice none 0 0, .slice none 0 0] 30)) = u_20 at *
          refine wpT_done (by kernel_rfl) ?_
          simp only [List.drop_succ_cons, List.drop_zero]
          clear hHeld
          have hst : OwnSt (((w.alloc (.cells #[.int .i64 a.kind, .int .i64 a.n, .string a.t, .slice A_a3 a.keys.length c_a3, .slice A_a4 a.items.length c_a4] 30)).alloc (.cells #[.int .i64 0, .int .i64 0, .string ⟨#[]⟩, .slice none 0 0, .slice none 0 0] 30))) a u_20 (World.heap u_17).size (World.heap u_0).size (World.heap u9).size A9 c9 bk9 #[.int .i64 0, .int .i64 0, .string ⟨#[]⟩, .slice none 0 0, .slice none 0 0] := ⟨e12_20, e10_20, (Nat.ne_of_lt l10_20), g10_17, g12_20, r9_20, f9_20, n10_19, n12_20, b_20⟩
          exact key.out _ _ _ _ _ _ _ hst
        · go_simp
          have l6_21 := lt_of_cells e6_18; have e6_21 := blk_old e6_18 (.cells #[.int .i64 0, .int .i64 0, .string ⟨#[]⟩, .slice none 0 0, .slice none 0 0] 30)
          have l10_21 := lt_of_cells e10_18; have e10_21 := blk_old e10_18 (.cells #[.int .i64 0, .int .i64 0, .string ⟨#[]⟩, .slice none 0 0, .slice none 0 0] 30)
          have e12_21 := blk_new u_18 #[.int .i64 0, .int .i64 0, .string ⟨#[]⟩, .slice none 0 0, .slice none 0 0] 30
          have g12_21 := b_18.size
          have b_21 := b_18.alloc b_18.size (.cells #[.int .i64 0, .int .i64 0, .string ⟨#[]⟩, .slice none 0 0, .slice none 0 0] 30)
          clear hHeld; refine hK.out _ _ (show _ from ⟨cell_on d0 b_21, cell_on d1 b_21, cell_on d2 b_21, cell_on d3 b_21⟩) (fun hHeld => ?_)
          clear hK K
          (try simp only [Act.put, List.setIfInBounds_toArray, List.set_cons_zero, List.set_cons_succ])
          generalize hu_21 : (World.alloc u_18 (.cells #[.int .i64 0, .int .i64 0, .string ⟨#[]⟩, .slice none 0 0, .slice none 0 0] 30)) = u_21 at *
          refine wpT_one (i := 9) rfl (by kernel_rfl) (fun K hK => ?_)
          have kk_22 := StringSR.good.nxt (nxt hbx b_21) KR0
          obtain ⟨ki, ik, kz, ks, kby⟩ := info_parts StringS.info
          refine step_append_sl StrR.good rfl _ _ 22 rfl Try.underlying22 ik kz ks kby rfl (by decide) rfl (Gr.raw (size := 1) (R := StrR) (lo := (World.heap (((w.alloc (.cells #[.int .i64 a.kind, .int .i64 a.n, .string a.t, .slice A_a3 a.keys.length c_a3, .slice A_a4 a.items.length c_a4] 30)).alloc (.cells #[.int .i64 0, .int .i64 0, .string ⟨#[]⟩, .slice none 0 0, .slice none 0 0] 30)))).size) g6_18 e6_21) kk_22 rfl StrR.one (fun b hb hv => by have h1 := klt.out b hb; have h9 : (World.heap u_17).size = b := (by injection hv); have h8 := g6_18; have h7 := HL.out; omega) (by have h00 : ([] : List ByteArray).length = 0 := rfl; have := HK.out.1; omega) (by have h00 : ([] : List ByteArray).length = 0 := rfl; have := HK.out.1; omega) b_21.size ?_; intro v9 u9 bss9 hA
          have b_22 := hA.below _ _ b_21 (Nat.le_refl _)
          have e10_22 := (hA.hold _ (lt_of_cells e10_21) (fun h => (Ne.symm (Nat.ne_of_lt l10_18)) (by injection h))).trans e10_21
          have e12_22 := (hA.hold _ (lt_of_cells e12_21) (fun h => (Nat.ne_of_lt l6_21) (by injection h))).trans e12_21
          obtain ⟨bk9, r9, f9, s9⟩ := hA.gr.done; have hnil := hA.gr.bss_nil StrR.flat; replace f9 := f9 (by rw [hnil]; exact Fr.nil _ _); rw [hnil] at s9; have r9 : StringSR u9 bk9 [v9] a.keys := r9; have r90 := r9; obtain ⟨A9, c9, hv9, _, _, _⟩ := r90.use; have how := hA.own; subst hv9; clear r90 ik kz ks kby
          have n10_22 : (World.heap u_0).size ∉ bk9 := fun h => by rcases s9 _ h with h | h; (cases h); rcases how with h2 | ⟨k, h2, h3⟩; (rw [h2] at h; exact (Ne.symm (Nat.ne_of_lt l10_18)) (by injection h)); (rw [h2] at h; have h4 : k = _ := (by injection h); have h5 := lt_of_cells e10_21; omega)
          have n12_22 : (World.heap u_18).size ∉ bk9 := fun h => by rcases s9 _ h with h | h; (cases h); rcases how with h2 | ⟨k, h2, h3⟩; (rw [h2] at h; exact (Nat.ne_of_lt l6_21) (by injection h)); (rw [h2] at h; have h4 : k = _ := (by injection h); have h5 := lt_of_cells e12_21; omega)
          clear hHeld; refine hK.out _ _ (show _ from ⟨cell_on d0 b_22, cell_on d1 b_22, cell_on d2 b_22, cell_on d3 b_22⟩) (fun hHeld => ?_)
          clear hK K
          (try simp only [Act.put, List.setIfInBounds_toArray, List.set_cons_zero, List.set_cons_succ])
          refine wpT_take (i := 11) rfl (by kernel_rfl) (fun _ _ _ h => h) (Or.inl ⟨by rfl, fun w hSw => by (try dsimp only at hSw); first | (go_simp; done) | (go_simp; with_reducible rfl)⟩) (by assumption) ?_
          (try simp only [Act.put, List.setIfInBounds_toArray, List.set_cons_zero, List.set_cons_succ])
          refine wpT_done (by kernel_rfl) ?_
          simp only [List.drop_succ_cons, List.drop_zero]
          clear hHeld
          have hst : OwnSt (((w.alloc (.cells #[.int .i64 a.kind, .int .i64 a.n, .string a.t, .slice A_a3 a.keys.length c_a3, .slice A_a4 a.items.length c_a4] 30)).alloc (.cells #[.int .i64 0, .int .i64 0, .string ⟨#[]⟩, .slice none 0 0, .slice none 0 0] 30))) a u9 (World.heap u_17).size (World.heap u_0).size (World.heap u_18).size A9 c9 bk9 #[.int .i64 0, .int .i64 0, .string ⟨#[]⟩, .slice none 0 0, .slice none 0 0] := ⟨e12_22, e10_22, (Nat.ne_of_lt l10_21), g10_17, g12_21, r9, f9, n10_22, n12_22, b_22⟩
          exact key.out _ _ _ _ _ _ _ hst
      · go_simp
        have l10_23 := lt_of_cells e10_17; have e10_23 := blk_old e10_17 (.cells #[.int .i64 0, .int .i64 0, .string ⟨#[]⟩, .slice none 0 0, .slice none 0 0] 30)
        have e12_23 := blk_new u_17 #[.int .i64 0, .int .i64 0, .string ⟨#[]⟩, .slice none 0 0, .slice none 0 0] 30
        have g12_23 := b_17.size
        have b_23 := b_17.alloc b_17.size (.cells #[.int .i64 0, .int .i64 0, .string ⟨#[]⟩, .slice none 0 0, .slice none 0 0] 30)
        clear hHeld; refine hK.out _ _ (show _ from ⟨cell_on d0 b_23, cell_on d1 b_23, cell_on d2 b_23, cell_on d3 b_23⟩) (fun hHeld => ?_)
        clear hK K
        (try simp only [Act.put, List.setIfInBounds_toArray, List.set_cons_zero, List.set_cons_succ])
        generalize hu_23 : (World.alloc u_17 (.cells #[.int .i64 0, .int .i64 0, .string ⟨#[]⟩, .slice none 0 0, .slice none 0 0] 30)) = u_23 at *
        refine wpT_one (i := 6) rfl (by kernel_rfl) (fun K hK => ?_)
        go_simp
        have l10_24 := lt_of_cells e10_23; have e10_24 := blk_old e10_23 (.cells #[] 9)
        have l12_24 := lt_of_cells e12_23; have e12_24 := blk_old e12_23 (.cells #[] 9)
        have e6_24 := blk_new u_23 #[] 9
        have g6_24 := b_23.size
        have b_24 := b_23.alloc b_23.size (.cells #[] 9)
        clear hHeld; refine hK.out _ _ (show _ from ⟨cell_on d0 b_24, cell_on d1 b_24, cell_on d2 b_24, cell_on d3 b_24⟩) (fun hHeld => ?_)
        clear hK K
        (try simp only [Act.put, List.setIfInBounds_toArray, List.set_cons_zero, List.set_cons_succ])
        generalize hu_24 : (World.alloc u_23 (.cells #[] 9)) = u_24 at *
        refine wpT_one (i := 9) rfl (by kernel_rfl) (fun K hK => ?_)
        have kk_25 := StringSR.good.nxt (nxt hbx b_24) KR0
        obtain ⟨ki, ik, kz, ks, kby⟩ := info_parts StringS.info
        refine step_append_sl StrR.good rfl _ _ 22 rfl Try.underlying22 ik kz ks kby rfl (by decide) rfl (Gr.raw (size := 1) (R := StrR) (lo := (World.heap (((w.alloc (.cells #[.int .i64 a.kind, .int .i64 a.n, .string a.t, .slice A_a3 a.keys.length c_a3, .slice A_a4 a.items.length c_a4] 30)).alloc (.cells #[.int .i64 0, .int .i64 0, .string ⟨#[]⟩, .slice none 0 0, .slice none 0 0] 30)))).size) g6_24 e6_24) kk_25 rfl StrR.one (fun b hb hv => by have h1 := klt.out b hb; have h9 : (World.heap u_23).size = b := (by injection hv); have h8 := g6_24; have h7 := HL.out; omega) (by have h00 : ([] : List ByteArray).length = 0 := rfl; have := HK.out.1; omega) (by have h00 : ([] : List ByteArray).length = 0 := rfl; have := HK.out.1; omega) b_24.size ?_; intro v9 u9 bss9 hA
        have b_25 := hA.below _ _ b_24 (Nat.le_refl _)
        have e10_25 := (hA.hold _ (lt_of_cells e10_24) (fun h => (Ne.symm (Nat.ne_of_lt l10_24)) (by injection h))).trans e10_24
        have e12_25 := (hA.hold _ (lt_of_cells e12_24) (fun h => (Ne.symm (Nat.ne_of_lt l12_24)) (by injection h))).trans e12_24
        obtain ⟨bk9, r9, f9, s9⟩ := hA.gr.done; have hnil := hA.gr.bss_nil StrR.flat; replace f9 := f9 (by rw [hnil]; exact Fr.nil _ _); rw [hnil] at s9; have r9 : StringSR u9 bk9 [v9] a.keys := r9; have r90 := r9; obtain ⟨A9, c9, hv9, _, _, _⟩ := r90.use; have how := hA.own; subst hv9; clear r90 ik kz ks kby
        have n10_25 : (World.heap u_0).size ∉ bk9 := fun h => by rcases s9 _ h with h | h; (cases h); rcases how with h2 | ⟨k, h2, h3⟩; (rw [h2] at h; exact (Ne.symm (Nat.ne_of_lt l10_24)) (by injection h)); (rw [h2] at h; have h4 : k = _ := (by injection h); have h5 := lt_of_cells e10_24; omega)
        have n12_25 : (World.heap u_17).size ∉ bk9 := fun h => by rcases s9 _ h with h | h; (cases h); rcases how with h2 | ⟨k, h2, h3⟩; (rw [h2] at h; exact (Ne.symm (Nat.ne_of_lt l12_24)) (by injection h)); (rw [h2] at h; have h4 : k = _ := (by injection h); have h5 := lt_of_cells e12_24; omega)
        clear hHeld; refine hK.out _ _ (show _ from ⟨cell_on d0 b_25, cell_on d1 b_25, cell_on d2 b_25, cell_on d3 b_25⟩) (fun hHeld => ?_)
        clear hK K
        (try simp only [Act.put, List.setIfInBounds_toArray, List.set_cons_zero, List.set_cons_succ])
        refine wpT_take (i := 11) rfl (by kernel_rfl) (fun _ _ _ h => h) (Or.inl ⟨by rfl, fun w hSw => by (try dsimp only at hSw); first | (go_simp; done) | (go_simp; with_reducible rfl)⟩) (by assumption) ?_
        (try simp only [Act.put, List.setIfInBounds_toArray, List.set_cons_zero, List.set_cons_succ])
        refine wpT_done (by kernel_rfl) ?_
        simp only [List.drop_succ_cons, List.drop_zero]
        clear hHeld
        have hst : OwnSt (((w.alloc (.cells #[.int .i64 a.kind, .int .i64 a.n, .string a.t, .slice A_a3 a.keys.length c_a3, .slice A_a4 a.items.length c_a4] 30)).alloc (.cells #[.int .i64 0, .int .i64 0, .string ⟨#[]⟩, .slice none 0 0, .slice none 0 0] 30))) a u9 (World.heap u_23).size (World.heap u_0).size (World.heap u_17).size A9 c9 bk9 #[.int .i64 0, .int .i64 0, .string ⟨#[]⟩, .slice none 0 0, .slice none 0 0] := ⟨e12_25, e10_25, (Nat.ne_of_lt l10_23), g10_17, g12_23, r9, f9, n10_25, n12_25, b_25⟩
        exact key.out _ _ _ _ _ _ _ hst
    · go_simp
      have e12_26 := blk_new u_0 #[.int .i64 0, .int .i64 0, .string ⟨#[]⟩, .slice none 0 0, .slice none 0 0] 30
      have g12_26 := b0.size
      have b_26 := b0.alloc b0.size (.cells #[.int .i64 0, .int .i64 0, .string ⟨#[]⟩, .slice none 0 0, .slice none 0 0] 30)
      clear hHeld; refine hK.out _ _ (show _ from ⟨cell_on d0 b_26, cell_on d1 b_26, cell_on d2 b_26, cell_on d3 b_26⟩) (fun hHeld => ?_)
      clear hK K
      (try simp only [Act.put, List.setIfInBounds_toArray, List.set_cons_zero, List.set_cons_succ])
      generalize hu_26 : (World.alloc u_0 (.cells #[.int .i64 0, .int .i64 0, .string ⟨#[]⟩, .slice none 0 0, .slice none 0 0] 30)) = u_26 at *
      refine wpT_two (i := 6) (j := 10) rfl rfl (by kernel_rfl) (fun K hK => ?_) (fun K hK => ?_)
      · go_simp
        have l12_27 := lt_of_cells e12_26; have e12_27 := blk_old e12_26 (.cells #[] 9)
        have e6_27 := blk_new u_26 #[] 9
        have g6_27 := b_26.size
        have b_27 := b_26.alloc b_26.size (.cells #[] 9)
        clear hHeld; refine hK.out _ _ (show _ from ⟨cell_on d0 b_27, cell_on d1 b_27, cell_on d2 b_27, cell_on d3 b_27⟩) (fun hHeld => ?_)
        clear hK K
        (try simp only [Act.put, List.setIfInBounds_toArray, List.set_cons_zero, List.set_cons_succ])
        generalize hu_27 : (World.alloc u_26 (.cells #[] 9)) = u_27 at *
        refine wpT_two (i := 9) (j := 10) rfl rfl (by kernel_rfl) (fun K hK => ?_) (fun K hK => ?_)
        · have kk_28 := StringSR.good.nxt (nxt hbx b_27) KR0
          obtain ⟨ki, ik, kz, ks, kby⟩ := info_parts StringS.info
          refine step_append_sl StrR.good rfl _ _ 22 rfl Try.underlying22 ik kz ks kby rfl (by decide) rfl (Gr.raw (size := 1) (R := StrR) (lo := (World.heap (((w.alloc (.cells #[.int .i64 a.kind, .int .i64 a.n, .string a.t, .slice A_a3 a.keys.length c_a3, .slice A_a4 a.items.length c_a4] 30)).alloc (.cells #[.int .i64 0, .int .i64 0, .string ⟨#[]⟩, .slice none 0 0, .slice none 0 0] 30)))).size) g6_27 e6_27) kk_28 rfl StrR.one (fun b hb hv => by have h1 := klt.out b hb; have h9 : (World.heap u_26).size = b := (by injection hv); have h8 := g6_27; have h7 := HL.out; omega) (by have h00 : ([] : List ByteArray).length = 0 := rfl; have := HK.out.1; omega) (by have h00 : ([] : List ByteArray).length = 0 := rfl; have := HK.out.1; omega) b_27.size ?_; intro v9 u9 bss9 hA
          have b_28 := hA.below _ _ b_27 (Nat.le_refl _)
          have e12_28 := (hA.hold _ (lt_of_cells e12_27) (fun h => (Ne.symm (Nat.ne_of_lt l12_27)) (by injection h))).trans e12_27
          obtain ⟨bk9, r9, f9, s9⟩ := hA.gr.done; have hnil := hA.gr.bss_nil StrR.flat; replace f9 := f9 (by rw [hnil]; exact Fr.nil _ _); rw [hnil] at s9; have r9 : StringSR u9 bk9 [v9] a.keys := r9; have r90 := r9; obtain ⟨A9, c9, hv9, _, _, _⟩ := r90.use; have how := hA.own; subst hv9; clear r90 ik kz ks kby
          have n12_28 : (World.heap u_0).size ∉ bk9 := fun h => by rcases s9 _ h with h | h; (cases h); rcases how with h2 | ⟨k, h2, h3⟩; (rw [h2] at h; exact (Ne.symm (Nat.ne_of_lt l12_27)) (by injection h)); (rw [h2] at h; have h4 : k = _ := (by injection h); have h5 := lt_of_cells e12_27; omega)
          clear hHeld; refine hK.out _ _ (show _ from ⟨cell_on d0 b_28, cell_on d1 b_28, cell_on d2 b_28, cell_on d3 b_28⟩) (fun hHeld => ?_)
          clear hK K
          (try simp only [Act.put, List.setIfInBounds_toArray, List.set_cons_zero, List.set_cons_succ])
          refine wpT_one (i := 10) rfl (by kernel_rfl) (fun K hK => ?_)
          go_simp
          have l12_29 := lt_of_cells e12_28; have e12_29 := blk_old e12_28 (.cells #[] 30)
          have e10_29 := blk_new u9 #[] 30
          have g10_29 := b_28.size
          have al_29 := (Below.refl (World.heap u9).size u9).alloc (Nat.le_refl _) (.cells #[] 30)
          have r9_29 := StringSR.good.nxt al_29 r9; have f9_29 := Fr.below f9 al_29; have n10_29 : (World.heap u9).size ∉ bk9 := fun h => Nat.lt_irrefl _ (Fr.lt f9 _ h)
          have b_29 := b_28.alloc b_28.size (.cells #[] 30)
          clear hHeld; refine hK.out _ _ (show _ from ⟨cell_on d0 b_29, cell_on d1 b_29, cell_on d2 b_29, cell_on d3 b_29⟩) (fun hHeld => ?_)
          clear hK K
          (try simp only [Act.put, List.setIfInBounds_toArray, List.set_cons_zero, List.set_cons_succ])
          generalize hu_29 : (World.alloc u9 (.cells #[] 30)) = u_29 at *
          refine wpT_take (i := 11) rfl (by kernel_rfl) (fun _ _ _ h => h) (Or.inl ⟨by rfl, fun w hSw => by (try dsimp only at hSw); first | (go_simp; done) | (go_simp; with_reducible rfl)⟩) (by assumption) ?_
          (try simp only [Act.put, List.setIfInBounds_toArray, List.set_cons_zero, List.set_cons_succ])
          refine wpT_done (by kernel_rfl) ?_
          simp only [List.drop_succ_cons, List.drop_zero]
          clear hHeld
          have hst : OwnSt (((w.alloc (.cells #[.int .i64 a.kind, .int .i64 a.n, .string a.t, .slice A_a3 a.keys.length c_a3, .slice A_a4 a.items.length c_a4] 30)).alloc (.cells #[.int .i64 0, .int .i64 0, .string ⟨#[]⟩, .slice none 0 0, .slice none 0 0] 30))) a u_29 (World.heap u_26).size (World.heap u9).size (World.heap u_0).size A9 c9 bk9 #[.int .i64 0, .int .i64 0, .string ⟨#[]⟩, .slice none 0 0, .slice none 0 0] := ⟨e12_29, e10_29, (Ne.symm (Nat.ne_of_lt l12_29)), g10_29, g12_26, r9_29, f9_29, n10_29, n12_28, b_29⟩
          exact key.out _ _ _ _ _ _ _ hst
        · go_simp
          have l6_30 := lt_of_cells e6_27; have e6_30 := blk_old e6_27 (.cells #[] 30)
          have l12_30 := lt_of_cells e12_27; have e12_30 := blk_old e12_27 (.cells #[] 30)
          have e10_30 := blk_new u_27 #[] 30
          have g10_30 := b_27.size
          have b_30 := b_27.alloc b_27.size (.cells #[] 30)
          clear hHeld; refine hK.out _ _ (show _ from ⟨cell_on d0 b_30, cell_on d1 b_30, cell_on d2 b_30, cell_on d3 b_30⟩) (fun hHeld => ?_)
          clear hK K
          (try simp only [Act.put, List.setIfInBounds_toArray, List.set_cons_zero, List.set_cons_succ])
          generalize hu_30 : (World.alloc u_27 (.cells #[] 30)) = u_30 at *
          refine wpT_one (i := 9) rfl (by kernel_rfl) (fun K hK => ?_)
          have kk_31 := StringSR.good.nxt (nxt hbx b_30) KR0
          obtain ⟨ki, ik, kz, ks, kby⟩ := info_parts StringS.info
          refine step_append_sl StrR.good rfl _ _ 22 rfl Try.underlying22 ik kz ks kby rfl (by decide) rfl (Gr.raw (size := 1) (R := StrR) (lo := (World.heap (((w.alloc (.cells #[.int .i64 a.kind, .int .i64 a.n, .string a.t, .slice A_a3 a.keys.length c_a3, .slice A_a4 a.items.length c_a4] 30)).alloc (.cells #[.int .i64 0, .int .i64 0, .string ⟨#[]⟩, .slice none 0 0, .slice none 0 0] 30)))).size) g6_27 e6_30) kk_31 rfl StrR.one (fun b hb hv => by have h1 := klt.out b hb; have h9 : (World.heap u_26).size = b := (by injection hv); have h8 := g6_27; have h7 := HL.out; omega) (by have h00 : ([] : List ByteArray).length = 0 := rfl; have := HK.out.1; omega) (by have h00 : ([] : List ByteArray).length = 0 := rfl; have := HK.out.1; omega) b_30.size ?_; intro v9 u9 bss9 hA
          have b_31 := hA.below _ _ b_30 (Nat.le_refl _)
          have e10_31 := (hA.hold _ (lt_of_cells e10_30) (fun h => (Nat.ne_of_lt l6_30) (by injection h))).trans e10_30
          have e12_31 := (hA.hold _ (lt_of_cells e12_30) (fun h => (Ne.symm (Nat.ne_of_lt l12_27)) (by injection h))).trans e12_30
          obtain ⟨bk9, r9, f9, s9⟩ := hA.gr.done; have hnil := hA.gr.bss_nil StrR.flat; replace f9 := f9 (by rw [hnil]; exact Fr.nil _ _); rw [hnil] at s9; have r9 : StringSR u9 bk9 [v9] a.keys := r9; have r90 := r9; obtain ⟨A9, c9, hv9, _, _, _⟩ := r90.use; have how := hA.own; subst hv9; clear r90 ik kz ks kby
          have n10_31 : (World.heap u_27).size ∉ bk9 := fun h => by rcases s9 _ h with h | h; (cases h); rcases how with h2 | ⟨k, h2, h3⟩; (rw [h2] at h; exact (Nat.ne_of_lt l6_30) (by injection h)); (rw [h2] at h; have h4 : k = _ := (by injection h); have h5 := lt_of_cells e10_30; omega)
          have n12_31 : (World.heap u_0).size ∉ bk9 := fun h => by rcases s9 _ h with h | h; (cases h); rcases how with h2 | ⟨k, h2, h3⟩; (rw [h2] at h; exact (Ne.symm (Nat.ne_of_lt l12_27)) (by injection h)); (rw [h2] at h; have h4 : k = _ := (by injection h); have h5 := lt_of_cells e12_30; omega)
          clear hHeld; refine hK.out _ _ (show _ from ⟨cell_on d0 b_31, cell_on d1 b_31, cell_on d2 b_31, cell_on d3 b_31⟩) (fun hHeld => ?_)
          clear hK K
          (try simp only [Act.put, List.setIfInBounds_toArray, List.set_cons_zero, List.set_cons_succ])
          refine wpT_take (i := 11) rfl (by kernel_rfl) (fun _ _ _ h => h) (Or.inl ⟨by rfl, fun w hSw => by (try dsimp only at hSw); first | (go_simp; done) | (go_simp; with_reducible rfl)⟩) (by assumption) ?_
          (try simp only [Act.put, List.setIfInBounds_toArray, List.set_cons_zero, List.set_cons_succ])
          refine wpT_done (by kernel_rfl) ?_
          simp only [List.drop_succ_cons, List.drop_zero]
          clear hHeld
          have hst : OwnSt (((w.alloc (.cells #[.int .i64 a.kind, .int .i64 a.n, .string a.t, .slice A_a3 a.keys.length c_a3, .slice A_a4 a.items.length c_a4] 30)).alloc (.cells #[.int .i64 0, .int .i64 0, .string ⟨#[]⟩, .slice none 0 0, .slice none 0 0] 30))) a u9 (World.heap u_26).size (World.heap u_27).size (World.heap u_0).size A9 c9 bk9 #[.int .i64 0, .int .i64 0, .string ⟨#[]⟩, .slice none 0 0, .slice none 0 0] := ⟨e12_31, e10_31, (Ne.symm (Nat.ne_of_lt l12_30)), g10_30, g12_26, r9, f9, n10_31, n12_31, b_31⟩
          exact key.out _ _ _ _ _ _ _ hst
      · go_simp
        have l12_32 := lt_of_cells e12_26; have e12_32 := blk_old e12_26 (.cells #[] 30)
        have e10_32 := blk_new u_26 #[] 30
        have g10_32 := b_26.size
        have b_32 := b_26.alloc b_26.size (.cells #[] 30)
        clear hHeld; refine hK.out _ _ (show _ from ⟨cell_on d0 b_32, cell_on d1 b_32, cell_on d2 b_32, cell_on d3 b_32⟩) (fun hHeld => ?_)
        clear hK K
        (try simp only [Act.put, List.setIfInBounds_toArray, List.set_cons_zero, List.set_cons_succ])
        generalize hu_32 : (World.alloc u_26 (.cells #[] 30)) = u_32 at *
        refine wpT_one (i := 6) rfl (by kernel_rfl) (fun K hK => ?_)
        go_simp
        have l10_33 := lt_of_cells e10_32; have e10_33 := blk_old e10_32 (.cells #[] 9)
        have l12_33 := lt_of_cells e12_32; have e12_33 := blk_old e12_32 (.cells #[] 9)
        have e6_33 := blk_new u_32 #[] 9
        have g6_33 := b_32.size
        have b_33 := b_32.alloc b_32.size (.cells #[] 9)
        clear hHeld; refine hK.out _ _ (show _ from ⟨cell_on d0 b_33, cell_on d1 b_33, cell_on d2 b_33, cell_on d3 b_33⟩) (fun hHeld => ?_)
        clear hK K
        (try simp only [Act.put, List.setIfInBounds_toArray, List.set_cons_zero, List.set_cons_succ])
        generalize hu_33 : (World.alloc u_32 (.cells #[] 9)) = u_33 at *
        refine wpT_one (i := 9) rfl (by kernel_rfl) (fun K hK => ?_)
        have kk_34 := StringSR.good.nxt (nxt hbx b_33) KR0
        obtain ⟨ki, ik, kz, ks, kby⟩ := info_parts StringS.info
        refine step_append_sl StrR.good rfl _ _ 22 rfl Try.underlying22 ik kz ks kby rfl (by decide) rfl (Gr.raw (size := 1) (R := StrR) (lo := (World.heap (((w.alloc (.cells #[.int .i64 a.kind, .int .i64 a.n, .string a.t, .slice A_a3 a.keys.length c_a3, .slice A_a4 a.items.length c_a4] 30)).alloc (.cells #[.int .i64 0, .int .i64 0, .string ⟨#[]⟩, .slice none 0 0, .slice none 0 0] 30)))).size) g6_33 e6_33) kk_34 rfl StrR.one (fun b hb hv => by have h1 := klt.out b hb; have h9 : (World.heap u_32).size = b := (by injection hv); have h8 := g6_33; have h7 := HL.out; omega) (by have h00 : ([] : List ByteArray).length = 0 := rfl; have := HK.out.1; omega) (by have h00 : ([] : List ByteArray).length = 0 := rfl; have := HK.out.1; omega) b_33.size ?_; intro v9 u9 bss9 hA
        have b_34 := hA.below _ _ b_33 (Nat.le_refl _)
        have e10_34 := (hA.hold _ (lt_of_cells e10_33) (fun h => (Ne.symm (Nat.ne_of_lt l10_33)) (by injection h))).trans e10_33
        have e12_34 := (hA.hold _ (lt_of_cells e12_33) (fun h => (Ne.symm (Nat.ne_of_lt l12_33)) (by injection h))).trans e12_33
        obtain ⟨bk9, r9, f9, s9⟩ := hA.gr.done; have hnil := hA.gr.bss_nil StrR.flat; replace f9 := f9 (by rw [hnil]; exact Fr.nil _ _); rw [hnil] at s9; have r9 : StringSR u9 bk9 [v9] a.keys := r9; have r90 := r9; obtain ⟨A9, c9, hv9, _, _, _⟩ := r90.use; have how := hA.own; subst hv9; clear r90 ik kz ks kby
        have n10_34 : (World.heap u_26).size ∉ bk9 := fun h => by rcases s9 _ h with h | h; (cases h); rcases how with h2 | ⟨k, h2, h3⟩; (rw [h2] at h; exact (Ne.symm (Nat.ne_of_lt l10_33)) (by injection h)); (rw [h2] at h; have h4 : k = _ := (by injection h); have h5 := lt_of_cells e10_33; omega)
        have n12_34 : (World.heap u_0).size ∉ bk9 := fun h => by rcases s9 _ h with h | h; (cases h); rcases how with h2 | ⟨k, h2, h3⟩; (rw [h2] at h; exact (Ne.symm (Nat.ne_of_lt l12_33)) (by injection h)); (rw [h2] at h; have h4 : k = _ := (by injection h); have h5 := lt_of_cells e12_33; omega)
        clear hHeld; refine hK.out _ _ (show _ from ⟨cell_on d0 b_34, cell_on d1 b_34, cell_on d2 b_34, cell_on d3 b_34⟩) (fun hHeld => ?_)
        clear hK K
        (try simp only [Act.put, List.setIfInBounds_toArray, List.set_cons_zero, List.set_cons_succ])
        refine wpT_take (i := 11) rfl (by kernel_rfl) (fun _ _ _ h => h) (Or.inl ⟨by rfl, fun w hSw => by (try dsimp only at hSw); first | (go_simp; done) | (go_simp; with_reducible rfl)⟩) (by assumption) ?_
        (try simp only [Act.put, List.setIfInBounds_toArray, List.set_cons_zero, List.set_cons_succ])
        refine wpT_done (by kernel_rfl) ?_
        simp only [List.drop_succ_cons, List.drop_zero]
        clear hHeld
        have hst : OwnSt (((w.alloc (.cells #[.int .i64 a.kind, .int .i64 a.n, .string a.t, .slice A_a3 a.keys.length c_a3, .slice A_a4 a.items.length c_a4] 30)).alloc (.cells #[.int .i64 0, .int .i64 0, .string ⟨#[]⟩, .slice none 0 0, .slice none 0 0] 30))) a u9 (World.heap u_32).size (World.heap u_26).size (World.heap u_0).size A9 c9 bk9 #[.int .i64 0, .int .i64 0, .string ⟨#[]⟩, .slice none 0 0, .slice none 0 0] := ⟨e12_34, e10_34, (Ne.symm (Nat.ne_of_lt l12_32)), g10_32, g12_26, r9, f9, n10_34, n12_34, b_34⟩
        exact key.out _ _ _ _ _ _ _ hst
  case k =>
    intro n6 n10 n12 U A9 c9 bk9 hst
    clear d0 d1 d2 d3 d4; have hb0 := hst.below; have q_aW := q_a; have q_resW := q_res; have R_resW := R_res; replace q_a := box_on q_a rfl hb0; replace q_res := box_on q_res rfl hb0; replace R_res := blk_on R_res hb0; replace R_free := blk_free R_res
    have R_out := hst.box; have R_free_out := blk_free R_out
    have BS : (World.heap (World.setCell (World.setCell (World.setCell (World.setCell (World.setCell U ⟨n12, 0, none⟩ (.int .i64 a.kind)) ⟨n12, 1, none⟩ (.int .i64 a.n)) ⟨n12, 2, none⟩ (.string a.t)) ⟨n12, 3, none⟩ (.slice A9 a.keys.length c9)) ⟨n12, 4, none⟩ (.slice (some ⟨n10, 0, none⟩) 0 0)))[n12]? = some (.cells #[.int .i64 a.kind, .int .i64 a.n, .string a.t, .slice A9 a.keys.length c9, .slice (some ⟨n10, 0, none⟩) 0 0] 30 (0, 0)) := (blk_set (blk_set (blk_set (blk_set (blk_set R_out 0 (.int .i64 a.kind)) 1 (.int .i64 a.n)) 2 (.string a.t)) 3 (.slice A9 a.keys.length c9)) 4 (.slice (some ⟨n10, 0, none⟩) 0 0))
    have US := ((((((Upd.refl [n12] U).set (p := ⟨n12, 0, none⟩) (by simp) rfl (.int .i64 a.kind)).set (p := ⟨n12, 1, none⟩) (by simp) rfl (.int .i64 a.n)).set (p := ⟨n12, 2, none⟩) (by simp) rfl (.string a.t)).set (p := ⟨n12, 3, none⟩) (by simp) rfl (.slice A9 a.keys.length c9)).set (p := ⟨n12, 4, none⟩) (by simp) rfl (.slice (some ⟨n10, 0, none⟩) 0 0))
    have BL := hide ((((((hb0.setCell (p := ⟨n12, 0, none⟩) hst.l12 (.int .i64 a.kind)).setCell (p := ⟨n12, 1, none⟩) hst.l12 (.int .i64 a.n)).setCell (p := ⟨n12, 2, none⟩) hst.l12 (.string a.t)).setCell (p := ⟨n12, 3, none⟩) hst.l12 (.slice A9 a.keys.length c9)).setCell (p := ⟨n12, 4, none⟩) hst.l12 (.slice (some ⟨n10, 0, none⟩) 0 0))); have BS := hide BS
    have hX0 : ∀ x ∈ n12 :: bk9, n10 ≠ x := fun x hx e => by rcases List.mem_cons.1 hx with h | h; (exact hst.ne (e.trans h)); exact hst.k10 (e ▸ h)
    have hn9 : ∀ b ∈ bk9, b ∉ [n12] := fun b hb hm => by have h : b = n12 := (by simpa using hm); exact hst.k12 (h ▸ hb)
    have hG1 := hide (OwnX.raw (size := 5) (R := JsonR) (lo := (World.heap (((w.alloc (.cells #[.int .i64 a.kind, .int .i64 a.n, .string a.t, .slice A_a3 a.keys.length c_a3, .slice A_a4 a.items.length c_a4] 30)).alloc (.cells #[.int .i64 0, .int .i64 0, .string ⟨#[]⟩, .slice none 0 0, .slice none 0 0] 30)))).size) (X := n12 :: bk9) hst.l10 ((US.far n10 (lt_of_cells hst.row) (fun hm => hst.ne (by simpa using hm))).trans hst.row) hX0)
    have KK := hide (And.intro (StringSR.good.upd hst.keys US hn9) (hst.fr.upd US))
    have Hne := hide hst.ne; have H12 := hide hst.l12; have Hk12 := hide hst.k12; clear hst hn9 hX0 US; have q_out := blk_cells R_out
    go_wp2_with fail
    go_loopw [4] (fun i wr => ∃ (k : Nat) (v : Value), k ≤ a.items.length ∧ i = .int .i64 k ∧ Hid (OwnX 5 JsonR 30 (World.heap (((w.alloc (.cells #[.int .i64 a.kind, .int .i64 a.n, .string a.t, .slice A_a3 a.keys.length c_a3, .slice A_a4 a.items.length c_a4] 30)).alloc (.cells #[.int .i64 0, .int .i64 0, .string ⟨#[]⟩, .slice none 0 0, .slice none 0 0] 30)))).size (n12 :: bk9) wr v (a.items.take k)) ∧ Hid (wr.heap[n12]? = some (.cells #[.int .i64 a.kind, .int .i64 a.n, .string a.t, .slice A9 a.keys.length c9, v] 30 (0, 0))) ∧ Hid (StringSR wr bk9 [.slice A9 a.keys.length c9] a.keys ∧ Fr (World.heap (((w.alloc (.cells #[.int .i64 a.kind, .int .i64 a.n, .string a.t, .slice A_a3 a.keys.length c_a3, .slice A_a4 a.items.length c_a4] 30)).alloc (.cells #[.int .i64 0, .int .i64 0, .string ⟨#[]⟩, .slice none 0 0, .slice none 0 0] 30)))).size wr bk9) ∧ Below (World.heap (((w.alloc (.cells #[.int .i64 a.kind, .int .i64 a.n, .string a.t, .slice A_a3 a.keys.length c_a3, .slice A_a4 a.items.length c_a4] 30)).alloc (.cells #[.int .i64 0, .int .i64 0, .string ⟨#[]⟩, .slice none 0 0, .slice none 0 0] 30)))).size (((w.alloc (.cells #[.int .i64 a.kind, .int .i64 a.n, .string a.t, .slice A_a3 a.keys.length c_a3, .slice A_a4 a.items.length c_a4] 30)).alloc (.cells #[.int .i64 0, .int .i64 0, .string ⟨#[]⟩, .slice none 0 0, .slice none 0 0] 30))) wr) (fun i _ => a.items.length - (intOf i).toNat)
    case atStart => exact ⟨0, _, Nat.zero_le _, rfl, hG1, BS, KK, BL.out⟩
    case round =>
      clear hG1 BS KK BL q_out R_out R_free_out q_a q_res R_res R_free; obtain ⟨k, v, hk, rfl, hG, hB, hK, hbr⟩ := hrel
      have hwr := nxt hbx hbr; obtain ⟨wl, rfl⟩ : ∃ w' : World, w' = wr := ⟨_, rfl⟩
      replace q_a := box_on q_aW rfl hbr; replace q_res := box_on q_resW rfl hbr; replace R_res := blk_on R_resW hbr; replace R_free := blk_free R_res
      have hsz := hbr.size; rw [HL.out] at hsz; have BF := blk_free hB.out; have hBl := lt_of_cells hB.out
      have c0 : wl.cell? ⟨n12, 0, none⟩ = some (.int .i64 a.kind) := blk_cells hB.out 0
      have c1 : wl.cell? ⟨n12, 1, none⟩ = some (.int .i64 a.n) := blk_cells hB.out 1
      have c2 : wl.cell? ⟨n12, 2, none⟩ = some (.string a.t) := blk_cells hB.out 2
      have c3 : wl.cell? ⟨n12, 3, none⟩ = some (.slice A9 a.keys.length c9) := blk_cells hB.out 3
      have c4 : wl.cell? ⟨n12, 4, none⟩ = some (v) := blk_cells hB.out 4
      have d4 := box_cell q_a 4 rfl
      by_cases hlt : k < a.items.length
      · obtain ⟨gb, go, gbk, ges, rfl, ghbl, ghcl, ghcell, gR, ghbk⟩ := hel_a4 k hlt
        have gR0 := gR
        obtain ⟨gv3, gb3, gv4, gb4, _, ghes, ghf, gr3, gr4⟩ := gR.open
        subst ghes
        obtain ⟨gA3, gc3, rfl, ghlc3, ghcm3, ghel3⟩ := gr3.use
        obtain ⟨gA4, gc4, rfl, ghlc4, ghcm4, ghel4⟩ := gr4.use
        have g_0 := (hwr.cell (p := ⟨gb, _, none⟩) ghbl).trans (ghcell 0 _ rfl)
        have g_1 := (hwr.cell (p := ⟨gb, _, none⟩) ghbl).trans (ghcell 1 _ rfl)
        have g_2 := (hwr.cell (p := ⟨gb, _, none⟩) ghbl).trans (ghcell 2 _ rfl)
        have g_3 := (hwr.cell (p := ⟨gb, _, none⟩) ghbl).trans (ghcell 3 _ rfl)
        have g_4 := (hwr.cell (p := ⟨gb, _, none⟩) ghbl).trans (ghcell 4 _ rfl)
        simp only [Nat.add_zero] at g_0 g_1 g_2 g_3 g_4
        clear hel_a4
        have hbdt : Hid ((a.items.take k).length ≤ 1048576) := by show _ ≤ _; rw [List.length_take]; have := HK.out.2.1; omega
        have hws := hwr.size; have HC := hide (IH (JsonR.good.nxt hwr.drew gR0) (hgp.out k hlt) (HK.out.2.2 _ hlt))
        have hX : ∀ x ∈ n12 :: bk9, x < wl.heap.size := fun x hx => by rcases List.mem_cons.1 hx with h | h; (rw [h]; exact hBl); exact Fr.lt hK.out.2 x h
        have HX := hide hX; clear hX
        go_wp2_with fail
        refine wp_region_tail (fun w' => w'.cell? ⟨n12, 4, none⟩ = some (v) ∧ w'.cell? ⟨w.heap.size, 4, none⟩ = some (.slice (some ⟨gb, go, none⟩) a.items.length c_a4) ∧ w'.cell? ⟨gb, go + k * 5, none⟩ = some (.int .i64 a.items[k].kind) ∧ w'.cell? ⟨gb, go + k * 5 + 1, none⟩ = some (.int .i64 a.items[k].n) ∧ w'.cell? ⟨gb, go + k * 5 + 2, none⟩ = some (.string a.items[k].t) ∧ w'.cell? ⟨gb, go + k * 5 + 3, none⟩ = some (.slice gA3 a.items[k].keys.length gc3) ∧ w'.cell? ⟨gb, go + k * 5 + 4, none⟩ = some (.slice gA4 a.items[k].items.length gc4)) 11 (by kernel_rfl) (by decide) (show _ from ⟨c4, d4, g_0, g_1, g_2, g_3, g_4⟩) (fun hHeld => ?_)
        refine wpT_take (i := 0) rfl (by kernel_rfl) (fun _ _ _ h => h) (Or.inl ⟨by rfl, fun w hSw => by (try dsimp only at hSw); first | (go_simp; done) | (go_simp; with_reducible rfl)⟩) (by assumption) ?_
        (try simp only [Act.put, List.setIfInBounds_toArray, List.set_cons_zero, List.set_cons_succ])
        refine wpT_take (i := 1) rfl (by kernel_rfl) (fun _ _ _ h => h) (Or.inl ⟨by rfl, fun w hSw => by (try dsimp only at hSw); first | (go_simp; done) | (go_simp; with_reducible rfl)⟩) (by assumption) ?_
        (try simp only [Act.put, List.setIfInBounds_toArray, List.set_cons_zero, List.set_cons_succ])
        refine wpT_take (i := 2) rfl (by kernel_rfl) (fun _ _ _ h => h) (Or.inl ⟨by rfl, fun w hSw => by (try dsimp only at hSw); first | (go_simp; done) | (go_simp; with_reducible rfl)⟩) (by assumption) ?_
        (try simp only [Act.put, List.setIfInBounds_toArray, List.set_cons_zero, List.set_cons_succ])
        refine wpT_take (i := 3) rfl (by kernel_rfl) (fun _ _ _ h => h) (Or.inl ⟨by rfl, fun w hSw => by (try dsimp only at hSw); first | (go_simp; done) | (go_simp; with_reducible rfl)⟩) (by assumption) ?_
        (try simp only [Act.put, List.setIfInBounds_toArray, List.set_cons_zero, List.set_cons_succ])
        refine wpT_take (i := 4) rfl (by kernel_rfl) (fun _ _ _ h => h) (Or.inl ⟨by rfl, fun w hSw => by (try dsimp only at hSw); first | (go_simp; done) | (go_simp; with_reducible rfl)⟩) (by assumption) ?_
        (try simp only [Act.put, List.setIfInBounds_toArray, List.set_cons_zero, List.set_cons_succ])
        refine wpT_take (i := 5) rfl (by kernel_rfl) (fun _ _ _ h => h) (Or.inl ⟨by rfl, fun w hSw => by (try dsimp only at hSw); first | (go_simp; done) | (go_simp; with_reducible rfl)⟩) (by assumption) ?_
        (try simp only [Act.put, List.setIfInBounds_toArray, List.set_cons_zero, List.set_cons_succ])
        refine wpT_take (i := 6) rfl (by kernel_rfl) (fun _ _ _ h => h) (Or.inl ⟨by rfl, fun w hSw => by (try dsimp only at hSw); first | (go_simp; done) | (go_simp; with_reducible rfl)⟩) (by assumption) ?_
        (try simp only [Act.put, List.setIfInBounds_toArray, List.set_cons_zero, List.set_cons_succ])
        refine wpT_one (i := 7) rfl (by kernel_rfl) (fun K hK => ?_)
        go_simp; go_at_call 57; refine HC.out.mono ?_; rintro e w2 ⟨cs3, bs3, rfl, r3, f3, hb20⟩; have hb2 : Below wl.heap.size wl w2 := nxt' (Below.refl wl.heap.size wl).drew hb20; have r30 := r3; obtain ⟨u3, ub3, u4, ub4, _, rfl, _, ur3, ur4⟩ := r3.open; obtain ⟨uA3, uc3, rfl, _, _, _⟩ := ur3.use; obtain ⟨uA4, uc4, rfl, _, _, _⟩ := ur4.use; clear r3 ur3 ur4; have c4_2 := cell_on c4 hb2; have d4_2 := cell_on d4 hb2; have g_0_2 := cell_on g_0 hb2; have g_1_2 := cell_on g_1 hb2; have g_2_2 := cell_on g_2 hb2; have g_3_2 := cell_on g_3 hb2; have g_4_2 := cell_on g_4 hb2
        clear hHeld; refine hK.out _ _ (show _ from ⟨c4_2, d4_2, g_0_2, g_1_2, g_2_2, g_3_2, g_4_2⟩) (fun hHeld => ?_)
        clear hK K
        (try simp only [Act.put, List.setIfInBounds_toArray, List.set_cons_zero, List.set_cons_succ])
        refine wpT_one (i := 8) rfl (by kernel_rfl) (fun K hK => ?_)
        go_simp
        clear hHeld; refine hK.out _ _ (show _ from ⟨cell_al c4_2 _, cell_al d4_2 _, cell_al g_0_2 _, cell_al g_1_2 _, cell_al g_2_2 _, cell_al g_3_2 _, cell_al g_4_2 _⟩) (fun hHeld => ?_)
        clear hK K
        (try simp only [Act.put, List.setIfInBounds_toArray, List.set_cons_zero, List.set_cons_succ])
        refine wpT_one (i := 9) rfl (by kernel_rfl) (fun K hK => ?_)
        obtain ⟨ij, ji, jz, js, jby⟩ := info_parts JsonS.info; refine step_append_ownX JsonR.good rfl _ _ 28 rfl Try.underlying28 ji jz js jby rfl (by decide) JsonR.one (v := v) (by rfl) hG.out hb2 HX.out (y := a.items[k]) (cy := [.int .i64 a.items[k].kind, .int .i64 a.items[k].n, .string a.items[k].t, .slice uA3 a.items[k].keys.length uc3, .slice uA4 a.items[k].items.length uc4]) r30 f3 (by rfl) rfl (by have := hbdt.out; omega) (by have := hbdt.out; omega) hbr.size ?_; intro v3 w3 hO hB3 hz3 hold holdW; obtain ⟨O3, n3, cO3, hv3⟩ : ∃ A n c, v3 = .slice A n c := (by obtain ⟨A, c, h, _⟩ := hO.own.form; exact ⟨A, _, c, h⟩); subst hv3; have hb3 := hB3 _ _ (nxt hbr hb2) (Nat.le_refl _); have BB := (hold n12 (by simp)).trans (blk_on hB.out hb2); have BF := blk_free BB; have c4_3 : w3.cell? ⟨n12, 4, none⟩ = some v := blk_cells BB 4; have d4_3 : w3.cell? ⟨w.heap.size, 4, none⟩ = some (.slice (some ⟨gb, go, none⟩) a.items.length c_a4) := box_cell (box_on q_aW rfl hb3) 4 rfl; have g_0_3 : w3.cell? ⟨gb, go + k * 5, none⟩ = some (.int .i64 a.items[k].kind) := (by have := ((nxt hbx hb3).cell (p := ⟨gb, _, none⟩) ghbl).trans (ghcell 0 _ rfl); simpa using this); have g_1_3 : w3.cell? ⟨gb, go + k * 5 + 1, none⟩ = some (.int .i64 a.items[k].n) := (by have := ((nxt hbx hb3).cell (p := ⟨gb, _, none⟩) ghbl).trans (ghcell 1 _ rfl); simpa using this); have g_2_3 : w3.cell? ⟨gb, go + k * 5 + 2, none⟩ = some (.string a.items[k].t) := (by have := ((nxt hbx hb3).cell (p := ⟨gb, _, none⟩) ghbl).trans (ghcell 2 _ rfl); simpa using this); have g_3_3 : w3.cell? ⟨gb, go + k * 5 + 3, none⟩ = some (.slice gA3 a.items[k].keys.length gc3) := (by have := ((nxt hbx hb3).cell (p := ⟨gb, _, none⟩) ghbl).trans (ghcell 3 _ rfl); simpa using this); have g_4_3 : w3.cell? ⟨gb, go + k * 5 + 4, none⟩ = some (.slice gA4 a.items[k].items.length gc4) := (by have := ((nxt hbx hb3).cell (p := ⟨gb, _, none⟩) ghbl).trans (ghcell 4 _ rfl); simpa using this)
        clear hHeld; refine hK.out _ _ (show _ from ⟨c4_3, d4_3, g_0_3, g_1_3, g_2_3, g_3_3, g_4_3⟩) (fun hHeld => ?_)
        clear hK K
        (try simp only [Act.put, List.setIfInBounds_toArray, List.set_cons_zero, List.set_cons_succ])
        refine wpT_take (i := 10) rfl (by kernel_rfl) (fun _ _ _ h => h) (Or.inl ⟨by rfl, fun w hSw => by (try dsimp only at hSw); first | (go_simp; done) | (go_simp; with_reducible rfl)⟩) (by assumption) ?_
        (try simp only [Act.put, List.setIfInBounds_toArray, List.set_cons_zero, List.set_cons_succ])
        refine wpT_done (by kernel_rfl) ?_
        simp only [List.drop_succ_cons, List.drop_zero]
        clear hHeld
        have hkeep : ∀ x ∈ bk9, (w3.setCell ⟨n12, 4, none⟩ (.slice O3 n3 cO3)).heap[x]? = wl.heap[x]? := fun x hx => (blk_far (p := ⟨n12, 4, none⟩) (fun e => Hk12.out (by have e : x = n12 := e; rw [← e]; exact hx)) _).trans ((hold x (List.mem_cons_of_mem _ hx)).trans (hb2.block x (Fr.lt hK.out.2 x hx)))
        go_wp2_with fail
        go_roundw
        case rel => exact ⟨k + 1, _, hlt, by go_num, by rw [take_step hlt]; exact hO.set JsonR.good (by simp) 4 (.slice O3 n3 cO3), blk_set BB 4 (.slice O3 n3 cO3), ⟨StringSR.good.keep hK.out.1 hkeep, hK.out.2.keep hkeep⟩, hb3.setCell (p := ⟨n12, 4, none⟩) H12.out _⟩
        case measure => simp [intOf]; omega
      · obtain rfl : k = a.items.length := by omega
        have hG2 := hG.out; rw [List.take_length] at hG2; have HG := hide hG2; obtain ⟨O, cO, hv, _, _⟩ := hG2.own.form; subst hv; clear hel_a4 hG hG2
        go_wp2_with fail
        have fin : _ = some (Obj.cells #[.int .i64 a.kind, .int .i64 a.n, .string a.t, .slice A9 a.keys.length c9, .slice O a.items.length cO] 30 (0, 0)) := (blk_set (blk_set (blk_set (blk_set (blk_set R_res 0 (.int .i64 a.kind)) 1 (.int .i64 a.n)) 2 (.string a.t)) 3 (.slice A9 a.keys.length c9)) 4 (.slice O a.items.length cO))
        have fc := blk_cells fin
        have HU := ((((((Upd.refl [w.heap.size + 1] wl).set (p := ⟨w.heap.size + 1, 0, none⟩) (by simp) rfl (.int .i64 a.kind)).set (p := ⟨w.heap.size + 1, 1, none⟩) (by simp) rfl (.int .i64 a.n)).set (p := ⟨w.heap.size + 1, 2, none⟩) (by simp) rfl (.string a.t)).set (p := ⟨w.heap.size + 1, 3, none⟩) (by simp) rfl (.slice A9 a.keys.length c9)).set (p := ⟨w.heap.size + 1, 4, none⟩) (by simp) rfl (.slice O a.items.length cO))
        refine bodyPost_ret (v := .agg #[.int .i64 a.kind, .int .i64 a.n, .string a.t, .slice A9 a.keys.length c9, .slice O a.items.length cO]) (by simp [results, Try.results57, go_sem, fc]) rfl ?_
        obtain ⟨bs', q1, q2, q3⟩ := HG.out.done
        have hn_bs : ∀ b ∈ bs', b ∉ [w.heap.size + 1] := fun b hb hm => by have := (q2.2 b hb).1; simp at this hm; omega
        have hn_bk : ∀ b ∈ bk9, b ∉ [w.heap.size + 1] := fun b hb hm => by have := (hK.out.2.2 b hb).1; simp at this hm; omega
        exact ⟨[.int .i64 a.kind, .int .i64 a.n, .string a.t, .slice A9 a.keys.length c9, .slice O a.items.length cO], bk9 ++ bs', rfl, JsonR.shut (a := a) hf_a (StringSR.good.upd hK.out.1 HU hn_bk) (JsonSR.good.upd q1 HU hn_bs), (Fr.two (hK.out.2.upd HU) (q2.upd HU) (fun b hb => q3 b (List.mem_cons_of_mem _ hb))).mono (by simp; omega), (((((hwr.setCell (p := ⟨w.heap.size + 1, 0, none⟩) (by simp) (.int .i64 a.kind)).setCell (p := ⟨w.heap.size + 1, 1, none⟩) (by simp) (.int .i64 a.n)).setCell (p := ⟨w.heap.size + 1, 2, none⟩) (by simp) (.string a.t)).setCell (p := ⟨w.heap.size + 1, 3, none⟩) (by simp) (.slice A9 a.keys.length c9)).setCell (p := ⟨w.heap.size + 1, 4, none⟩) (by simp) (.slice O a.items.length cO))⟩
theorem spec_l01Own : ∀ d, CJ 57 d
  | 0 => fun _ hg _ => by cases hg
  | d + 1 => fun H hg hk => own_step (@spec_l01Own d) H hg hk
end Go.Proofs.Ythglchopajdmhaa
