/- Calls that write into memory that was handed to them: what they write into, what a row reads as behind it. No statement is proved here; no conditions. -/
import Derived.Test.YtdleccpjejdgiaaGreatDoorOwn
namespace Go.Proofs.YtdleccpjejdgiaaGreatDoor
open Go.ChangeShapes Go.WideShapes Go.ChangeAt Go.RowKit Go.Deep
set_option maxRecDepth 100000
set_option linter.unusedVariables false

/-- A call has written into the blocks 'bs' alone, of those that were there; cells stay cells. -/
structure Upd (bs : List Nat) (w w' : World) : Prop where
  below : ∀ B, B ≤ w.heap.size → (∀ b ∈ bs, B ≤ b) → Below B w w'
  far : ∀ b, b < w.heap.size → b ∉ bs → w'.heap[b]? = w.heap[b]?
  cells : ∀ (b : Nat) (cur : Array Value) (e : TypeId), w.heap[b]? = some (.cells cur e (0, 0)) → ∃ cur' : Array Value, w'.heap[b]? = some (.cells cur' e (0, 0)) ∧ cur'.size = cur.size
theorem Upd.refl (bs : List Nat) (w : World) : Upd bs w w := ⟨fun B _ _ => Below.refl B w, fun _ _ _ => rfl, fun _ cur _ h => ⟨cur, h, rfl⟩⟩
theorem Upd.size {bs : List Nat} {w w' : World} (h : Upd bs w w') : w.heap.size ≤ w'.heap.size := (h.below 0 (Nat.zero_le _) (fun _ _ => Nat.zero_le _)).size
theorem Upd.set {bs : List Nat} {w w1 : World} (h : Upd bs w w1) {p : Addr} (hg : p.block ∈ bs) (hs : p = ⟨p.block, p.off, none⟩) (u : Value) : Upd bs w (w1.setCell p u) where
  below := fun B hB hb => (h.below B hB hb).setCell (hb _ hg) u
  far := fun b hb hn => (blk_far (by rintro rfl; exact hn hg) u).trans (h.far b hb hn)
  cells := fun b cur e hc => by
    obtain ⟨cur1, h1, h2⟩ := h.cells b cur e hc
    by_cases hbg : b = p.block
    · rw [hs, hbg]
      rw [hbg] at h1
      exact ⟨cur1.setIfInBounds p.off u, blk_set h1 p.off u, by simpa using h2⟩
    · exact ⟨cur1, (blk_far hbg u).trans h1, h2⟩
theorem Upd.call {bs : List Nat} {w w1 w2 : World} (h : Upd bs w w1) (hb : Below w1.heap.size w1 w2) : Upd bs w w2 where
  below := fun B hB hs => (h.below B hB hs).trans (hb.mono (Nat.le_trans hB h.size))
  far := fun b hl hn => (hb.block b (Nat.lt_of_lt_of_le hl h.size)).trans (h.far b hl hn)
  cells := fun b cur e hc => by
    obtain ⟨cur1, h1, h2⟩ := h.cells b cur e hc
    exact ⟨cur1, blk_on h1 hb, h2⟩
theorem Upd.trans {bs cs : List Nat} {w w1 w2 : World} (h : Upd bs w w1) (k : Upd cs w1 w2) (hs : ∀ b ∈ cs, b ∈ bs) : Upd bs w w2 where
  below := fun B hB hb => (h.below B hB hb).trans (k.below B (Nat.le_trans hB h.size) fun b hm => hb b (hs b hm))
  far := fun b hl hn => (k.far b (Nat.lt_of_lt_of_le hl h.size) fun hm => hn (hs b hm)).trans (h.far b hl hn)
  cells := fun b cur e hc => by
    obtain ⟨cur1, h1, h2⟩ := h.cells b cur e hc
    obtain ⟨cur2, h3, h4⟩ := k.cells b cur1 e h1
    exact ⟨cur2, h3, h4.trans h2⟩
theorem Upd.of {bs : List Nat} {w w2 : World} (hb : Below w.heap.size w w2) : Upd bs w w2 := (Upd.refl bs w).call hb
theorem Upd.wide {bs cs : List Nat} {w w2 : World} (h : Upd bs w w2) (hs : ∀ b ∈ bs, b ∈ cs) : Upd cs w w2 := (Upd.refl cs w).trans h hs
theorem Fr.upd {lo : Nat} {bs cs : List Nat} {w w' : World} (h : Fr lo w cs) (hu : Upd bs w w') : Fr lo w' cs :=
  ⟨h.1, fun b hb => by
    obtain ⟨h1, cur, e, hc⟩ := h.2 b hb
    obtain ⟨cur', h2, _⟩ := hu.cells b cur e hc
    exact ⟨h1, cur', e, h2⟩⟩
theorem Good.upd {α : Type} {R : Rd α} (g : Good R) {bs b1 : List Nat} {w w' : World} {cs : List Value} {x : α} (h : R w b1 cs x) (hu : Upd bs w w') (hn : ∀ b ∈ b1, b ∉ bs) : R w' b1 cs x :=
  g.keep h fun b hb => hu.far b (g.lt h b hb) (hn b hb)
theorem Upd.under {lo : Nat} {bs : List Nat} {w w' : World} (h : Upd bs w w') (hf : Fr lo w bs) (hl : lo ≤ w.heap.size) : Below lo w w' := h.below lo hl fun b hb => (hf.2 b hb).1

theorem box_upd {w1 w2 : World} {bs : List Nat} {b : Nat} {cs : Array Value} {v : Value} (q : ∀ j, w1.cell? ⟨b, j, none⟩ = cs[j]?) (h0 : cs[0]? = some v) (u : Upd bs w1 w2) (hn : b ∉ bs) (j : Nat) : w2.cell? ⟨b, j, none⟩ = cs[j]? := by
  rw [← q j]
  exact World.cell?_of_block (w := w1) (u.far b (World.block_lt_of_cell? w1 ⟨b, 0, none⟩ ((q 0).trans h0)) hn)

/-! ### What a function hands back: a row or a struct of its own, and a code -/
section
variable {α : Type}
def OutS (R : Rd α) (w : World) (a : α) (co : Int) (e : Ending) (w' : World) : Prop := ∃ v bs, e = .returned (.tuple #[v, .int .i64 co]) ∧ R w' bs [v] a ∧ Fr w.heap.size w' bs ∧ Below w.heap.size w w'
def OutP (R : Rd α) (w : World) (a : α) (co : Int) (e : Ending) (w' : World) : Prop := ∃ cs bs, e = .returned (.tuple #[.agg cs.toArray, .int .i64 co]) ∧ R w' bs cs a ∧ Fr w.heap.size w' bs ∧ Below w.heap.size w w'
def SeeS (R : Rd α) (w : World) (a : α) (co : Int) (e : Ending) (w' : World) : Prop := ∃ v bs, e = .returned (.tuple #[v, .int .i64 co]) ∧ R w' bs [v] a ∧ Below w.heap.size w w'
def SeeP (R : Rd α) (w : World) (a : α) (co : Int) (e : Ending) (w' : World) : Prop := ∃ cs bs, e = .returned (.tuple #[.agg cs.toArray, .int .i64 co]) ∧ R w' bs cs a ∧ Below w.heap.size w w'
def See1 (R : Rd α) (w : World) (a : α) (e : Ending) (w' : World) : Prop := ∃ cs bs, e = .returned (.agg cs.toArray) ∧ R w' bs cs a ∧ Below w.heap.size w w'
end

/-! ### The marks of a row -/
section
variable {α : Type} {mk : α → Int → α} {wt : α → Nat}
def mkUp (mk : α → Int → α) (wt : α → Nat) (xs : List α) (k : Int) (i : Nat) : List α := xs.mapIdx fun j x => if j < i then mk x (k + psum wt xs j) else x
theorem mkUp_len (xs : List α) (k : Int) (i : Nat) : (mkUp mk wt xs k i).length = xs.length := by simp [mkUp]
theorem mkUp_zero (xs : List α) (k : Int) : mkUp mk wt xs k 0 = xs := by
  apply List.ext_getElem (mkUp_len xs k 0)
  intro i h1 h2; simp [mkUp]
theorem mkUp_at {xs : List α} {k : Int} {i j : Nat} (hj : j < (mkUp mk wt xs k i).length) (hl : j < xs.length) : (mkUp mk wt xs k i)[j] = if j < i then mk xs[j] (k + psum wt xs j) else xs[j] := by simp [mkUp]
theorem mkUp_here {xs : List α} {k : Int} {i : Nat} (hj : i < (mkUp mk wt xs k i).length) (hl : i < xs.length) : (mkUp mk wt xs k i)[i] = xs[i] := by rw [mkUp_at hj hl, if_neg (by omega)]
theorem mkUp_succ (xs : List α) (k : Int) (i : Nat) (h : i < xs.length) : mkUp mk wt xs k (i + 1) = (mkUp mk wt xs k i).set i (mk xs[i] (k + psum wt xs i)) := by
  apply List.ext_getElem (by simp [mkUp_len])
  intro j h1 h2
  rw [mkUp_len] at h1
  rw [List.getElem_set, mkUp_at _ h1]
  by_cases hj : i = j
  · subst hj; rw [if_pos (by omega), if_pos rfl]
  · rw [if_neg hj, mkUp_at _ h1]
    by_cases h3 : j < i
    · rw [if_pos h3, if_pos (by omega)]
    · rw [if_neg h3, if_neg (by omega)]
end

/-! ### A row of the call's own, element i written anew -/
section
variable {α : Type} {R : Rd α} {size : Nat}
theorem nodup_other {bss : List (List Nat)} (h : bss.flatten.Nodup) {i j : Nat} {bi bj : List Nat} (hi : bss[i]? = some bi) (hj : bss[j]? = some bj) (hij : i ≠ j) {x : Nat} (hx : x ∈ bj) : x ∉ bi := by
  intro hx2
  have hp := (List.pairwise_flatten.1 h).2
  have hil : i < bss.length := by
    rcases Nat.lt_or_ge i bss.length with h' | h'
    · exact h'
    · rw [List.getElem?_eq_none h'] at hi; cases hi
  have hjl : j < bss.length := by
    rcases Nat.lt_or_ge j bss.length with h' | h'
    · exact h'
    · rw [List.getElem?_eq_none h'] at hj; cases hj
  rw [List.getElem?_eq_getElem hil] at hi; injection hi with hi
  rw [List.getElem?_eq_getElem hjl] at hj; injection hj with hj
  rcases Nat.lt_or_gt_of_ne hij with h1 | h1
  · exact (List.pairwise_iff_getElem.1 hp i j hil hjl h1) x (hi ▸ hx2) x (hj ▸ hx) rfl
  · exact (List.pairwise_iff_getElem.1 hp j i hjl hil h1) x (hj ▸ hx) x (hi ▸ hx2) rfl
/-- What a writer of element i wants: where it lies, and what the row reads as when it has been written. -/
theorem SlR.at {w : World} {lo : Nat} {bs : List Nat} {A : Option Addr} {n c : Nat} {ys : List α} (g : Good R) (h : SlR size R w bs [.slice A n c] ys) (hf : Fr lo w bs) {i : Nat} (hi : i < ys.length) :
    ∃ b o bk es cur e, A = some ⟨b, o, none⟩ ∧ w.heap[b]? = some (.cells cur e (0, 0)) ∧ b ∈ bs ∧ b ∉ bk ∧ (∀ x ∈ bk, x ∈ bs) ∧ es.length = size ∧ (∀ j u, es[j]? = some u → cur[o + i * size + j]? = some u) ∧ R w bk es ys[i] ∧ Fr lo w bk ∧
      ∀ w' cur' es' y, Upd (b :: bk) w w' → w'.heap[b]? = some (.cells cur' e (0, 0)) → es'.length = size → (∀ j u, es'[j]? = some u → cur'[o + i * size + j]? = some u) →
        (∀ p, p < o + i * size ∨ o + i * size + size ≤ p → cur'[p]? = cur[p]?) → R w' bk es' y → SlR size R w' bs [.slice A n c] (ys.set i y) := by
  obtain ⟨A', c', hv, h1, h2, h3⟩ := h
  obtain ⟨rfl, rfl, rfl⟩ : A = A' ∧ n = ys.length ∧ c = c' := by simpa using hv
  rcases h3 with ⟨rfl, _⟩ | ⟨b, o, bss, rfl, hb, hl, rfl, hel⟩
  · simp at hi
  have hnd := List.nodup_cons.1 hf.1
  obtain ⟨hlo, cur, e, hcur⟩ := hf.2 b (by simp)
  have hil : i < bss.length := by omega
  have hbi : bss[i]? = some bss[i] := List.getElem?_eq_getElem hil
  obtain ⟨es, he, hc, hr⟩ := hel i ys[i] bss[i] (List.getElem?_eq_getElem hi) hbi
  have hsub : ∀ x ∈ bss[i], x ∈ bss.flatten := fun x hx => List.mem_flatten.2 ⟨_, List.getElem_mem hil, hx⟩
  have hndi : bss[i].Nodup := (List.pairwise_flatten.1 hnd.2).1 _ (List.getElem_mem hil)
  refine ⟨b, o, bss[i], es, cur, e, rfl, hcur, by simp, fun hm => hnd.1 (hsub b hm), fun x hx => List.mem_cons_of_mem _ (hsub x hx), he, fun j u hu => by rw [← blk_cells hcur]; exact hc j u hu, hr,
    ⟨hndi, fun x hx => hf.2 x (List.mem_cons_of_mem _ (hsub x hx))⟩, ?_⟩
  intro w' cur' es' y hu hcur' hle hin hout hry
  refine ⟨some ⟨b, o, none⟩, c, by rw [List.length_set], by rw [List.length_set]; exact h1, h2, .inr ⟨b, o, bss, rfl, lt_of_cells hcur', by rw [List.length_set]; exact hl, rfl, fun k x bk hx hbk => ?_⟩⟩
  by_cases hki : i = k
  · subst hki
    rw [hbi] at hbk; injection hbk with hbk; subst hbk
    rw [List.getElem?_set_self hi] at hx; injection hx with hx; subst hx
    exact ⟨es', hle, fun j u hju => by rw [blk_cells hcur']; exact hin j u hju, hry⟩
  · rw [List.getElem?_set_ne hki] at hx
    obtain ⟨ek, hek, hck, hrk⟩ := hel k x bk hx hbk
    refine ⟨ek, hek, fun j u hju => ?_, g.keep hrk fun z hz => hu.far z (g.lt hrk z hz) ?_⟩
    · have hj : j < size := by
        rcases Nat.lt_or_ge j size with h' | h'
        · exact h'
        · rw [List.getElem?_eq_none (by omega)] at hju; cases hju
      have hold := hck j u hju
      rw [blk_cells hcur] at hold
      rw [blk_cells hcur', hout _ _, hold]
      rcases Nat.lt_or_gt_of_ne hki with h' | h'
      · right
        have := Nat.mul_le_mul_right size h'
        rw [Nat.succ_mul] at this
        omega
      · left
        have := Nat.mul_le_mul_right size h'
        rw [Nat.succ_mul] at this
        omega
    · intro hm
      rcases List.mem_cons.1 hm with rfl | hm
      · exact hnd.1 (List.mem_flatten.2 ⟨bk, List.mem_of_getElem? hbk, hz⟩)
      · exact nodup_other hnd.2 hbi hbk hki hz hm
end
end Go.Proofs.YtdleccpjejdgiaaGreatDoor
