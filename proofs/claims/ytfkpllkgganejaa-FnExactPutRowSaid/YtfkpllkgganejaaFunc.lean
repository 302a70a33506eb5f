/- slices.IndexFunc and slices.ContainsFunc, at a predicate. No statement is proved here; no conditions. Written by a program (gen.py). -/
import Derived.Test.YtfkpllkgganejaaCodes
import Derived.Shelf.Abstract
namespace Go.Proofs.Ytfkpllkgganejaa
open Go.ChangeShapes Go.WideShapes Go.ChangeAt Go.RowKit Go.Deep
set_option maxRecDepth 100000
set_option linter.unusedVariables false

def idxF {α : Type} (p : α → Bool) (xs : List α) : Int := if xs.any p then ((xs.findIdx p : Nat) : Int) else -1
theorem idxF_none {α : Type} {p : α → Bool} {xs : List α} (h : ∀ j (hj : j < xs.length), j < xs.length → p xs[j] = false) : idxF p xs = -1 := by
  unfold idxF; rw [if_neg]
  intro hm
  obtain ⟨x, hx, hp⟩ := List.any_eq_true.1 hm
  obtain ⟨j, hj, rfl⟩ := List.getElem_of_mem hx
  rw [h j hj hj] at hp; cases hp
theorem idxF_at {α : Type} {p : α → Bool} {xs : List α} {k : Nat} (hk : k < xs.length) (hb : ∀ j (hj : j < xs.length), j < k → p xs[j] = false) (he : p xs[k] = true) : idxF p xs = k := by
  unfold idxF; rw [if_pos (List.any_eq_true.2 ⟨xs[k], List.getElem_mem hk, he⟩)]
  congr 1
  rcases Nat.lt_trichotomy (xs.findIdx p) k with h | h | h
  · have h1 : xs.findIdx p < xs.length := by omega
    have := List.findIdx_getElem (w := h1)
    rw [hb _ h1 h] at this; cases this
  · exact h
  · have := List.not_of_lt_findIdx h
    rw [he] at this; simp at this
theorem idxF_any {α : Type} {p : α → Bool} {xs : List α} : decide (0 ≤ idxF p xs) = xs.any p := by
  unfold idxF; cases h : xs.any p <;> simp
theorem idxF_bd {α : Type} (p : α → Bool) (xs : List α) : -1 ≤ idxF p xs ∧ idxF p xs ≤ xs.length := by
  unfold idxF
  split
  · rename_i h
    have h1 : xs.findIdx p ≤ xs.length := List.findIdx_le_length
    omega
  · omega

theorem slices_IndexFuncRowSS {w : World} {bs : List Nat} {v : Value} {xs : List (List Row)} (ha : RowSSR w bs [v] xs) (p : List Row → Bool) (g : Nat) (lb : Array Value) (eg : ∀ args w, (callFunc g args).run Try.prog w = .ok (.enter g args) w)
    (hp : ∀ k (hk : k < xs.length) bk u, RowSR w bk [u] xs[k] → ∀ W, Below w.heap.size w W → Calls Try.prog g (#[u] ++ lb) W fun e w' => e = .returned (.bool (p xs[k])) ∧ Below W.heap.size W w') :
    Calls Try.prog 54 #[v, .func (.func g) #[] lb] w fun e w' => e = .returned (.int .i64 (idxF p xs)) ∧ Below w.heap.size w w' := by
  obtain ⟨A, c, rfl, hlc, hcm, hel⟩ := ha.use
  go_enter Try.func54, Try.ntmps54
  go_wp2
  go_loopw [8] (fun i wr => ∃ k : Nat, k ≤ xs.length ∧ i = .int .i64 k ∧ Hid (∀ j (hj : j < xs.length), j < k → p xs[j] = false) ∧ Below w.heap.size w wr) (fun i _ => xs.length - (intOf i).toNat)
  case atStart => exact ⟨0, Nat.zero_le _, rfl, fun j hj h => absurd h (by omega), Below.refl _ _⟩
  case round =>
    obtain ⟨k, hk, rfl, hn, hbr⟩ := hrel
    by_cases hlt : k < xs.length
    · obtain ⟨b, o, bk, es, rfl, hbl, hcl, hcell, hR, hbk⟩ := hel k hlt
      have hR0 := hR
      obtain ⟨A0, c0, rfl⟩ : ∃ A0 c0, es = [.slice A0 xs[k].length c0] := by obtain ⟨A0, c0, h, _⟩ := hR; exact ⟨A0, c0, h⟩
      have hcall := hp k hlt bk _ hR wr hbr
      obtain ⟨A0', c0', he, _, _, _⟩ := hR.use
      clear he
      have c_0 := (hbr.cell (p := ⟨b, _, none⟩) hbl).trans (hcell 0 _ rfl)
      simp only [Nat.add_zero, Nat.mul_one] at c_0
      clear hcell hel hcl hp
      cases hq : p xs[k]
      · rw [hq] at hcall
        have hn2 : Hid (∀ j (hj : j < xs.length), j < k + 1 → p xs[j] = false) := by
          intro j hj hjk
          by_cases hjk' : j = k
          · subst hjk'; exact hq
          · exact hn.out j hj (by omega)
        clear hq
        go_wp2_with (go_at_fn g; refine hcall.mono ?_; rintro e w1 ⟨rfl, hb1⟩)
        go_roundw
        case rel => exact ⟨k + 1, hlt, by go_num, hn2, nxt hbr hb1⟩
        case measure => simp [intOf]; omega
      · rw [hq] at hcall
        have hr := hide (idxF_at hlt hn.out hq)
        clear hq
        go_wp2_with (go_at_fn g; refine hcall.mono ?_; rintro e w1 ⟨rfl, hb1⟩)
        go_ret
        exact ⟨by rw [hr.out]; rfl, nxt hbr hb1⟩
    · obtain rfl : k = xs.length := by omega
      have hr := hide (idxF_none hn.out)
      clear hp hel
      go_wp2
      go_ret
      exact ⟨by rw [hr.out]; rfl, hbr⟩
theorem slices_ContainsFuncRowSS {w : World} {bs : List Nat} {v : Value} {xs : List (List Row)} (ha : RowSSR w bs [v] xs) (p : List Row → Bool) (g : Nat) (lb : Array Value) (eg : ∀ args w, (callFunc g args).run Try.prog w = .ok (.enter g args) w)
    (hp : ∀ k (hk : k < xs.length) bk u, RowSR w bk [u] xs[k] → ∀ W, Below w.heap.size w W → Calls Try.prog g (#[u] ++ lb) W fun e w' => e = .returned (.bool (p xs[k])) ∧ Below W.heap.size W w') :
    Calls Try.prog 39 #[v, .func (.func g) #[] lb] w fun e w' => e = .returned (.bool (xs.any p)) ∧ Below w.heap.size w w' := by
  have ha0 := ha
  obtain ⟨A, c, rfl, hlc, hcm, hel⟩ := ha.use
  rw [← idxF_any]
  have hbd := idxF_bd p xs
  go_enter Try.func39, Try.ntmps39
  go_wp2_with (go_at_call 54; refine (slices_IndexFuncRowSS ha0 p g lb eg hp).mono ?_; rintro e w1 ⟨rfl, hb1⟩)
  go_ret
  exact ⟨rfl, hb1⟩
end Go.Proofs.Ytfkpllkgganejaa
