/- Atoms put where they belong. No statement is proved here; no conditions. Written by a program (gen42.py). -/
import Derived.Test.YtdleccpjejdgiaaGreatDoorSetP
import Derived.Test.YtdleccpjejdgiaaGreatDoorOrder
import Derived.Test.YtdleccpjejdgiaaGreatDoorHas
import Derived.Test.YtdleccpjejdgiaaGreatDoorClone
import Derived.Test.YtdleccpjejdgiaaGreatDoorApp
import Derived.Test.YtdleccpjejdgiaaGreatDoorLess
import Derived.Test.YtdleccpjejdgiaaGreatDoorDrawn
namespace Go.Proofs.YtdleccpjejdgiaaGreatDoor
open Go.ChangeShapes Go.WideShapes Go.ChangeAt Go.RowKit Go.Deep
set_option maxRecDepth 100000
set_option linter.unusedVariables false
set_option linter.unusedSimpArgs false

section
variable {α : Type} {R : Rd α} {size : Nat}
theorem Apd.keepSl {e : TypeId} {lo : Nat} {w w' : World} {v v' : Value} {bss bss2 : List (List Nat)} {xs ys : List α} {bs2 : List Nat} (g : Good R) (h : Apd size R e lo w v bss xs bs2 ys v' w' bss2) {bs : List Nat} {u : Value} {zs : List α} (hz : SlR size R w bs [u] zs) (hn : ∀ b ∈ bs, v.ownBlock ≠ some b) : SlR size R w' bs [u] zs ∧ ∀ b ∈ bs, v'.ownBlock ≠ some b := by
  have hg := SlR.good (size := size) g
  refine ⟨hg.keep hz fun b hb => h.hold b (hg.lt hz b hb) (hn b hb), fun b hb hv => ?_⟩
  rcases h.own with h1 | ⟨k, h1, h2⟩
  · rw [h1] at hv; exact hn b hb hv
  · rw [h1] at hv; injection hv with hv; subst hv; have := hg.lt hz k hb; omega
theorem madeA {e : TypeId} {w : World} {n : Nat} (h : w.heap.size = n) : Gr size R e n (w.alloc (.cells #[] e)) (.slice (some ⟨n, 0, none⟩) 0 0) [] [] := by subst h; exact Gr.made w #[] 0 (Nat.le_refl _) (by simp [maxLen]) (by simp)
theorem dropA {w : World} {bs : List Nat} {b o n c : Nat} {xs : List α} (h : SlR size R w bs [.slice (some ⟨b, o, none⟩) n c] xs) {k : Nat} (hk : k ≤ xs.length) :
    ∃ A bs', (if c = k then some ⟨b, o, none⟩ else some ⟨b, o + k * size, none⟩ : Option Addr) = A ∧ SlR size R w bs' [.slice A (xs.length - k) (c - k)] (xs.drop k) ∧ ∀ b ∈ bs', b ∈ bs := by
  by_cases hc : c = k
  · obtain ⟨A', c', hv, h1, h2, _⟩ := h
    obtain ⟨rfl, rfl, rfl⟩ : some ⟨b, o, none⟩ = A' ∧ n = xs.length ∧ c = c' := by simpa using hv
    have h0 : xs.drop k = [] := List.drop_eq_nil_of_le (by omega)
    exact ⟨some ⟨b, o, none⟩, [], if_pos hc, ⟨some ⟨b, o, none⟩, c - k, by rw [List.length_drop], by rw [List.length_drop]; omega, by omega, .inl ⟨h0, rfl⟩⟩, fun b hb => by cases hb⟩
  · obtain ⟨bs', h1, h2⟩ := h.drop hk
    exact ⟨_, bs', if_neg hc, h1, h2⟩
/-- A slice value that lies somewhere. -/
def Sm (v : Value) (n : Nat) : Prop := ∃ b o c, v = .slice (some ⟨b, o, none⟩) n c
theorem Gr.sm {e : TypeId} {lo : Nat} {w : World} {v : Value} {bss : List (List Nat)} {xs : List α} (h : Gr size R e lo w v bss xs) (hv : v.ownBlock ≠ none) : Sm v xs.length := by
  obtain ⟨css, _, _, ⟨_, ho⟩, _⟩ := h
  rcases ho with ⟨rfl, _⟩ | ⟨g, cap, cur, rfl, _⟩
  · exact absurd rfl hv
  · exact ⟨_, _, _, rfl⟩
theorem Apd.some {e : TypeId} {lo : Nat} {w w' : World} {v v' : Value} {bss bss2 : List (List Nat)} {xs ys : List α} {bs2 : List Nat} (h : Apd size R e lo w v bss xs bs2 ys v' w' bss2) (hv : v.ownBlock ≠ none) : v'.ownBlock ≠ none := by
  rcases h.own with h | ⟨k, h, _⟩ <;> rw [h]
  · exact hv
  · simp
end
theorem cutA_go {d : List Atom} {a : Atom} {k : Nat} (h0 : 0 < k) (h : 0 < ordA (d.getD (k - 1) default) a) : cutA d a k = cutA d a (k - 1) := by
  obtain ⟨m, rfl⟩ : ∃ m, k = m + 1 := ⟨k - 1, by omega⟩
  rw [Nat.add_sub_cancel] at h ⊢
  show (if 0 < ordA (d.getD m default) a then cutA d a m else m + 1) = _
  rw [if_pos h]
theorem cutA_stop {d : List Atom} {a : Atom} {k : Nat} (h : ¬ (0 < k ∧ 0 < ordA (d.getD (k - 1) default) a)) : cutA d a k = k := by
  cases k with
  | zero => rfl
  | succ m =>
    rw [Nat.add_sub_cancel] at h
    show (if 0 < ordA (d.getD m default) a then cutA d a m else m + 1) = _
    rw [if_neg (fun h1 => h ⟨by omega, h1⟩)]
theorem putA_new {d : List Atom} {a : Atom} {k : Nat} (hm : decide (a ∈ d) = false) (h : cutA d a d.length = k) : putA d a = (d.take k ++ [a]) ++ d.drop k := by
  unfold putA; rw [if_neg (of_decide_eq_false hm), h]
end Go.Proofs.YtdleccpjejdgiaaGreatDoor
