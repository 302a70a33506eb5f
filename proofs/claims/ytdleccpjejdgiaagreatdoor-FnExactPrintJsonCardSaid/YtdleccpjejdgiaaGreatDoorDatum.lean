/- Sets of atoms: what is right, in the program and in the reference. No statement is proved here; no conditions. -/
import Derived.Test.YtdleccpjejdgiaaGreatDoorOrder
namespace Go.Proofs.YtdleccpjejdgiaaGreatDoor
open Go.ChangeShapes Go.WideShapes Go.ChangeAt Go.RowKit Go.Deep
set_option maxRecDepth 100000

theorem atoms_at {w : World} {bs : List Nat} {v : Value} {xs : List Atom} (h : AtomSR w bs [v] xs) :
    ∃ A c, v = .slice A xs.length c ∧ xs.length ≤ c ∧ c ≤ 9223372036854775807 ∧ (0 < xs.length → ∃ b o, A = some ⟨b, o, none⟩ ∧ b < w.heap.size ∧ ∀ k (hk : k < xs.length),
      w.cell? ⟨b, o + k * 3, none⟩ = some (.int .i64 xs[k].kind) ∧ w.cell? ⟨b, o + k * 3 + 1, none⟩ = some (.int .i64 xs[k].n) ∧ w.cell? ⟨b, o + k * 3 + 2, none⟩ = some (.string xs[k].t) ∧ xs[k].fine) := by
  obtain ⟨A, c, hv, h1, h2, h3⟩ := h.use
  refine ⟨A, c, hv, h1, h2, fun hp => ?_⟩
  obtain ⟨b, o, _, _, hA, hb, _⟩ := h3 0 hp
  refine ⟨b, o, hA, hb, fun k hk => ?_⟩
  obtain ⟨b', o', bk, es, hA', _, _, hc, ⟨_, rfl, hf⟩, _⟩ := h3 k hk
  rw [hA] at hA'
  injection hA' with hA'
  injection hA' with e1 e2
  subst e1; subst e2
  exact ⟨hc 0 _ rfl, hc 1 _ rfl, hc 2 _ rfl, hf⟩

def kindAt (d : List Atom) (k : Nat) : Int := (d.getD k default).kind
def stepOK (d : List Atom) (k : Nat) : Bool := atomOK (d.getD k default) && (kindAt d k == kindAt d 0) && (decide (k = 0) || decide (ordA (d.getD (k - 1) default) (d.getD k default) < 0))
def datumTo (d : List Atom) (k : Nat) : Bool := (List.range k).all (stepOK d)
def datumOK (d : List Atom) : Bool := datumTo d d.length && decide ((d.length : Int) ≤ 8)
theorem datumTo_succ (d : List Atom) (k : Nat) : datumTo d (k + 1) = (datumTo d k && stepOK d k) := by
  unfold datumTo; rw [List.range_succ, List.all_append]; simp
theorem datumOK_bad (d : List Atom) (k : Nat) (hk : k < d.length) (h : stepOK d k = false) : datumOK d = false := by
  have : datumTo d d.length = false := by
    unfold datumTo; rw [List.all_eq_false]; exact ⟨k, by simpa using hk, by simp [h]⟩
  simp [datumOK, this]
theorem getD_at (d : List Atom) (k : Nat) (h : k < d.length) : d.getD k default = d[k] := by rw [List.getD_eq_getElem?_getD, List.getElem?_eq_getElem h]; rfl

end Go.Proofs.YtdleccpjejdgiaaGreatDoor
