/- The order of atoms, in the program and in the reference. No statement is proved here; no conditions. -/
import Derived.Test.YtdleccpjejdgiaaGreatDoorAtom1
import Derived.Test.YtdleccpjejdgiaaGreatDoorSz
import Derived.Test.YtdleccpjejdgiaaGreatDoorTo
import Derived.Test.YtdleccpjejdgiaaGreatDoorOwn
import Derived.Test.YtdleccpjejdgiaaGreatDoorShelf
import Derived.Lib.Bytealg
import Derived.StillTailTactics
namespace Go.Proofs.YtdleccpjejdgiaaGreatDoor
open Go.ChangeShapes Go.WideShapes Go.ChangeAt Go.RowKit Go.Deep
set_option maxRecDepth 100000

def cmpI (a b : Int) : Int := if a < b then -1 else if b < a then 1 else 0
def cmpS (s t : ByteArray) : Int := Lib.compareBytes s.data.toList t.data.toList
def ordA (a b : Atom) : Int := if a.kind ≠ b.kind then cmpI a.kind b.kind else if a.n ≠ b.n then cmpI a.n b.n else cmpS a.t b.t
def bit (b : Bool) : Int := if b then 1 else 0
theorem cmpL_less : ∀ (l m : List UInt8), Lib.compareBytes l m = if l = m then 0 else if Op.bytesLess l m then -1 else 1
  | [], [] => by simp [Lib.compareBytes]
  | [], _ :: _ => by simp [Lib.compareBytes, Op.bytesLess]
  | _ :: _, [] => by simp [Lib.compareBytes, Op.bytesLess]
  | a :: x, b :: y => by
    simp only [Lib.compareBytes, Op.bytesLess, cmpL_less x y, List.cons.injEq]
    by_cases h1 : a < b
    · have : a ≠ b := fun h => by subst h; exact absurd h1 (by simp)
      simp [h1, this]
    · by_cases h2 : b < a
      · have : a ≠ b := fun h => by subst h; exact absurd h2 (by simp)
        simp [h1, h2, this]
      · have : a = b := by
          rw [UInt8.lt_iff_toNat_lt] at h1 h2
          exact UInt8.toNat_inj.1 (by omega)
        subst this
        simp
theorem cmpS_cases (s t : ByteArray) : cmpS s t = if eqS s t then 0 else 1 - 2 * bit (Op.bytesLess s.toList t.toList) := by
  unfold cmpS
  rw [cmpL_less]
  by_cases h : s = t
  · subst h; rw [if_pos rfl, eqS_iff.2 rfl]; rfl
  · have h1 : eqS s t = false := by cases h' : eqS s t with
      | false => rfl
      | true => exact absurd (eqS_iff.1 h') h
    have h2 : s.data.toList ≠ t.data.toList := fun h' => h (ByteArray.ext (Array.ext' h'))
    rw [if_neg h2, h1, if_neg (c := (false = true)) (by simp), ByteArray.toList_eq, ByteArray.toList_eq]
    unfold bit; split <;> rfl
theorem cmpI_ne {a b : Int} (h : a ≠ b) : cmpI a b = 1 - 2 * bit (decide (a < b)) := by
  unfold cmpI bit
  by_cases h1 : a < b
  · simp [h1]
  · simp [h1]; omega
theorem cmpI_bd (a b : Int) : -1 ≤ cmpI a b ∧ cmpI a b ≤ 1 := by unfold cmpI; split <;> (try split) <;> omega
theorem cmpS_bd (a b : ByteArray) : -1 ≤ cmpS a b ∧ cmpS a b ≤ 1 := by rw [cmpS_cases]; unfold bit; split <;> (try split) <;> omega
theorem cmpI_zero {a b : Int} : cmpI a b = 0 ↔ a = b := by unfold cmpI; split <;> (try split) <;> constructor <;> intro h <;> omega

theorem region_still_tail {P : Program} {id : Nat} {Q : Exit → Act → World → Prop} {a : Act} {w : World} {l : List Oper} (n : Nat) (hm : P.follows .mixedOrders = true) (hB : Region.lexTailB .any l.toArray n = true)
    (h : wpStill P l.toArray w.drew (fun a' => wpList P l.toArray Q (l.drop n) a' w.drew) (l.take n) a) : (Code.region id l.toArray true).wp P Q a w := wp_region_still_tail n hm hB h

end Go.Proofs.YtdleccpjejdgiaaGreatDoor
