/- Names: what the program's and the reference's functions on names return. No statement is proved here; no conditions. -/
import Derived.Test.YtdleccpjejdgiaaGreatDoorCodes
namespace Go.Proofs.YtdleccpjejdgiaaGreatDoor
open Go.ChangeShapes Go.WideShapes Go.ChangeAt Go.RowKit Go.Deep
set_option maxRecDepth 100000

def letterI (n : Int) : Bool := (decide (97 ≤ n) && decide (n ≤ 122)) || (decide (65 ≤ n) && decide (n ≤ 90)) || n == 95
def digitI (n : Int) : Bool := decide (48 ≤ n) && decide (n ≤ 57)
def nameAt (s : ByteArray) (j : Nat) : Bool := letterI (s[j]!.toNat : Int) || (decide (j ≠ 0) && digitI (s[j]!.toNat : Int))
def nameTo (s : ByteArray) (k : Nat) : Bool := (List.range k).all fun j => nameAt s j
def nameOK (s : ByteArray) : Bool := inB s.size 1 40 && nameTo s s.size
theorem nameTo_succ (s : ByteArray) (k : Nat) : nameTo s (k + 1) = (nameTo s k && nameAt s k) := by
  unfold nameTo; rw [List.range_succ, List.all_append]; simp
theorem nameOK_bad (s : ByteArray) (k : Nat) (hk : k < s.size) (h : nameAt s k = false) : nameOK s = false := by
  have : nameTo s s.size = false := by
    unfold nameTo; rw [List.all_eq_false]; exact ⟨k, by simpa using hk, by simp [h]⟩
  simp [nameOK, this]
theorem getB (s : ByteArray) (k : Nat) (h : k < s.size) : s[k]! = s[k] := by simp [h]

theorem let1 {n : Int} (h1 : 97 ≤ n) (h2 : n ≤ 122) : letterI n = true := by simp [letterI, h1, h2]
theorem let2 {n : Int} (h1 : 65 ≤ n) (h2 : n ≤ 90) : letterI n = true := by simp [letterI, h1, h2]
theorem let3 {n : Int} (h : n = 95) : letterI n = true := by simp [letterI, h]
theorem let3' {n : Int} (h1 : 95 ≤ n) (h2 : n ≤ 95) : letterI n = true := let3 (by omega)
theorem let4 {n : Int} (h1 : n < 97 ∨ 122 < n) (h2 : n < 65 ∨ 90 < n) (h3 : n ≠ 95) : letterI n = false := by simp [letterI, h3]; omega
theorem dig1 {n : Int} (h1 : 48 ≤ n) (h2 : n ≤ 57) : digitI n = true := by simp [digitI, h1, h2]
theorem dig2 {n : Int} (h1 : n < 48 ∨ 57 < n) : digitI n = false := by simp [digitI]; omega

end Go.Proofs.YtdleccpjejdgiaaGreatDoor
