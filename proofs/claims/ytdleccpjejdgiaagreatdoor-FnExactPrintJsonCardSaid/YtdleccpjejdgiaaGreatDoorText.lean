/- The texts of marks. No statement is proved here; no conditions. -/
import Derived.Test.YtdleccpjejdgiaaGreatDoorUpd
import Derived.Laws.IdiomStrings
namespace Go.Proofs.YtdleccpjejdgiaaGreatDoor
open Go.ChangeShapes Go.WideShapes Go.ChangeAt Go.RowKit Go.Deep
set_option maxRecDepth 100000
set_option linter.unusedVariables false

def digs (n : Nat) : List UInt8 := if h : n = 0 then [] else digs (n / 10) ++ [UInt8.ofNat (48 + n % 10)]
termination_by n
decreasing_by omega
theorem digs_zero : digs 0 = [] := by rw [digs]; simp
theorem digs_pos {n : Nat} (h : n ≠ 0) : digs n = digs (n / 10) ++ [UInt8.ofNat (48 + n % 10)] := by rw [digs, dif_neg h]
theorem digs_len (n : Nat) : (digs n).length ≤ n := by
  induction n using Nat.strongRecOn with
  | ind n ih =>
    by_cases h : n = 0
    · subst h; rw [digs_zero]; simp
    · rw [digs_pos h, List.length_append]
      have := ih (n / 10) (by omega)
      simp; omega
def mText (k : Int) : ByteArray := ⟨(109 :: digs k.toNat).toArray⟩
theorem mText_size {k : Int} (h0 : 0 ≤ k) (h : k ≤ 4398046511104) : (mText k).size ≤ 9223372036854775807 := by
  have := digs_len k.toNat
  unfold mText
  simp [ByteArray.size]; omega

theorem one_more (b : UInt8) (s : ByteArray) : ((⟨#[b]⟩ : ByteArray) ++ s).data.toList = b :: s.data.toList := by rw [ByteArray.data_append, Array.toList_append]; rfl
theorem one_size (b : UInt8) (s : ByteArray) : ((⟨#[b]⟩ : ByteArray) ++ s).size = s.size + 1 := by rw [ByteArray.size_append]; show 1 + s.size = s.size + 1; omega
end Go.Proofs.YtdleccpjejdgiaaGreatDoor
