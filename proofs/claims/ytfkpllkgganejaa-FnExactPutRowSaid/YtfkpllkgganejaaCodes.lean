/- Small functions on numbers and texts: what they return. No statement is proved here; no conditions. -/
import Derived.Test.YtfkpllkgganejaaTypes
namespace Go.Proofs.Ytfkpllkgganejaa
open Go.ChangeShapes Go.WideShapes Go.ChangeAt Go.RowKit Go.Deep
set_option maxRecDepth 100000

def inB (n a b : Int) : Bool := decide (a ≤ n) && decide (n ≤ b)
theorem inB_t {n a b : Int} (h1 : a ≤ n) (h2 : n ≤ b) : inB n a b = true := by simp [inB, h1, h2]
theorem inB_iff {n a b : Int} : inB n a b = true ↔ a ≤ n ∧ n ≤ b := by simp [inB]
theorem inB_not {n a b : Int} : inB n a b = false ↔ n < a ∨ b < n := by simp [inB]; omega

def plainC (c : UInt8) : Bool := decide (32 ≤ (c.toNat : Int)) && decide ((c.toNat : Int) ≤ 126)
def plainTo (s : ByteArray) (k : Nat) : Bool := (s.data.toList.take k).all plainC
def plainB (s : ByteArray) : Bool := s.data.toList.all plainC && decide ((s.size : Int) ≤ 200)
theorem take_snoc (s : ByteArray) (k : Nat) (h : k < s.size) : s.data.toList.take (k + 1) = s.data.toList.take k ++ [s[k]] := by
  rw [List.take_succ_eq_append_getElem (by simpa using h)]; rfl
theorem plainTo_succ (s : ByteArray) (k : Nat) (h : k < s.size) : plainTo s (k + 1) = (plainTo s k && plainC s[k]) := by
  unfold plainTo; rw [take_snoc s k h, List.all_append]; simp
theorem plainTo_size (s : ByteArray) : plainTo s s.size = s.data.toList.all plainC := by
  unfold plainTo; rw [List.take_of_length_le (by simp)]
theorem plainTo_bad (s : ByteArray) (k : Nat) (h : k < s.size) (hc : plainC s[k] = false) : plainB s = false := by
  have : s.data.toList.all plainC = false := by
    rw [List.all_eq_false]
    exact ⟨s[k], by show s.data.toList[k] ∈ _; exact List.getElem_mem _, by simp [hc]⟩
  simp [plainB, this]

def nilB (s : ByteArray) : Bool := s.toList.isEmpty
def eqS (s t : ByteArray) : Bool := s.toList == t.toList
theorem eqS_iff {s t : ByteArray} : eqS s t = true ↔ s = t := by
  unfold eqS
  rw [beq_iff_eq, ByteArray.toList_eq, ByteArray.toList_eq]
  exact ⟨fun h => ByteArray.ext (Array.ext' h), fun h => by rw [h]⟩
theorem nilB_iff {s : ByteArray} : nilB s = true ↔ s = ⟨#[]⟩ := by
  unfold nilB
  rw [List.isEmpty_iff, ByteArray.toList_eq]
  exact ⟨fun h => ByteArray.ext (Array.ext' h), fun h => by rw [h]⟩

theorem impl_within (n a b : Int) (w : World) : Calls Try.prog 42 #[.int .i64 n, .int .i64 a, .int .i64 b] w fun e w' => e = .returned (.bool (inB n a b)) ∧ w = w' := by
  by_cases h : a ≤ n
  · have hd : decide (a ≤ n) = true := by simpa using h
    go_enter Try.func42, Try.ntmps42
    go_wp2
    go_ret
    exact ⟨by simp [inB, h], rfl⟩
  · have hd : decide (a ≤ n) = false := by simpa using h
    go_enter Try.func42, Try.ntmps42
    go_wp2
    go_ret
    exact ⟨by simp [inB, hd], rfl⟩
theorem spec_l01In (n a b : Int) (w : World) : Calls Try.prog 18 #[.int .i64 n, .int .i64 a, .int .i64 b] w fun e w' => e = .returned (.bool (inB n a b)) ∧ w = w' := by
  by_cases h : a ≤ n
  · have hd : decide (a ≤ n) = true := by simpa using h
    go_enter Try.func18, Try.ntmps18
    go_wp2
    go_ret
    exact ⟨by simp [inB, h], rfl⟩
  · have hd : decide (a ≤ n) = false := by simpa using h
    go_enter Try.func18, Try.ntmps18
    go_wp2
    go_ret
    exact ⟨by simp [inB, hd], rfl⟩
end Go.Proofs.Ytfkpllkgganejaa
