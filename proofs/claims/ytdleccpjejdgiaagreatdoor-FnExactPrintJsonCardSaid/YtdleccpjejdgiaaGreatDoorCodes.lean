/- Small functions on numbers and texts: what they return. No statement is proved here; no conditions. -/
import Derived.Test.YtdleccpjejdgiaaGreatDoorTypes
namespace Go.Proofs.YtdleccpjejdgiaaGreatDoor
open Go.ChangeShapes Go.WideShapes Go.ChangeAt Go.RowKit Go.Deep
set_option maxRecDepth 100000

def inB (n a b : Int) : Bool := decide (a ≤ n) && decide (n ≤ b)
theorem inB_t {n a b : Int} (h1 : a ≤ n) (h2 : n ≤ b) : inB n a b = true := by simp [inB, h1, h2]
theorem inB_iff {n a b : Int} : inB n a b = true ↔ a ≤ n ∧ n ≤ b := by simp [inB]
theorem inB_not {n a b : Int} : inB n a b = false ↔ n < a ∨ b < n := by simp [inB]; omega

def plainC (c : UInt8) : Bool := decide (32 ≤ (c.toNat : Int)) && decide ((c.toNat : Int) ≤ 126)
def plainTo (s : ByteArray) (k : Nat) : Bool := (s.data.toList.take k).all plainC
def plainB (s : ByteArray) : Bool := s.data.toList.all plainC && decide ((s.size : Int) ≤ 200)
theorem take_snoc (s : ByteArray) (k : Nat) (h : k < s.size) : s.data.toList.take (k + 1) = s.data.toList.take k ++ [s[k]] := by
  rw [List.take_succ_eq_append_getElem (by simpa using h)]; rfl
theorem plainTo_succ (s : ByteArray) (k : Nat) (h : k < s.size) : plainTo s (k + 1) = (plainTo s k && plainC s[k]) := by
  unfold plainTo; rw [take_snoc s k h, List.all_append]; simp
theorem plainTo_size (s : ByteArray) : plainTo s s.size = s.data.toList.all plainC := by
  unfold plainTo; rw [List.take_of_length_le (by simp)]
theorem plainTo_bad (s : ByteArray) (k : Nat) (h : k < s.size) (hc : plainC s[k] = false) : plainB s = false := by
  have : s.data.toList.all plainC = false := by
    rw [List.all_eq_false]
    exact ⟨s[k], by show s.data.toList[k] ∈ _; exact List.getElem_mem _, by simp [hc]⟩
  simp [plainB, this]

def nilB (s : ByteArray) : Bool := s.toList.isEmpty
def eqS (s t : ByteArray) : Bool := s.toList == t.toList
theorem eqS_iff {s t : ByteArray} : eqS s t = true ↔ s = t := by
  unfold eqS
  rw [beq_iff_eq, ByteArray.toList_eq, ByteArray.toList_eq]
  exact ⟨fun h => ByteArray.ext (Array.ext' h), fun h => by rw [h]⟩
theorem nilB_iff {s : ByteArray} : nilB s = true ↔ s = ⟨#[]⟩ := by
  unfold nilB
  rw [List.isEmpty_iff, ByteArray.toList_eq]
  exact ⟨fun h => ByteArray.ext (Array.ext' h), fun h => by rw [h]⟩

theorem impl_within (n a b : Int) (w : World) : Calls Tryz.prog 37 #[.int .i64 n, .int .i64 a, .int .i64 b] w fun e w' => e = .returned (.bool (inB n a b)) ∧ w = w' := by
  by_cases h : a ≤ n
  · have hd : decide (a ≤ n) = true := by simpa using h
    go_enter Tryz.func37, Tryz.ntmps37
    go_wp2
    go_ret
    exact ⟨by simp [inB, h], rfl⟩
  · have hd : decide (a ≤ n) = false := by simpa using h
    go_enter Tryz.func37, Tryz.ntmps37
    go_wp2
    go_ret
    exact ⟨by simp [inB, hd], rfl⟩
theorem spec_l01In (n a b : Int) (w : World) : Calls Tryz.prog 26 #[.int .i64 n, .int .i64 a, .int .i64 b] w fun e w' => e = .returned (.bool (inB n a b)) ∧ w = w' := by
  by_cases h : a ≤ n
  · have hd : decide (a ≤ n) = true := by simpa using h
    go_enter Tryz.func26, Tryz.ntmps26
    go_wp2
    go_ret
    exact ⟨by simp [inB, h], rfl⟩
  · have hd : decide (a ≤ n) = false := by simpa using h
    go_enter Tryz.func26, Tryz.ntmps26
    go_wp2
    go_ret
    exact ⟨by simp [inB, hd], rfl⟩
theorem impl_isNumber (n : Int) (w : World) : Calls Tryz.prog 38 #[.int .i64 n] w fun e w' => e = .returned (.bool (inB n (-1000000000) 1000000000)) ∧ w = w' := by
  go_enter Tryz.func38, Tryz.ntmps38
  go_wp2_with (go_at_call 37; refine (impl_within _ _ _ _).mono ?_; rintro e w' ⟨rfl, rfl⟩)
  go_ret
  exact ⟨rfl, rfl⟩
theorem spec_l01Text (s : ByteArray) (w : World) (hs : s.size ≤ 9223372036854775807) : Calls Tryz.prog 27 #[.string s] w fun e w' => e = .returned (.bool (plainB s)) ∧ w = w' := by
  go_enter Tryz.func27, Tryz.ntmps27
  go_wp2
  go_loop [3] (fun i => ∃ k : Nat, k ≤ s.size ∧ i = .int .i64 k ∧ plainTo s k = true) (fun i => s.size - (intOf i).toNat)
  case atStart => exact ⟨0, Nat.zero_le _, rfl, by simp [plainTo]⟩
  case round =>
    obtain ⟨k, hk, rfl, hp⟩ := hrel
    by_cases hlt : k < s.size
    · have hsn := hide (plainTo_succ s k hlt)
      have hp := hide hp
      by_cases h1 : (s[k].toNat : Int) < 32
      · have hb : Hid (plainB s = false) := plainTo_bad s k hlt (by simp [plainC]; omega)
        go_wp2
        go_ret
        exact ⟨by rw [hb.out]; rfl, rfl⟩
      · by_cases h2 : 126 < (s[k].toNat : Int)
        · have hb : Hid (plainB s = false) := plainTo_bad s k hlt (by simp [plainC]; omega)
          go_wp2
          go_ret
          exact ⟨by rw [hb.out]; rfl, rfl⟩
        · have hg : Hid (plainC s[k] = true) := by show _ = true; simp [plainC]; omega
          go_wp2
          go_round
          case rel => exact ⟨k + 1, hlt, by go_num, by rw [hsn.out, hp.out, hg.out]; rfl⟩
          case measure => simp [intOf]; omega
    · obtain rfl : k = s.size := by omega
      have hp : Hid (plainB s = decide ((s.size : Int) ≤ 200)) := by show _ = _; rw [plainTo_size] at hp; simp [plainB, hp]
      go_wp2
      go_ret
      exact ⟨by rw [hp.out]; rfl, rfl⟩
theorem impl_isPlain (s : ByteArray) (w : World) (hs : s.size ≤ 9223372036854775807) : Calls Tryz.prog 39 #[.string s] w fun e w' => e = .returned (.bool (plainB s)) ∧ w = w' := by
  go_enter Tryz.func39, Tryz.ntmps39
  go_wp2
  go_loop [6] (fun i => ∃ k : Nat, k ≤ s.size ∧ i = .int .i64 k ∧ plainTo s k = true) (fun i => s.size - (intOf i).toNat)
  case atStart => exact ⟨0, Nat.zero_le _, rfl, by simp [plainTo]⟩
  case round =>
    obtain ⟨k, hk, rfl, hp⟩ := hrel
    by_cases hlt : k < s.size
    · have hsn := hide (plainTo_succ s k hlt)
      have hp := hide hp
      by_cases h1 : (s[k].toNat : Int) < 32
      · have hb : Hid (plainB s = false) := plainTo_bad s k hlt (by simp [plainC]; omega)
        go_wp2
        go_ret
        exact ⟨by rw [hb.out]; rfl, rfl⟩
      · by_cases h2 : 126 < (s[k].toNat : Int)
        · have hb : Hid (plainB s = false) := plainTo_bad s k hlt (by simp [plainC]; omega)
          go_wp2
          go_ret
          exact ⟨by rw [hb.out]; rfl, rfl⟩
        · have hg : Hid (plainC s[k] = true) := by show _ = true; simp [plainC]; omega
          go_wp2
          go_round
          case rel => exact ⟨k + 1, hlt, by go_num, by rw [hsn.out, hp.out, hg.out]; rfl⟩
          case measure => simp [intOf]; omega
    · obtain rfl : k = s.size := by omega
      have hp : Hid (plainB s = decide ((s.size : Int) ≤ 200)) := by show _ = _; rw [plainTo_size] at hp; simp [plainB, hp]
      go_wp2
      go_ret
      exact ⟨by rw [hp.out]; rfl, rfl⟩
end Go.Proofs.YtdleccpjejdgiaaGreatDoor
