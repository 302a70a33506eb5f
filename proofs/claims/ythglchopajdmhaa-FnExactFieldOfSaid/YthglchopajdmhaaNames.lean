/- Names: what the program's and the reference's functions on names return. No statement is proved here; no conditions. -/
import Derived.Test.YthglchopajdmhaaCodes
namespace Go.Proofs.Ythglchopajdmhaa
open Go.ChangeShapes Go.WideShapes Go.ChangeAt Go.RowKit Go.Deep
set_option maxRecDepth 100000

def letterI (n : Int) : Bool := (decide (97 ≤ n) && decide (n ≤ 122)) || (decide (65 ≤ n) && decide (n ≤ 90)) || n == 95
def digitI (n : Int) : Bool := decide (48 ≤ n) && decide (n ≤ 57)
def nameAt (s : ByteArray) (j : Nat) : Bool := letterI (s[j]!.toNat : Int) || (decide (j ≠ 0) && digitI (s[j]!.toNat : Int))
def nameTo (s : ByteArray) (k : Nat) : Bool := (List.range k).all fun j => nameAt s j
def nameOK (s : ByteArray) : Bool := inB s.size 1 40 && nameTo s s.size
theorem nameTo_succ (s : ByteArray) (k : Nat) : nameTo s (k + 1) = (nameTo s k && nameAt s k) := by
  unfold nameTo; rw [List.range_succ, List.all_append]; simp
theorem nameOK_bad (s : ByteArray) (k : Nat) (hk : k < s.size) (h : nameAt s k = false) : nameOK s = false := by
  have : nameTo s s.size = false := by
    unfold nameTo; rw [List.all_eq_false]; exact ⟨k, by simpa using hk, by simp [h]⟩
  simp [nameOK, this]
theorem getB (s : ByteArray) (k : Nat) (h : k < s.size) : s[k]! = s[k] := by simp [h]

theorem let1 {n : Int} (h1 : 97 ≤ n) (h2 : n ≤ 122) : letterI n = true := by simp [letterI, h1, h2]
theorem let2 {n : Int} (h1 : 65 ≤ n) (h2 : n ≤ 90) : letterI n = true := by simp [letterI, h1, h2]
theorem let3 {n : Int} (h : n = 95) : letterI n = true := by simp [letterI, h]
theorem let3' {n : Int} (h1 : 95 ≤ n) (h2 : n ≤ 95) : letterI n = true := let3 (by omega)
theorem let4 {n : Int} (h1 : n < 97 ∨ 122 < n) (h2 : n < 65 ∨ 90 < n) (h3 : n ≠ 95) : letterI n = false := by simp [letterI, h3]; omega
theorem dig1 {n : Int} (h1 : 48 ≤ n) (h2 : n ≤ 57) : digitI n = true := by simp [digitI, h1, h2]
theorem dig2 {n : Int} (h1 : n < 48 ∨ 57 < n) : digitI n = false := by simp [digitI]; omega

theorem impl_isDigit (n : Int) (w : World) : Calls Try.prog 128 #[.int .u8 n] w fun e w' => e = .returned (.bool (digitI n)) ∧ w = w' := by
  go_enter Try.func128, Try.ntmps128
  go_wp2
  all_goals
    go_ret
    exact ⟨ret_bool (by rw [Bool.eq_iff_iff]; simp [digitI]; try omega), rfl⟩
theorem spec_l00Digit (n : Int) (w : World) : Calls Try.prog 141 #[.int .u8 n] w fun e w' => e = .returned (.bool (digitI n)) ∧ w = w' := by
  go_enter Try.func141, Try.ntmps141
  go_wp2
  all_goals
    go_ret
    exact ⟨ret_bool (by rw [Bool.eq_iff_iff]; simp [digitI]; try omega), rfl⟩
theorem spec_l00Letter (n : Int) (w : World) : Calls Try.prog 140 #[.int .u8 n] w fun e w' => e = .returned (.bool (letterI n)) ∧ w = w' := by
  go_enter Try.func140, Try.ntmps140
  go_wp2
  all_goals
    go_ret
    exact ⟨ret_bool (by rw [Bool.eq_iff_iff]; simp [letterI]; try omega), rfl⟩
theorem spec_l00Word (s : ByteArray) (w : World) (hs : s.size ≤ 9223372036854775807) : Calls Try.prog 127 #[.string s] w fun e w' => e = .returned (.bool (nameOK s)) ∧ w = w' := by
  by_cases h1 : s.size < 1
  · have hr : Hid (nameOK s = false) := by show _ = _; unfold nameOK; rw [inB_not.2 (by omega)]; rfl
    go_enter Try.func127, Try.ntmps127
    go_wp2
    go_ret
    exact ⟨by rw [hr.out]; rfl, rfl⟩
  · by_cases h2 : 40 < s.size
    · have hr : Hid (nameOK s = false) := by show _ = _; unfold nameOK; rw [inB_not.2 (by omega)]; rfl
      go_enter Try.func127, Try.ntmps127
      go_wp2
      go_ret
      exact ⟨by rw [hr.out]; rfl, rfl⟩
    · have h0 : 0 < s.size := by omega
      cases hl : letterI (s[0].toNat : Int)
      · have hr : Hid (nameOK s = false) := nameOK_bad s 0 h0 (by simp [nameAt, getB s 0 h0, hl])
        have hl := hide hl
        go_enter Try.func127, Try.ntmps127
        go_wp2_with (go_at_call 140; refine (spec_l00Letter _ _).mono ?_; rw [hl.out]; rintro e w' ⟨rfl, rfl⟩)
        go_ret
        exact ⟨by rw [hr.out]; rfl, rfl⟩
      · have hn1 : Hid (nameTo s 1 = true) := by show _ = _; rw [nameTo_succ]; simp [nameTo, nameAt, getB s 0 h0, hl]
        have hl := hide hl
        go_enter Try.func127, Try.ntmps127
        go_wp2_with (go_at_call 140; refine (spec_l00Letter _ _).mono ?_; rw [hl.out]; rintro e w' ⟨rfl, rfl⟩)
        go_loop [3] (fun i => ∃ k : Nat, 1 ≤ k ∧ k ≤ s.size ∧ i = .int .i64 k ∧ nameTo s k = true) (fun i => s.size - (intOf i).toNat)
        case atStart => exact ⟨1, Nat.le_refl _, h0, rfl, hn1.out⟩
        case round =>
          obtain ⟨k, hk1, hk, rfl, hp⟩ := hrel
          have hp := hide hp
          by_cases hlt : k < s.size
          · have hsn := hide (nameTo_succ s k)
            cases hc : letterI (s[k].toNat : Int)
            · cases hd : digitI (s[k].toNat : Int)
              · have hb : Hid (nameOK s = false) := nameOK_bad s k hlt (by simp [nameAt, getB s k hlt, hc, hd])
                have hc := hide hc
                have hd := hide hd
                go_wp2_with (first | (go_at_call 140; refine (spec_l00Letter _ _).mono ?_; rw [hc.out]; rintro e w' ⟨rfl, rfl⟩) | (go_at_call 141; refine (spec_l00Digit _ _).mono ?_; rw [hd.out]; rintro e w' ⟨rfl, rfl⟩))
                go_ret
                exact ⟨by rw [hb.out]; rfl, rfl⟩
              · have hg : Hid (nameAt s k = true) := by show _ = _; simp [nameAt, getB s k hlt, hd]; omega
                have hc := hide hc
                have hd := hide hd
                go_wp2_with (first | (go_at_call 140; refine (spec_l00Letter _ _).mono ?_; rw [hc.out]; rintro e w' ⟨rfl, rfl⟩) | (go_at_call 141; refine (spec_l00Digit _ _).mono ?_; rw [hd.out]; rintro e w' ⟨rfl, rfl⟩))
                go_round
                case rel => exact ⟨k + 1, by omega, hlt, by go_num, by rw [hsn.out, hp.out, hg.out]; rfl⟩
                case measure => simp [intOf]; omega
            · have hg : Hid (nameAt s k = true) := by show _ = _; simp [nameAt, getB s k hlt, hc]
              have hc := hide hc
              go_wp2_with (first | (go_at_call 140; refine (spec_l00Letter _ _).mono ?_; rw [hc.out]; rintro e w' ⟨rfl, rfl⟩))
              go_round
              case rel => exact ⟨k + 1, by omega, hlt, by go_num, by rw [hsn.out, hp.out, hg.out]; rfl⟩
              case measure => simp [intOf]; omega
          · obtain rfl : k = s.size := by omega
            have hr : Hid (nameOK s = true) := by show _ = _; unfold nameOK; rw [hp.out, inB_t (by omega) (by omega)]; rfl
            go_wp2
            go_ret
            exact ⟨by rw [hr.out]; rfl, rfl⟩
theorem spec_NameOK (s : ByteArray) (w : World) (hs : s.size ≤ 9223372036854775807) : Calls Try.prog 105 #[.string s] w fun e w' => e = .returned (.bool (nameOK s)) ∧ w = w' := by
  go_enter Try.func105, Try.ntmps105
  go_wp2_with (go_at_call 127; refine (spec_l00Word _ _ hs).mono ?_; rintro e w' ⟨rfl, rfl⟩)
  go_ret
  exact ⟨rfl, rfl⟩
set_option maxHeartbeats 2000000 in
theorem impl_NameOK (s : ByteArray) (w : World) (hs : s.size ≤ 9223372036854775807) : Calls Try.prog 110 #[.string s] w fun e w' => e = .returned (.bool (nameOK s)) ∧ w = w' := by
  go_enter Try.func110, Try.ntmps110
  go_wp2
  go_loop [8] (fun i => ∃ k : Nat, k ≤ s.size ∧ i = .int .i64 k ∧ nameTo s k = true) (fun i => s.size - (intOf i).toNat)
  case atStart => exact ⟨0, Nat.zero_le _, rfl, by simp [nameTo]⟩
  case round =>
    obtain ⟨k, hk, rfl, hp⟩ := hrel
    have Hp := hide hp
    clear hp
    by_cases hlt : k < s.size
    · have hsn := hide (nameTo_succ s k)
      have h255 : (s[k].toNat : Int) ≤ 255 := by have := s[k].toNat_lt; omega
      by_cases g0 : (s[k].toNat : Int) ≤ 64
      · have d1 : decide (97 ≤ (s[k].toNat : Int)) = false := by simp; omega
        have d2 : decide ((s[k].toNat : Int) ≤ 122) = true := by simp; omega
        have d3 : decide (65 ≤ (s[k].toNat : Int)) = false := by simp; omega
        have d4 : decide ((s[k].toNat : Int) ≤ 90) = true := by simp; omega
        have d5 : ((s[k].toNat : Int) == 95) = false := by simp; omega
        have hl : letterI (s[k].toNat : Int) = false := let4 (by omega) (by omega) (by omega)
        by_cases hk0 : k = 0
        · have hb : Hid (nameOK s = false) := nameOK_bad s k hlt (by unfold nameAt; rw [getB s k hlt, hl]; simp [hk0])
          have hk1 : ((k : Int) == 0) = true := by simp; omega
          clear hl hk0
          go_wp2
          go_ret
          exact ⟨by rw [hb.out]; rfl, rfl⟩
        have hk1 : ((k : Int) == 0) = false := by simp; omega
        cases hd : digitI (s[k].toNat : Int)
        · have hb : Hid (nameOK s = false) := nameOK_bad s k hlt (by unfold nameAt; rw [getB s k hlt, hl, hd]; simp)
          have Hd := hide hd
          clear hd hl hk0
          go_wp2_with (go_at_call 128; refine (impl_isDigit _ _).mono ?_; rw [Hd.out]; rintro e w' ⟨rfl, rfl⟩)
          go_ret
          exact ⟨by rw [hb.out]; rfl, rfl⟩
        have hg : Hid (nameAt s k = true) := by show _ = _; unfold nameAt; rw [getB s k hlt, hd]; simp [hk0]
        have Hd := hide hd
        clear hd hl hk0
        go_wp2_with (go_at_call 128; refine (impl_isDigit _ _).mono ?_; rw [Hd.out]; rintro e w' ⟨rfl, rfl⟩)
        go_round
        case rel => exact ⟨k + 1, hlt, by go_num, by rw [hsn.out, Hp.out, hg.out]; rfl⟩
        case measure => simp [intOf]; omega
      by_cases g1 : (s[k].toNat : Int) ≤ 90
      · have hlo : 65 ≤ (s[k].toNat : Int) := by omega
        have d1 : decide (97 ≤ (s[k].toNat : Int)) = false := by simp; omega
        have d2 : decide ((s[k].toNat : Int) ≤ 122) = true := by simp; omega
        have d3 : decide (65 ≤ (s[k].toNat : Int)) = true := by simp; omega
        have d4 : decide ((s[k].toNat : Int) ≤ 90) = true := by simp; omega
        have d5 : ((s[k].toNat : Int) == 95) = false := by simp; omega
        have hg : Hid (nameAt s k = true) := by show _ = _; unfold nameAt; rw [getB s k hlt, let2 (by omega) (by omega)]; rfl
        go_wp2
        go_round
        case rel => exact ⟨k + 1, hlt, by go_num, by rw [hsn.out, Hp.out, hg.out]; rfl⟩
        case measure => simp [intOf]; omega
      by_cases g2 : (s[k].toNat : Int) ≤ 94
      · have hlo : 91 ≤ (s[k].toNat : Int) := by omega
        have d1 : decide (97 ≤ (s[k].toNat : Int)) = false := by simp; omega
        have d2 : decide ((s[k].toNat : Int) ≤ 122) = true := by simp; omega
        have d3 : decide (65 ≤ (s[k].toNat : Int)) = true := by simp; omega
        have d4 : decide ((s[k].toNat : Int) ≤ 90) = false := by simp; omega
        have d5 : ((s[k].toNat : Int) == 95) = false := by simp; omega
        have hl : letterI (s[k].toNat : Int) = false := let4 (by omega) (by omega) (by omega)
        by_cases hk0 : k = 0
        · have hb : Hid (nameOK s = false) := nameOK_bad s k hlt (by unfold nameAt; rw [getB s k hlt, hl]; simp [hk0])
          have hk1 : ((k : Int) == 0) = true := by simp; omega
          clear hl hk0
          go_wp2
          go_ret
          exact ⟨by rw [hb.out]; rfl, rfl⟩
        have hk1 : ((k : Int) == 0) = false := by simp; omega
        cases hd : digitI (s[k].toNat : Int)
        · have hb : Hid (nameOK s = false) := nameOK_bad s k hlt (by unfold nameAt; rw [getB s k hlt, hl, hd]; simp)
          have Hd := hide hd
          clear hd hl hk0
          go_wp2_with (go_at_call 128; refine (impl_isDigit _ _).mono ?_; rw [Hd.out]; rintro e w' ⟨rfl, rfl⟩)
          go_ret
          exact ⟨by rw [hb.out]; rfl, rfl⟩
        have hg : Hid (nameAt s k = true) := by show _ = _; unfold nameAt; rw [getB s k hlt, hd]; simp [hk0]
        have Hd := hide hd
        clear hd hl hk0
        go_wp2_with (go_at_call 128; refine (impl_isDigit _ _).mono ?_; rw [Hd.out]; rintro e w' ⟨rfl, rfl⟩)
        go_round
        case rel => exact ⟨k + 1, hlt, by go_num, by rw [hsn.out, Hp.out, hg.out]; rfl⟩
        case measure => simp [intOf]; omega
      by_cases g3 : (s[k].toNat : Int) ≤ 95
      · have hlo : 95 ≤ (s[k].toNat : Int) := by omega
        have d1 : decide (97 ≤ (s[k].toNat : Int)) = false := by simp; omega
        have d2 : decide ((s[k].toNat : Int) ≤ 122) = true := by simp; omega
        have d3 : decide (65 ≤ (s[k].toNat : Int)) = true := by simp; omega
        have d4 : decide ((s[k].toNat : Int) ≤ 90) = false := by simp; omega
        have d5 : ((s[k].toNat : Int) == 95) = true := by simp; omega
        have hg : Hid (nameAt s k = true) := by show _ = _; unfold nameAt; rw [getB s k hlt, let3' (by omega) (by omega)]; rfl
        go_wp2
        go_round
        case rel => exact ⟨k + 1, hlt, by go_num, by rw [hsn.out, Hp.out, hg.out]; rfl⟩
        case measure => simp [intOf]; omega
      by_cases g4 : (s[k].toNat : Int) ≤ 96
      · have hlo : 96 ≤ (s[k].toNat : Int) := by omega
        have d1 : decide (97 ≤ (s[k].toNat : Int)) = false := by simp; omega
        have d2 : decide ((s[k].toNat : Int) ≤ 122) = true := by simp; omega
        have d3 : decide (65 ≤ (s[k].toNat : Int)) = true := by simp; omega
        have d4 : decide ((s[k].toNat : Int) ≤ 90) = false := by simp; omega
        have d5 : ((s[k].toNat : Int) == 95) = false := by simp; omega
        have hl : letterI (s[k].toNat : Int) = false := let4 (by omega) (by omega) (by omega)
        by_cases hk0 : k = 0
        · have hb : Hid (nameOK s = false) := nameOK_bad s k hlt (by unfold nameAt; rw [getB s k hlt, hl]; simp [hk0])
          have hk1 : ((k : Int) == 0) = true := by simp; omega
          clear hl hk0
          go_wp2
          go_ret
          exact ⟨by rw [hb.out]; rfl, rfl⟩
        have hk1 : ((k : Int) == 0) = false := by simp; omega
        cases hd : digitI (s[k].toNat : Int)
        · have hb : Hid (nameOK s = false) := nameOK_bad s k hlt (by unfold nameAt; rw [getB s k hlt, hl, hd]; simp)
          have Hd := hide hd
          clear hd hl hk0
          go_wp2_with (go_at_call 128; refine (impl_isDigit _ _).mono ?_; rw [Hd.out]; rintro e w' ⟨rfl, rfl⟩)
          go_ret
          exact ⟨by rw [hb.out]; rfl, rfl⟩
        have hg : Hid (nameAt s k = true) := by show _ = _; unfold nameAt; rw [getB s k hlt, hd]; simp [hk0]
        have Hd := hide hd
        clear hd hl hk0
        go_wp2_with (go_at_call 128; refine (impl_isDigit _ _).mono ?_; rw [Hd.out]; rintro e w' ⟨rfl, rfl⟩)
        go_round
        case rel => exact ⟨k + 1, hlt, by go_num, by rw [hsn.out, Hp.out, hg.out]; rfl⟩
        case measure => simp [intOf]; omega
      by_cases g5 : (s[k].toNat : Int) ≤ 122
      · have hlo : 97 ≤ (s[k].toNat : Int) := by omega
        have d1 : decide (97 ≤ (s[k].toNat : Int)) = true := by simp; omega
        have d2 : decide ((s[k].toNat : Int) ≤ 122) = true := by simp; omega
        have d3 : decide (65 ≤ (s[k].toNat : Int)) = true := by simp; omega
        have d4 : decide ((s[k].toNat : Int) ≤ 90) = false := by simp; omega
        have d5 : ((s[k].toNat : Int) == 95) = false := by simp; omega
        have hg : Hid (nameAt s k = true) := by show _ = _; unfold nameAt; rw [getB s k hlt, let1 (by omega) (by omega)]; rfl
        go_wp2
        go_round
        case rel => exact ⟨k + 1, hlt, by go_num, by rw [hsn.out, Hp.out, hg.out]; rfl⟩
        case measure => simp [intOf]; omega
      have hlo : 123 ≤ (s[k].toNat : Int) := by omega
      have d1 : decide (97 ≤ (s[k].toNat : Int)) = true := by simp; omega
      have d2 : decide ((s[k].toNat : Int) ≤ 122) = false := by simp; omega
      have d3 : decide (65 ≤ (s[k].toNat : Int)) = true := by simp; omega
      have d4 : decide ((s[k].toNat : Int) ≤ 90) = false := by simp; omega
      have d5 : ((s[k].toNat : Int) == 95) = false := by simp; omega
      have hl : letterI (s[k].toNat : Int) = false := let4 (by omega) (by omega) (by omega)
      by_cases hk0 : k = 0
      · have hb : Hid (nameOK s = false) := nameOK_bad s k hlt (by unfold nameAt; rw [getB s k hlt, hl]; simp [hk0])
        have hk1 : ((k : Int) == 0) = true := by simp; omega
        clear hl hk0
        go_wp2
        go_ret
        exact ⟨by rw [hb.out]; rfl, rfl⟩
      have hk1 : ((k : Int) == 0) = false := by simp; omega
      cases hd : digitI (s[k].toNat : Int)
      · have hb : Hid (nameOK s = false) := nameOK_bad s k hlt (by unfold nameAt; rw [getB s k hlt, hl, hd]; simp)
        have Hd := hide hd
        clear hd hl hk0
        go_wp2_with (go_at_call 128; refine (impl_isDigit _ _).mono ?_; rw [Hd.out]; rintro e w' ⟨rfl, rfl⟩)
        go_ret
        exact ⟨by rw [hb.out]; rfl, rfl⟩
      have hg : Hid (nameAt s k = true) := by show _ = _; unfold nameAt; rw [getB s k hlt, hd]; simp [hk0]
      have Hd := hide hd
      clear hd hl hk0
      go_wp2_with (go_at_call 128; refine (impl_isDigit _ _).mono ?_; rw [Hd.out]; rintro e w' ⟨rfl, rfl⟩)
      go_round
      case rel => exact ⟨k + 1, hlt, by go_num, by rw [hsn.out, Hp.out, hg.out]; rfl⟩
      case measure => simp [intOf]; omega
    · obtain rfl : k = s.size := by omega
      have hr : Hid (nameOK s = inB s.size 1 40) := by show _ = _; unfold nameOK; rw [Hp.out]; simp
      go_wp2_with (go_at_call 111; refine (impl_within _ _ _ _).mono ?_; rintro e w' ⟨rfl, rfl⟩)
      go_ret
      exact ⟨by rw [hr.out]; rfl, rfl⟩
end Go.Proofs.Ythglchopajdmhaa
