/- Atoms: what is right, in the program and in the reference. No statement is proved here; no conditions. -/
import Derived.Test.YthglchopajdmhaaCodes
namespace Go.Proofs.Ythglchopajdmhaa
open Go.ChangeShapes Go.WideShapes Go.ChangeAt Go.RowKit Go.Deep
set_option maxRecDepth 100000

def Atom.val (a : Atom) : Value := .agg #[.int .i64 a.kind, .int .i64 a.n, .string a.t]
def atomOK (a : Atom) : Bool :=
  if a.kind = 1 then inB a.n (-1000000000) 1000000000 && nilB a.t
  else if a.kind = 2 then a.n == 0 && plainB a.t
  else if a.kind = 3 then inB a.n 0 1 && nilB a.t
  else if a.kind = 4 then inB a.n 1 1000000 && nilB a.t
  else false
theorem spec_AtomOK (a : Atom) (w : World) (hf : a.fine) : Calls Try.prog 66 #[a.val] w fun e w' => e = .returned (.bool (atomOK a)) ∧ Below w.heap.size w w' := by
  obtain ⟨kd, n, t⟩ := a
  unfold Atom.val
  have ht : t.size ≤ 9223372036854775807 := hf.2.2
  clear hf
  by_cases h1 : kd = 1
  · subst h1
    have hr : Hid (atomOK ⟨1, n, t⟩ = (inB n (-1000000000) 1000000000 && nilB t)) := by show _ = _; simp [atomOK]
    cases hb : inB n (-1000000000) 1000000000
    · have H := hide hb
      clear hb
      go_enter Try.func66, Try.ntmps66
      go_wp2_with (go_at_call 88; refine (spec_l01In _ _ _ _).mono ?_; rw [H.out]; rintro e w' ⟨rfl, rfl⟩)
      go_ret
      exact ⟨by rw [hr.out, H.out]; rfl, (Below.refl _ _).alloc (Nat.le_refl _) _⟩
    · have H := hide hb
      clear hb
      go_enter Try.func66, Try.ntmps66
      go_wp2_with (go_at_call 88; refine (spec_l01In _ _ _ _).mono ?_; rw [H.out]; rintro e w' ⟨rfl, rfl⟩)
      go_ret
      exact ⟨by rw [hr.out, H.out]; rfl, (Below.refl _ _).alloc (Nat.le_refl _) _⟩
  by_cases h2 : kd = 2
  · subst h2
    have hr : Hid (atomOK ⟨2, n, t⟩ = (n == 0 && plainB t)) := by show _ = _; simp [atomOK]
    by_cases hn : n = 0
    · have hn0 : (n == 0) = true := by simp [hn]
      have hr : Hid (atomOK ⟨2, n, t⟩ = plainB t) := by show _ = _; rw [hr.out, hn0]; rfl
      clear hn
      go_enter Try.func66, Try.ntmps66
      go_wp2_with (go_at_call 89; refine (spec_l01Text _ _ ht).mono ?_; rintro e w' ⟨rfl, rfl⟩)
      go_ret
      exact ⟨by rw [hr.out]; rfl, (Below.refl _ _).alloc (Nat.le_refl _) _⟩
    · have hn0 : (n == 0) = false := by simp [hn]
      have hr : Hid (atomOK ⟨2, n, t⟩ = false) := by show _ = _; rw [hr.out, hn0]; rfl
      clear hn
      go_enter Try.func66, Try.ntmps66
      go_wp2
      go_ret
      exact ⟨by rw [hr.out]; rfl, (Below.refl _ _).alloc (Nat.le_refl _) _⟩
  by_cases h3 : kd = 3
  · subst h3
    have hr : Hid (atomOK ⟨3, n, t⟩ = (inB n (0) 1 && nilB t)) := by show _ = _; simp [atomOK]
    cases hb : inB n (0) 1
    · have H := hide hb
      clear hb
      go_enter Try.func66, Try.ntmps66
      go_wp2_with (go_at_call 88; refine (spec_l01In _ _ _ _).mono ?_; rw [H.out]; rintro e w' ⟨rfl, rfl⟩)
      go_ret
      exact ⟨by rw [hr.out, H.out]; rfl, (Below.refl _ _).alloc (Nat.le_refl _) _⟩
    · have H := hide hb
      clear hb
      go_enter Try.func66, Try.ntmps66
      go_wp2_with (go_at_call 88; refine (spec_l01In _ _ _ _).mono ?_; rw [H.out]; rintro e w' ⟨rfl, rfl⟩)
      go_ret
      exact ⟨by rw [hr.out, H.out]; rfl, (Below.refl _ _).alloc (Nat.le_refl _) _⟩
  by_cases h4 : kd = 4
  · subst h4
    have hr : Hid (atomOK ⟨4, n, t⟩ = (inB n (1) 1000000 && nilB t)) := by show _ = _; simp [atomOK]
    cases hb : inB n (1) 1000000
    · have H := hide hb
      clear hb
      go_enter Try.func66, Try.ntmps66
      go_wp2_with (go_at_call 88; refine (spec_l01In _ _ _ _).mono ?_; rw [H.out]; rintro e w' ⟨rfl, rfl⟩)
      go_ret
      exact ⟨by rw [hr.out, H.out]; rfl, (Below.refl _ _).alloc (Nat.le_refl _) _⟩
    · have H := hide hb
      clear hb
      go_enter Try.func66, Try.ntmps66
      go_wp2_with (go_at_call 88; refine (spec_l01In _ _ _ _).mono ?_; rw [H.out]; rintro e w' ⟨rfl, rfl⟩)
      go_ret
      exact ⟨by rw [hr.out, H.out]; rfl, (Below.refl _ _).alloc (Nat.le_refl _) _⟩
  · have hr : Hid (atomOK ⟨kd, n, t⟩ = false) := by show _ = _; simp [atomOK, h1, h2, h3, h4]
    have k1 : (kd == 1) = false := by simp [h1]
    have k2 : (kd == 2) = false := by simp [h2]
    have k3 : (kd == 3) = false := by simp [h3]
    have k4 : (kd == 4) = false := by simp [h4]
    clear h1 h2 h3 h4
    go_enter Try.func66, Try.ntmps66
    go_wp2
    go_ret
    exact ⟨by rw [hr.out]; rfl, (Below.refl _ _).alloc (Nat.le_refl _) _⟩
theorem impl_AtomOK (a : Atom) (w : World) (hf : a.fine) : Calls Try.prog 101 #[a.val] w fun e w' => e = .returned (.bool (atomOK a)) ∧ Below w.heap.size w w' := by
  obtain ⟨kd, n, t⟩ := a
  unfold Atom.val
  have ht : t.size ≤ 9223372036854775807 := hf.2.2
  clear hf
  by_cases h1 : kd = 1
  · subst h1
    have hr : Hid (atomOK ⟨1, n, t⟩ = (inB n (-1000000000) 1000000000 && nilB t)) := by show _ = _; simp [atomOK]
    cases hb : inB n (-1000000000) 1000000000
    · have H := hide hb
      clear hb
      go_enter Try.func101, Try.ntmps101
      go_wp2_with (go_at_call 112; refine (impl_isNumber _ _).mono ?_; rw [H.out]; rintro e w' ⟨rfl, rfl⟩)
      go_ret
      exact ⟨by rw [hr.out, H.out]; rfl, (Below.refl _ _).alloc (Nat.le_refl _) _⟩
    · have H := hide hb
      clear hb
      go_enter Try.func101, Try.ntmps101
      go_wp2_with (go_at_call 112; refine (impl_isNumber _ _).mono ?_; rw [H.out]; rintro e w' ⟨rfl, rfl⟩)
      go_ret
      exact ⟨by rw [hr.out, H.out]; rfl, (Below.refl _ _).alloc (Nat.le_refl _) _⟩
  by_cases h2 : kd = 2
  · subst h2
    have hr : Hid (atomOK ⟨2, n, t⟩ = (n == 0 && plainB t)) := by show _ = _; simp [atomOK]
    by_cases hn : n = 0
    · have hn0 : (n == 0) = true := by simp [hn]
      have hr : Hid (atomOK ⟨2, n, t⟩ = plainB t) := by show _ = _; rw [hr.out, hn0]; rfl
      clear hn
      go_enter Try.func101, Try.ntmps101
      go_wp2_with (go_at_call 119; refine (impl_isPlain _ _ ht).mono ?_; rintro e w' ⟨rfl, rfl⟩)
      go_ret
      exact ⟨by rw [hr.out]; rfl, (Below.refl _ _).alloc (Nat.le_refl _) _⟩
    · have hn0 : (n == 0) = false := by simp [hn]
      have hr : Hid (atomOK ⟨2, n, t⟩ = false) := by show _ = _; rw [hr.out, hn0]; rfl
      clear hn
      go_enter Try.func101, Try.ntmps101
      go_wp2
      go_ret
      exact ⟨by rw [hr.out]; rfl, (Below.refl _ _).alloc (Nat.le_refl _) _⟩
  by_cases h3 : kd = 3
  · subst h3
    have hr : Hid (atomOK ⟨3, n, t⟩ = (inB n (0) 1 && nilB t)) := by show _ = _; simp [atomOK]
    cases hb : inB n (0) 1
    · have H := hide hb
      clear hb
      go_enter Try.func101, Try.ntmps101
      go_wp2_with (go_at_call 111; refine (impl_within _ _ _ _).mono ?_; rw [H.out]; rintro e w' ⟨rfl, rfl⟩)
      go_ret
      exact ⟨by rw [hr.out, H.out]; rfl, (Below.refl _ _).alloc (Nat.le_refl _) _⟩
    · have H := hide hb
      clear hb
      go_enter Try.func101, Try.ntmps101
      go_wp2_with (go_at_call 111; refine (impl_within _ _ _ _).mono ?_; rw [H.out]; rintro e w' ⟨rfl, rfl⟩)
      go_ret
      exact ⟨by rw [hr.out, H.out]; rfl, (Below.refl _ _).alloc (Nat.le_refl _) _⟩
  by_cases h4 : kd = 4
  · subst h4
    have hr : Hid (atomOK ⟨4, n, t⟩ = (inB n (1) 1000000 && nilB t)) := by show _ = _; simp [atomOK]
    cases hb : inB n (1) 1000000
    · have H := hide hb
      clear hb
      go_enter Try.func101, Try.ntmps101
      go_wp2_with (go_at_call 123; refine (impl_isId _ _).mono ?_; rw [H.out]; rintro e w' ⟨rfl, rfl⟩)
      go_ret
      exact ⟨by rw [hr.out, H.out]; rfl, (Below.refl _ _).alloc (Nat.le_refl _) _⟩
    · have H := hide hb
      clear hb
      go_enter Try.func101, Try.ntmps101
      go_wp2_with (go_at_call 123; refine (impl_isId _ _).mono ?_; rw [H.out]; rintro e w' ⟨rfl, rfl⟩)
      go_ret
      exact ⟨by rw [hr.out, H.out]; rfl, (Below.refl _ _).alloc (Nat.le_refl _) _⟩
  · have hr : Hid (atomOK ⟨kd, n, t⟩ = false) := by show _ = _; simp [atomOK, h1, h2, h3, h4]
    have k1 : (kd == 1) = false := by simp [h1]
    have k2 : (kd == 2) = false := by simp [h2]
    have k3 : (kd == 3) = false := by simp [h3]
    have k4 : (kd == 4) = false := by simp [h4]
    clear h1 h2 h3 h4
    go_enter Try.func101, Try.ntmps101
    go_wp2
    go_ret
    exact ⟨by rw [hr.out]; rfl, (Below.refl _ _).alloc (Nat.le_refl _) _⟩
end Go.Proofs.Ythglchopajdmhaa
