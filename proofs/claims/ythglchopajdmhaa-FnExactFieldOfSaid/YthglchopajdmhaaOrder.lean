/- The order of atoms, in the program and in the reference. No statement is proved here; no conditions. -/
import Derived.Test.YthglchopajdmhaaAtom1
import Derived.Test.YthglchopajdmhaaSz
import Derived.Test.YthglchopajdmhaaTo
import Derived.Test.YthglchopajdmhaaOwn
import Derived.Test.YthglchopajdmhaaShelf
import Derived.StillTailTactics
namespace Go.Proofs.Ythglchopajdmhaa
open Go.ChangeShapes Go.WideShapes Go.ChangeAt Go.RowKit Go.Deep
set_option maxRecDepth 100000

def cmpI (a b : Int) : Int := if a < b then -1 else if b < a then 1 else 0
def cmpS (s t : ByteArray) : Int := Lib.compareBytes s.data.toList t.data.toList
def ordA (a b : Atom) : Int := if a.kind ≠ b.kind then cmpI a.kind b.kind else if a.n ≠ b.n then cmpI a.n b.n else cmpS a.t b.t
def bit (b : Bool) : Int := if b then 1 else 0
theorem cmpL_less : ∀ (l m : List UInt8), Lib.compareBytes l m = if l = m then 0 else if Op.bytesLess l m then -1 else 1
  | [], [] => by simp [Lib.compareBytes]
  | [], _ :: _ => by simp [Lib.compareBytes, Op.bytesLess]
  | _ :: _, [] => by simp [Lib.compareBytes, Op.bytesLess]
  | a :: x, b :: y => by
    simp only [Lib.compareBytes, Op.bytesLess, cmpL_less x y, List.cons.injEq]
    by_cases h1 : a < b
    · have : a ≠ b := fun h => by subst h; exact absurd h1 (by simp)
      simp [h1, this]
    · by_cases h2 : b < a
      · have : a ≠ b := fun h => by subst h; exact absurd h2 (by simp)
        simp [h1, h2, this]
      · have : a = b := by
          rw [UInt8.lt_iff_toNat_lt] at h1 h2
          exact UInt8.toNat_inj.1 (by omega)
        subst this
        simp
theorem cmpS_cases (s t : ByteArray) : cmpS s t = if eqS s t then 0 else 1 - 2 * bit (Op.bytesLess s.toList t.toList) := by
  unfold cmpS
  rw [cmpL_less]
  by_cases h : s = t
  · subst h; rw [if_pos rfl, eqS_iff.2 rfl]; rfl
  · have h1 : eqS s t = false := by cases h' : eqS s t with
      | false => rfl
      | true => exact absurd (eqS_iff.1 h') h
    have h2 : s.data.toList ≠ t.data.toList := fun h' => h (ByteArray.ext (Array.ext' h'))
    rw [if_neg h2, h1, if_neg (c := (false = true)) (by simp), ByteArray.toList_eq, ByteArray.toList_eq]
    unfold bit; split <;> rfl
theorem cmpI_ne {a b : Int} (h : a ≠ b) : cmpI a b = 1 - 2 * bit (decide (a < b)) := by
  unfold cmpI bit
  by_cases h1 : a < b
  · simp [h1]
  · simp [h1]; omega
theorem cmpI_bd (a b : Int) : -1 ≤ cmpI a b ∧ cmpI a b ≤ 1 := by unfold cmpI; split <;> (try split) <;> omega
theorem cmpS_bd (a b : ByteArray) : -1 ≤ cmpS a b ∧ cmpS a b ≤ 1 := by rw [cmpS_cases]; unfold bit; split <;> (try split) <;> omega
theorem cmpI_zero {a b : Int} : cmpI a b = 0 ↔ a = b := by unfold cmpI; split <;> (try split) <;> constructor <;> intro h <;> omega

theorem region_still_tail {P : Program} {id : Nat} {Q : Exit → Act → World → Prop} {a : Act} {w : World} {l : List Oper} (n : Nat) (hm : P.follows .mixedOrders = true) (hB : Region.lexTailB .any l.toArray n = true)
    (h : wpStill P l.toArray w.drew (fun a' => wpList P l.toArray Q (l.drop n) a' w.drew) (l.take n) a) : (Code.region id l.toArray true).wp P Q a w := wp_region_still_tail n hm hB h

theorem spec_l01Bit (b : Bool) (w : World) : Calls Try.prog 93 #[.bool b] w fun e w' => e = .returned (.int .i64 (bit b)) ∧ w = w' := by
  cases b
  all_goals
    go_enter Try.func93, Try.ntmps93
    go_wp2
    go_ret
    exact ⟨rfl, rfl⟩
theorem bit_bd (b : Bool) : 0 ≤ bit b ∧ bit b ≤ 1 := by unfold bit; split <;> omega
theorem spec_l03Order (a b : Atom) (w : World) : Calls Try.prog 106 #[a.val, b.val] w fun e w' => e = .returned (.int .i64 (ordA a b)) ∧ Below w.heap.size w w' := by
  obtain ⟨k1, n1, t1⟩ := a
  obtain ⟨k2, n2, t2⟩ := b
  unfold Atom.val
  have hbl : ∀ (o1 o2 : Obj), Below w.heap.size w ((w.alloc o1).alloc o2) := fun o1 o2 => ((Below.refl _ _).alloc (Nat.le_refl _) _).alloc (by simp) _
  by_cases h1 : k1 = k2
  · subst h1
    by_cases h2 : n1 = n2
    · subst h2
      cases h3 : t1.toList == t2.toList
      · have hr : Hid (ordA ⟨k1, n1, t1⟩ ⟨k1, n1, t2⟩ = 1 - 2 * bit (Op.bytesLess t1.toList t2.toList)) := by
          show _ = _; simp only [ordA]; rw [if_neg (by simp), if_neg (by simp), cmpS_cases]; unfold eqS; rw [h3]; rfl
        obtain ⟨b0, b1⟩ := bit_bd (Op.bytesLess t1.toList t2.toList)
        go_enter Try.func106, Try.ntmps106
        go_wp2_with (go_at_call 93; refine (spec_l01Bit _ _).mono ?_; rintro e w1 ⟨rfl, rfl⟩)
        go_ret
        exact ⟨by rw [hr.out]; rfl, hbl _ _⟩
      · have hr : Hid (ordA ⟨k1, n1, t1⟩ ⟨k1, n1, t2⟩ = 0) := by
          show _ = _; simp only [ordA]; rw [if_neg (by simp), if_neg (by simp), cmpS_cases]; unfold eqS; rw [h3]; rfl
        go_enter Try.func106, Try.ntmps106
        go_wp2_with (go_at_call 93; refine (spec_l01Bit _ _).mono ?_; rintro e w1 ⟨rfl, rfl⟩)
        go_ret
        exact ⟨by rw [hr.out]; rfl, hbl _ _⟩
    · have hr : Hid (ordA ⟨k1, n1, t1⟩ ⟨k1, n2, t2⟩ = 1 - 2 * bit (decide (n1 < n2))) := by
        show _ = _; simp only [ordA]; rw [if_neg (by simp), if_pos h2, cmpI_ne h2]
      have hn : (n1 != n2) = true := by simp [h2]
      obtain ⟨b0, b1⟩ := bit_bd (decide (n1 < n2))
      clear h2
      go_enter Try.func106, Try.ntmps106
      go_wp2_with (go_at_call 93; refine (spec_l01Bit _ _).mono ?_; rintro e w1 ⟨rfl, rfl⟩)
      go_ret
      exact ⟨by rw [hr.out]; rfl, hbl _ _⟩
  · have hr : Hid (ordA ⟨k1, n1, t1⟩ ⟨k2, n2, t2⟩ = 1 - 2 * bit (decide (k1 < k2))) := by
      show _ = _; simp only [ordA]; rw [if_pos h1, cmpI_ne h1]
    have hn : (k1 != k2) = true := by simp [h1]
    obtain ⟨b0, b1⟩ := bit_bd (decide (k1 < k2))
    clear h1
    go_enter Try.func106, Try.ntmps106
    go_wp2_with (go_at_call 93; refine (spec_l01Bit _ _).mono ?_; rintro e w1 ⟨rfl, rfl⟩)
    go_ret
    exact ⟨by rw [hr.out]; rfl, hbl _ _⟩
theorem cmp_isNaN (n : Int) (w : World) : Calls Try.prog 142 #[.int .i64 n] w fun e w' => e = .returned (.bool false) ∧ w = w' := by
  go_enter Try.func142, Try.ntmps142
  go_wp2
  go_ret
  exact ⟨by simp, rfl⟩
theorem cmp_Compare (a b : Int) (w : World) : Calls Try.prog 130 #[.int .i64 a, .int .i64 b] w fun e w' => e = .returned (.int .i64 (cmpI a b)) ∧ w = w' := by
  by_cases h1 : a < b
  · have hr : Hid (cmpI a b = -1) := by show _ = _; unfold cmpI; rw [if_pos h1]
    go_enter Try.func130, Try.ntmps130
    go_wp2_with (go_at_call 142; refine (cmp_isNaN _ _).mono ?_; rintro e w1 ⟨rfl, rfl⟩)
    go_ret
    exact ⟨by rw [hr.out]; rfl, rfl⟩
  · by_cases h2 : b < a
    · have hr : Hid (cmpI a b = 1) := by show _ = _; unfold cmpI; rw [if_neg h1, if_pos h2]
      go_enter Try.func130, Try.ntmps130
      go_wp2_with (go_at_call 142; refine (cmp_isNaN _ _).mono ?_; rintro e w1 ⟨rfl, rfl⟩)
      go_ret
      exact ⟨by rw [hr.out]; rfl, rfl⟩
    · have hr : Hid (cmpI a b = 0) := by show _ = _; unfold cmpI; rw [if_neg h1, if_neg h2]
      go_enter Try.func130, Try.ntmps130
      go_wp2_with (go_at_call 142; refine (cmp_isNaN _ _).mono ?_; rintro e w1 ⟨rfl, rfl⟩)
      go_ret
      exact ⟨by rw [hr.out]; rfl, rfl⟩
/-- Of three numbers the first that is not 0, where they lie in a row of the call's own. -/
def or3 (x y z : Int) : Int := if x ≠ 0 then x else if y ≠ 0 then y else z
theorem cmp_Or3 (x y z : Int) {W : World} {g : Nat} (hg : W.heap[g]? = some (.cells #[.int .i64 x, .int .i64 y, .int .i64 z] 3 (0, 0))) :
    Calls Try.prog 129 #[.slice (some ⟨g, 0, none⟩) 3 3] W fun e w' => e = .returned (.int .i64 (or3 x y z)) ∧ W = w' := by
  have hc := blk_cells hg
  clear hg
  have c0 := hc 0
  have c1 := hc 1
  have c2 := hc 2
  simp at c0 c1 c2
  clear hc
  go_enter Try.func129, Try.ntmps129
  go_wp2
  go_loop [8] (fun i => ∃ k : Nat, k ≤ 3 ∧ i = .int .i64 k ∧ (0 < k → x = 0) ∧ (1 < k → y = 0) ∧ (2 < k → z = 0)) (fun i => 3 - (intOf i).toNat)
  case atStart => exact ⟨0, by omega, rfl, by omega, by omega, by omega⟩
  case round =>
    obtain ⟨k, hk, rfl, hx, hy, hz⟩ := hrel
    have hk' : k = 0 ∨ k = 1 ∨ k = 2 ∨ k = 3 := by omega
    rcases hk' with rfl | rfl | rfl | rfl
    · by_cases h : x = 0
      · have hn : (x != 0) = false := by simp [h]
        have Hh := hide h
        clear hx hy hz h
        go_wp2
        go_round
        case rel => exact ⟨1, by omega, rfl, fun _ => Hh.out, by omega, by omega⟩
        case measure => simp [intOf]
      · have hn : (x != 0) = true := by simp [h]
        have hr : Hid (or3 x y z = x) := by show _ = _; unfold or3; rw [if_pos h]
        clear hx hy hz h
        go_wp2
        go_ret
        exact ⟨by rw [hr.out]; rfl, rfl⟩
    · have Hx := hide (hx (by omega))
      clear hx
      by_cases h : y = 0
      · have hn : (y != 0) = false := by simp [h]
        have Hh := hide h
        clear hy hz h
        go_wp2
        go_round
        case rel => exact ⟨2, by omega, rfl, fun _ => Hx.out, fun _ => Hh.out, by omega⟩
        case measure => simp [intOf]
      · have hn : (y != 0) = true := by simp [h]
        have hr : Hid (or3 x y z = y) := by show _ = _; unfold or3; rw [if_neg (by rw [Hx.out]; simp), if_pos h]
        clear hy hz h
        go_wp2
        go_ret
        exact ⟨by rw [hr.out]; rfl, rfl⟩
    · have Hx := hide (hx (by omega))
      have Hy := hide (hy (by omega))
      clear hx hy
      by_cases h : z = 0
      · have hn : (z != 0) = false := by simp [h]
        have Hh := hide h
        clear hz h
        go_wp2
        go_round
        case rel => exact ⟨3, by omega, rfl, fun _ => Hx.out, fun _ => Hy.out, fun _ => Hh.out⟩
        case measure => simp [intOf]
      · have hn : (z != 0) = true := by simp [h]
        have hr : Hid (or3 x y z = z) := by show _ = _; unfold or3; rw [if_neg (by rw [Hx.out]; simp), if_neg (by rw [Hy.out]; simp)]
        clear hz h
        go_wp2
        go_ret
        exact ⟨by rw [hr.out]; rfl, rfl⟩
    · have hr : Hid (or3 x y z = 0) := by show _ = _; unfold or3; rw [hx (by omega), hy (by omega), hz (by omega)]; rfl
      clear hx hy hz
      go_wp2
      go_ret
      exact ⟨by rw [hr.out]; rfl, rfl⟩
theorem ordA_or3 (a b : Atom) : or3 (cmpI a.kind b.kind) (cmpI a.n b.n) (cmpS a.t b.t) = ordA a b := by
  unfold or3 ordA
  by_cases h1 : a.kind = b.kind
  · have z1 := cmpI_zero.2 h1
    by_cases h2 : a.n = b.n
    · have z2 := cmpI_zero.2 h2
      rw [z1, z2]
      simp [h1, h2]
    · have z2 : ¬ cmpI a.n b.n = 0 := fun h => h2 (cmpI_zero.1 h)
      rw [z1]
      simp [z2, h1, h2]
  · have z1 : ¬ cmpI a.kind b.kind = 0 := fun h => h1 (cmpI_zero.1 h)
    simp [z1, h1]
theorem impl_compareAtoms (a b : Atom) (w : World) : Calls Try.prog 113 #[a.val, b.val] w fun e w' => e = .returned (.int .i64 (ordA a b)) ∧ Below w.heap.size w w' := by
  rw [← ordA_or3]
  obtain ⟨k1, n1, t1⟩ := a
  obtain ⟨k2, n2, t2⟩ := b
  unfold Atom.val
  go_enter Try.func113, Try.ntmps113
  go_wp2
  refine region_still_tail 15 (by kernel_rfl) (by kernel_rfl) ?_
  simp only [List.take_succ_cons, List.take_zero, List.drop_succ_cons, List.drop_zero]
  repeat (first | still_step | still_call ((cmp_Compare _ _ _).mono fun _ _ h => ⟨h.1, h.2.symm⟩) | still_call (Try.strings_Compare _ _ _))
  refine wpStill_nil ?_
  go_wp2_with fail
  refine (cmp_Or3 _ _ _ (by simpa [World.drew] using blk_new ((w.alloc _).alloc _) _ _)).mono ?_
  rintro e w1 ⟨rfl, rfl⟩
  go_wp2_with fail
  go_ret
  exact ⟨rfl, ((((Below.refl _ _).alloc (Nat.le_refl _) _).alloc (by simp) _).alloc (by simp; omega) _).drew⟩
def ordCode (a b : Atom) : Int × Int := if atomOK a && atomOK b then (ordA a b, 0) else (0, 1)
end Go.Proofs.Ythglchopajdmhaa
