/- The words of codes, conditions and mutations: what the functions on them return. No statement is proved here; no conditions. Written by a program (gen4.py). -/
import Derived.Test.YtphhkficdpeioabCodes
namespace Go.Proofs.Ytphhkficdpeioab
open Go.ChangeShapes Go.WideShapes Go.ChangeAt Go.RowKit Go.Deep
set_option maxRecDepth 100000
set_option linter.unusedVariables false

def codeL : List ByteArray := [⟨#[111, 107]⟩, ⟨#[98, 97, 100]⟩, ⟨#[108, 111, 110, 103]⟩, ⟨#[102, 111, 114, 109]⟩, ⟨#[114, 97, 110, 103, 101]⟩, ⟨#[110, 111, 110, 101]⟩, ⟨#[109, 97, 110, 121]⟩, ⟨#[102, 117, 108, 108]⟩, ⟨#[116, 119, 105, 99, 101]⟩, ⟨#[116, 121, 112, 101]⟩, ⟨#[116, 97, 98, 108, 101]⟩, ⟨#[99, 111, 108, 117, 109, 110]⟩, ⟨#[117, 110, 105, 113, 117, 101]⟩, ⟨#[114, 101, 102]⟩, ⟨#[111, 119, 110, 101, 114]⟩, ⟨#[119, 97, 105, 116]⟩, ⟨#[97, 98, 111, 114, 116]⟩, ⟨#[99, 108, 111, 115, 101, 100]⟩, ⟨#[100, 101, 101, 112]⟩, ⟨#[109, 101, 116, 104, 111, 100]⟩]
def funcL : List ByteArray := [⟨#[61, 61]⟩, ⟨#[33, 61]⟩, ⟨#[60]⟩, ⟨#[60, 61]⟩, ⟨#[62]⟩, ⟨#[62, 61]⟩, ⟨#[105, 110, 99, 108, 117, 100, 101, 115]⟩, ⟨#[101, 120, 99, 108, 117, 100, 101, 115]⟩]
def mutL : List ByteArray := [⟨#[43, 61]⟩, ⟨#[45, 61]⟩, ⟨#[42, 61]⟩, ⟨#[47, 61]⟩, ⟨#[37, 61]⟩, ⟨#[105, 110, 115, 101, 114, 116]⟩, ⟨#[100, 101, 108, 101, 116, 101]⟩]
def funcL1 : List ByteArray := ⟨#[]⟩ :: funcL
def mutL1 : List ByteArray := ⟨#[]⟩ :: mutL
def at_ (l : List ByteArray) (n : Nat) : ByteArray := l.getD n ⟨#[]⟩
theorem at_get (l : List ByteArray) (n : Nat) (h : n < (l.map Value.string).length) : (l.map Value.string)[n] = .string (at_ l n) := by
  rw [List.getElem_map]; unfold at_; rw [List.getD_eq_getElem?_getD, List.getElem?_eq_getElem (by simpa using h)]; rfl
theorem at_cell (w : World) (l : List ByteArray) (t : TypeId) (n : Nat) (h : n < l.length) : (w.alloc (.cells (l.map Value.string).toArray t)).cell? ⟨w.heap.size, n, none⟩ = some (.string (at_ l n)) := by
  have hl : n < (l.map Value.string).length := by simpa using h
  rw [cell_of_row _ _ _ _ _ _ (heap_alloc_new w _), ← at_get _ _ hl]
  simp
/-- The first place of a text in a list, or -1. -/
def idxI (l : List ByteArray) (s : ByteArray) : Int := if l.any (fun t => eqS t s) then (l.findIdx (fun t => eqS t s) : Int) else -1
theorem idxI_at {l : List ByteArray} {s : ByteArray} {k : Nat} (hk : k < l.length) (hb : ∀ j, j < k → eqS (at_ l j) s = false) (h : eqS (at_ l k) s = true) : idxI l s = k := by
  have ha : ∀ j (hj : j < l.length), at_ l j = l[j] := fun j hj => by unfold at_; rw [List.getD_eq_getElem?_getD, List.getElem?_eq_getElem hj]; rfl
  have hany : l.any (fun t => eqS t s) = true := List.any_eq_true.2 ⟨l[k], List.getElem_mem _, by rw [← ha k hk]; exact h⟩
  have hf : l.findIdx (fun t => eqS t s) = k := by
    rw [List.findIdx_eq hk]
    exact ⟨by rw [← ha k hk]; exact h, fun j hj => by rw [← ha j (by omega), hb j hj]⟩
  unfold idxI; rw [hany, if_pos rfl, hf]
theorem idxI_none {l : List ByteArray} {s : ByteArray} (hb : ∀ j, j < l.length → eqS (at_ l j) s = false) : idxI l s = -1 := by
  have hany : l.any (fun t => eqS t s) = false := by
    rw [List.any_eq_false]
    intro x hx
    obtain ⟨j, hj, rfl⟩ := List.getElem_of_mem hx
    have := hb j hj
    unfold at_ at this; rw [List.getD_eq_getElem?_getD, List.getElem?_eq_getElem hj] at this
    simpa using this
  unfold idxI; rw [hany]; rfl
theorem eqS_long {s t : ByteArray} (h : s.size ≠ t.size) : eqS s t = false := by
  cases h' : eqS s t with
  | false => rfl
  | true => exact absurd (congrArg ByteArray.size (eqS_iff.1 h')) h
theorem idxI_bounds (l : List ByteArray) (s : ByteArray) : -1 ≤ idxI l s ∧ idxI l s < l.length := by
  unfold idxI
  split
  · rename_i h
    have := List.findIdx_lt_length.2 (List.any_eq_true.1 h)
    omega
  · omega
theorem SL {w : World} {l : List ByteArray} (hl : l.length ≤ 100) (hs : ∀ s ∈ l, s.size ≤ 100) (hne : l ≠ []) (t : TypeId) : StringSR (w.alloc (.cells (l.map Value.string).toArray t)) [w.heap.size] [.slice (some ⟨w.heap.size, 0, none⟩) l.length l.length] l := by
  refine ⟨_, _, rfl, Nat.le_refl _, by unfold maxLen; omega, .inr ⟨w.heap.size, 0, l.map fun _ => [], rfl, by simp, by simp, ?_, fun k x bk hx hbk => ?_⟩⟩
  · have : (l.map fun _ => ([] : List Nat)).flatten = [] := by simp
    rw [this]
  · have hk : k < l.length := by
      rcases Nat.lt_or_ge k l.length with h | h
      · exact h
      · rw [List.getElem?_eq_none h] at hx; cases hx
    simp only [List.getElem?_map, hx, Option.map_some, Option.some.injEq] at hbk
    subst hbk
    have hm := List.mem_of_getElem? hx
    refine ⟨[.string x], rfl, fun j u hu => ?_, rfl, rfl, by have := hs x hm; omega⟩
    match j, hu with
    | 0, hu =>
      simp only [List.getElem?_cons_zero, Option.some.injEq] at hu
      subst hu
      rw [Nat.zero_add, Nat.mul_one, Nat.add_zero, at_cell w l t k hk]
      unfold at_; rw [List.getD_eq_getElem?_getD, hx]; rfl
    | j + 1, hu => simp at hu

theorem impl_funcWords (w : World) : Calls Try.prog 14 #[] w fun e w' => e = .returned (.slice (some ⟨w.heap.size, 0, none⟩) 8 8) ∧ w.alloc (.cells (funcL.map Value.string).toArray 9) = w' := by
  go_enter Try.func14, Try.ntmps14
  go_wp2
  go_ret
  exact ⟨rfl, rfl⟩
theorem spec_l06Words (w : World) : Calls Try.prog 17 #[] w fun e w' => e = .returned (.slice (some ⟨w.heap.size, 0, none⟩) 9 9) ∧ w.alloc (.cells (funcL1.map Value.string).toArray 9) = w' := by
  go_enter Try.func17, Try.ntmps17
  go_wp2
  go_ret
  exact ⟨rfl, rfl⟩
theorem slices_Index {w0 w : World} (hb : Below w0.heap.size w0 w) {bs : List Nat} {v : Value} {xs : List ByteArray} (hx : StringSR w0 bs [v] xs) (s : ByteArray) :
    Calls Try.prog 18 #[v, .string s] w fun e w' => e = .returned (.int .i64 (idxI xs s)) ∧ w = w' := by
  obtain ⟨A, c, rfl, hlc, hcm, hel⟩ := hx.use
  go_enter Try.func18, Try.ntmps18
  go_wp2
  go_loop [8] (fun i => ∃ k : Nat, k ≤ xs.length ∧ i = .int .i64 k ∧ ∀ j, j < k → eqS (at_ xs j) s = false) (fun i => xs.length - (intOf i).toNat)
  case atStart => exact ⟨0, Nat.zero_le _, rfl, fun j hj => absurd hj (by omega)⟩
  case round =>
    obtain ⟨k, hk, rfl, hp⟩ := hrel
    have Hp := hide hp
    clear hp
    by_cases hlt : k < xs.length
    · obtain ⟨b, o, bk, es, rfl, hbl, hcl, hcell, ⟨_, rfl, hsz⟩, _⟩ := hel k hlt
      have ha : at_ xs k = xs[k] := by unfold at_; rw [List.getD_eq_getElem?_getD, List.getElem?_eq_getElem hlt]; rfl
      have c0 := (hb.cell (p := ⟨b, _, none⟩) hbl).trans (hcell 0 _ rfl)
      rw [← ha] at c0
      simp only [Nat.add_zero, Nat.mul_one] at c0
      clear hcell hel hcl hsz ha
      cases h : eqS s (at_ xs k)
      · have hn : Hid (∀ j, j < k + 1 → eqS (at_ xs j) s = false) := by
          intro j hj
          by_cases hjk : j = k
          · subst hjk
            cases h' : eqS (at_ xs j) s
            · rfl
            · rw [eqS_iff.1 h', eqS_iff.2 rfl] at h; cases h
          · exact Hp.out j (by omega)
        unfold eqS at h
        go_wp2
        go_round
        case rel => exact ⟨k + 1, hlt, by go_num, hn.out⟩
        case measure => simp [intOf]; omega
      · have hr : Hid (idxI xs s = k) := idxI_at hlt Hp.out (by rw [eqS_iff.1 h]; exact eqS_iff.2 rfl)
        unfold eqS at h
        go_wp2
        go_ret
        exact ⟨by rw [hr.out]; rfl, rfl⟩
    · obtain rfl : k = xs.length := by omega
      have hr : Hid (idxI xs s = -1) := idxI_none Hp.out
      go_wp2
      go_ret
      exact ⟨by rw [hr.out]; rfl, rfl⟩
theorem impl_placeOf {w0 w : World} (hb : Below w0.heap.size w0 w) {bs : List Nat} {v : Value} {xs : List ByteArray} (hx : StringSR w0 bs [v] xs) (hl : xs.length ≤ 100) (s : ByteArray) :
    Calls Try.prog 13 #[v, .string s] w fun e w' => e = .returned (.int .i64 (idxI xs s + 1)) ∧ w = w' := by
  obtain ⟨A, c, rfl, hlc, hcm, _⟩ := hx.use
  obtain ⟨i0, i1⟩ := idxI_bounds xs s
  go_enter Try.func13, Try.ntmps13
  go_wp2_with (go_at_call 18; refine (slices_Index hb hx s).mono ?_; rintro e w' ⟨rfl, rfl⟩)
  go_ret
  exact ⟨rfl, rfl⟩
theorem spec_l06Func (s : ByteArray) (w : World) : Calls Try.prog 12 #[.string s] w fun e w' => e = .returned (.int .i64 (idxI funcL s + 1)) ∧ Below w.heap.size w w' := by
  go_enter Try.func12, Try.ntmps12
  go_wp2_with (go_at_call 17; refine (spec_l06Words _).mono ?_; rintro e w' ⟨rfl, rfl⟩)
  go_loop [4] (fun i => ∃ k : Nat, k ≤ 8 ∧ i = .int .i64 (k + 1 : Nat) ∧ ∀ j, j < k → eqS (at_ funcL j) s = false) (fun i => 8 + 1 - (intOf i).toNat)
  case atStart => exact ⟨0, Nat.zero_le _, rfl, fun j hj => absurd hj (by omega)⟩
  case round =>
    obtain ⟨k, hk, rfl, hp⟩ := hrel
    have Hp := hide hp
    clear hp
    by_cases hlt : k < 8
    · have c0 := at_cell w funcL1 9 (k + 1) (by simp [funcL1, funcL]; omega)
      rw [show at_ funcL1 (k + 1) = at_ funcL k from rfl] at c0
      cases h : eqS (at_ funcL k) s
      · have hn : Hid (∀ j, j < k + 1 → eqS (at_ funcL j) s = false) := by
          intro j hj
          by_cases hjk : j = k
          · subst hjk; exact h
          · exact Hp.out j (by omega)
        unfold eqS at h
        go_wp2
        go_round
        case rel => exact ⟨k + 1, hlt, by go_num, hn.out⟩
        case measure => simp [intOf]; omega
      · have hr : Hid (idxI funcL s = k) := idxI_at hlt Hp.out h
        unfold eqS at h
        go_wp2
        go_ret
        exact ⟨by rw [hr.out]; rfl, (Below.refl _ _).alloc (Nat.le_refl _) _⟩
    · obtain rfl : k = 8 := by omega
      have hr : Hid (idxI funcL s = -1) := idxI_none Hp.out
      go_wp2
      go_ret
      exact ⟨by rw [hr.out]; rfl, (Below.refl _ _).alloc (Nat.le_refl _) _⟩
theorem spec_FuncOf (s : ByteArray) (w : World) (hs : s.size ≤ 9223372036854775807) : Calls Try.prog 7 #[.string s] w fun e w' => e = .returned (.int .i64 (idxI funcL s + 1)) ∧ Below w.heap.size w w' := by
  by_cases h : 65536 < s.size
  · have hr : Hid (idxI funcL s = -1) := idxI_none fun j hj => eqS_long (by
      have : ∀ j, j < funcL.length → (at_ funcL j).size ≤ 100 := by decide +kernel
      have := this j hj; omega)
    go_enter Try.func7, Try.ntmps7
    go_wp2
    go_ret
    exact ⟨by rw [hr.out]; rfl, Below.refl _ _⟩
  · go_enter Try.func7, Try.ntmps7
    go_wp2_with (go_at_call 12; refine (spec_l06Func _ _).mono ?_; rintro e w1 ⟨rfl, hb1⟩)
    go_ret
    exact ⟨rfl, hb1⟩
theorem impl_FuncOf (s : ByteArray) (w : World) : Calls Try.prog 8 #[.string s] w fun e w' => e = .returned (.int .i64 (idxI funcL s + 1)) ∧ Below w.heap.size w w' := by
  go_enter Try.func8, Try.ntmps8
  go_wp2_with (first
    | (go_at_call 14; refine (impl_funcWords _).mono ?_; rintro e w' ⟨rfl, rfl⟩)
    | (go_at_call 13; refine (impl_placeOf (Below.refl _ _) (SL (w := w) (l := funcL) (by decide) (by decide +kernel) (by decide) _) (by decide) s).mono ?_; rintro e w' ⟨rfl, rfl⟩))
  go_ret
  exact ⟨rfl, (Below.refl _ _).alloc (Nat.le_refl _) _⟩
theorem lawFuncOf {W : World} {s : ByteArray} (hs : s.size ≤ 9223372036854775807) : Calls Try.prog 4 #[.string s] W fun e w' => e = .returned (.bool true) ∧ Below W.heap.size W w' := by
  by_cases h : 1048576 < s.size
  · go_enter Try.func4, Try.ntmps4
    go_wp2
    go_ret
    exact ⟨rfl, Below.refl _ _⟩
  · go_enter Try.func4, Try.ntmps4
    go_wp2_with (first
      | (go_at_call 7; refine (spec_FuncOf _ _ hs).mono ?_; rintro e w1 ⟨rfl, hb1⟩)
      | (go_at_call 8; refine (impl_FuncOf _ _).mono ?_; rintro e w2 ⟨rfl, hb2⟩))
    go_ret
    exact ⟨rfl, nxt hb1 hb2⟩
end Go.Proofs.Ytphhkficdpeioab
