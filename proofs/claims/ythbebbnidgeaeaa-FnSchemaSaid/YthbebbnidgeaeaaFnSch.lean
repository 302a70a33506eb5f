/- The law FnSchema: what it calls. No statement is proved here; no conditions. -/
import Derived.Test.YthbebbnidgeaeaaPlain
import Derived.Test.YthbebbnidgeaeaaColumnOf
import Derived.Test.YthbebbnidgeaeaaSchemas
import Derived.Test.YthbebbnidgeaeaaHas
import Derived.Test.YthbebbnidgeaeaaOpen
namespace Go.Proofs.Ythbebbnidgeaeaa
open Go.ChangeShapes Go.WideShapes Go.ChangeAt Go.RowKit Go.Deep
set_option maxRecDepth 100000
set_option linter.unusedVariables false
set_option linter.unusedSimpArgs false

theorem plain_ok : schOK plainS = true := by
  simp [schOK, plainS, inB, upTo, tblStep, tblOK, colStep, nameFree, uniStep, badC, List.range_succ, tblIdx, idxF, eqS, ByteArray.toList_eq, colOK, colKind]
  decide
theorem plain_tbl : ∀ t (ht : t < plainS.tables.length), tblOf plainS plainS.tables[t].name = ((t : Int), 0) := by
  intro t ht
  match t, ht with
  | 0, _ => simp [tblOf, plain_ok]; simp [tblIdx, idxF, plainS, eqS, ByteArray.toList_eq, List.findIdx_cons]; decide
  | 1, _ => simp [tblOf, plain_ok]; simp [tblIdx, idxF, plainS, eqS, ByteArray.toList_eq, List.findIdx_cons]; decide
  | 2, _ => simp [tblOf, plain_ok]; simp [tblIdx, idxF, plainS, eqS, ByteArray.toList_eq, List.findIdx_cons]; decide
def nothing : ByteArray := ⟨#[110, 111, 116, 104, 105, 110, 103]⟩
theorem plain_no : tblOf plainS nothing = (0, 10) := by
  simp [tblOf, plain_ok, nothing]; simp [tblIdx, idxF, plainS, eqS, ByteArray.toList_eq]; decide
theorem plain_tok : ∀ t (ht : t < plainS.tables.length), tblOK plainS.tables[t] = true := by
  intro t ht
  have h := plain_ok
  unfold schOK at h
  rw [Bool.and_eq_true, Bool.and_eq_true] at h
  have := upTo_at h.2.1 ht
  unfold tblStep at this
  rw [get_at _ t ht, Bool.and_eq_true] at this
  exact this.1
theorem plain_col : ∀ t (ht : t < plainS.tables.length), ∀ i (hi : i < plainS.tables[t].columns.length), colOf plainS.tables[t] plainS.tables[t].columns[i].name = ((i : Int), 0) := by
  intro t ht i hi
  have hk := plain_tok t ht
  match t, ht, i, hi with
  | 0, _, 0, _ => simp [colOf, hk]; simp [colIdx, idxF, plainS, eqS, ByteArray.toList_eq, List.findIdx_cons]; decide
  | 0, _, 1, _ => simp [colOf, hk]; simp [colIdx, idxF, plainS, eqS, ByteArray.toList_eq, List.findIdx_cons]; decide
  | 1, _, 0, _ => simp [colOf, hk]; simp [colIdx, idxF, plainS, eqS, ByteArray.toList_eq, List.findIdx_cons]; decide
  | 1, _, 1, _ => simp [colOf, hk]; simp [colIdx, idxF, plainS, eqS, ByteArray.toList_eq, List.findIdx_cons]; decide
  | 1, _, 2, _ => simp [colOf, hk]; simp [colIdx, idxF, plainS, eqS, ByteArray.toList_eq, List.findIdx_cons]; decide
  | 2, _, 0, _ => simp [colOf, hk]; simp [colIdx, idxF, plainS, eqS, ByteArray.toList_eq, List.findIdx_cons]; decide
  | 2, _, 1, _ => simp [colOf, hk]; simp [colIdx, idxF, plainS, eqS, ByteArray.toList_eq, List.findIdx_cons]; decide
  | 2, _, 2, _ => simp [colOf, hk]; simp [colIdx, idxF, plainS, eqS, ByteArray.toList_eq, List.findIdx_cons]; decide
  | 0, _, i + 2, h => exact absurd h (by simp [plainS])
  | 1, _, i + 3, h => exact absurd h (by simp [plainS])
  | 2, _, i + 3, h => exact absurd h (by simp [plainS])
  | t + 3, h, _, _ => exact absurd h (by simp [plainS])
theorem plain_nocol : ∀ t (ht : t < plainS.tables.length), colOf plainS.tables[t] nothing = (0, 11) := by
  intro t ht
  have hk := plain_tok t ht
  match t, ht with
  | 0, _ => simp [colOf, hk, nothing]; simp [colIdx, idxF, plainS, eqS, ByteArray.toList_eq]; decide
  | 1, _ => simp [colOf, hk, nothing]; simp [colIdx, idxF, plainS, eqS, ByteArray.toList_eq]; decide
  | 2, _ => simp [colOf, hk, nothing]; simp [colIdx, idxF, plainS, eqS, ByteArray.toList_eq]; decide
/-! ### bytes -/
def ByteR : Rd Int := fun _ bs cs n => bs = [] ∧ cs = [.int .u8 n] ∧ (Lit.int .u8 n).wf = true
theorem ByteR.good : Good ByteR := ⟨(by rintro w bs cs x ⟨rfl, _⟩ b hb; cases hb), fun h _ => h⟩
abbrev ByteSR : Rd (List Int) := SlR 1 ByteR
theorem ByteSR.good : Good ByteSR := SlR.good ByteR.good
theorem opens_byte {H : Type} {enc : TypeId × Value → H} {P : Program} {w : World} {base : Nat} {spare : Nat → Bool} {held : Bool} {t : TypeId} (ht : P.underlying t = some (.int .u8)) : Opens enc P w base spare held t ByteR := by
  intro n cs x h
  obtain ⟨m, rfl, _, hw⟩ := DataW.trod_int ht h
  exact ⟨m, [], rfl, rfl, hw⟩
theorem ByteSR.opens {H : Type} {enc : TypeId × Value → H} {w : World} {base : Nat} {spare : Nat → Bool} {held : Bool} : Opens enc Try.prog w base spare held 22 ByteSR :=
  opens_slice Try.underlying22 (e := 5) (by kernel_rfl) (by decide) (opens_byte Try.underlying5)
theorem byte_bounds {n : Int} (h : (Lit.int .u8 n).wf = true) : 0 ≤ n ∧ n ≤ 255 := by simpa [Lit.wf, IntKind.min, IntKind.max, IntKind.signed, IntKind.bits] using h
set_option maxHeartbeats 4000000 in
theorem law_at {w : World} {bs : List Nat} {v : Value} {xs : List Int} (H : ByteSR w bs [v] xs) (hn : xs.length ≤ 1048576) :
    Calls Try.prog 14 #[v, .int .i64 0, .int .i64 3] w fun e w' => (∃ r : Nat, r < 3 ∧ e = .returned (.int .i64 r)) ∧ Below w.heap.size w w' := by
  obtain ⟨A, c, rfl, hlc, hcm, hel⟩ := H.use
  by_cases h0 : xs.length = 0
  · have hl : ((xs.length : Int) == 0) = true := by simp [h0]
    clear hel h0
    go_enter Try.func14, Try.ntmps14
    go_wp2
    go_ret
    exact ⟨⟨0, by omega, rfl⟩, Below.refl _ _⟩
  have hl : ((xs.length : Int) == 0) = false := by rw [beq_eq_false_iff_ne]; omega
  have hpos : 0 < xs.length := by omega
  have hz : ¬ ((xs.length : Int) = 0) := by omega
  have ht0 : Int.tmod 0 (xs.length : Int) = 0 := by simp
  have hq0 : Int.tdiv 0 (xs.length : Int) = 0 := by simp
  obtain ⟨j, hj, ht1⟩ : ∃ j : Nat, j < xs.length ∧ Int.tmod 1 (xs.length : Int) = (j : Int) := by
    by_cases h1 : xs.length = 1
    · exact ⟨0, by omega, by rw [h1]; rfl⟩
    · refine ⟨1, by omega, ?_⟩
      rw [Int.tmod_eq_emod_of_nonneg (by omega)]; exact Int.emod_eq_of_lt (by omega) (by omega)
  obtain ⟨b, o, bk, es, rfl, hbl, hcl, hcell, ⟨_, hes, hw0⟩, _⟩ := hel 0 hpos; subst hes
  obtain ⟨b', o', bk', es', hA', hbl', hcl', hcell', ⟨_, hes', hw1⟩, _⟩ := hel j hj; subst hes'; cases hA'
  have p0 := Fw.cell (((Below.refl w.heap.size w).cell (p := ⟨b, _, none⟩) hbl).trans (hcell 0 _ rfl))
  have q0 := Fw.cell (((Below.refl w.heap.size w).cell (p := ⟨b, _, none⟩) hbl').trans (hcell' 0 _ rfl))
  simp only [Nat.zero_mul, Nat.add_zero, Nat.mul_one] at p0 q0
  have hb0 := byte_bounds hw0
  have hb1 := byte_bounds hw1
  clear hcell hcell' hcl hcl' hel h0
  generalize xs[0] = x0 at p0 hb0
  generalize xs[j] = x1 at q0 hb1
  go_enter Try.func14, Try.ntmps14
  go_wp2_with fail
  refine region_quiet (by kernel_rfl) (by kernel_rfl) ?_
  repeat (go_big_quiet_step (fail))
  refine wpQuiet_nil ?_; intro w3 hb3; clear p0 q0
  go_wp2_with fail
  go_ret
  refine ⟨⟨((x0 * 31 + x1) % 3).toNat, by omega, ?_⟩, hb3⟩
  rw [show ((((x0 * 31 + x1) % 3).toNat : Nat) : Int) = (x0 * 31 + x1) % 3 by omega]
  rfl
theorem law_at3 {w : World} {bs : List Nat} {v : Value} {xs : List Int} (H : ByteSR w bs [v] xs) (hx : xs.length ≤ 1048576) {n : Int} (hn : n = 3) :
    Calls Try.prog 14 #[v, .int .i64 0, .int .i64 n] w fun e w' => (∃ r : Nat, r < 3 ∧ e = .returned (.int .i64 r)) ∧ Below w.heap.size w w' := by subst hn; exact law_at H hx
set_option maxHeartbeats 2000000 in
theorem law_sameInts {w : World} {b1 b2 : List Nat} {v1 v2 : Value} {xs : List Int} (H1 : IntSR w b1 [v1] xs) (H2 : IntSR w b2 [v2] xs) :
    Calls Try.prog 16 #[v1, v2] w fun e w' => e = .returned (.bool true) ∧ Below w.heap.size w w' := by
  obtain ⟨A, c, rfl, hlc, hcm, hel⟩ := H1.use
  obtain ⟨B, d, rfl, hld, hdm, hem⟩ := H2.use
  have hne : ((xs.length : Int) != (xs.length : Int)) = false := by simp
  go_enter Try.func16, Try.ntmps16
  go_wp2_with fail
  go_loopw [5] (fun i wr => ∃ k : Nat, k ≤ xs.length ∧ i = .int .i64 k ∧ Below w.heap.size w wr) (fun i _ => xs.length - (intOf i).toNat)
  case atStart => exact ⟨0, Nat.zero_le _, rfl, Below.refl _ _⟩
  case round =>
    obtain ⟨k, hk, rfl, hbr⟩ := hrel
    by_cases hlt : k < xs.length
    · obtain ⟨b, o, bk, es, rfl, hbl, hcl, hcell, ⟨_, hes, _⟩, _⟩ := hel k hlt; subst hes
      obtain ⟨b', o', bk', es', rfl, hbl', hcl', hcell', ⟨_, hes', _⟩, _⟩ := hem k hlt; subst hes'
      have p0 := Fw.cell ((hbr.cell (p := ⟨b, _, none⟩) hbl).trans (hcell 0 _ rfl))
      have q0 := Fw.cell ((hbr.cell (p := ⟨b', _, none⟩) hbl').trans (hcell' 0 _ rfl))
      simp only [Nat.add_zero, Nat.mul_one] at p0 q0
      have hni2 : (xs[k] != xs[k]) = false := by simp
      clear hcell hcell' hcl hcl' hel hem
      go_wp2_with fail
      refine region_quiet (by kernel_rfl) (by kernel_rfl) ?_
      repeat (go_big_quiet_step (fail))
      refine wpQuiet_nil ?_; intro w3 hb3; clear p0 q0
      go_wp2_with fail
      go_roundw
      case rel => exact ⟨k + 1, hlt, by go_num, nxt hbr hb3⟩
      case measure => simp [intOf]; omega
    · obtain rfl : k = xs.length := by omega
      clear hel hem
      go_wp2
      go_ret
      exact ⟨rfl, hbr⟩
theorem col_fields : Try.prog.fieldsOf 38 = #[{ name := "Name", type := 9, offset := 0, embedded := false, tag := "", pkgPath := "", byteOffset := 0 }, { name := "Kind", type := 3, offset := 1, embedded := false, tag := "", pkgPath := "", byteOffset := 16 }, { name := "Min", type := 3, offset := 2, embedded := false, tag := "", pkgPath := "", byteOffset := 24 }, { name := "Max", type := 3, offset := 3, embedded := false, tag := "", pkgPath := "", byteOffset := 32 }, { name := "Low", type := 3, offset := 4, embedded := false, tag := "", pkgPath := "", byteOffset := 40 }, { name := "High", type := 3, offset := 5, embedded := false, tag := "", pkgPath := "", byteOffset := 48 }, { name := "Ref", type := 9, offset := 6, embedded := false, tag := "", pkgPath := "", byteOffset := 56 }, { name := "Strong", type := 4, offset := 7, embedded := false, tag := "", pkgPath := "", byteOffset := 72 }] := by kernel_rfl
theorem col_under : Try.prog.underlying 38 = some (.struct (Try.prog.fieldsOf 38)) := by kernel_rfl
theorem col_stood : Try.prog.stoodInHeld 38 = false := by kernel_rfl
theorem col_guard : Try.prog.eqGuardType Try.prog.depth 38 = false := by kernel_rfl
theorem neq_col (c : Column) (W : World) : (binOp .neq 38 (.agg #[.string c.name, .int .i64 c.kind, .int .i64 c.min, .int .i64 c.max, .int .i64 c.low, .int .i64 c.high, .string c.ref, .bool c.strong]) (.agg #[.string c.name, .int .i64 c.kind, .int .i64 c.min, .int .i64 c.max, .int .i64 c.low, .int .i64 c.high, .string c.ref, .bool c.strong])).run Try.prog W = .ok (.bool false) W := by
  rw [run_neq_struct, run_equalIn_struct W 9999 _ _ _ col_under col_stood, col_fields]
  simp [go_sem]
theorem grd_col (op : BinOp) (x y : Operand) (xs ys : Array Value) (W : World) : (eqGuard op 38 x y (.agg xs) (.agg ys)).run Try.prog W = .ok () W := run_eqGuard_agg W op _ x y xs ys col_guard
end Go.Proofs.Ythbebbnidgeaeaa
