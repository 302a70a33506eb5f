/- Whether an atom is in a list, in the program and in the reference. No statement is proved here; no conditions. -/
import Derived.Test.YthglchopajdmhaaDatum
namespace Go.Proofs.Ythglchopajdmhaa
open Go.ChangeShapes Go.WideShapes Go.ChangeAt Go.RowKit Go.Deep
set_option maxRecDepth 100000

theorem atom_fields : Try.prog.fieldsOf 90 = #[{ name := "Kind", type := 3, offset := 0, embedded := false, tag := "", pkgPath := "", byteOffset := 0 }, { name := "N", type := 3, offset := 1, embedded := false, tag := "", pkgPath := "", byteOffset := 8 }, { name := "T", type := 9, offset := 2, embedded := false, tag := "", pkgPath := "", byteOffset := 16 }] := by kernel_rfl
theorem atom_under : Try.prog.underlying 90 = some (.struct (Try.prog.fieldsOf 90)) := by kernel_rfl
theorem atom_stood : Try.prog.stoodInHeld 90 = false := by kernel_rfl
theorem atom_guard : Try.prog.eqGuardType Try.prog.depth 90 = false := by kernel_rfl
theorem eql_atom (a b : Atom) (W : World) : (binOp .eql 90 (.agg #[.int .i64 a.kind, .int .i64 a.n, .string a.t]) (.agg #[.int .i64 b.kind, .int .i64 b.n, .string b.t])).run Try.prog W = .ok (.bool (decide (a = b))) W := by
  rw [run_eql_struct, run_equalIn_struct W 9999 _ _ _ atom_under atom_stood, atom_fields]
  obtain ⟨k1, n1, t1⟩ := a
  obtain ⟨k2, n2, t2⟩ := b
  by_cases h1 : k1 = k2
  · by_cases h2 : n1 = n2
    · by_cases h3 : t1.toList = t2.toList
      · have h4 : t1 = t2 := eqS_iff.1 (by unfold eqS; simp [h3])
        simp [go_sem, h1, h2, h4]
      · have h4 : t1 ≠ t2 := fun h => h3 (by rw [h])
        simp [go_sem, h1, h2, h3, h4]
    · simp [go_sem, h1, h2]
  · simp [go_sem, h1]
theorem grd_atom (op : BinOp) (x y : Operand) (xs ys : Array Value) (W : World) : (eqGuard op 90 x y (.agg xs) (.agg ys)).run Try.prog W = .ok () W := run_eqGuard_agg W op _ x y xs ys atom_guard
def idxA (d : List Atom) (a : Atom) : Int := if a ∈ d then (d.idxOf a : Int) else -1
theorem idxA_none {d : List Atom} {a : Atom} (h : ∀ j (hj : j < d.length), j < d.length → d[j] ≠ a) : idxA d a = -1 := by
  unfold idxA; rw [if_neg]
  intro hm
  obtain ⟨j, hj, he⟩ := List.getElem_of_mem hm
  exact h j hj hj he
theorem idxA_at {d : List Atom} {a : Atom} {k : Nat} (hk : k < d.length) (hb : ∀ j (hj : j < d.length), j < k → d[j] ≠ a) (he : d[k] = a) : idxA d a = k := by
  unfold idxA; rw [if_pos (by rw [← he]; exact List.getElem_mem hk)]
  have h1 : d.idxOf a < d.length := List.idxOf_lt_length_of_mem (by rw [← he]; exact List.getElem_mem hk)
  have h2 : d[d.idxOf a] = a := List.getElem_idxOf h1
  rcases Nat.lt_trichotomy (d.idxOf a) k with h | h | h
  · exact absurd h2 (hb _ h1 h)
  · rw [h]
  · have := List.not_of_lt_findIdx (p := fun x => x == a) (xs := d) (i := k) h
    simp [he] at this
theorem idxA_mem {d : List Atom} {a : Atom} : decide (0 ≤ idxA d a) = decide (a ∈ d) := by
  unfold idxA; by_cases h : a ∈ d <;> simp [h]
theorem idxA_bd (d : List Atom) (a : Atom) : -1 ≤ idxA d a ∧ idxA d a < d.length := by
  unfold idxA
  split
  · rename_i h
    have h1 := List.idxOf_lt_length_of_mem h
    omega
  · omega
theorem spec_l03Has {w0 w : World} (hb : Below w0.heap.size w0 w) {bs : List Nat} {v : Value} {d : List Atom} (hd : AtomSR w0 bs [v] d) (a : Atom) :
    Calls Try.prog 122 #[v, a.val] w fun e w' => e = .returned (.bool (decide (a ∈ d))) ∧ Below w.heap.size w w' := by
  obtain ⟨A, c, rfl, hlc, hcm, hel⟩ := atoms_at hd
  unfold Atom.val
  go_enter Try.func122, Try.ntmps122
  go_wp2
  go_loopw [5] (fun i wr => ∃ k : Nat, k ≤ d.length ∧ i = .int .i64 k ∧ Hid (∀ j (hj : j < d.length), j < k → d[j] ≠ a) ∧ Below (w.alloc (.cells #[.int .i64 a.kind, .int .i64 a.n, .string a.t] 90)).heap.size (w.alloc (.cells #[.int .i64 a.kind, .int .i64 a.n, .string a.t] 90)) wr) (fun i _ => d.length - (intOf i).toNat)
  case atStart => exact ⟨0, Nat.zero_le _, rfl, fun j hj h => absurd h (by omega), Below.refl _ _⟩
  case round =>
    obtain ⟨k, hk, rfl, hp, hbr⟩ := hrel
    have hfin := nxt' ((Below.refl w.heap.size w).alloc (Nat.le_refl _) (.cells #[.int .i64 a.kind, .int .i64 a.n, .string a.t] 90)) hbr
    have hbw := (hb.alloc hb.size (.cells #[.int .i64 a.kind, .int .i64 a.n, .string a.t] 90)).trans (hbr.mono (by have := hb.size; simp; omega))
    by_cases hlt : k < d.length
    · obtain ⟨b, o, rfl, hbl, hcell⟩ := hel (by omega)
      obtain ⟨c0, c1, c2, fk⟩ := hcell k hlt
      have k0 := Fw.cell ((hbw.cell (p := ⟨b, _, none⟩) hbl).trans c0)
      have k1 := Fw.cell ((hbw.cell (p := ⟨b, _, none⟩) hbl).trans c1)
      have k2 := Fw.cell ((hbw.cell (p := ⟨b, _, none⟩) hbl).trans c2)
      have q := Fw.box (box_at hbr) rfl
      have he := eql_atom d[k] a
      have hg := grd_atom .eql
      clear c0 c1 c2 hcell hel
      by_cases hx : d[k] = a
      · have hr := hide ((show decide (a ∈ d) = true by simp; rw [← hx]; exact List.getElem_mem hlt))
        have hx' : decide (d[k] = a) = true := by simp [hx]
        clear hx
        go_wp2_with fail
        refine region_quiet (by kernel_rfl) (by kernel_rfl) ?_
        repeat (go_big_quiet_step (fail))
        refine wpQuiet_nil ?_; intro w1 hb1; clear k0 k1 k2 q he hg
        go_wp2_with fail
        go_ret
        exact ⟨by rw [hr.out]; rfl, nxt hfin hb1⟩
      · have hn : Hid (∀ j (hj : j < d.length), j < k + 1 → d[j] ≠ a) := by
          intro j hj hjk
          by_cases hjk' : j = k
          · subst hjk'; exact hx
          · exact hp.out j hj (by omega)
        have hx' : decide (d[k] = a) = false := by simp; exact fun h => hx h
        clear hx
        go_wp2_with fail
        refine region_quiet (by kernel_rfl) (by kernel_rfl) ?_
        repeat (go_big_quiet_step (fail))
        refine wpQuiet_nil ?_; intro w1 hb1; clear k0 k1 k2 q he hg
        go_wp2_with fail
        go_roundw
        case rel => exact ⟨k + 1, hlt, by go_num, hn, nxt hbr hb1⟩
        case measure => simp [intOf]; omega
    · obtain rfl : k = d.length := by omega
      have hr := hide ((show decide (a ∈ d) = false by simp; intro hm; obtain ⟨j, hj, he⟩ := List.getElem_of_mem hm; exact hp.out j hj hj he))
      go_wp2
      go_ret
      exact ⟨by rw [hr.out]; rfl, hfin⟩
theorem slices_IndexA {w0 w : World} (hb : Below w0.heap.size w0 w) {bs : List Nat} {v : Value} {d : List Atom} (hd : AtomSR w0 bs [v] d) (a : Atom) :
    Calls Try.prog 145 #[v, a.val] w fun e w' => e = .returned (.int .i64 (idxA d a)) ∧ Below w.heap.size w w' := by
  obtain ⟨A, c, rfl, hlc, hcm, hel⟩ := atoms_at hd
  unfold Atom.val
  go_enter Try.func145, Try.ntmps145
  go_wp2
  go_loopw [8] (fun i wr => ∃ k : Nat, k ≤ d.length ∧ i = .int .i64 k ∧ Hid (∀ j (hj : j < d.length), j < k → d[j] ≠ a) ∧ Below (w.alloc (.cells #[.int .i64 a.kind, .int .i64 a.n, .string a.t] 90)).heap.size (w.alloc (.cells #[.int .i64 a.kind, .int .i64 a.n, .string a.t] 90)) wr) (fun i _ => d.length - (intOf i).toNat)
  case atStart => exact ⟨0, Nat.zero_le _, rfl, fun j hj h => absurd h (by omega), Below.refl _ _⟩
  case round =>
    obtain ⟨k, hk, rfl, hp, hbr⟩ := hrel
    have hfin := nxt' ((Below.refl w.heap.size w).alloc (Nat.le_refl _) (.cells #[.int .i64 a.kind, .int .i64 a.n, .string a.t] 90)) hbr
    have hbw := (hb.alloc hb.size (.cells #[.int .i64 a.kind, .int .i64 a.n, .string a.t] 90)).trans (hbr.mono (by have := hb.size; simp; omega))
    by_cases hlt : k < d.length
    · obtain ⟨b, o, rfl, hbl, hcell⟩ := hel (by omega)
      obtain ⟨c0, c1, c2, fk⟩ := hcell k hlt
      have k0 := Fw.cell ((hbw.cell (p := ⟨b, _, none⟩) hbl).trans c0)
      have k1 := Fw.cell ((hbw.cell (p := ⟨b, _, none⟩) hbl).trans c1)
      have k2 := Fw.cell ((hbw.cell (p := ⟨b, _, none⟩) hbl).trans c2)
      have q := Fw.box (box_at hbr) rfl
      have he := eql_atom a d[k]
      have hg := grd_atom .eql
      clear c0 c1 c2 hcell hel
      by_cases hx : d[k] = a
      · have hr := hide (idxA_at hlt hp.out hx)
        have hx' : decide (a = d[k]) = true := by simp [hx]
        clear hx
        go_wp2_with fail
        refine region_quiet (by kernel_rfl) (by kernel_rfl) ?_
        repeat (go_big_quiet_step (fail))
        refine wpQuiet_nil ?_; intro w1 hb1; clear k0 k1 k2 q he hg
        go_wp2_with fail
        go_ret
        exact ⟨by rw [hr.out]; rfl, nxt hfin hb1⟩
      · have hn : Hid (∀ j (hj : j < d.length), j < k + 1 → d[j] ≠ a) := by
          intro j hj hjk
          by_cases hjk' : j = k
          · subst hjk'; exact hx
          · exact hp.out j hj (by omega)
        have hx' : decide (a = d[k]) = false := by simp; exact fun h => hx h.symm
        clear hx
        go_wp2_with fail
        refine region_quiet (by kernel_rfl) (by kernel_rfl) ?_
        repeat (go_big_quiet_step (fail))
        refine wpQuiet_nil ?_; intro w1 hb1; clear k0 k1 k2 q he hg
        go_wp2_with fail
        go_roundw
        case rel => exact ⟨k + 1, hlt, by go_num, hn, nxt hbr hb1⟩
        case measure => simp [intOf]; omega
    · obtain rfl : k = d.length := by omega
      have hr := hide (idxA_none hp.out)
      go_wp2
      go_ret
      exact ⟨by rw [hr.out]; rfl, hfin⟩
theorem slices_ContainsA {w0 w : World} (hb : Below w0.heap.size w0 w) {bs : List Nat} {v : Value} {d : List Atom} (hd : AtomSR w0 bs [v] d) (a : Atom) :
    Calls Try.prog 137 #[v, a.val] w fun e w' => e = .returned (.bool (decide (a ∈ d))) ∧ Below w.heap.size w w' := by
  obtain ⟨A, c, rfl, _, _, _⟩ := atoms_at hd
  unfold Atom.val
  rw [← idxA_mem]
  go_enter Try.func137, Try.ntmps137
  go_wp2_with fail
  refine (slices_IndexA (hb.alloc hb.size _) hd a).mono ?_; rintro e w1 ⟨rfl, hb1⟩
  go_wp2_with fail
  go_ret
  exact ⟨rfl, nxt' ((Below.refl _ _).alloc (Nat.le_refl _) _) hb1⟩
theorem impl_isListA {w0 w : World} {bs : List Nat} {v : Value} {d : List Atom} (hd : AtomSR w0 bs [v] d) :
    Calls Try.prog 69 #[v] w fun e w' => e = .returned (.bool (decide ((d.length : Int) ≤ 4096))) ∧ w = w' := by
  obtain ⟨A, c, rfl, _, _, _⟩ := atoms_at hd
  go_enter Try.func69, Try.ntmps69
  go_wp2
  go_ret
  exact ⟨rfl, rfl⟩
def hasCode (d : List Atom) (a : Atom) : Bool × Int := if 4096 < d.length then (false, 2) else if datumOK d && atomOK a then (decide (a ∈ d), 0) else (false, 1)
end Go.Proofs.Ythglchopajdmhaa
