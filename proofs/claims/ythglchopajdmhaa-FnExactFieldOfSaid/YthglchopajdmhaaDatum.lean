/- Sets of atoms: what is right, in the program and in the reference. No statement is proved here; no conditions. -/
import Derived.Test.YthglchopajdmhaaOrder
namespace Go.Proofs.Ythglchopajdmhaa
open Go.ChangeShapes Go.WideShapes Go.ChangeAt Go.RowKit Go.Deep
set_option maxRecDepth 100000

theorem atoms_at {w : World} {bs : List Nat} {v : Value} {xs : List Atom} (h : AtomSR w bs [v] xs) :
    ∃ A c, v = .slice A xs.length c ∧ xs.length ≤ c ∧ c ≤ 9223372036854775807 ∧ (0 < xs.length → ∃ b o, A = some ⟨b, o, none⟩ ∧ b < w.heap.size ∧ ∀ k (hk : k < xs.length),
      w.cell? ⟨b, o + k * 3, none⟩ = some (.int .i64 xs[k].kind) ∧ w.cell? ⟨b, o + k * 3 + 1, none⟩ = some (.int .i64 xs[k].n) ∧ w.cell? ⟨b, o + k * 3 + 2, none⟩ = some (.string xs[k].t) ∧ xs[k].fine) := by
  obtain ⟨A, c, hv, h1, h2, h3⟩ := h.use
  refine ⟨A, c, hv, h1, h2, fun hp => ?_⟩
  obtain ⟨b, o, _, _, hA, hb, _⟩ := h3 0 hp
  refine ⟨b, o, hA, hb, fun k hk => ?_⟩
  obtain ⟨b', o', bk, es, hA', _, _, hc, ⟨_, rfl, hf⟩, _⟩ := h3 k hk
  rw [hA] at hA'
  injection hA' with hA'
  injection hA' with e1 e2
  subst e1; subst e2
  exact ⟨hc 0 _ rfl, hc 1 _ rfl, hc 2 _ rfl, hf⟩

def kindAt (d : List Atom) (k : Nat) : Int := (d.getD k default).kind
def stepOK (d : List Atom) (k : Nat) : Bool := atomOK (d.getD k default) && (kindAt d k == kindAt d 0) && (decide (k = 0) || decide (ordA (d.getD (k - 1) default) (d.getD k default) < 0))
def datumTo (d : List Atom) (k : Nat) : Bool := (List.range k).all (stepOK d)
def datumOK (d : List Atom) : Bool := datumTo d d.length && decide ((d.length : Int) ≤ 8)
theorem datumTo_succ (d : List Atom) (k : Nat) : datumTo d (k + 1) = (datumTo d k && stepOK d k) := by
  unfold datumTo; rw [List.range_succ, List.all_append]; simp
theorem datumOK_bad (d : List Atom) (k : Nat) (hk : k < d.length) (h : stepOK d k = false) : datumOK d = false := by
  have : datumTo d d.length = false := by
    unfold datumTo; rw [List.all_eq_false]; exact ⟨k, by simpa using hk, by simp [h]⟩
  simp [datumOK, this]
theorem getD_at (d : List Atom) (k : Nat) (h : k < d.length) : d.getD k default = d[k] := by rw [List.getD_eq_getElem?_getD, List.getElem?_eq_getElem h]; rfl

set_option maxHeartbeats 2000000 in
theorem spec_DatumOK {w0 w : World} (hb : Below w0.heap.size w0 w) {bs : List Nat} {v : Value} {d : List Atom} (hd : AtomSR w0 bs [v] d) :
    Calls Try.prog 77 #[v] w fun e w' => e = .returned (.bool (datumOK d)) ∧ Below w.heap.size w w' := by
  obtain ⟨A, c, rfl, hlc, hcm, hel⟩ := atoms_at hd
  by_cases hlong : 4096 < d.length
  · have hr : Hid (datumOK d = false) := by show _ = _; unfold datumOK; rw [Bool.and_eq_false_iff]; right; simp; omega
    go_enter Try.func77, Try.ntmps77
    go_wp2
    go_ret
    exact ⟨by rw [hr.out]; rfl, Below.refl _ _⟩
  go_enter Try.func77, Try.ntmps77
  go_wp2
  go_loopw [3] (fun i wr => ∃ k : Nat, k ≤ d.length ∧ i = .int .i64 k ∧ datumTo d k = true ∧ Below w.heap.size w wr) (fun i _ => d.length - (intOf i).toNat)
  case atStart => exact ⟨0, Nat.zero_le _, rfl, by simp [datumTo], Below.refl _ _⟩
  case round =>
    obtain ⟨k, hk, rfl, hp, hbr⟩ := hrel
    have Hp := hide hp
    clear hp
    by_cases hlt : k < d.length
    · obtain ⟨b, o, rfl, hbl, hcell⟩ := hel (by omega)
      clear hel
      have hbw := nxt hb hbr
      obtain ⟨c0, c1, c2, fk⟩ := hcell k hlt
      obtain ⟨z0, _, _, _⟩ := hcell 0 (by omega)
      have hbW := hbw
      have kz := Fw.cell ((hbW.cell (p := ⟨b, _, none⟩) hbl).trans z0)
      simp only [Nat.zero_mul, Nat.add_zero] at kz
      have k0 := Fw.cell ((hbW.cell (p := ⟨b, _, none⟩) hbl).trans c0)
      have k1 := Fw.cell ((hbW.cell (p := ⟨b, _, none⟩) hbl).trans c1)
      have k2 := Fw.cell ((hbW.cell (p := ⟨b, _, none⟩) hbl).trans c2)
      clear c0 c1 c2 z0
      have A1 := hide (fun w => spec_AtomOK d[k] w fk)
      cases h1 : atomOK d[k]
      · have hr : Hid (datumOK d = false) := datumOK_bad d k hlt (by unfold stepOK; rw [getD_at d k hlt, h1]; rfl)
        rw [h1] at A1
        clear h1 hcell
        go_wp2_with fail
        refine region_quiet (by kernel_rfl) (by kernel_rfl) ?_
        repeat (go_big_quiet_step ((go_at_call 66; exact quiet_of (A1.out _))))
        refine wpQuiet_nil ?_; intro w1 hb1
        clear kz k0 k1 k2
        go_wp2_with fail
        go_ret
        exact ⟨by rw [hr.out]; rfl, (nxt hbr hb1)⟩
      · rw [h1] at A1
        have g0 : d.getD k default = d[k] := getD_at d k hlt
        have gz : d.getD 0 default = d[0] := getD_at d 0 (by omega)
        by_cases h2 : d[k].kind = d[0].kind
        · have h2b : (d[k].kind != d[0].kind) = false := by simp [h2]
          have h2c : (kindAt d k == kindAt d 0) = true := by unfold kindAt; rw [g0, gz, h2]; simp
          have hsn := hide (datumTo_succ d k)
          by_cases h3 : k = 0
          · have hg : Hid (stepOK d k = true) := by show _ = _; unfold stepOK; rw [g0, h1, h2c, decide_eq_true h3]; rfl
            subst h3
            simp only [Nat.zero_mul, Nat.add_zero] at k0 k1 k2
            clear h1 h2 h2c g0 gz hcell
            go_wp2_with fail
            refine region_quiet (by kernel_rfl) (by kernel_rfl) ?_
            repeat (go_big_quiet_step ((go_at_call 66; exact quiet_of (A1.out _))))
            refine wpQuiet_nil ?_; intro w1 hb1
            clear kz k0 k1 k2
            go_wp2_with fail
            go_roundw
            case rel => exact ⟨1, by omega, rfl, by rw [hsn.out, Hp.out, hg.out]; rfl, (nxt hbr hb1)⟩
            case measure => simp [intOf]; omega
          · obtain ⟨e0, e1, e2, fp⟩ := hcell (k - 1) (by omega)
            have gp : d.getD (k - 1) default = d[k - 1] := getD_at d (k - 1) (by omega)
            have p0 := Fw.cell ((hbW.cell (p := ⟨b, _, none⟩) hbl).trans e0)
            have p1 := Fw.cell ((hbW.cell (p := ⟨b, _, none⟩) hbl).trans e1)
            have p2 := Fw.cell ((hbW.cell (p := ⟨b, _, none⟩) hbl).trans e2)
            clear e0 e1 e2 hcell
            have hk1 : 1 ≤ k := by omega
            have hk2 : decide (0 < k) = true := by simp; omega
            have A2 := hide (fun w => spec_l03Order d[k - 1] d[k] w)
            by_cases h4 : ordA d[k - 1] d[k] < 0
            · have hg : Hid (stepOK d k = true) := by show _ = _; unfold stepOK; rw [g0, h1, h2c, gp]; simp [h4]
              have h4b : decide (0 ≤ ordA d[k - 1] d[k]) = false := by simp; omega
              clear h1 h2 h2c g0 gz gp h3 h4
              go_wp2_with fail
              refine region_quiet (by kernel_rfl) (by kernel_rfl) ?_
              repeat (go_big_quiet_step ((first | (go_at_call 66; exact quiet_of (A1.out _)) | (go_at_call 106; exact quiet_of (A2.out _)))))
              refine wpQuiet_nil ?_; intro w1 hb1
              clear kz k0 k1 k2 p0 p1 p2
              go_wp2_with fail
              go_roundw
              case rel => exact ⟨k + 1, by omega, by go_num, by rw [hsn.out, Hp.out, hg.out]; rfl, (nxt hbr hb1)⟩
              case measure => simp [intOf]; omega
            · have hr : Hid (datumOK d = false) := datumOK_bad d k hlt (by unfold stepOK; rw [g0, h1, h2c, gp]; simp [h4, h3])
              have h4b : decide (0 ≤ ordA d[k - 1] d[k]) = true := by simp; omega
              clear h1 h2 h2c g0 gz gp h3 h4
              go_wp2_with fail
              refine region_quiet (by kernel_rfl) (by kernel_rfl) ?_
              repeat (go_big_quiet_step ((first | (go_at_call 66; exact quiet_of (A1.out _)) | (go_at_call 106; exact quiet_of (A2.out _)))))
              refine wpQuiet_nil ?_; intro w1 hb1
              clear kz k0 k1 k2 p0 p1 p2
              go_wp2_with fail
              go_ret
              exact ⟨by rw [hr.out]; rfl, (nxt hbr hb1)⟩
        · have hr : Hid (datumOK d = false) := datumOK_bad d k hlt (by unfold stepOK kindAt; rw [g0, gz, h1]; simp [h2])
          have h2b : (d[k].kind != d[0].kind) = true := by simp [h2]
          clear h1 h2 g0 gz hcell
          go_wp2_with fail
          refine region_quiet (by kernel_rfl) (by kernel_rfl) ?_
          repeat (go_big_quiet_step ((go_at_call 66; exact quiet_of (A1.out _))))
          refine wpQuiet_nil ?_; intro w1 hb1
          clear kz k0 k1 k2
          go_wp2_with fail
          go_ret
          exact ⟨by rw [hr.out]; rfl, (nxt hbr hb1)⟩
    · obtain rfl : k = d.length := by omega
      have hr : Hid (datumOK d = decide ((d.length : Int) ≤ 8)) := by show _ = _; unfold datumOK; rw [Hp.out]; rfl
      go_wp2
      go_ret
      exact ⟨by rw [hr.out]; rfl, hbr⟩
set_option maxHeartbeats 2000000 in
theorem impl_DatumOK {w0 w : World} (hb : Below w0.heap.size w0 w) {bs : List Nat} {v : Value} {d : List Atom} (hd : AtomSR w0 bs [v] d) :
    Calls Try.prog 83 #[v] w fun e w' => e = .returned (.bool (datumOK d)) ∧ Below w.heap.size w w' := by
  obtain ⟨A, c, rfl, hlc, hcm, hel⟩ := atoms_at hd
  go_enter Try.func83, Try.ntmps83
  go_wp2
  go_loopw [7] (fun i wr => ∃ k : Nat, k ≤ d.length ∧ i = .int .i64 k ∧ datumTo d k = true ∧ Below w.heap.size w wr) (fun i _ => d.length - (intOf i).toNat)
  case atStart => exact ⟨0, Nat.zero_le _, rfl, by simp [datumTo], Below.refl _ _⟩
  case round =>
    obtain ⟨k, hk, rfl, hp, hbr⟩ := hrel
    have Hp := hide hp
    clear hp
    by_cases hlt : k < d.length
    · obtain ⟨b, o, rfl, hbl, hcell⟩ := hel (by omega)
      clear hel
      have hbw := nxt hb hbr
      obtain ⟨c0, c1, c2, fk⟩ := hcell k hlt
      obtain ⟨z0, _, _, _⟩ := hcell 0 (by omega)
      have k0' := (hbw.cell (p := ⟨b, _, none⟩) hbl).trans c0
      have k1' := (hbw.cell (p := ⟨b, _, none⟩) hbl).trans c1
      have k2' := (hbw.cell (p := ⟨b, _, none⟩) hbl).trans c2
      have hbW := hbw.alloc hbw.size (.cells #[.int .i64 d[k].kind, .int .i64 d[k].n, .string d[k].t] 90)
      have bx := Fw.box (blk_cells (blk_new wr #[.int .i64 d[k].kind, .int .i64 d[k].n, .string d[k].t] 90)) rfl
      have kz := Fw.cell ((hbW.cell (p := ⟨b, _, none⟩) hbl).trans z0)
      simp only [Nat.zero_mul, Nat.add_zero] at kz
      clear c0 c1 c2 z0
      have A1 := hide (fun w => impl_AtomOK d[k] w fk)
      cases h1 : atomOK d[k]
      · have hr : Hid (datumOK d = false) := datumOK_bad d k hlt (by unfold stepOK; rw [getD_at d k hlt, h1]; rfl)
        rw [h1] at A1
        clear h1 hcell
        go_wp2_with fail
        refine region_quiet (by kernel_rfl) (by kernel_rfl) ?_
        repeat (go_big_quiet_step ((go_at_call 101; exact quiet_of (A1.out _))))
        refine wpQuiet_nil ?_; intro w1 hb1
        clear kz bx
        go_wp2_with fail
        go_ret
        exact ⟨by rw [hr.out]; rfl, (nxt (hbr.alloc hbr.size _) hb1)⟩
      · rw [h1] at A1
        have g0 : d.getD k default = d[k] := getD_at d k hlt
        have gz : d.getD 0 default = d[0] := getD_at d 0 (by omega)
        by_cases h2 : d[k].kind = d[0].kind
        · have h2b : (d[k].kind != d[0].kind) = false := by simp [h2]
          have h2c : (kindAt d k == kindAt d 0) = true := by unfold kindAt; rw [g0, gz, h2]; simp
          have hsn := hide (datumTo_succ d k)
          by_cases h3 : k = 0
          · have hg : Hid (stepOK d k = true) := by show _ = _; unfold stepOK; rw [g0, h1, h2c, decide_eq_true h3]; rfl
            subst h3
            simp only [Nat.zero_mul, Nat.add_zero] at k0' k1' k2'
            clear h1 h2 h2c g0 gz hcell
            go_wp2_with fail
            refine region_quiet (by kernel_rfl) (by kernel_rfl) ?_
            repeat (go_big_quiet_step ((go_at_call 101; exact quiet_of (A1.out _))))
            refine wpQuiet_nil ?_; intro w1 hb1
            clear kz bx
            go_wp2_with fail
            go_roundw
            case rel => exact ⟨1, by omega, rfl, by rw [hsn.out, Hp.out, hg.out]; rfl, (nxt (hbr.alloc hbr.size _) hb1)⟩
            case measure => simp [intOf]; omega
          · obtain ⟨e0, e1, e2, fp⟩ := hcell (k - 1) (by omega)
            have gp : d.getD (k - 1) default = d[k - 1] := getD_at d (k - 1) (by omega)
            have p0 := Fw.cell ((hbW.cell (p := ⟨b, _, none⟩) hbl).trans e0)
            have p1 := Fw.cell ((hbW.cell (p := ⟨b, _, none⟩) hbl).trans e1)
            have p2 := Fw.cell ((hbW.cell (p := ⟨b, _, none⟩) hbl).trans e2)
            clear e0 e1 e2 hcell
            have hk1 : 1 ≤ k := by omega
            have hk2 : decide (0 < k) = true := by simp; omega
            have A2 := hide (fun w => impl_compareAtoms d[k - 1] d[k] w)
            by_cases h4 : ordA d[k - 1] d[k] < 0
            · have hg : Hid (stepOK d k = true) := by show _ = _; unfold stepOK; rw [g0, h1, h2c, gp]; simp [h4]
              have h4b : decide (0 ≤ ordA d[k - 1] d[k]) = false := by simp; omega
              clear h1 h2 h2c g0 gz gp h3 h4
              go_wp2_with fail
              refine region_quiet (by kernel_rfl) (by kernel_rfl) ?_
              repeat (go_big_quiet_step ((first | (go_at_call 101; exact quiet_of (A1.out _)) | (go_at_call 113; exact quiet_of (A2.out _)))))
              refine wpQuiet_nil ?_; intro w1 hb1
              clear kz bx p0 p1 p2
              go_wp2_with fail
              go_roundw
              case rel => exact ⟨k + 1, by omega, by go_num, by rw [hsn.out, Hp.out, hg.out]; rfl, (nxt (hbr.alloc hbr.size _) hb1)⟩
              case measure => simp [intOf]; omega
            · have hr : Hid (datumOK d = false) := datumOK_bad d k hlt (by unfold stepOK; rw [g0, h1, h2c, gp]; simp [h4, h3])
              have h4b : decide (0 ≤ ordA d[k - 1] d[k]) = true := by simp; omega
              clear h1 h2 h2c g0 gz gp h3 h4
              go_wp2_with fail
              refine region_quiet (by kernel_rfl) (by kernel_rfl) ?_
              repeat (go_big_quiet_step ((first | (go_at_call 101; exact quiet_of (A1.out _)) | (go_at_call 113; exact quiet_of (A2.out _)))))
              refine wpQuiet_nil ?_; intro w1 hb1
              clear kz bx p0 p1 p2
              go_wp2_with fail
              go_ret
              exact ⟨by rw [hr.out]; rfl, (nxt (hbr.alloc hbr.size _) hb1)⟩
        · have hr : Hid (datumOK d = false) := datumOK_bad d k hlt (by unfold stepOK kindAt; rw [g0, gz, h1]; simp [h2])
          have h2b : (d[k].kind != d[0].kind) = true := by simp [h2]
          clear h1 h2 g0 gz hcell
          go_wp2_with fail
          refine region_quiet (by kernel_rfl) (by kernel_rfl) ?_
          repeat (go_big_quiet_step ((go_at_call 101; exact quiet_of (A1.out _))))
          refine wpQuiet_nil ?_; intro w1 hb1
          clear kz bx
          go_wp2_with fail
          go_ret
          exact ⟨by rw [hr.out]; rfl, (nxt (hbr.alloc hbr.size _) hb1)⟩
    · obtain rfl : k = d.length := by omega
      have hr : Hid (datumOK d = decide ((d.length : Int) ≤ 8)) := by show _ = _; unfold datumOK; rw [Hp.out]; rfl
      go_wp2
      go_ret
      exact ⟨by rw [hr.out]; rfl, hbr⟩
end Go.Proofs.Ythglchopajdmhaa
