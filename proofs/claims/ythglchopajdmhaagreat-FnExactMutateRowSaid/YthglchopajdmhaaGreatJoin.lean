/- Two sets together. No statement is proved here; no conditions. Written by a program (gen44.py). -/
import Derived.Test.YthglchopajdmhaaGreatSets
import Derived.Test.YthglchopajdmhaaGreatLess
import Derived.Lib.AppendZeros
namespace Go.Proofs.YthglchopajdmhaaGreat
open Go.ChangeShapes Go.WideShapes Go.ChangeAt Go.RowKit Go.Deep
set_option maxRecDepth 100000
set_option linter.unusedVariables false
set_option linter.unusedSimpArgs false

def joinAns (a b : List Atom) : List Atom × Int := if twoCode a b = 0 then (if 8 < (joinA a b).length then ([], 6) else (joinA a b, 0)) else ([], twoCode a b)
theorem joinAns_wt (a b : List Atom) : AtomS.wt (joinAns a b).1 ≤ 24 := by
  unfold joinAns; rw [AtomS.wt_len]; split
  · split
    · show 3 * ([] : List Atom).length ≤ 24; decide
    · show 3 * (joinA a b).length ≤ 24; omega
  · show 3 * ([] : List Atom).length ≤ 24; decide
theorem datum_all {d : List Atom} (h : datumOK d = true) (k : Nat) (hk : k < d.length) : atomOK d[k] = true ∧ d[k].kind = kindAt d 0 := by
  unfold datumOK datumTo at h
  rw [Bool.and_eq_true] at h
  have := List.all_eq_true.1 h.1 k (by simpa using hk)
  unfold stepOK at this
  rw [Bool.and_eq_true, Bool.and_eq_true] at this
  have h1 := this.1; rw [get_d _ _ hk] at h1
  refine ⟨h1.1, ?_⟩
  have h2 := eq_of_beq h1.2
  unfold kindAt at h2 ⊢; rw [get_d _ _ hk] at h2; exact h2
theorem codeL_zero {l : List Atom} : ∀ n, (∀ k, k < n → codeStep l k = 0) → codeL l n = 0
  | 0, _ => rfl
  | n + 1, h => codeL_next (codeL_zero n fun k hk => h k (by omega)) (h n (by omega))
theorem join_code {a b : List Atom} (ha : datumOK a = true) (hb : datumOK b = true) (hal : alike a b = true) : codeL (a ++ b) (a ++ b).length = 0 := by
  refine codeL_zero _ fun k hk => ?_
  have h0 : 0 < (a ++ b).length := by omega
  rw [codeStep_at hk h0]
  have key : ∀ j (hj : j < (a ++ b).length), atomOK (a ++ b)[j] = true ∧ (∀ (_ : 0 < a.length), (a ++ b)[j].kind = kindAt a 0) ∧ (∀ (_ : a.length = 0), (a ++ b)[j].kind = kindAt b 0) := by
    intro j hj
    by_cases hja : j < a.length
    · rw [List.getElem_append_left hja]
      have := datum_all ha j hja
      exact ⟨this.1, fun _ => this.2, fun h => by omega⟩
    · rw [List.getElem_append_right (by omega)]
      have hjb : j - a.length < b.length := by rw [List.length_append] at hj; omega
      have := datum_all hb _ hjb
      refine ⟨this.1, fun hpos => ?_, fun _ => this.2⟩
      rw [this.2]
      unfold alike at hal
      rw [beq_eq_false_iff_ne.2 (by omega : ((a.length : Int)) ≠ 0), beq_eq_false_iff_ne.2 (by omega : ((b.length : Int)) ≠ 0)] at hal
      exact (eq_of_beq hal).symm
  have h1 := key k hk; have h2 := key 0 h0
  have hkk : (a ++ b)[k].kind = (a ++ b)[0].kind := by
    by_cases hpos : 0 < a.length
    · rw [h1.2.1 hpos, h2.2.1 hpos]
    · rw [h1.2.2 (by omega), h2.2.2 (by omega)]
  rw [h1.1, hkk]; simp
theorem ofAns_join {a b : List Atom} (h : twoCode a b = 0) : ofAns (a ++ b) = joinAns a b := by
  obtain ⟨ha, hb, hal⟩ := twoCode_zero h
  unfold ofAns joinAns
  rw [join_code ha hb hal, setA_join (datum_up ha) b, if_pos h]; rfl
theorem joinAns_not {a b : List Atom} (h : ¬ twoCode a b = 0) : joinAns a b = ([], twoCode a b) := by unfold joinAns; rw [if_neg h]
section
variable {α : Type} {R : Rd α}
/-- Two values that each fill one cell, in a block of their own. -/
theorem row_of_two {w : World} {g : Nat} {t : TypeId} {u v : Value} {b1 b2 : List Nat} {x y : α} (h : w.heap[g]? = some (.cells #[u, v] t (0, 0))) (h1 : R w b1 [u] x) (h2 : R w b2 [v] y) : SlR 1 R w (g :: (b1 ++ b2)) [.slice (some ⟨g, 0, none⟩) 2 2] [x, y] := by
  refine ⟨_, 2, rfl, Nat.le_refl _, by unfold maxLen; omega, .inr ⟨g, 0, [b1, b2], rfl, lt_of_cells h, rfl, by simp, fun k z bk hx hbk => ?_⟩⟩
  match k with
  | 0 =>
    simp only [List.getElem?_cons_zero, Option.some.injEq] at hx hbk
    subst hx; subst hbk
    exact ⟨[u], rfl, fun j q hq => by rw [blk_cells h]; match j, hq with | 0, hq => simpa using hq | j + 1, hq => simp at hq, h1⟩
  | 1 =>
    simp only [List.getElem?_cons_succ, List.getElem?_cons_zero, Option.some.injEq] at hx hbk
    subst hx; subst hbk
    exact ⟨[v], rfl, fun j q hq => by rw [blk_cells h]; match j, hq with | 0, hq => simpa using hq | j + 1, hq => simp at hq, h2⟩
  | k + 2 => simp at hx
end
theorem slices_GrowA (w : World) (n : Nat) (hn : n ≤ 1048576) : Calls Tryz.prog 111 #[.slice none 0 0, .int .i64 n] w fun e w' => ∃ v, e = .returned v ∧ Gr 3 AtomR 98 w.heap.size w' v [] [] ∧ Below w.heap.size w w' := by
  obtain ⟨ii, ji, jz, js, jby⟩ := info_parts AtomS.info
  have h1 : decide ((n : Int) < 0) = false := decide_eq_false (by omega)
  by_cases h0 : 0 < n
  · have hd : decide ((0 : Int) < (n : Int)) = true := decide_eq_true (by omega)
    have hd2 : decide (0 < n) = true := decide_eq_true h0
    have hge := grownCap_ge w n 0 98
    have hle := grownCap_le_maxLen w n 0 98 (by unfold maxLen; omega)
    have hrun := fun ty => Lib.run_append_nil_zeros (P := Tryz.prog) w 65 3 ty 98 ii _ .i64 _ Tryz.underlying65 Tryz.underlying3 ji jz n h0 (by omega) (by omega) (by rw [jby]; omega)
    have HR := hide hrun; clear hrun
    generalize hcap : grownCap w n 0 98 = cap at hge hle HR
    have hG := hide (Gr.made (size := 3) (R := AtomR) (e := 98) (lo := w.heap.size) w.drew (Builtin.zeroCells (Value.cells (.agg #[.int .i64 0, .int .i64 0, .string ⟨#[]⟩])) n ++ Builtin.zeroCells (Value.cells (.agg #[.int .i64 0, .int .i64 0, .string ⟨#[]⟩])) (cap - n)) cap (Nat.le_refl _) hle (by rw [Array.size_append, size_zeroCells, size_zeroCells, ← Nat.add_mul]; congr 1; omega))
    go_enter Tryz.func111, Tryz.ntmps111
    go_wp2_with (at_builtin; refine Lib.wpList_append_run w rfl _ _ 65 3 rfl (.slice none 0 0) (.int .i64 n) rfl rfl _ _ (HR.out _) ?_)
    go_ret
    exact ⟨_, rfl, hG.out, (Below.refl w.heap.size w).drew.alloc (Nat.le_refl _) _⟩
  · obtain rfl : n = 0 := by omega
    have hd : decide ((0 : Int) < ((0 : Nat) : Int)) = false := rfl
    go_enter Tryz.func111, Tryz.ntmps111
    go_wp2_with fail
    go_ret
    exact ⟨_, rfl, Gr.nil _ _ _, Below.refl _ _⟩
set_option maxHeartbeats 4000000 in
theorem slices_ConcatA {w : World}  {bs_l : List Nat} {v_l : Value} {l : List (List Atom)} (H_l : AtomSSR w bs_l [v_l] l) (hn : (l.map List.length).sum ≤ 1048576) :
    Calls Tryz.prog 93 #[v_l] w (fun e w' => ∃ v' bs', e = .returned v' ∧ AtomSR w' bs' [v'] l.flatten ∧ Below w.heap.size w w') := by
  have H0_l := H_l
  obtain ⟨A_l, c_l, rfl, hlc_l, hcm_l, hel_l⟩ := H_l.use
  obtain ⟨ii, ji, jz, js, jby⟩ := info_parts AtomS.info
  have hpl := hide (fun k => Nat.le_trans (psum_le List.length l k) hn); have HT := hide (show psum List.length l l.length ≤ 1048576 by rw [psum_all]; exact hn); clear hn
  go_enter Tryz.func93, Tryz.ntmps93
  go_wp2_with fail
  go_loopw [3, 11] (fun o i wr => ∃ k : Nat, k ≤ l.length ∧ i = .int .i64 k ∧ o = .int .i64 ((psum List.length l k : Nat)) ∧ Hid (True) ∧ Below (World.heap (w)).size (w) wr) (fun _ i _ => l.length - (intOf i).toNat)
  case atStart => exact ⟨0, Nat.zero_le _, rfl, by rw [psum_zero]; rfl, trivial, Below.refl _ _⟩
  case round =>
    obtain ⟨k1, hk1, rfl, rfl, hn1_, hb1001⟩ := hrel
    obtain ⟨wl1, rfl⟩ : ∃ w' : World, w' = wr := ⟨_, rfl⟩
    have hwl1 := nxt (Below.refl w.heap.size w) hb1001
    by_cases hlt1 : k1 < l.length
    · obtain ⟨gb, go, gbk, ges, rfl, ghbl, ghcl, ghcell, gR, ghbk⟩ := hel_l k1 hlt1
      obtain ⟨gA, gc, ghlc, rfl⟩ : ∃ A0 c0, l[k1].length ≤ c0 ∧ ges = [.slice A0 l[k1].length c0] := by obtain ⟨A0, c0, h, h2, _⟩ := gR; exact ⟨A0, c0, h2, h⟩
      have g_0 := (hwl1.cell (p := ⟨gb, _, none⟩) ghbl).trans (ghcell 0 _ rfl)
      simp only [Nat.add_zero, Nat.mul_one] at g_0
      clear ghcell ghcl
      clear hel_l
      have hps := hide (psum_succ List.length l k1 hlt1); have hpb := hpl.out (k1 + 1); rw [hps.out] at hpb
      have hneg : decide (((psum List.length l k1 : Nat) : Int) + (l[k1].length : Int) < 0) = false := decide_eq_false (by omega)
      go_wp2_with fail
      go_roundw
      case rel => exact ⟨k1 + 1, hlt1, by go_num, by rw [hps.out]; go_num, trivial, hb1001⟩
      case measure => simp [intOf]; omega
    · obtain rfl : k1 = l.length := by omega
      have hT := HT.out
      go_wp2_with fail
      refine (slices_GrowA _ _ hT).mono ?_; rintro e w9 ⟨v9, rfl, hG9, hb9⟩; have hw9 := nxt hwl1 hb9; have HG9 := hide hG9; clear hG9 hT
      go_wp2_with fail
      have hlo : w.heap.size ≤ (World.heap wl1).size := hwl1.size
      go_loopw [6, 27] (fun o i wr => ∃ (k : Nat) (v : Value) (bss : List (List Nat)), k ≤ l.length ∧ i = .int .i64 k ∧ o = v ∧ Hid (Gr 3 AtomR 98 (World.heap wl1).size wr v bss (l.take k).flatten) ∧ Below w.heap.size w wr ∧ (World.heap wl1).size ≤ wr.heap.size) (fun _ i _ => l.length - (intOf i).toNat)
      case atStart => exact ⟨0, _, [], Nat.zero_le _, rfl, rfl, HG9.out, hw9, hb9.size⟩
      case round =>
        clear HG9; obtain ⟨k, v, bss, hk, rfl, hov, hG, hbr, hzr⟩ := hrel; replace hov := hov.symm; subst hov; obtain ⟨wm, rfl⟩ : ∃ w' : World, w' = wr := ⟨_, rfl⟩
        by_cases hlt : k < l.length
        · obtain ⟨gb, go, gbk, ges, rfl, ghbl, ghcl, ghcell, gR, ghbk⟩ := hel_l k hlt
          obtain ⟨gA, gc, ghlc, rfl⟩ : ∃ A0 c0, l[k].length ≤ c0 ∧ ges = [.slice A0 l[k].length c0] := by obtain ⟨A0, c0, h, h2, _⟩ := gR; exact ⟨A0, c0, h2, h⟩
          have g_0 := (hbr.cell (p := ⟨gb, _, none⟩) ghbl).trans (ghcell 0 _ rfl)
          simp only [Nat.add_zero, Nat.mul_one] at g_0
          clear ghcell ghcl
          clear hel_l
          have hgR := hide (AtomSR.good.nxt hbr gR); have hgl := hide (AtomSR.good.lt gR)
          have htk : Hid ((l.take (k + 1)).flatten = (l.take k).flatten ++ l[k]) := by show _ = _; rw [List.take_add_one, List.getElem?_eq_getElem hlt, List.flatten_append]; simp
          have hfl : ∀ j, (l.take j).flatten.length = psum List.length l j := fun j => by rw [List.length_flatten]; rfl
          have hbnd : Hid ((l.take k).flatten.length + l[k].length ≤ 1048576) := by show _ ≤ _; rw [hfl, ← psum_succ List.length l k hlt]; exact hpl.out _
          clear hfl
          have hform := hG.out.form
          obtain ⟨Av, cv, hvf, _, _⟩ := hform; have hVF := hide hvf; clear hvf
          go_wp2_with (at_builtin; refine wpList_append_sl AtomR.good rfl _ _ 65 rfl Tryz.underlying65 ji jz js jby rfl (by decide) (v := v) rfl hG.out hgR.out rfl AtomR.one (fun b hb hv => by have := hgl.out b hb; have := (hG.out.blk b hv).1; omega) (by have := hbnd.out; omega) (by have := hbnd.out; omega) (by omega) ?_; intro v2 wA bss2 hA; have hb2 := hA.below w.heap.size _ hbr (by omega); have hz2 := hA.size)
          go_roundw
          case rel => exact ⟨k + 1, v2, bss ++ bss2, hlt, by go_num, rfl, by rw [htk.out]; exact hA.gr, hb2, by omega⟩
          case measure => simp [intOf]; omega
        · obtain rfl : k = l.length := by omega
          have hG2 := hG.out; rw [List.take_length] at hG2; have HG := hide hG2; clear hG2 hG hel_l
          go_wp2
          go_ret
          obtain ⟨bs', q1, _, _⟩ := HG.out.done
          exact ⟨_, bs', rfl, q1, hbr⟩
theorem concat_two {w : World} {b1 b2 : List Nat} {A B : Option Addr} {c d n : Nat} {a b ab : List Atom} (hab : ab = a ++ b) (hw : w.heap.size = n) (ha : AtomSR w b1 [.slice A a.length c] a) (hb : AtomSR w b2 [.slice B b.length d] b) (hn : a.length + b.length ≤ 1048576) :
    Calls Tryz.prog 93 #[.slice (some ⟨n, 0, none⟩) 2 2] (w.alloc (.cells #[.slice A a.length c, .slice B b.length d] 65)) fun e w' => ∃ v' bs', e = .returned v' ∧ AtomSR w' bs' [v'] ab ∧ Below w.heap.size w w' := by
  subst hab; subst hw
  have hal := (Below.refl w.heap.size w).alloc (Nat.le_refl _) (.cells #[.slice A a.length c, .slice B b.length d] 65)
  have h := row_of_two (blk_new w #[.slice A a.length c, .slice B b.length d] 65) (AtomSR.good.nxt hal ha) (AtomSR.good.nxt hal hb)
  exact (slices_ConcatA h (by simpa using hn)).mono fun e w' ⟨v', bs', he, hr, hb⟩ => ⟨v', bs', he, by simpa using hr, nxt hal hb⟩
end Go.Proofs.YthglchopajdmhaaGreat
