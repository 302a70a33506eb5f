/- print of the program: plain part, null. No statement is proved here; no conditions. Written by a program (gen72.py). -/
import Derived.Test.YtdleccpjejdgiaaGreatDoorPrint
import Derived.Test.YtdleccpjejdgiaaGreatDoorQuoted
import Derived.Test.YtdleccpjejdgiaaGreatDoorShelf
namespace Go.Proofs.YtdleccpjejdgiaaGreatDoor
open Go.ChangeShapes Go.WideShapes Go.ChangeAt Go.RowKit Go.Deep
set_option maxRecDepth 100000
set_option linter.unusedVariables false
set_option linter.unusedSimpArgs false

theorem itoa_digN : ∀ n : Nat, Lib.decDigits n = digN n := by
  intro n
  induction n using Nat.strongRecOn with
  | _ n ih =>
  unfold Lib.decDigits digN
  split
  · rfl
  · rw [ih (n / 10) (by omega)]; rfl
theorem itoa_digI (z : Int) : Lib.itoa z = digI z := by
  unfold Lib.itoa digI
  rw [itoa_digN, itoa_digN]
  split
  · rw [show z.natAbs = (-z).toNat by omega]
  · rfl
theorem join_joinC : ∀ l : List (List UInt8), Lib.join l [44] = joinC l
  | [] => rfl
  | [x] => by rw [Lib.join_one]; rfl
  | x :: y :: r => by
    rw [Lib.join_cons]
    have h := join_joinC (y :: r)
    rw [Lib.join_cons] at h
    show _ = x ++ 44 :: joinC (y :: r)
    rw [← h]
    simp [Lib.joinTail]
def partsB (d : Nat) (a : Json) : List ByteArray := (partsL d a).map fun l => ⟨l.toArray⟩
theorem partsB_def (d : Nat) (a : Json) : partsB d a = (partsL d a).map fun l => ⟨l.toArray⟩ := by unfold partsB; rfl
theorem partsB_len {d : Nat} {a : Json} (hp : partOK a = true) : (partsB d a).length = a.items.length := by unfold partsB; rw [List.length_map, parts_len hp]
theorem len_cnt {d : Nat} {a : Json} (h : cnt (d + 1) a ≤ 400) : a.items.length ≤ 400 := by
  have h1 : 1 + (a.items.map (cnt d)).sum ≤ 400 := h
  have h2 : ∀ l : List Json, l.length ≤ (l.map (cnt d)).sum := fun l => by
    induction l with
    | nil => simp
    | cons x r ih => have := cnt_pos d x; simp only [List.map_cons, List.sum_cons, List.length_cons]; omega
  have := h2 a.items; omega
theorem partsB_step {d : Nat} {a : Json} {k : Nat} (h : k < (partsL d a).length) {y : ByteArray} (hy : y = ⟨(partsL d a)[k].toArray⟩) : (partsB d a).take (k + 1) = (partsB d a).take k ++ [y] := by
  have h2 : k < (partsB d a).length := by unfold partsB; rw [List.length_map]; exact h
  rw [List.take_add_one, List.getElem?_eq_getElem h2, hy]; congr 2; simp [partsB]
theorem key_add {x y : List UInt8} : (⟨x.toArray⟩ : ByteArray) ++ ⟨#[58]⟩ ++ ⟨y.toArray⟩ = ⟨(x ++ 58 :: y).toArray⟩ := by apply ByteArray.ext; simp
theorem wrap_add {b c : UInt8} {x : List UInt8} : (⟨#[b]⟩ : ByteArray) ++ ⟨x.toArray⟩ ++ ⟨#[c]⟩ = ⟨(b :: (x ++ [c])).toArray⟩ := by apply ByteArray.ext; simp
theorem grow_belowN (w : World) (k : Nat) (os : Array Obj) : Below w.heap.size w (Go.Sort.grow (w.drewN k) os) :=
  ⟨rfl, rfl, rfl, by simp [Go.Sort.grow, World.drewN], fun j hk => by unfold Go.Sort.grow World.drewN; simp [Array.getElem?_append, hk]⟩
def PT (w : World) : Prop := Lib.TabIs Tryz.prog w "internal/strconv.uint64pow10" .u64 Lib.pow10Tab
theorem PT.below {w w' : World} (h : PT w) (hb : Below w.heap.size w w') : PT w' := by
  unfold PT Lib.TabIs World.var? at h ⊢
  cases hg : Tryz.prog.globalNamed "internal/strconv.uint64pow10" with
  | none => rw [hg] at h; cases h
  | some g =>
    rw [hg] at h
    simp only [Option.bind_some] at h ⊢
    have hlt : g < w.heap.size := by
      rcases Nat.lt_or_ge g w.heap.size with h' | h'
      · exact h'
      · rw [Array.getElem?_eq_none h'] at h; cases h
    rw [hb.block g hlt]; exact h
theorem impl_Itoa {w : World} (hT : PT w) {n : Int} (h0 : -1000000000 ≤ n) (h1 : n ≤ 1000000000) : Calls Tryz.prog 24 #[.int .i64 n] w fun e w' => e = .returned (.string ⟨(digI n).toArray⟩) ∧ Below w.heap.size w w' := by
  refine (Tryz.strconv_Itoa n (by omega) (by omega) w hT).mono ?_
  rintro e w' ⟨rfl, k, os, rfl⟩
  exact ⟨by rw [itoa_digI], grow_belowN w k os⟩
theorem impl_Join {w : World} {lo : Nat} {v : Value} {xs : List ByteArray} {l : List (List UInt8)} (h : Own 1 StrR 9 lo w v xs) (hx : xs = l.map fun x => ⟨x.toArray⟩) (hn : xs.length ≤ 400) (hl : (joinC l).length ≤ 800000000000) :
    Calls Tryz.prog 25 #[v, .string ⟨#[44]⟩] w fun e w' => e = .returned (.string ⟨(joinC l).toArray⟩) ∧ Below w.heap.size w w' := by
  have hm : xs.map (·.data.toList) = l := by rw [hx, List.map_map]; simp [Function.comp_def]
  obtain ⟨bs, r, _⟩ := h.done
  obtain ⟨A, c, rfl, hlc, _, hel⟩ := r.use
  by_cases h0 : xs = []
  · have hl0 : l = [] := by rw [← hm, h0]; rfl
    subst hl0; subst h0
    exact (Tryz.strings_Join_none A c ⟨#[44]⟩ w).mono fun e w' ⟨he, hw⟩ => ⟨he, hw ▸ Below.refl _ _⟩
  · have hpos : 0 < xs.length := List.length_pos_iff.2 h0
    obtain ⟨b, o, bk, es, rfl, hbl, _⟩ := hel 0 hpos
    have hj : Lib.join (xs.map (·.data.toList)) (⟨#[44]⟩ : ByteArray).data.toList = joinC l := by rw [hm]; exact join_joinC l
    have hcall := Tryz.strings_Join b o c xs ⟨#[44]⟩ w (fun j x hx => by
      have hjl := idx_lt hx
      obtain ⟨b2, o2, bk2, es2, hA, _, _, hc2, ⟨_, rfl, _⟩, _⟩ := hel j hjl
      cases hA
      have := hc2 0 _ rfl
      rw [List.getElem?_eq_getElem hjl] at hx
      rw [← Option.some.inj hx]
      simpa using this) hbl (by omega) hlc (by rw [hj]; omega)
    rw [hj] at hcall
    exact hcall
abbrev PRD (d : Nat) : Prop := ∀ {w : World} {bs : List Nat} {cs : List Value} {a : Json} (hT : PT w) (H : JsonR w bs cs a) (hg : goodJ d a = true) (h4 : cnt d a ≤ 400),
    Calls Tryz.prog 16 #[.agg cs.toArray] w fun e w' => e = .returned (.string ⟨(prtL d a).toArray⟩) ∧ Below w.heap.size w w'
set_option maxHeartbeats 16000000 in
theorem print_k0 {w : World} {d : Nat} (IH : PRD d) (hT : PT w) {bs_a : List Nat} {cs_a : List Value} {a : Json} (H_a : JsonR w bs_a cs_a a) (hk : a.kind = 0) (hg : goodJ (d + 1) a = true) (h4 : cnt (d + 1) a ≤ 400) :
    Calls Tryz.prog 16 #[.agg cs_a.toArray] w (fun e w' => e = .returned (.string (⟨(prtL (d + 1) a).toArray⟩)) ∧ Below w.heap.size w w') := by
  have H0_a := H_a
  obtain ⟨a_v3, a_b3, a_v4, a_b4, rfl, rfl, hf_a, a_r3, a_r4⟩ := H_a.open
  obtain ⟨A_a3, c_a3, rfl, hlc_a3, hcm_a3, hel_a3⟩ := a_r3.use
  obtain ⟨A_a4, c_a4, rfl, hlc_a4, hcm_a4, hel_a4⟩ := a_r4.use
  have hbx := ((Below.refl w.heap.size w).alloc (Nat.le_refl _) (.cells #[.int .i64 a.kind, .int .i64 a.n, .string a.t, .slice A_a3 a.keys.length c_a3, .slice A_a4 a.items.length c_a4] 31))
  have q_a := blk_cells (blk_new w #[.int .i64 a.kind, .int .i64 a.n, .string a.t, .slice A_a3 a.keys.length c_a3, .slice A_a4 a.items.length c_a4] 31)
  have hgp := hide (good_parts hg); have hci := hide (fun k (hk : k < a.items.length) => cnt_item hk h4); have hpl := hide (parts_len (d := d) hgp.out.1); have hbl := hide (partsB_len (d := d) hgp.out.1); have hil := hide (len_cnt h4); have hbd := hide (parts_bd hg h4); have HT := hide hT
  have HK := hide hk
  have HL0 := hide ((part_kind hgp.out.1).2.2 (by omega))
  have c5 : (a.kind == 5) = false := by rw [hk]; rfl
  have c1 : (a.kind == 1) = false := by rw [hk]; rfl
  have c2 : (a.kind == 2) = false := by rw [hk]; rfl
  have c3 : (a.kind == 3) = false := by rw [hk]; rfl
  have c4 : (a.kind == 4) = false := by rw [hk]; rfl
  clear hk hg h4 hT hf_a
  go_enter Tryz.func16, Tryz.ntmps16
  go_wp2_with fail
  have hG1 := hide (Own.made' (size := 1) (R := StrR) (e := 9) (w := (w.alloc (.cells #[.int .i64 a.kind, .int .i64 a.n, .string a.t, .slice A_a3 a.keys.length c_a3, .slice A_a4 a.items.length c_a4] 31))) (n := w.heap.size + 1) (by simp))
  obtain ⟨ii1, hi1, hz1, hs1, hby1⟩ := info_parts StringS.info
  go_loopw [3, 11] (fun o i wr => ∃ (k : Nat) (v : Value), k ≤ a.items.length ∧ i = .int .i64 k ∧ o = v ∧ Hid (Own 1 StrR 9 (World.heap ((w.alloc (.cells #[.int .i64 a.kind, .int .i64 a.n, .string a.t, .slice A_a3 a.keys.length c_a3, .slice A_a4 a.items.length c_a4] 31)))).size wr v ((partsB d a).take k)) ∧ Below (World.heap ((w.alloc (.cells #[.int .i64 a.kind, .int .i64 a.n, .string a.t, .slice A_a3 a.keys.length c_a3, .slice A_a4 a.items.length c_a4] 31)))).size ((w.alloc (.cells #[.int .i64 a.kind, .int .i64 a.n, .string a.t, .slice A_a3 a.keys.length c_a3, .slice A_a4 a.items.length c_a4] 31))) wr) (fun _ i _ => a.items.length - (intOf i).toNat)
  case atStart => exact ⟨0, _, Nat.zero_le _, rfl, rfl, hG1, (Below.refl _ _).alloc (Nat.le_refl _) _⟩
  case round =>
    clear hG1
    obtain ⟨k1, v1_, hk1, rfl, hov1, hG1, hb1001⟩ := hrel; replace hov1 := hov1.symm; subst hov1
    obtain ⟨wl1, rfl⟩ : ∃ w' : World, w' = wr := ⟨_, rfl⟩
    obtain ⟨O1, cO1, hv1, hlO1, hcO1⟩ := hG1.out.form
    replace q_a := box_on q_a rfl hb1001
    have hwl1 := nxt hbx hb1001
    have hz0_1 := Below.refl (World.heap wl1).size wl1
    by_cases hlt1 : k1 < a.items.length
    · exact absurd hlt1 (by have := HL0.out; omega)
    · obtain rfl : k1 = a.items.length := by omega
      have hG2 := hG1.out; rw [List.take_of_length_le (by rw [hbl.out]; exact Nat.le_refl _)] at hG2; have HG := hide hG2; clear hG2 hG1 hv1 hlO1 hcO1 hel_a4 hel_a3 hci
      have hr : Hid (prtL (d + 1) a = [110, 117, 108, 108]) := by show _ = _; unfold prtL; simp [HK.out]
      go_wp2_with fail
      go_ret
      exact ⟨by rw [hr.out]; rfl, hwl1⟩
end Go.Proofs.YtdleccpjejdgiaaGreatDoor
