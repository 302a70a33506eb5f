/- A text's quotes by the library's table. No statement is proved here; no conditions. Written by a program (gen71.py). -/
import Derived.Test.YtdleccpjejdgiaaGreatDoorBuild
import Derived.Test.YtdleccpjejdgiaaGreatDoorQuote
import Derived.Test.YtdleccpjejdgiaaGreatDoorShelf
import Derived.Shelf.Spec.SlicesInsert
namespace Go.Proofs.YtdleccpjejdgiaaGreatDoor
open Go.ChangeShapes Go.WideShapes Go.ChangeAt Go.RowKit Go.Deep
set_option maxRecDepth 100000
set_option linter.unusedVariables false
set_option linter.unusedSimpArgs false
def escB (b : UInt8) : Bool := b == 34 || b == 92
def cntQ (l : List UInt8) : Nat := l.countP escB
theorem qL_count : ∀ l : List UInt8, (qL l).length = l.length + cntQ l
  | [] => rfl
  | b :: l => by
    have h := qL_count l
    unfold qL cntQ
    rw [List.countP_cons]
    cases he : escB b
    · rw [if_neg (by unfold escB at he; rw [he]; simp)]
      simp only [List.length_cons, h, cntQ]; simp; omega
    · rw [if_pos (by unfold escB at he; exact he)]
      simp only [List.length_cons, h, cntQ]; simp; omega
theorem qL_none : ∀ l : List UInt8, cntQ l = 0 → qL l = l
  | [], _ => rfl
  | b :: l, h => by
    unfold cntQ at h
    rw [List.countP_cons] at h
    cases he : escB b
    · unfold qL
      rw [if_neg (by unfold escB at he; rw [he]; simp), qL_none l (by unfold cntQ; omega)]
    · rw [he] at h; simp at h
theorem cnt_two : ∀ l : List UInt8, l.count 92 + l.count 34 = cntQ l
  | [] => rfl
  | b :: l => by
    have h := cnt_two l
    unfold cntQ at h ⊢
    rw [List.countP_cons, List.count_cons, List.count_cons]
    unfold escB at h ⊢
    by_cases h1 : b = 34
    · subst h1; simp; omega
    · by_cases h2 : b = 92
      · subst h2; simp; omega
      · simp [h1, h2]; omega
theorem cnt_take {l : List UInt8} {k : Nat} (hk : k < l.length) : cntQ (l.take (k + 1)) = cntQ (l.take k) + (if escB l[k] then 1 else 0) := by
  unfold cntQ
  rw [List.take_add_one, List.getElem?_eq_getElem hk, List.countP_append]
  simp [List.countP_cons]
theorem toL_at {t : ByteArray} {k : Nat} (h : k < t.size) (h2 : k < t.toList.length) : t.toList[k] = t[k] := by
  simp only [ByteArray.toList_eq]; rfl
/-- A row of bytes that has been filled so far. -/
def Filled (B N : Nat) (e : TypeId) (l : List UInt8) (w : World) : Prop := ∃ cur : Array Value, w.heap[B]? = some (.cells cur e (0, 0)) ∧ cur.size = N ∧ ∀ (p : Nat) (b : UInt8), l[p]? = some b → cur[p]? = some (Value.int .u8 (b.toNat : Int))
theorem Filled.one {B N : Nat} {e : TypeId} {l : List UInt8} {w' : World} {b : UInt8} {cur : Array Value} (hw : w'.heap[B]? = some (.cells (cur.setIfInBounds l.length (Value.int .u8 (b.toNat : Int))) e (0, 0))) (hs : cur.size = N) (hl : l.length < N)
    (hc : ∀ (p : Nat) (b : UInt8), l[p]? = some b → cur[p]? = some (Value.int .u8 (b.toNat : Int))) : Filled B N e (l ++ [b]) w' := by
  refine ⟨_, hw, by simpa using hs, fun p x hx => ?_⟩
  rcases Nat.lt_trichotomy p l.length with h | h | h
  · rw [List.getElem?_append_left h] at hx
    rw [Array.getElem?_setIfInBounds_ne (by omega)]; exact hc p x hx
  · subst h
    rw [List.getElem?_append_right (Nat.le_refl _), Nat.sub_self] at hx
    simp only [List.getElem?_cons_zero, Option.some.injEq] at hx; subst hx
    exact Array.getElem?_setIfInBounds_self_of_lt (by omega)
  · rw [List.getElem?_eq_none (by simp; omega)] at hx; cases hx
theorem qL_step {t : ByteArray} {k : Nat} (h : k < t.size) : qL (t.toList.take (k + 1)) = qL (t.toList.take k) ++ (if escB t[k] then [92, t[k]] else [t[k]]) := by rw [toL_take h, qL_append]; rfl
theorem qL_room {t : ByteArray} {k : Nat} : (qL (t.toList.take k)).length ≤ (qL t.toList).length := by
  rw [qL_count, qL_count]
  have h1 : cntQ (t.toList.take k) ≤ cntQ t.toList := (List.take_sublist k t.toList).countP_le
  have h2 : (t.toList.take k).length ≤ t.toList.length := by rw [List.length_take]; omega
  omega
theorem toL_back (t : ByteArray) : (⟨t.toList.toArray⟩ : ByteArray) = t := by rw [ByteArray.toList_eq]
/-- What is read of the table. -/
structure Tab (q : Nat) (w : World) : Prop where
  tr : ∃ h o c, w.cell? ⟨q, 256, none⟩ = some (.slice (some ⟨h, o, none⟩) 2 c) ∧ w.cell? ⟨h, o, none⟩ = some (.string ⟨#[92]⟩) ∧ w.cell? ⟨h, o + 1, none⟩ = some (.string ⟨#[34]⟩)
  no : ∀ b : UInt8, escB b = false → w.cell? ⟨q, b.toNat, none⟩ = some (.slice none 0 0)
  es : ∀ b : UInt8, escB b = true → ∃ bb c, w.cell? ⟨q, b.toNat, none⟩ = some (.slice (some ⟨bb, 0, none⟩) 2 c) ∧ w.cell? ⟨bb, 0, none⟩ = some (.int .u8 92) ∧ w.cell? ⟨bb, 1, none⟩ = some (.int .u8 (b.toNat : Int))
theorem Tab.below {q : Nat} {w w' : World} (h : Tab q w) (hb : Below w.heap.size w w') : Tab q w' where
  tr := by obtain ⟨a, o, c, h1, h2, h3⟩ := h.tr; exact ⟨a, o, c, cell_on h1 hb, cell_on h2 hb, cell_on h3 hb⟩
  no := fun b he => cell_on (h.no b he) hb
  es := fun b he => by obtain ⟨a, c, h1, h2, h3⟩ := h.es b he; exact ⟨a, c, cell_on h1 hb, cell_on h2 hb, cell_on h3 hb⟩
theorem Tabl.tab {lo q : Nat} {w : World} (h : Tabl lo q 2 w) : Tab q w := by
  obtain ⟨tab, v, hq, hts, htn, ht6, hO, _, _, h1, h2⟩ := h
  refine ⟨?_, fun b he => ?_, fun b he => ?_⟩
  · obtain ⟨bs, r, _⟩ := hO.done
    obtain ⟨A, c, rfl, _, _, hel⟩ := r.use
    obtain ⟨b0, o0, bk0, es0, rfl, _, _, hc0, ⟨_, rfl, _⟩, _⟩ := hel 0 (by decide)
    obtain ⟨b1, o1, bk1, es1, hA, _, _, hc1, ⟨_, rfl, _⟩, _⟩ := hel 1 (by decide)
    cases hA
    exact ⟨b0, o0, c, (blk_cells hq 256).trans ht6, by simpa using hc0 0 _ rfl, by simpa using hc1 0 _ rfl⟩
  · rw [blk_cells hq]
    unfold escB at he
    refine htn b.toNat b.toNat_lt (fun h => ?_) (fun h => ?_)
    · have : b = 92 := UInt8.toNat_inj.1 h.1
      subst this; cases he
    · have : b = 34 := UInt8.toNat_inj.1 h.1
      subst this; cases he
  · unfold escB at he
    rw [Bool.or_eq_true, beq_iff_eq, beq_iff_eq] at he
    rcases he with rfl | rfl
    · obtain ⟨bb, c, _, _, _, p4, p5, p6⟩ := h2 (by omega)
      exact ⟨bb, c, (blk_cells hq 34).trans p4, p5, p6⟩
    · obtain ⟨bb, c, _, _, _, p4, p5, p6⟩ := h1 (by omega)
      exact ⟨bb, c, (blk_cells hq 92).trans p4, p5, p6⟩
def cz (l : List UInt8) (k : Nat) : Nat := if k = 0 then 0 else if k = 1 then l.count 92 else l.count 92 + l.count 34
set_option maxHeartbeats 32000000 in
theorem byteRep_Replace {w : World} {q : Nat} (HT : Tab q w) (t : ByteArray) (ht : t.size ≤ 200) :
    Calls Tryz.prog 119 #[.pointer (some ⟨q, 0, none⟩), .string t] w fun e w' => e = .returned (.string ⟨(qL t.toList).toArray⟩) ∧ Below w.heap.size w w' := by
  have hTL : Hid (t.toList.length = t.size) := by show _ = _; rw [ByteArray.toList_eq]; rfl
  obtain ⟨th, to, tc, c256, s0, s1⟩ := HT.tr
  obtain ⟨b92, cc92, d92, d92a, d92b⟩ := HT.es 92 rfl
  obtain ⟨b34, cc34, d34, d34a, d34b⟩ := HT.es 34 rfl
  have hb92 : ∀ h, ((⟨#[92]⟩ : ByteArray)[0]'h).toNat = 92 := fun _ => rfl
  have hb34 : ∀ h, ((⟨#[34]⟩ : ByteArray)[0]'h).toNat = 34 := fun _ => rfl
  replace d92 : w.cell? ⟨q, 92, none⟩ = some (.slice (some ⟨b92, 0, none⟩) 2 cc92) := d92
  replace d34 : w.cell? ⟨q, 34, none⟩ = some (.slice (some ⟨b34, 0, none⟩) 2 cc34) := d34
  clear d92a d92b d34a d34b
  by_cases hA : 16 ≤ t.size
  · have hd : decide ((16 : Int) ≤ t.size) = true := decide_eq_true (by omega)
    go_enter Tryz.func119, Tryz.ntmps119
    go_wp2_with fail
    go_loopw [5, 6, 32] (fun n a i wr => ∃ (k z : Nat) (y : Int) (b : Bool), k ≤ 2 ∧ i = .int .i64 y ∧ n = .int .i64 ((t.size : Int) + z) ∧ a = .bool b ∧ y = k ∧ Hid (b = decide (0 < z) ∧ z = cz t.toList k) ∧ Below w.heap.size w wr) (fun _ _ i _ => 2 - (intOf i).toNat)
    case atStart => exact ⟨0, 0, 0, false, by omega, rfl, by simp, rfl, rfl, ⟨rfl, rfl⟩, Below.refl _ _⟩
    case round =>
      obtain ⟨k, z, y, b, hk, rfl, rfl, rfl, hy, hz, hbr⟩ := hrel
      obtain ⟨wl, rfl⟩ : ∃ w' : World, w' = wr := ⟨_, rfl⟩
      replace c256 := cell_on c256 hbr; replace s0 := cell_on s0 hbr; replace s1 := cell_on s1 hbr; replace d92 := cell_on d92 hbr; replace d34 := cell_on d34 hbr
      have hk : k = 0 ∨ k = 1 ∨ k = 2 := by omega
      rcases hk with rfl | rfl | rfl
      · obtain rfl : y = 0 := hy
        have hcall := hide (Tryz.strings_Count_one t 92 wl)
        obtain ⟨m, hm⟩ : ∃ m : Nat, Lib.countByte t.data.toList 92 = m := ⟨_, rfl⟩
        have hml : m ≤ t.size := by rw [← hm]; exact Nat.le_trans List.count_le_length (Nat.le_of_eq (by rw [Array.length_toList]; rfl))
        have hz2 : Hid (z + m = cz t.toList 1) := by have h2 := hz.out.2; show _ = _; rw [h2, ← hm]; unfold cz Lib.countByte; simp [ByteArray.toList_eq]
        have hzl : z ≤ t.size := by rw [hz.out.2]; unfold cz; first | (simp; done) | (simp only [Nat.succ_ne_zero, if_false, if_true]; rw [← hTL.out]; exact List.count_le_length)
        rw [hm] at hcall; clear hm
        by_cases hm0 : m = 0
        · subst hm0
          go_wp2_with (go_at_call 121; refine hcall.out.mono ?_; rintro e w' ⟨rfl, rfl⟩)
          go_roundw
          case rel => exact ⟨1, z, _, b, by omega, rfl, rfl, rfl, rfl, ⟨hz.out.1, hz2.out⟩, hbr⟩
          case measure => simp [intOf]
        · have hd0 : ((m : Int) != 0) = true := bne_iff_ne.2 (by omega)
          go_wp2_with (go_at_call 121; refine hcall.out.mono ?_; rintro e w' ⟨rfl, rfl⟩)
          have dF := Fw.cell d92
          refine region_quiet (by kernel_rfl) (by kernel_rfl) ?_
          repeat (go_big_quiet_step (fail))
          refine wpQuiet_nil ?_; intro w9 hb9; clear dF
          go_wp2_with fail
          go_roundw
          case rel => exact ⟨1, z + m, _, true, by omega, rfl, by go_num, rfl, rfl, ⟨(decide_eq_true (by omega)).symm, hz2.out⟩, nxt hbr hb9⟩
          case measure => simp [intOf]
      · obtain rfl : y = 1 := hy
        have hcall := hide (Tryz.strings_Count_one t 34 wl)
        obtain ⟨m, hm⟩ : ∃ m : Nat, Lib.countByte t.data.toList 34 = m := ⟨_, rfl⟩
        have hml : m ≤ t.size := by rw [← hm]; exact Nat.le_trans List.count_le_length (Nat.le_of_eq (by rw [Array.length_toList]; rfl))
        have hz2 : Hid (z + m = cz t.toList 2) := by have h2 := hz.out.2; show _ = _; rw [h2, ← hm]; unfold cz Lib.countByte; simp [ByteArray.toList_eq]
        have hzl : z ≤ t.size := by rw [hz.out.2]; unfold cz; first | (simp; done) | (simp only [Nat.succ_ne_zero, if_false, if_true]; rw [← hTL.out]; exact List.count_le_length)
        rw [hm] at hcall; clear hm
        by_cases hm0 : m = 0
        · subst hm0
          go_wp2_with (go_at_call 121; refine hcall.out.mono ?_; rintro e w' ⟨rfl, rfl⟩)
          go_roundw
          case rel => exact ⟨2, z, _, b, by omega, rfl, rfl, rfl, rfl, ⟨hz.out.1, hz2.out⟩, hbr⟩
          case measure => simp [intOf]
        · have hd0 : ((m : Int) != 0) = true := bne_iff_ne.2 (by omega)
          go_wp2_with (go_at_call 121; refine hcall.out.mono ?_; rintro e w' ⟨rfl, rfl⟩)
          have dF := Fw.cell d34
          refine region_quiet (by kernel_rfl) (by kernel_rfl) ?_
          repeat (go_big_quiet_step (fail))
          refine wpQuiet_nil ?_; intro w9 hb9; clear dF
          go_wp2_with fail
          go_roundw
          case rel => exact ⟨2, z + m, _, true, by omega, rfl, by go_num, rfl, rfl, ⟨(decide_eq_true (by omega)).symm, hz2.out⟩, nxt hbr hb9⟩
          case measure => simp [intOf]
      · obtain rfl : y = 2 := hy
        have hzq : Hid (z = cntQ t.toList) := by have := hz.out.2; show _ = _; rw [this]; exact cnt_two _
        replace hz := hide hz.out.1
        by_cases hz0 : z = 0
        · obtain rfl : b = false := by rw [hz.out]; exact decide_eq_false (by omega)
          have hres : Hid ((⟨(qL t.toList).toArray⟩ : ByteArray) = t) := by show _ = _; rw [qL_none _ (by rw [← hzq.out]; exact hz0)]; exact toL_back t
          clear hz hzq
          go_wp2_with fail
          go_ret
          exact ⟨by rw [hres.out]; rfl, hbr⟩
        · obtain rfl : b = true := by rw [hz.out]; exact decide_eq_true (by omega)
          have hN : Hid ((qL t.toList).length = t.size + z) := by show _ = _; rw [qL_count, hTL.out, ← hzq.out]
          obtain ⟨i5, ii5, iz5, is5, iby5⟩ := info_parts u8_info
          have hzt : z ≤ 200 := by rw [hzq.out]; exact Nat.le_trans List.countP_le_length (by rw [hTL.out]; exact ht)
          obtain ⟨N, hNz⟩ : ∃ N, t.size + z = N := ⟨_, rfl⟩; rw [hNz] at hN; have hzn : ((t.size : Int) + z) = (N : Nat) := (by omega); rw [hzn]; clear hzn
          have hms := run_makeSlice (P := Tryz.prog) wl 53 5 i5 (.int .u8 0) Tryz.underlying53 ii5 iz5 .i64 .i64 (N : Int) (N : Int) (by omega) (by omega) (by rw [is5]; omega) (by rw [iby5]; omega) (by omega)
          rw [is5, Int.toNat_natCast, Nat.mul_one] at hms
          have hB0 := blk_new wl (madeCells #[.int .u8 0] N) 5; have hb0 := (Below.refl wl.heap.size wl).alloc (Nat.le_refl _) (.cells (madeCells #[.int .u8 0] N) 5)
          have hF0 : Filled wl.heap.size N 5 (qL (t.toList.take 0)) (wl.alloc (.cells (madeCells #[.int .u8 0] N) 5)) := ⟨_, hB0, size_madeCells _ _, fun p b hp => by simp [qL] at hp⟩
          have HF0 := hide hF0; clear hF0 hB0 hz hzq
          have HTb := HT.below hbr
          go_wp2_with fail
          clear hms
          go_loopw [13, 14] (fun j i wr => ∃ k : Nat, k ≤ t.size ∧ i = .int .i64 k ∧ j = .int .i64 ((qL (t.toList.take k)).length : Nat) ∧ Hid (Filled wl.heap.size N 5 (qL (t.toList.take k)) wr) ∧ Below wl.heap.size wl wr) (fun _ i _ => t.size - (intOf i).toNat)
          case atStart => exact ⟨0, Nat.zero_le _, rfl, by simp [qL], HF0, hb0⟩
          case round =>
            clear HF0 hb0
            obtain ⟨k, hk, rfl, rfl, hF, hb1⟩ := hrel
            obtain ⟨w1, rfl⟩ : ∃ w' : World, w' = wr := ⟨_, rfl⟩
            have HT1 := HTb.below hb1; have hb2 := nxt hbr hb1
            by_cases hlt : k < t.size
            · obtain ⟨cur, hB, hcs, hcur⟩ := hF.out
              have hq1 := hide (qL_step hlt); have hroom : (qL (t.toList.take (k + 1))).length ≤ N := by rw [← hN.out]; exact qL_room
              rw [hq1.out] at hroom
              have hbyte : (t[k].toNat : Int) < 256 := by have := t[k].toNat_lt; omega
              have HQ := hide hcur; clear hcur
              cases he : escB t[k]
              · have hq2 : Hid (qL (t.toList.take (k + 1)) = qL (t.toList.take k) ++ [t[k]]) := by show _ = _; rw [hq1.out, he]; rfl
                rw [he] at hroom; simp only [List.length_append, List.length_singleton, Bool.false_eq_true, if_false] at hroom
                have c_b := HT1.no _ he
                obtain ⟨J, hJ⟩ : ∃ J, (qL (t.toList.take k)).length = J := ⟨_, rfl⟩; rw [hJ] at hroom
                obtain ⟨u, hu⟩ : ∃ u, cur[J]? = some u := ⟨_, Array.getElem?_eq_getElem (by omega)⟩; have c_j : w1.cell? ⟨wl.heap.size, J, none⟩ = some u := (blk_cells hB J).trans hu
                have fB := blk_free hB; have hset := blk_set hB J (.int .u8 (t[k].toNat : Int)); rw [← hJ] at hset
                have hF2 := hide (Filled.one hset hcs (by omega) HQ.out); rw [hJ] at hF2; have HJ := hide hJ; rw [hJ]; clear hset hJ he
                go_wp2_with fail
                go_roundw
                case rel => exact ⟨k + 1, hlt, by go_num, by rw [hq2.out, List.length_append, HJ.out]; go_num, by rw [hq2.out]; exact hF2, hb1.setCell (p := ⟨wl.heap.size, J, none⟩) (by simp) _⟩
                case measure => simp [intOf]; omega
              · have hq2 : Hid (qL (t.toList.take (k + 1)) = (qL (t.toList.take k) ++ [92]) ++ [t[k]]) := by show _ = _; rw [hq1.out, he, List.append_assoc]; rfl
                rw [he] at hroom; simp only [List.length_append, List.length_cons, List.length_nil, if_true] at hroom
                obtain ⟨bb, cc, c_b, e0, e1⟩ := HT1.es _ he; have hqB : q ≠ wl.heap.size := by obtain ⟨_, _, h9, _⟩ := HTb.es _ he; have := World.block_lt_of_cell? _ _ h9; exact Nat.ne_of_lt this
                obtain ⟨J, hJ⟩ : ∃ J, (qL (t.toList.take k)).length = J := ⟨_, rfl⟩; rw [hJ] at hroom
                have hset1 := blk_set hB J (.int .u8 ((92 : UInt8).toNat : Int)); rw [← hJ] at hset1
                have hF1 := Filled.one hset1 hcs (by omega) HQ.out; rw [hJ] at hF1 hset1
                have hset2 := blk_set hset1 (J + 1) (.int .u8 (t[k].toNat : Int))
                have hF2 : Filled wl.heap.size N 5 ((qL (t.toList.take k) ++ [92]) ++ [t[k]]) _ := Filled.one (l := qL (t.toList.take k) ++ [92]) (by rw [List.length_append, hJ]; exact hset2) (by simpa using hcs) (by rw [List.length_append, hJ]; simp; omega) (fun p b hp => by obtain ⟨cur1, h1, _, h3⟩ := hF1; rw [hset1] at h1; cases h1; exact h3 p b hp)
                have HF2 := hide hF2; have HJ := hide hJ; rw [hJ]; clear hset1 hset2 hF1 hF2 hJ he
                have fB := blk_free hB
                have hcp := run_copy_cells (P := Tryz.prog) w1.drew 53 53 3 5 wl.heap.size J (N - J) (N - J) ⟨bb, 0, none⟩ 2 cc [.int .u8 92, .int .u8 (t[k].toNat : Int)] Tryz.underlying53 (by rw [ii5]; simp [is5]) (by show 2 = Nat.min 2 (N - J); exact (Nat.min_eq_left (by omega)).symm) (fun j v hj => match j, hj with | 0, hj => by simp only [List.getElem?_cons_zero, Option.some.injEq] at hj; subst hj; exact e0 | 1, hj => by simp only [List.getElem?_cons_succ, List.getElem?_cons_zero, Option.some.injEq] at hj; subst hj; exact e1 | j + 2, hj => by simp at hj) (fun j hj => by rw [World.cell?_drew, blk_cells hB]; simp at hj; rw [Array.getElem?_eq_getElem (by omega)]; rfl) (fun j hj => by rw [World.frozen?_drew]; exact fB _) (fun v hv => by simp at hv; rcases hv with rfl | rfl <;> rfl)
                have hne : ¬ N = J := (by omega); have hJN : J ≤ N := by omega
                go_wp2_with fail
                refine wp_region_tail (fun w' => w'.cell? ⟨q, t[k].toNat, none⟩ = some (.slice (some ⟨bb, 0, none⟩) 2 cc)) 12 (by kernel_rfl) (by decide) (show _ from c_b) (fun hHeld => ?_)
                refine wpT_take (i := 0) rfl (by kernel_rfl) (fun _ _ _ h => h) (Or.inl ⟨by rfl, fun w hSw => by (try dsimp only at hSw); first | (go_simp; done) | (go_simp; with_reducible rfl)⟩) (by assumption) ?_
                (try simp only [Act.put, List.setIfInBounds_toArray, List.set_cons_zero, List.set_cons_succ])
                refine wpT_take (i := 1) rfl (by kernel_rfl) (fun _ _ _ h => h) (Or.inl ⟨by rfl, fun w hSw => by (try dsimp only at hSw); first | (go_simp; done) | (go_simp; with_reducible rfl)⟩) (by assumption) ?_
                (try simp only [Act.put, List.setIfInBounds_toArray, List.set_cons_zero, List.set_cons_succ])
                refine wpT_take (i := 2) rfl (by kernel_rfl) (fun _ _ _ h => h) (Or.inl ⟨by rfl, fun w hSw => by (try dsimp only at hSw); first | (go_simp; done) | (go_simp; with_reducible rfl)⟩) (by assumption) ?_
                (try simp only [Act.put, List.setIfInBounds_toArray, List.set_cons_zero, List.set_cons_succ])
                refine wpT_take (i := 3) rfl (by kernel_rfl) (fun _ _ _ h => h) (Or.inl ⟨by rfl, fun w hSw => by (try dsimp only at hSw); first | (go_simp; done) | (go_simp; with_reducible rfl)⟩) (by assumption) ?_
                (try simp only [Act.put, List.setIfInBounds_toArray, List.set_cons_zero, List.set_cons_succ])
                refine wpT_take (i := 4) rfl (by kernel_rfl) (fun _ _ _ h => h) (Or.inl ⟨by rfl, fun w hSw => by (try dsimp only at hSw); first | (go_simp; done) | (go_simp; with_reducible rfl)⟩) (by assumption) ?_
                (try simp only [Act.put, List.setIfInBounds_toArray, List.set_cons_zero, List.set_cons_succ])
                refine wpT_take (i := 5) rfl (by kernel_rfl) (fun _ _ _ h => h) (Or.inl ⟨by rfl, fun w hSw => by (try dsimp only at hSw); first | (go_simp; done) | (go_simp; with_reducible rfl)⟩) (by assumption) ?_
                (try simp only [Act.put, List.setIfInBounds_toArray, List.set_cons_zero, List.set_cons_succ])
                refine wpT_take (i := 6) rfl (by kernel_rfl) (fun _ _ _ h => h) (Or.inl ⟨by rfl, fun w hSw => by (try dsimp only at hSw); first | (go_simp; done) | (go_simp; with_reducible rfl)⟩) (by assumption) ?_
                (try simp only [Act.put, List.setIfInBounds_toArray, List.set_cons_zero, List.set_cons_succ])
                refine wpT_take (i := 7) rfl (by kernel_rfl) (fun _ _ _ h => h) (Or.inl ⟨by rfl, fun w hSw => by (try dsimp only at hSw); first | (go_simp; done) | (go_simp; with_reducible rfl)⟩) (by assumption) ?_
                (try simp only [Act.put, List.setIfInBounds_toArray, List.set_cons_zero, List.set_cons_succ])
                refine wpT_take (i := 8) rfl (by kernel_rfl) (fun _ _ _ h => h) (Or.inl ⟨by rfl, fun w hSw => by (try dsimp only at hSw); first | (go_simp; done) | (go_simp; with_reducible rfl)⟩) (by assumption) ?_
                (try simp only [Act.put, List.setIfInBounds_toArray, List.set_cons_zero, List.set_cons_succ])
                refine wpT_take (i := 9) rfl (by kernel_rfl) (fun _ _ _ h => h) (Or.inl ⟨by rfl, fun w hSw => by (try dsimp only at hSw); first | (go_simp; done) | (go_simp; with_reducible rfl)⟩) (by assumption) ?_
                (try simp only [Act.put, List.setIfInBounds_toArray, List.set_cons_zero, List.set_cons_succ])
                refine wpT_one (i := 10) rfl (by kernel_rfl) (fun K hK => ?_)
                refine step_copy_runI (P := Tryz.prog) rfl _ _ 53 53 rfl (.slice (some ⟨wl.heap.size, J, none⟩) (N - J) (N - J)) (.slice (some ⟨bb, 0, none⟩) 2 cc) (by simp [Act.eval, Act.put]) (by simp [Act.eval, Act.put]) hcp ?_
                clear hHeld hcp; refine hK.out _ _ (show _ from ?_) (fun hHeld => ?_)
                · simp only [World.setCells]; exact (World.cell?_setCell_other _ _ _ _ (fun h => hqB (congrArg Addr.block h).symm)).trans ((World.cell?_setCell_other _ _ _ _ (fun h => hqB (congrArg Addr.block h).symm)).trans c_b)
                clear hK K
                (try simp only [Act.put, List.setIfInBounds_toArray, List.set_cons_zero, List.set_cons_succ, World.setCells, List.length_cons, List.length_nil])
                refine wpT_take (i := 11) rfl (by kernel_rfl) (fun _ _ _ h => h) (Or.inl ⟨by rfl, fun w hSw => by (try dsimp only at hSw); first | (go_simp; done) | (go_simp; with_reducible rfl)⟩) (by assumption) ?_
                (try simp only [Act.put, List.setIfInBounds_toArray, List.set_cons_zero, List.set_cons_succ])
                refine wpT_done (by kernel_rfl) ?_
                simp only [List.drop_succ_cons, List.drop_zero]
                clear hHeld
                go_wp2_with fail
                go_roundw
                case rel => exact ⟨k + 1, hlt, by go_num, by rw [hq2.out, List.length_append, List.length_append, HJ.out]; go_num, by rw [hq2.out]; exact HF2, ((hb1.setCell (p := ⟨wl.heap.size, J, none⟩) (by simp) _).setCell (p := ⟨wl.heap.size, J + 1, none⟩) (by simp) _).drew⟩
                case measure => simp [intOf]; omega
            · obtain rfl : k = t.size := by omega
              obtain ⟨cur, hB, hcs, hcur⟩ := hF.out
              rw [List.take_of_length_le (by rw [hTL.out]; exact Nat.le_refl _)] at hcur
              have hcv := run_convert_bytes_back (P := Tryz.prog) w1 53 9 5 ⟨wl.heap.size, 0, none⟩ N (qL t.toList) Tryz.underlying53 Tryz.underlying5 Tryz.underlying9 (fun j hj => by rw [add_form, blk_cells hB, Nat.zero_add]; exact hcur j _ (List.getElem?_eq_getElem hj))
              rw [hN.out] at hcv; clear hcur
              go_wp2_with fail
              go_ret
              exact ⟨rfl, hb2⟩
  · have hd : decide ((16 : Int) ≤ t.size) = false := decide_eq_false (by omega)
    go_enter Tryz.func119, Tryz.ntmps119
    go_wp2_with fail
    go_loopw [5, 6, 10] (fun n a i wr => ∃ (k z : Nat) (y : Int) (b : Bool), k ≤ t.size ∧ i = .int .i64 y ∧ n = .int .i64 ((t.size : Int) + z) ∧ a = .bool b ∧ y = k ∧ Hid (b = decide (0 < z) ∧ z = cntQ (t.toList.take k)) ∧ Below w.heap.size w wr) (fun _ _ i _ => t.size - (intOf i).toNat)
    case atStart => exact ⟨0, 0, 0, false, Nat.zero_le _, rfl, by simp, rfl, rfl, ⟨rfl, rfl⟩, Below.refl _ _⟩
    case round =>
      obtain ⟨k, z, y, b, hk, rfl, rfl, rfl, hy, hz, hbr⟩ := hrel
      obtain ⟨wl, rfl⟩ : ∃ w' : World, w' = wr := ⟨_, rfl⟩
      replace c256 := cell_on c256 hbr; clear s0 s1 d92 d34
      subst hy
      by_cases hlt : k < t.size
      · have hlt2 : k < t.toList.length := by rw [hTL.out]; exact hlt
        have hc2 := cnt_take hlt2; rw [toL_at hlt hlt2] at hc2
        have hbyte : (t[k].toNat : Int) < 256 := by have := t[k].toNat_lt; omega
        have HTl := HT.below hbr
        have hzl : z ≤ 200 := by rw [hz.out.2]; exact Nat.le_trans List.countP_le_length (by rw [List.length_take]; omega)
        cases he : escB t[k]
        · rw [he] at hc2; have HC2 := hide hc2; clear hc2
          have c_b := HTl.no _ he; clear he
          go_wp2_with fail
          go_roundw
          case rel => exact ⟨k + 1, z, _, b, hlt, rfl, rfl, rfl, by go_num, ⟨hz.out.1, by rw [HC2.out]; exact hz.out.2⟩, hbr⟩
          case measure => simp [intOf]; omega
        · rw [he] at hc2; have HC2 := hide hc2; clear hc2
          obtain ⟨bb, cc, c_b, e0, e1⟩ := HTl.es _ he; clear he e0 e1
          go_wp2_with fail
          go_roundw
          case rel => exact ⟨k + 1, z + 1, _, true, hlt, rfl, by go_num, rfl, by go_num, ⟨(decide_eq_true (by omega)).symm, by rw [HC2.out, ← hz.out.2]; rfl⟩, hbr⟩
          case measure => simp [intOf]; omega
      · obtain rfl : k = t.size := by omega
        have hzq : Hid (z = cntQ t.toList) := by have := hz.out.2; rw [List.take_of_length_le (by rw [hTL.out]; exact Nat.le_refl _)] at this; exact this
        replace hz := hide hz.out.1
        by_cases hz0 : z = 0
        · obtain rfl : b = false := by rw [hz.out]; exact decide_eq_false (by omega)
          have hres : Hid ((⟨(qL t.toList).toArray⟩ : ByteArray) = t) := by show _ = _; rw [qL_none _ (by rw [← hzq.out]; exact hz0)]; exact toL_back t
          clear hz hzq
          go_wp2_with fail
          go_ret
          exact ⟨by rw [hres.out]; rfl, hbr⟩
        · obtain rfl : b = true := by rw [hz.out]; exact decide_eq_true (by omega)
          have hN : Hid ((qL t.toList).length = t.size + z) := by show _ = _; rw [qL_count, hTL.out, ← hzq.out]
          obtain ⟨i5, ii5, iz5, is5, iby5⟩ := info_parts u8_info
          have hzt : z ≤ 200 := by rw [hzq.out]; exact Nat.le_trans List.countP_le_length (by rw [hTL.out]; exact ht)
          obtain ⟨N, hNz⟩ : ∃ N, t.size + z = N := ⟨_, rfl⟩; rw [hNz] at hN; have hzn : ((t.size : Int) + z) = (N : Nat) := (by omega); rw [hzn]; clear hzn
          have hms := run_makeSlice (P := Tryz.prog) wl 53 5 i5 (.int .u8 0) Tryz.underlying53 ii5 iz5 .i64 .i64 (N : Int) (N : Int) (by omega) (by omega) (by rw [is5]; omega) (by rw [iby5]; omega) (by omega)
          rw [is5, Int.toNat_natCast, Nat.mul_one] at hms
          have hB0 := blk_new wl (madeCells #[.int .u8 0] N) 5; have hb0 := (Below.refl wl.heap.size wl).alloc (Nat.le_refl _) (.cells (madeCells #[.int .u8 0] N) 5)
          have hF0 : Filled wl.heap.size N 5 (qL (t.toList.take 0)) (wl.alloc (.cells (madeCells #[.int .u8 0] N) 5)) := ⟨_, hB0, size_madeCells _ _, fun p b hp => by simp [qL] at hp⟩
          have HF0 := hide hF0; clear hF0 hB0 hz hzq
          have HTb := HT.below hbr
          go_wp2_with fail
          clear hms
          go_loopw [13, 14] (fun j i wr => ∃ k : Nat, k ≤ t.size ∧ i = .int .i64 k ∧ j = .int .i64 ((qL (t.toList.take k)).length : Nat) ∧ Hid (Filled wl.heap.size N 5 (qL (t.toList.take k)) wr) ∧ Below wl.heap.size wl wr) (fun _ i _ => t.size - (intOf i).toNat)
          case atStart => exact ⟨0, Nat.zero_le _, rfl, by simp [qL], HF0, hb0⟩
          case round =>
            clear HF0 hb0
            obtain ⟨k, hk, rfl, rfl, hF, hb1⟩ := hrel
            obtain ⟨w1, rfl⟩ : ∃ w' : World, w' = wr := ⟨_, rfl⟩
            have HT1 := HTb.below hb1; have hb2 := nxt hbr hb1
            by_cases hlt : k < t.size
            · obtain ⟨cur, hB, hcs, hcur⟩ := hF.out
              have hq1 := hide (qL_step hlt); have hroom : (qL (t.toList.take (k + 1))).length ≤ N := by rw [← hN.out]; exact qL_room
              rw [hq1.out] at hroom
              have hbyte : (t[k].toNat : Int) < 256 := by have := t[k].toNat_lt; omega
              have HQ := hide hcur; clear hcur
              cases he : escB t[k]
              · have hq2 : Hid (qL (t.toList.take (k + 1)) = qL (t.toList.take k) ++ [t[k]]) := by show _ = _; rw [hq1.out, he]; rfl
                rw [he] at hroom; simp only [List.length_append, List.length_singleton, Bool.false_eq_true, if_false] at hroom
                have c_b := HT1.no _ he
                obtain ⟨J, hJ⟩ : ∃ J, (qL (t.toList.take k)).length = J := ⟨_, rfl⟩; rw [hJ] at hroom
                obtain ⟨u, hu⟩ : ∃ u, cur[J]? = some u := ⟨_, Array.getElem?_eq_getElem (by omega)⟩; have c_j : w1.cell? ⟨wl.heap.size, J, none⟩ = some u := (blk_cells hB J).trans hu
                have fB := blk_free hB; have hset := blk_set hB J (.int .u8 (t[k].toNat : Int)); rw [← hJ] at hset
                have hF2 := hide (Filled.one hset hcs (by omega) HQ.out); rw [hJ] at hF2; have HJ := hide hJ; rw [hJ]; clear hset hJ he
                go_wp2_with fail
                go_roundw
                case rel => exact ⟨k + 1, hlt, by go_num, by rw [hq2.out, List.length_append, HJ.out]; go_num, by rw [hq2.out]; exact hF2, hb1.setCell (p := ⟨wl.heap.size, J, none⟩) (by simp) _⟩
                case measure => simp [intOf]; omega
              · have hq2 : Hid (qL (t.toList.take (k + 1)) = (qL (t.toList.take k) ++ [92]) ++ [t[k]]) := by show _ = _; rw [hq1.out, he, List.append_assoc]; rfl
                rw [he] at hroom; simp only [List.length_append, List.length_cons, List.length_nil, if_true] at hroom
                obtain ⟨bb, cc, c_b, e0, e1⟩ := HT1.es _ he; have hqB : q ≠ wl.heap.size := by obtain ⟨_, _, h9, _⟩ := HTb.es _ he; have := World.block_lt_of_cell? _ _ h9; exact Nat.ne_of_lt this
                obtain ⟨J, hJ⟩ : ∃ J, (qL (t.toList.take k)).length = J := ⟨_, rfl⟩; rw [hJ] at hroom
                have hset1 := blk_set hB J (.int .u8 ((92 : UInt8).toNat : Int)); rw [← hJ] at hset1
                have hF1 := Filled.one hset1 hcs (by omega) HQ.out; rw [hJ] at hF1 hset1
                have hset2 := blk_set hset1 (J + 1) (.int .u8 (t[k].toNat : Int))
                have hF2 : Filled wl.heap.size N 5 ((qL (t.toList.take k) ++ [92]) ++ [t[k]]) _ := Filled.one (l := qL (t.toList.take k) ++ [92]) (by rw [List.length_append, hJ]; exact hset2) (by simpa using hcs) (by rw [List.length_append, hJ]; simp; omega) (fun p b hp => by obtain ⟨cur1, h1, _, h3⟩ := hF1; rw [hset1] at h1; cases h1; exact h3 p b hp)
                have HF2 := hide hF2; have HJ := hide hJ; rw [hJ]; clear hset1 hset2 hF1 hF2 hJ he
                have fB := blk_free hB
                have hcp := run_copy_cells (P := Tryz.prog) w1.drew 53 53 3 5 wl.heap.size J (N - J) (N - J) ⟨bb, 0, none⟩ 2 cc [.int .u8 92, .int .u8 (t[k].toNat : Int)] Tryz.underlying53 (by rw [ii5]; simp [is5]) (by show 2 = Nat.min 2 (N - J); exact (Nat.min_eq_left (by omega)).symm) (fun j v hj => match j, hj with | 0, hj => by simp only [List.getElem?_cons_zero, Option.some.injEq] at hj; subst hj; exact e0 | 1, hj => by simp only [List.getElem?_cons_succ, List.getElem?_cons_zero, Option.some.injEq] at hj; subst hj; exact e1 | j + 2, hj => by simp at hj) (fun j hj => by rw [World.cell?_drew, blk_cells hB]; simp at hj; rw [Array.getElem?_eq_getElem (by omega)]; rfl) (fun j hj => by rw [World.frozen?_drew]; exact fB _) (fun v hv => by simp at hv; rcases hv with rfl | rfl <;> rfl)
                have hne : ¬ N = J := (by omega); have hJN : J ≤ N := by omega
                go_wp2_with fail
                refine wp_region_tail (fun w' => w'.cell? ⟨q, t[k].toNat, none⟩ = some (.slice (some ⟨bb, 0, none⟩) 2 cc)) 12 (by kernel_rfl) (by decide) (show _ from c_b) (fun hHeld => ?_)
                refine wpT_take (i := 0) rfl (by kernel_rfl) (fun _ _ _ h => h) (Or.inl ⟨by rfl, fun w hSw => by (try dsimp only at hSw); first | (go_simp; done) | (go_simp; with_reducible rfl)⟩) (by assumption) ?_
                (try simp only [Act.put, List.setIfInBounds_toArray, List.set_cons_zero, List.set_cons_succ])
                refine wpT_take (i := 1) rfl (by kernel_rfl) (fun _ _ _ h => h) (Or.inl ⟨by rfl, fun w hSw => by (try dsimp only at hSw); first | (go_simp; done) | (go_simp; with_reducible rfl)⟩) (by assumption) ?_
                (try simp only [Act.put, List.setIfInBounds_toArray, List.set_cons_zero, List.set_cons_succ])
                refine wpT_take (i := 2) rfl (by kernel_rfl) (fun _ _ _ h => h) (Or.inl ⟨by rfl, fun w hSw => by (try dsimp only at hSw); first | (go_simp; done) | (go_simp; with_reducible rfl)⟩) (by assumption) ?_
                (try simp only [Act.put, List.setIfInBounds_toArray, List.set_cons_zero, List.set_cons_succ])
                refine wpT_take (i := 3) rfl (by kernel_rfl) (fun _ _ _ h => h) (Or.inl ⟨by rfl, fun w hSw => by (try dsimp only at hSw); first | (go_simp; done) | (go_simp; with_reducible rfl)⟩) (by assumption) ?_
                (try simp only [Act.put, List.setIfInBounds_toArray, List.set_cons_zero, List.set_cons_succ])
                refine wpT_take (i := 4) rfl (by kernel_rfl) (fun _ _ _ h => h) (Or.inl ⟨by rfl, fun w hSw => by (try dsimp only at hSw); first | (go_simp; done) | (go_simp; with_reducible rfl)⟩) (by assumption) ?_
                (try simp only [Act.put, List.setIfInBounds_toArray, List.set_cons_zero, List.set_cons_succ])
                refine wpT_take (i := 5) rfl (by kernel_rfl) (fun _ _ _ h => h) (Or.inl ⟨by rfl, fun w hSw => by (try dsimp only at hSw); first | (go_simp; done) | (go_simp; with_reducible rfl)⟩) (by assumption) ?_
                (try simp only [Act.put, List.setIfInBounds_toArray, List.set_cons_zero, List.set_cons_succ])
                refine wpT_take (i := 6) rfl (by kernel_rfl) (fun _ _ _ h => h) (Or.inl ⟨by rfl, fun w hSw => by (try dsimp only at hSw); first | (go_simp; done) | (go_simp; with_reducible rfl)⟩) (by assumption) ?_
                (try simp only [Act.put, List.setIfInBounds_toArray, List.set_cons_zero, List.set_cons_succ])
                refine wpT_take (i := 7) rfl (by kernel_rfl) (fun _ _ _ h => h) (Or.inl ⟨by rfl, fun w hSw => by (try dsimp only at hSw); first | (go_simp; done) | (go_simp; with_reducible rfl)⟩) (by assumption) ?_
                (try simp only [Act.put, List.setIfInBounds_toArray, List.set_cons_zero, List.set_cons_succ])
                refine wpT_take (i := 8) rfl (by kernel_rfl) (fun _ _ _ h => h) (Or.inl ⟨by rfl, fun w hSw => by (try dsimp only at hSw); first | (go_simp; done) | (go_simp; with_reducible rfl)⟩) (by assumption) ?_
                (try simp only [Act.put, List.setIfInBounds_toArray, List.set_cons_zero, List.set_cons_succ])
                refine wpT_take (i := 9) rfl (by kernel_rfl) (fun _ _ _ h => h) (Or.inl ⟨by rfl, fun w hSw => by (try dsimp only at hSw); first | (go_simp; done) | (go_simp; with_reducible rfl)⟩) (by assumption) ?_
                (try simp only [Act.put, List.setIfInBounds_toArray, List.set_cons_zero, List.set_cons_succ])
                refine wpT_one (i := 10) rfl (by kernel_rfl) (fun K hK => ?_)
                refine step_copy_runI (P := Tryz.prog) rfl _ _ 53 53 rfl (.slice (some ⟨wl.heap.size, J, none⟩) (N - J) (N - J)) (.slice (some ⟨bb, 0, none⟩) 2 cc) (by simp [Act.eval, Act.put]) (by simp [Act.eval, Act.put]) hcp ?_
                clear hHeld hcp; refine hK.out _ _ (show _ from ?_) (fun hHeld => ?_)
                · simp only [World.setCells]; exact (World.cell?_setCell_other _ _ _ _ (fun h => hqB (congrArg Addr.block h).symm)).trans ((World.cell?_setCell_other _ _ _ _ (fun h => hqB (congrArg Addr.block h).symm)).trans c_b)
                clear hK K
                (try simp only [Act.put, List.setIfInBounds_toArray, List.set_cons_zero, List.set_cons_succ, World.setCells, List.length_cons, List.length_nil])
                refine wpT_take (i := 11) rfl (by kernel_rfl) (fun _ _ _ h => h) (Or.inl ⟨by rfl, fun w hSw => by (try dsimp only at hSw); first | (go_simp; done) | (go_simp; with_reducible rfl)⟩) (by assumption) ?_
                (try simp only [Act.put, List.setIfInBounds_toArray, List.set_cons_zero, List.set_cons_succ])
                refine wpT_done (by kernel_rfl) ?_
                simp only [List.drop_succ_cons, List.drop_zero]
                clear hHeld
                go_wp2_with fail
                go_roundw
                case rel => exact ⟨k + 1, hlt, by go_num, by rw [hq2.out, List.length_append, List.length_append, HJ.out]; go_num, by rw [hq2.out]; exact HF2, ((hb1.setCell (p := ⟨wl.heap.size, J, none⟩) (by simp) _).setCell (p := ⟨wl.heap.size, J + 1, none⟩) (by simp) _).drew⟩
                case measure => simp [intOf]; omega
            · obtain rfl : k = t.size := by omega
              obtain ⟨cur, hB, hcs, hcur⟩ := hF.out
              rw [List.take_of_length_le (by rw [hTL.out]; exact Nat.le_refl _)] at hcur
              have hcv := run_convert_bytes_back (P := Tryz.prog) w1 53 9 5 ⟨wl.heap.size, 0, none⟩ N (qL t.toList) Tryz.underlying53 Tryz.underlying5 Tryz.underlying9 (fun j hj => by rw [add_form, blk_cells hB, Nat.zero_add]; exact hcur j _ (List.getElem?_eq_getElem hj))
              rw [hN.out] at hcv; clear hcur
              go_wp2_with fail
              go_ret
              exact ⟨rfl, hb2⟩
end Go.Proofs.YtdleccpjejdgiaaGreatDoor
