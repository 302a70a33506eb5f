/- Quotes and digits. No statement is proved here; no conditions. Written by a program (gen54.py). -/
import Derived.Test.YtdleccpjejdgiaaGreatDoorPrtP
import Derived.Test.YtdleccpjejdgiaaGreatDoorApp
import Derived.Test.YtdleccpjejdgiaaGreatDoorPut
namespace Go.Proofs.YtdleccpjejdgiaaGreatDoor
open Go.ChangeShapes Go.WideShapes Go.ChangeAt Go.RowKit Go.Deep
set_option maxRecDepth 100000
set_option linter.unusedVariables false
set_option linter.unusedSimpArgs false

def ByR : Rd UInt8 := fun _ bs cs b => bs = [] ∧ cs = [.int .u8 (b.toNat : Int)]
theorem ByR.good : Good ByR := ⟨(by rintro w bs cs x ⟨rfl, _⟩ b hb; cases hb), fun h _ => h⟩
theorem ByR.flat : ∀ (w : World) bk cs (y : UInt8), ByR w bk cs y → bk = [] := fun _ _ _ _ h => h.1
theorem own_lit {w : World} {e : TypeId} {n : Nat} (b : UInt8) (h : w.heap.size = n) : Own 1 ByR e w.heap.size (w.alloc (.cells #[.int .u8 (b.toNat : Int)] e)) (.slice (some ⟨n, 0, none⟩) 1 1) [b] := by
  subst h
  refine ⟨[[]], ⟨[[.int .u8 (b.toNat : Int)]], rfl, rfl, ⟨rfl, .inr ⟨w.heap.size, 1, _, rfl, Nat.le_refl _, heap_alloc_new w _, Nat.le_refl _, by unfold maxLen; omega, rfl, rfl⟩⟩, by simp, fun k x cs bk hx hcs hbk => ?_⟩, Fr.nil _ _⟩
  match k with
  | 0 =>
    simp only [List.getElem?_cons_zero, Option.some.injEq] at hx hcs hbk
    subst hx; subst hcs; subst hbk; exact ⟨rfl, rfl, rfl⟩
  | k + 1 => simp at hx
theorem qL_append (x : List UInt8) (b : UInt8) : qL (x ++ [b]) = qL x ++ (if b == 34 || b == 92 then [92, b] else [b]) := by
  induction x with
  | nil => simp only [List.nil_append, qL]
  | cons a x ih =>
    simp only [List.cons_append, qL, ih]
    split <;> simp
theorem qL_len (x : List UInt8) : (qL x).length ≤ 2 * x.length := by
  induction x with
  | nil => simp [qL]
  | cons a x ih => unfold qL; split <;> simp <;> omega
theorem toL_len (t : ByteArray) : t.toList.length = t.size := by rw [ByteArray.toList_eq]; rfl
theorem toL_take {t : ByteArray} {k : Nat} (h : k < t.size) : t.toList.take (k + 1) = t.toList.take k ++ [t[k]] := by
  have hl : k < t.toList.length := by rw [toL_len]; exact h
  rw [List.take_add_one, List.getElem?_eq_getElem hl]
  have : t.toList[k] = t[k] := by
    simp only [ByteArray.toList_eq]; rfl
  rw [this]; rfl
theorem bytes_add (x y : List UInt8) : (⟨x.toArray⟩ : ByteArray) ++ ⟨y.toArray⟩ = ⟨(x ++ y).toArray⟩ := by
  apply ByteArray.ext; simp
theorem wpList_conv {P : Program} {w : World} {ops : Array Oper} {rest : List Oper} {o : Oper} {a : Act} {Q : Exit → Act → World → Prop} (hgd : o.guard = none) (x : Operand) (s d : TypeId)
    (ho : o.op = .convert s d x) (v v' : Value) (hx : a.eval x = v) (hr : (convert s d v).run P w = .ok v' w) (h : wpList P ops Q rest (a.put o.dst v') w) : wpList P ops Q (o :: rest) a w := by
  refine wpList_plain hgd fun K hK => ?_
  unfold Oper.wp execOp
  simp only [ho, resolve, Sem.run_bind, Sem.run_pure, Result.andThen_ok, List.map_toArray, List.map_cons, List.map_nil, hx, hr]
  exact hK _ _ h
theorem u8_info : (Tryz.prog.info? 5).map (fun i => (i.zero, i.size, i.bytes)) = some (some (.int .u8 0), 1, 1) := by kernel_rfl
theorem conv_bytes {w : World} {lo : Nat} {v : Value} {xs : List UInt8} (h : Own 1 ByR 5 lo w v xs) (hx : 0 < xs.length) : (convert 53 9 v).run Tryz.prog w = .ok (.string ⟨xs.toArray⟩) w := by
  obtain ⟨bs, hr, _⟩ := h.done
  obtain ⟨A, c, rfl, _, _, hel⟩ := hr.use
  obtain ⟨b, o, bk, es, rfl, _⟩ := hel 0 hx
  refine run_convert_bytes_back w _ _ 5 ⟨b, o, none⟩ c xs Tryz.underlying53 Tryz.underlying5 Tryz.underlying9 fun j hj => ?_
  obtain ⟨b2, o2, bk2, es2, hA, _, _, hcell, hR, _⟩ := hel j hj
  cases hA
  obtain ⟨_, hes⟩ := hR
  subst hes
  have := hcell 0 _ rfl
  rw [add_form]
  simpa using this
set_option maxHeartbeats 8000000 in
theorem spec_l01Quote (t : ByteArray) (w : World) (hs : t.size ≤ 1048576) : Calls Tryz.prog 21 #[.string t] w fun e w' => e = .returned (.string ⟨(quoteL t).toArray⟩) ∧ Below w.heap.size w w' := by
  obtain ⟨ii, ji, jz, js, jby⟩ := info_parts u8_info
  have hO := hide (own_lit (e := 5) 34 (rfl : w.heap.size = w.heap.size))
  have hal := (Below.refl w.heap.size w).alloc (Nat.le_refl _) (.cells #[.int .u8 ((34 : UInt8).toNat : Int)] 5)
  go_enter Tryz.func21, Tryz.ntmps21
  go_wp2_with fail
  go_loopw [3, 4] (fun o i wr => ∃ (k : Nat) (v : Value), k ≤ t.size ∧ i = .int .i64 k ∧ o = v ∧ Hid (Own 1 ByR 5 w.heap.size wr v (34 :: qL (t.toList.take k))) ∧ Below w.heap.size w wr) (fun _ i _ => t.size - (intOf i).toNat)
  case atStart => exact ⟨0, _, Nat.zero_le _, rfl, rfl, hO, hal⟩
  case round =>
    clear hO hal; obtain ⟨k, v, hk, rfl, hov, hO, hbr⟩ := hrel; replace hov := hov.symm; subst hov; obtain ⟨wl, rfl⟩ : ∃ w' : World, w' = wr := ⟨_, rfl⟩
    have hql := hide (show (34 :: qL (t.toList.take k)).length ≤ 2097153 from by have := qL_len (t.toList.take k); simp only [List.length_cons, List.length_take] at *; omega)
    have hsz := hbr.size
    obtain ⟨O, cO, hv, _, _⟩ := hO.out.form; have HV := hide hv; clear hv
    by_cases hlt : k < t.size
    · have hst : Hid (34 :: qL (t.toList.take (k + 1)) = (34 :: qL (t.toList.take k)) ++ (if t[k] == 34 || t[k] == 92 then [92, t[k]] else [t[k]])) := by show _ = _; rw [toL_take hlt, qL_append]; rfl
      by_cases h1 : t[k] = 34
      · have c1 : ((t[k].toNat : Int) == 34) = true := by rw [h1]; rfl
        have hsp : (t[k] == 34 || t[k] == 92) = true := by rw [h1]; rfl
        clear h1
        have hst2 : Hid (34 :: qL (t.toList.take (k + 1)) = ((34 :: qL (t.toList.take k)) ++ [92]) ++ [t[k]]) := by show _ = _; rw [hst.out, if_pos hsp]; simp
        clear hsp
        go_wp2_with (first | (at_builtin; refine wpList_append_own ByR.good rfl _ _ 53 rfl Tryz.underlying53 ji jz js jby rfl (by decide) (v := v1) rfl hO1 (Below.refl _ _) (bk := []) (cy := [.int .u8 (t[k].toNat : Int)]) (y := t[k]) ⟨rfl, rfl⟩ (Fr.nil _ _) rfl rfl (fun u hu => by simp at hu; subst hu; rfl) (by have := hq2.out; omega) (by have := hq2.out; omega) (by omega) ?_; intro v2 w2 hO2 hB2 hz2 hold2 hown2) | (at_builtin; refine wpList_append_own ByR.good rfl _ _ 53 rfl Tryz.underlying53 ji jz js jby rfl (by decide) (v := v) rfl hO.out (Below.refl _ _) (bk := []) (cy := [.int .u8 92]) (y := 92) ⟨rfl, rfl⟩ (Fr.nil _ _) rfl rfl (fun u hu => by simp at hu; subst hu; rfl) (by have := hql.out; omega) (by have := hql.out; omega) (by omega) ?_; intro v1 w1 hO1 hB1 hz1 hold1 hown1; have hq2 := hide (show ((34 :: qL (t.toList.take k)) ++ [92]).length ≤ 2097154 from by rw [List.length_append]; have := hql.out; simp only [List.length_cons, List.length_nil] at *; omega)))
        have hB := hB2 _ _ (hB1 _ _ hbr (Nat.le_refl _)) (Nat.le_refl _)
        go_roundw
        case rel => exact ⟨k + 1, v2, hlt, by go_num, rfl, by rw [hst2.out]; exact hO2, hB⟩
        case measure => simp [intOf]; omega
      have c1 : ((t[k].toNat : Int) == 34) = false := by rw [beq_eq_false_iff_ne]; intro h; exact h1 (UInt8.toNat_inj.1 (by have : (34 : UInt8).toNat = 34 := rfl; omega))
      by_cases h2 : t[k] = 92
      · have c2 : ((t[k].toNat : Int) == 92) = true := by rw [h2]; rfl
        have hsp : (t[k] == 34 || t[k] == 92) = true := by rw [h2]; rfl
        clear h1 h2
        have hst2 : Hid (34 :: qL (t.toList.take (k + 1)) = ((34 :: qL (t.toList.take k)) ++ [92]) ++ [t[k]]) := by show _ = _; rw [hst.out, if_pos hsp]; simp
        clear hsp
        go_wp2_with (first | (at_builtin; refine wpList_append_own ByR.good rfl _ _ 53 rfl Tryz.underlying53 ji jz js jby rfl (by decide) (v := v1) rfl hO1 (Below.refl _ _) (bk := []) (cy := [.int .u8 (t[k].toNat : Int)]) (y := t[k]) ⟨rfl, rfl⟩ (Fr.nil _ _) rfl rfl (fun u hu => by simp at hu; subst hu; rfl) (by have := hq2.out; omega) (by have := hq2.out; omega) (by omega) ?_; intro v2 w2 hO2 hB2 hz2 hold2 hown2) | (at_builtin; refine wpList_append_own ByR.good rfl _ _ 53 rfl Tryz.underlying53 ji jz js jby rfl (by decide) (v := v) rfl hO.out (Below.refl _ _) (bk := []) (cy := [.int .u8 92]) (y := 92) ⟨rfl, rfl⟩ (Fr.nil _ _) rfl rfl (fun u hu => by simp at hu; subst hu; rfl) (by have := hql.out; omega) (by have := hql.out; omega) (by omega) ?_; intro v1 w1 hO1 hB1 hz1 hold1 hown1; have hq2 := hide (show ((34 :: qL (t.toList.take k)) ++ [92]).length ≤ 2097154 from by rw [List.length_append]; have := hql.out; simp only [List.length_cons, List.length_nil] at *; omega)))
        have hB := hB2 _ _ (hB1 _ _ hbr (Nat.le_refl _)) (Nat.le_refl _)
        go_roundw
        case rel => exact ⟨k + 1, v2, hlt, by go_num, rfl, by rw [hst2.out]; exact hO2, hB⟩
        case measure => simp [intOf]; omega
      have c2 : ((t[k].toNat : Int) == 92) = false := by rw [beq_eq_false_iff_ne]; intro h; exact h2 (UInt8.toNat_inj.1 (by have : (92 : UInt8).toNat = 92 := rfl; omega))
      have hsp : (t[k] == 34 || t[k] == 92) = false := by rw [beq_eq_false_iff_ne.2 h1, beq_eq_false_iff_ne.2 h2]; rfl
      clear h1 h2
      have hst2 : Hid (34 :: qL (t.toList.take (k + 1)) = (34 :: qL (t.toList.take k)) ++ [t[k]]) := by show _ = _; rw [hst.out, if_neg (by rw [hsp]; decide)]
      clear hsp
      go_wp2_with (at_builtin; refine wpList_append_own ByR.good rfl _ _ 53 rfl Tryz.underlying53 ji jz js jby rfl (by decide) (v := v) rfl hO.out (Below.refl _ _) (bk := []) (cy := [.int .u8 (t[k].toNat : Int)]) (y := t[k]) ⟨rfl, rfl⟩ (Fr.nil _ _) rfl rfl (fun u hu => by simp at hu; subst hu; rfl) (by have := hql.out; omega) (by have := hql.out; omega) (by omega) ?_; intro v2 w2 hO2 hB2 hz2 hold2 hown2)
      have hB := hB2 _ _ hbr (Nat.le_refl _)
      go_roundw
      case rel => exact ⟨k + 1, v2, hlt, by go_num, rfl, by rw [hst2.out]; exact hO2, hB⟩
      case measure => simp [intOf]; omega
    · obtain rfl : k = t.size := by omega
      have hfin : Hid ((34 :: qL (t.toList.take t.size)) ++ [34] = quoteL t) := by show _ = _; rw [← toL_len t, List.take_length]; rfl
      go_wp2_with (at_builtin; refine wpList_append_own ByR.good rfl _ _ 53 rfl Tryz.underlying53 ji jz js jby rfl (by decide) (v := v) rfl hO.out (Below.refl _ _) (bk := []) (cy := [.int .u8 34]) (y := 34) ⟨rfl, rfl⟩ (Fr.nil _ _) rfl rfl (fun u hu => by simp at hu; subst hu; rfl) (by have := hql.out; omega) (by have := hql.out; omega) (by omega) ?_; intro v1 w1 hO1 hB1 hz1 hold1 hown1; have hcv := conv_bytes hO1 (by simp); obtain ⟨O1, cO1, hv1, _, _⟩ := hO1.form; subst hv1; refine wpList_conv rfl _ _ _ rfl _ _ rfl hcv ?_)
      go_ret
      exact ⟨by rw [← hfin.out]; rfl, hB1 _ _ hbr (Nat.le_refl _)⟩
end Go.Proofs.YtdleccpjejdgiaaGreatDoor
