/- NewStore, in the program and in the reference. No statement is proved here; no conditions. Written by a program (gen26.py). -/
import Derived.Test.YthbebbnidgeaeaaDrop
import Derived.Test.YthbebbnidgeaeaaSchemas
import Derived.Test.YthbebbnidgeaeaaMarkT
import Derived.Laws.OwnMore
namespace Go.Proofs.Ythbebbnidgeaeaa
open Go.ChangeShapes Go.WideShapes Go.ChangeAt Go.RowKit Go.Deep
set_option maxRecDepth 100000
set_option linter.unusedVariables false
set_option linter.unusedSimpArgs false

def newAns (s : Schema) : Store × Int := cond (schOK s) (⟨List.replicate s.tables.length [], 1⟩, 0) (⟨[], 0⟩, 1)
theorem newAns_wt (s : Schema) : Store.wtV (newAns s).1 ≤ 0 := by
  have h : ∀ n, RowSS.wt (List.replicate n []) ≤ 0 := by
    intro n
    unfold RowSS.wt
    induction n with
    | zero => simp
    | succ n ih => rw [List.replicate_succ]; simp [RowS.wt]
  unfold newAns
  cases schOK s
  · simp [Store.wtV, RowSS.wt]
  · exact h _
theorem make_nils {P : Program} {t e : TypeId} {size bytes : Nat} (ht : P.underlying t = some (.slice e)) (hi : (P.info? e).map (fun i => (i.zero, i.size, i.bytes)) = some (some (.slice none 0 0), size, bytes)) (hs : size = 1)
    (n : Nat) (hb : bytes * n ≤ 281474976710656) (hn : n ≤ 9223372036854775807) :
    ∃ cur : Array Value, cur.toList = List.replicate n (.slice none 0 0) ∧ ∀ W : World, (Instr.makeSlice t (.int .i64 (n : Int)) (.int .i64 (n : Int))).run P W = .ok (.slice (some ⟨W.heap.size, 0, none⟩) n n) (W.alloc (.cells cur e)) := by
  subst hs
  obtain ⟨i, hi, hz, hs, hby⟩ := info_parts hi
  refine ⟨madeCells #[.slice none 0 0] n, toList_madeCells_one _ _, fun W => ?_⟩
  have hb' : (i.bytes : Int) * (n : Int) ≤ 281474976710656 := by
    have h : ((i.bytes * n : Nat) : Int) ≤ 281474976710656 := by rw [hby]; omega
    rwa [Int.natCast_mul] at h
  have hr := run_make (P := P) W t e i _ ht hi hz .i64 .i64 n n (by omega) (by omega) hb' (by omega)
  simp only [Int.toNat_natCast, hs, Nat.mul_one] at hr
  exact hr
theorem nils_row {α : Type} {R : Rd α} {size : Nat} {w : World} {g : Nat} {cur : Array Value} {e : TypeId} {n : Nat} (h : w.heap[g]? = some (.cells cur e (0, 0))) (hc : cur.toList = List.replicate n (.slice none 0 0)) (hn : n ≤ 9223372036854775807) (lo : Nat) (hl : lo ≤ g) :
    ∃ bs, SlR 1 (SlR size R) w bs [.slice (some ⟨g, 0, none⟩) n n] (List.replicate n []) ∧ Fr lo w bs := by
  by_cases h0 : n = 0
  · subst h0; exact ⟨[], ⟨_, 0, rfl, Nat.le_refl _, by simp [maxLen], .inl ⟨rfl, rfl⟩⟩, Fr.nil _ _⟩
  · have hf : (List.replicate n ([] : List Nat)).flatten = [] := by simp
    refine ⟨g :: (List.replicate n []).flatten, ⟨_, n, by rw [List.length_replicate], by rw [List.length_replicate]; exact Nat.le_refl _, by unfold maxLen; omega, .inr ⟨g, 0, List.replicate n [], rfl, lt_of_cells h, by simp, rfl, fun k x bk hx hbk => ?_⟩⟩, ?_⟩
    · have hk := idx_lt hx
      rw [List.length_replicate] at hk
      rw [List.getElem?_replicate_of_lt hk] at hx hbk
      injection hx with hx; injection hbk with hbk; subst hx; subst hbk
      refine ⟨[.slice none 0 0], rfl, fun j u hu => ?_, nil_row (by omega)⟩
      match j with
      | 0 =>
        simp only [List.getElem?_cons_zero, Option.some.injEq] at hu; subst hu
        rw [blk_cells h, ← Array.getElem?_toList, hc]
        simp [hk]
      | j + 1 => simp at hu
    · rw [hf]; exact ⟨by simp, fun b hb => by simp at hb; subst hb; exact ⟨hl, _, _, h⟩⟩
set_option maxHeartbeats 4000000 in
theorem impl_NewStore {w : World}  {bs_s : List Nat} {cs_s : List Value} {s : Schema} (H_s : SchemaR w bs_s cs_s s)  :
    Calls Try.prog 24 #[.agg cs_s.toArray] w (OutP StoreR w (newAns s).1 (newAns s).2) := by
  have H0_s := H_s
  obtain ⟨s_v0, s_b0, rfl, rfl, hf_s, s_r0⟩ := H_s
  obtain ⟨A_s0, c_s0, rfl, hlc_s0, hcm_s0, hel_s0⟩ := s_r0.use
  have hbx := (((Below.refl w.heap.size w).alloc (Nat.le_refl _) (.cells #[.slice A_s0 s.tables.length c_s0] 25)).alloc (by simp; try omega) (.cells #[.slice none 0 0, .int .i64 0] 49))
  obtain ⟨q_s, q_res⟩ := two_at (Below.refl ((w.alloc (.cells #[.slice A_s0 s.tables.length c_s0] 25)).alloc (.cells #[.slice none 0 0, .int .i64 0] 49)).heap.size _)
  have R_res : World.heap ((w.alloc (.cells #[.slice A_s0 s.tables.length c_s0] 25)).alloc (.cells #[.slice none 0 0, .int .i64 0] 49)) = World.heap ((w.alloc (.cells #[.slice A_s0 s.tables.length c_s0] 25)).alloc (.cells #[.slice none 0 0, .int .i64 0] 49)) := rfl
  clear R_res
  have R_res : (World.heap ((w.alloc (.cells #[.slice A_s0 s.tables.length c_s0] 25)).alloc (.cells #[.slice none 0 0, .int .i64 0] 49)))[w.heap.size + 1]? = some (.cells #[.slice none 0 0, .int .i64 0] 49 (0, 0)) := by simpa using blk_new ((w.alloc (.cells #[.slice A_s0 s.tables.length c_s0] 25))) #[.slice none 0 0, .int .i64 0] 49
  have R_free := blk_free R_res
  clear hel_s0
  go_enter Try.func24, Try.ntmps24
  go_wp2_with fail
  refine (impl_SchemaOK (SchemaR.good.nxt hbx H0_s)).mono ?_; rintro e w1 ⟨rfl, hb1⟩; replace q_s := box_on q_s rfl hb1; replace q_res := box_on q_res rfl hb1; have hw1 := nxt hbx hb1; replace R_res := blk_on R_res hb1; replace R_free := blk_free R_res
  cases h1 : schOK s
  · have hs : Hid (newAns s = (⟨[], 0⟩, 1)) := by show _ = _; unfold newAns; rw [h1]; rfl
    go_wp2_with fail
    have fin : _ = some (Obj.cells #[.slice none 0 0, .int .i64 0] 49 (0, 0)) := (blk_set (blk_set R_res 0 (.slice none 0 0)) 1 (.int .i64 0))
    have fc := blk_cells fin
    have HU := (((Upd.refl [w.heap.size + 1] w1).set (p := ⟨w.heap.size + 1, 0, none⟩) (by simp) rfl (.slice none 0 0)).set (p := ⟨w.heap.size + 1, 1, none⟩) (by simp) rfl (.int .i64 0))
    refine bodyPost_ret (v := .tuple #[.agg #[.slice none 0 0, .int .i64 0], .int .i64 1]) (by simp [results, Try.results24, go_sem, fc]) rfl ?_
    rw [hs.out]
    exact ⟨[.slice none 0 0, .int .i64 0], [], rfl, zeroStore, Fr.nil _ _, ((hw1.setCell (p := ⟨w.heap.size + 1, 0, none⟩) (by simp) (.slice none 0 0)).setCell (p := ⟨w.heap.size + 1, 1, none⟩) (by simp) (.int .i64 0))⟩
  have hs : Hid (newAns s = (⟨List.replicate s.tables.length [], 1⟩, 0)) := by show _ = _; unfold newAns; rw [h1]; rfl
  have hn : s.tables.length ≤ 4 := by unfold schOK at h1; rw [Bool.and_eq_true] at h1; have := inB_iff.1 h1.1; omega
  obtain ⟨cur, hcur, hmk⟩ := make_nils (P := Try.prog) Try.underlying47 RowSS.info rfl s.tables.length (by omega) (by omega)
  have hres := hide (lt_of_cells R_res); clear h1
  have hal := (Below.refl (World.heap w1).size w1).alloc (Nat.le_refl _) (.cells cur 125)
  have rS := blk_on R_res hal; have rc0 := blk_cells rS 0; have rc1 := blk_cells rS 1; have rf := blk_free rS
  have hnB := blk_new w1 cur 125
  have hwS := nxt hw1 hal
  have R_res1 := R_res; replace R_res := rS
  go_wp2_with fail
  have fin : _ = some (Obj.cells #[.slice (some ⟨w1.heap.size, 0, none⟩) s.tables.length s.tables.length, .int .i64 1] 49 (0, 0)) := (blk_set (blk_set R_res 0 (.slice (some ⟨w1.heap.size, 0, none⟩) s.tables.length s.tables.length)) 1 (.int .i64 1))
  have fc := blk_cells fin
  have HU := (((Upd.refl [w.heap.size + 1] (w1.alloc (.cells cur 125))).set (p := ⟨w.heap.size + 1, 0, none⟩) (by simp) rfl (.slice (some ⟨w1.heap.size, 0, none⟩) s.tables.length s.tables.length)).set (p := ⟨w.heap.size + 1, 1, none⟩) (by simp) rfl (.int .i64 1))
  refine bodyPost_ret (v := .tuple #[.agg #[.slice (some ⟨w1.heap.size, 0, none⟩) s.tables.length s.tables.length, .int .i64 1], .int .i64 0]) (by simp [results, Try.results24, go_sem, fc]) rfl ?_
  rw [hs.out]
  obtain ⟨bs', q1, q2⟩ := nils_row (size := 2) (R := RowR) hnB hcur (by omega) w1.heap.size (Nat.le_refl _)
  have hn2 : ∀ b ∈ bs', b ∉ [w.heap.size + 1] := fun b hb hm => by have := (q2.2 b hb).1; have := hres.out; simp at hm; omega
  exact ⟨[.slice (some ⟨w1.heap.size, 0, none⟩) s.tables.length s.tables.length, .int .i64 1], bs', rfl, ⟨_, bs', rfl, rfl, (rfl : (Lit.int .i64 1).wf = true), RowSSR.good.upd q1 HU hn2⟩, (q2.upd HU).mono (by have := hres.out; omega), ((hwS.setCell (p := ⟨w.heap.size + 1, 0, none⟩) (by simp) (.slice (some ⟨w1.heap.size, 0, none⟩) s.tables.length s.tables.length)).setCell (p := ⟨w.heap.size + 1, 1, none⟩) (by simp) (.int .i64 1))⟩
set_option maxHeartbeats 8000000 in
theorem spec_l05New {w : World}  {bs_s : List Nat} {cs_s : List Value} {s : Schema} (H_s : SchemaR w bs_s cs_s s) (hn : s.tables.length ≤ 1048576) :
    Calls Try.prog 66 #[.agg cs_s.toArray] w (ToP StoreR w ⟨List.replicate s.tables.length [], 1⟩) := by
  have H0_s := H_s
  obtain ⟨s_v0, s_b0, rfl, rfl, hf_s, s_r0⟩ := H_s
  obtain ⟨A_s0, c_s0, rfl, hlc_s0, hcm_s0, hel_s0⟩ := s_r0.use
  have hbx := (((Below.refl w.heap.size w).alloc (Nat.le_refl _) (.cells #[.slice A_s0 s.tables.length c_s0] 25)).alloc (by simp; try omega) (.cells #[.slice none 0 0, .int .i64 0] 49))
  obtain ⟨q_s, q_res⟩ := two_at (Below.refl ((w.alloc (.cells #[.slice A_s0 s.tables.length c_s0] 25)).alloc (.cells #[.slice none 0 0, .int .i64 0] 49)).heap.size _)
  have R_res : World.heap ((w.alloc (.cells #[.slice A_s0 s.tables.length c_s0] 25)).alloc (.cells #[.slice none 0 0, .int .i64 0] 49)) = World.heap ((w.alloc (.cells #[.slice A_s0 s.tables.length c_s0] 25)).alloc (.cells #[.slice none 0 0, .int .i64 0] 49)) := rfl
  clear R_res
  have R_res : (World.heap ((w.alloc (.cells #[.slice A_s0 s.tables.length c_s0] 25)).alloc (.cells #[.slice none 0 0, .int .i64 0] 49)))[w.heap.size + 1]? = some (.cells #[.slice none 0 0, .int .i64 0] 49 (0, 0)) := by simpa using blk_new ((w.alloc (.cells #[.slice A_s0 s.tables.length c_s0] 25))) #[.slice none 0 0, .int .i64 0] 49
  have R_free := blk_free R_res
  have HN := hide hn; clear hn hel_s0
  have HL : Hid ((World.heap (((w.alloc (.cells #[.slice A_s0 s.tables.length c_s0] 25)).alloc (.cells #[.slice none 0 0, .int .i64 0] 49)))).size = w.heap.size + 1 + 1) := by show _ = _; simp
  have hG0 := hide (OwnA.made (size := 1) (R := RowSR) (e := 125) (w := ((w.alloc (.cells #[.slice A_s0 s.tables.length c_s0] 25)).alloc (.cells #[.slice none 0 0, .int .i64 0] 49))) (n := w.heap.size + 1 + 1) (out := w.heap.size + 1 + 1 + 1) (by simp) (by omega))
  obtain ⟨ij, ji, jz, js, jby⟩ := info_parts RowSS.info
  have B1 : (World.heap ((((w.alloc (.cells #[.slice A_s0 s.tables.length c_s0] 25)).alloc (.cells #[.slice none 0 0, .int .i64 0] 49)).alloc (.cells #[] 125)).alloc (.cells #[.slice (some ⟨w.heap.size + 1 + 1, 0, none⟩) 0 0, .int .i64 1] 49)))[w.heap.size + 1 + 1 + 1]? = some (.cells #[.slice (some ⟨w.heap.size + 1 + 1, 0, none⟩) 0 0, .int .i64 1] 49 (0, 0)) := by simpa using blk_new (((w.alloc (.cells #[.slice A_s0 s.tables.length c_s0] 25)).alloc (.cells #[.slice none 0 0, .int .i64 0] 49)).alloc (.cells #[] 125)) #[.slice (some ⟨w.heap.size + 1 + 1, 0, none⟩) 0 0, .int .i64 1] 49
  go_enter Try.func66, Try.ntmps66
  go_wp2_with fail
  go_loopw [4] (fun i wr => ∃ (k : Nat) (v : Value), k ≤ s.tables.length ∧ i = .int .i64 k ∧ Hid (OwnA 1 RowSR 125 (World.heap (((w.alloc (.cells #[.slice A_s0 s.tables.length c_s0] 25)).alloc (.cells #[.slice none 0 0, .int .i64 0] 49)))).size (w.heap.size + 1 + 1 + 1) wr v (List.replicate k [])) ∧ Hid (wr.heap[w.heap.size + 1 + 1 + 1]? = some (.cells #[v, .int .i64 1] 49 (0, 0))) ∧ Below (World.heap (((w.alloc (.cells #[.slice A_s0 s.tables.length c_s0] 25)).alloc (.cells #[.slice none 0 0, .int .i64 0] 49)))).size (((w.alloc (.cells #[.slice A_s0 s.tables.length c_s0] 25)).alloc (.cells #[.slice none 0 0, .int .i64 0] 49))) wr) (fun i _ => s.tables.length - (intOf i).toNat)
  case atStart => exact ⟨0, _, Nat.zero_le _, rfl, OwnA.below RowSR.good hG0 ((Below.refl _ _).alloc (Nat.le_refl _) _), B1, ((Below.refl _ _).alloc (Nat.le_refl _) _).alloc (by simp) _⟩
  case round =>
    clear hG0 B1; obtain ⟨k, v, hk, rfl, hG, hB, hbr⟩ := hrel
    have hwr := nxt hbx hbr
    replace q_s := box_on q_s rfl hbr; replace q_res := box_on q_res rfl hbr; replace R_res := blk_on R_res hbr; replace R_free := blk_free R_res
    have hsz := hbr.size; rw [HL.out] at hsz
    have hBl := lt_of_cells hB.out; have c0 : wr.cell? ⟨w.heap.size + 1 + 1 + 1, 0, none⟩ = some v := blk_cells hB.out 0; have c1 : wr.cell? ⟨w.heap.size + 1 + 1 + 1, 1, none⟩ = some (.int .i64 1) := blk_cells hB.out 1
    by_cases hlt : k < s.tables.length
    · have hal := (Below.refl wr.heap.size wr).alloc (Nat.le_refl _) (.cells #[] 62)
      have hbdt : Hid ((List.replicate k ([] : List Row)).length ≤ 1048576) := by show _ ≤ _; rw [List.length_replicate]; have := HN.out; omega
      have hst : Hid (List.replicate (k + 1) ([] : List Row) = List.replicate k [] ++ [[]]) := by show _ = _; rw [List.replicate_succ']
      have hBo : Hid ((wr.alloc (.cells #[] 62)).heap[w.heap.size + 1 + 1 + 1]? = some (.cells #[v, .int .i64 1] 49 (0, 0))) := blk_on hB.out hal
      go_wp2_with (at_builtin; refine wpList_append_ownA RowSR.good rfl _ _ 47 rfl Try.underlying47 ji jz js jby rfl (by decide) (fun _ _ _ _ h => h.oneCell) (v := v) rfl hG.out hal hBl (y := ([] : List Row)) (bk := []) (cy := [.slice (some ⟨wr.heap.size, 0, none⟩) 0 0]) (nil_row (by omega)) (Fr.nil _ _) (by show Value.slice (some ⟨wr.heap.size + 1, 0, none⟩) 1 1 = _; simp) rfl (by have := hbdt.out; omega) (by have := hbdt.out; omega) hbr.size ?_; intro v3 w3 hO hB3 hz3 hold holdW; obtain ⟨O3, n3, cO3, hv3⟩ : ∃ A n c, v3 = .slice A n c := (by obtain ⟨A, c, h, _⟩ := hO.own.form; exact ⟨A, _, c, h⟩); subst hv3; have hb3 := hB3 _ _ (nxt hbr hal) (Nat.le_refl _); have BB := hold.trans hBo.out; have BF := blk_free BB; have c3 := blk_cells BB 0)
      go_roundw
      case rel => exact ⟨k + 1, _, hlt, by go_num, by rw [hst.out]; exact hO.set RowSR.good 0 (.slice O3 n3 cO3), blk_set BB 0 (.slice O3 n3 cO3), hb3.setCell (p := ⟨w.heap.size + 1 + 1 + 1, 0, none⟩) (by simp) _⟩
      case measure => simp [intOf]; omega
    · obtain rfl : k = s.tables.length := by omega
      obtain ⟨O, n, cO, hv⟩ : ∃ A n c, v = .slice A n c := (by obtain ⟨A, c, h, _⟩ := hG.out.own.form; exact ⟨A, _, c, h⟩); subst hv
      go_wp2_with fail
      have fin : _ = some (Obj.cells #[.slice O n cO, .int .i64 1] 49 (0, 0)) := (blk_set (blk_set R_res 0 (.slice O n cO)) 1 (.int .i64 1))
      have fc := blk_cells fin
      have HU := (((Upd.refl [w.heap.size + 1] wr).set (p := ⟨w.heap.size + 1, 0, none⟩) (by simp) rfl (.slice O n cO)).set (p := ⟨w.heap.size + 1, 1, none⟩) (by simp) rfl (.int .i64 1))
      refine bodyPost_ret (v := .agg #[.slice O n cO, .int .i64 1]) (by simp [results, Try.results66, go_sem, fc]) rfl ?_
      obtain ⟨bs', q1, q2⟩ := hG.out.own.done
      have hn : ∀ b ∈ bs', b ∉ [w.heap.size + 1] := fun b hb hm => by have := (q2.2 b hb).1; simp at this hm; omega
      exact ⟨[.slice O n cO, .int .i64 1], bs', rfl, ⟨_, bs', rfl, rfl, (rfl : (Lit.int .i64 1).wf = true), RowSSR.good.upd q1 HU hn⟩, (q2.upd HU).mono (by simp; omega), ((hwr.setCell (p := ⟨w.heap.size + 1, 0, none⟩) (by simp) (.slice O n cO)).setCell (p := ⟨w.heap.size + 1, 1, none⟩) (by simp) (.int .i64 1))⟩
set_option maxHeartbeats 4000000 in
theorem spec_NewStore {w : World}  {bs_s : List Nat} {cs_s : List Value} {s : Schema} (H_s : SchemaR w bs_s cs_s s)  :
    Calls Try.prog 22 #[.agg cs_s.toArray] w (SeeP StoreR w (newAns s).1 (newAns s).2) := by
  have H0_s := H_s
  obtain ⟨s_v0, s_b0, rfl, rfl, hf_s, s_r0⟩ := H_s
  obtain ⟨A_s0, c_s0, rfl, hlc_s0, hcm_s0, hel_s0⟩ := s_r0.use
  have hbx := (((Below.refl w.heap.size w).alloc (Nat.le_refl _) (.cells #[.slice A_s0 s.tables.length c_s0] 25)).alloc (by simp; try omega) (.cells #[.slice none 0 0, .int .i64 0] 49))
  obtain ⟨q_s, q_res⟩ := two_at (Below.refl ((w.alloc (.cells #[.slice A_s0 s.tables.length c_s0] 25)).alloc (.cells #[.slice none 0 0, .int .i64 0] 49)).heap.size _)
  have R_res : World.heap ((w.alloc (.cells #[.slice A_s0 s.tables.length c_s0] 25)).alloc (.cells #[.slice none 0 0, .int .i64 0] 49)) = World.heap ((w.alloc (.cells #[.slice A_s0 s.tables.length c_s0] 25)).alloc (.cells #[.slice none 0 0, .int .i64 0] 49)) := rfl
  clear R_res
  have R_res : (World.heap ((w.alloc (.cells #[.slice A_s0 s.tables.length c_s0] 25)).alloc (.cells #[.slice none 0 0, .int .i64 0] 49)))[w.heap.size + 1]? = some (.cells #[.slice none 0 0, .int .i64 0] 49 (0, 0)) := by simpa using blk_new ((w.alloc (.cells #[.slice A_s0 s.tables.length c_s0] 25))) #[.slice none 0 0, .int .i64 0] 49
  have R_free := blk_free R_res
  clear hel_s0
  go_enter Try.func22, Try.ntmps22
  go_wp2_with fail
  refine (spec_SchemaOK (SchemaR.good.nxt hbx H0_s)).mono ?_; rw [schOKs_eq]; rintro e w1 ⟨rfl, hb1⟩; replace q_s := box_on q_s rfl hb1; replace q_res := box_on q_res rfl hb1; have hw1 := nxt hbx hb1; replace R_res := blk_on R_res hb1; replace R_free := blk_free R_res
  cases h1 : schOK s
  · have hs : Hid (newAns s = (⟨[], 0⟩, 1)) := by show _ = _; unfold newAns; rw [h1]; rfl
    go_wp2_with fail
    have fin : _ = some (Obj.cells #[.slice none 0 0, .int .i64 0] 49 (0, 0)) := (blk_set (blk_set R_res 0 (.slice none 0 0)) 1 (.int .i64 0))
    have fc := blk_cells fin
    have HU := (((Upd.refl [w.heap.size + 1] w1).set (p := ⟨w.heap.size + 1, 0, none⟩) (by simp) rfl (.slice none 0 0)).set (p := ⟨w.heap.size + 1, 1, none⟩) (by simp) rfl (.int .i64 0))
    refine bodyPost_ret (v := .tuple #[.agg #[.slice none 0 0, .int .i64 0], .int .i64 1]) (by simp [results, Try.results22, go_sem, fc]) rfl ?_
    rw [hs.out]
    exact ⟨[.slice none 0 0, .int .i64 0], [], rfl, zeroStore, ((hw1.setCell (p := ⟨w.heap.size + 1, 0, none⟩) (by simp) (.slice none 0 0)).setCell (p := ⟨w.heap.size + 1, 1, none⟩) (by simp) (.int .i64 0))⟩
  have hs : Hid (newAns s = (⟨List.replicate s.tables.length [], 1⟩, 0)) := by show _ = _; unfold newAns; rw [h1]; rfl
  have hn : s.tables.length ≤ 1048576 := by unfold schOK at h1; rw [Bool.and_eq_true] at h1; have := inB_iff.1 h1.1; omega
  have hres := hide (lt_of_cells R_res); have HN := hide hn; clear h1 hn
  go_wp2_with fail
  refine (spec_l05New (SchemaR.good.nxt hw1 H0_s) HN.out).mono ?_; rintro e w2 ⟨cs2, bs2, rfl, r2, f2, hb2⟩; replace q_s := box_on q_s rfl hb2; replace q_res := box_on q_res rfl hb2; have hw2 := nxt hw1 hb2; replace R_res := blk_on R_res hb2; replace R_free := blk_free R_res
  have r20 := r2; obtain ⟨w2v, w2b, _, rfl, _, w2r⟩ := r2; obtain ⟨A2, n2, c2, rfl⟩ : ∃ A n c, w2v = .slice A n c := by obtain ⟨A, c, h, _⟩ := w2r; exact ⟨A, _, c, by simpa using h⟩
  go_wp2_with fail
  have fin : _ = some (Obj.cells #[.slice A2 n2 c2, .int .i64 1] 49 (0, 0)) := (blk_set (blk_set R_res 0 (.slice A2 n2 c2)) 1 (.int .i64 1))
  have fc := blk_cells fin
  have HU := (((Upd.refl [w.heap.size + 1] w2).set (p := ⟨w.heap.size + 1, 0, none⟩) (by simp) rfl (.slice A2 n2 c2)).set (p := ⟨w.heap.size + 1, 1, none⟩) (by simp) rfl (.int .i64 1))
  refine bodyPost_ret (v := .tuple #[.agg #[.slice A2 n2 c2, .int .i64 1], .int .i64 0]) (by simp [results, Try.results22, go_sem, fc]) rfl ?_
  rw [hs.out]
  have hn : ∀ b ∈ bs2, b ∉ [w.heap.size + 1] := fun b hb hm => by have := (f2.2 b hb).1; have := hres.out; simp at hm; omega
  exact ⟨[.slice A2 n2 c2, .int .i64 1], bs2, rfl, StoreR.good.upd r20 HU hn, ((hw2.setCell (p := ⟨w.heap.size + 1, 0, none⟩) (by simp) (.slice A2 n2 c2)).setCell (p := ⟨w.heap.size + 1, 1, none⟩) (by simp) (.int .i64 1))⟩
end Go.Proofs.Ythbebbnidgeaeaa
