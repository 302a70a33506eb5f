/- Mutate of both. No statement is proved here; no conditions. Written by a program (gen47.py). -/
import Derived.Test.YthglchopajdmhaaMutate
namespace Go.Proofs.Ythglchopajdmhaa
open Go.ChangeShapes Go.WideShapes Go.ChangeAt Go.RowKit Go.Deep
set_option maxRecDepth 100000
set_option linter.unusedVariables false
set_option linter.unusedSimpArgs false

def mutateAns (c : Column) (d : List Atom) (m : Mut) : List Atom × Int := if 4096 < d.length then ([], 2) else cond (colOK c && (datumOK d && (!(fitsCode c d != 0) && mutOK m))) (if muType m c.kind = 0 then mutL c d m else ([], muType m c.kind)) ([], 1)
theorem mutOK_mok {d : List Atom} {m : Mut} {k : Int} (hd : datumOK d = true) (hm : mutOK m = true) (ht : muType m k = 0) : MOK d m := by
  unfold mutOK at hm
  rw [Bool.and_eq_true, Bool.and_eq_true] at hm
  refine ⟨hd, hm.2.1, inB_iff.1 hm.1, fun h5 => ?_⟩
  unfold muType at ht
  split at ht
  · cases ht
  · split at ht
    · cases ht
    · rename_i h2
      by_cases hl : (m.value.length : Int) = 1
      · omega
      · exact absurd ⟨h5, Or.inr hl⟩ h2
theorem empty_wt : AtomS.wt [] ≤ 48 := by rw [AtomS.wt_len]; decide
theorem mutateAns_wt (c : Column) (d : List Atom) (m : Mut) : AtomS.wt (mutateAns c d m).1 ≤ 48 := by
  unfold mutateAns; split
  · exact empty_wt
  · cases h : (colOK c && (datumOK d && (!(fitsCode c d != 0) && mutOK m)))
    · exact empty_wt
    · show AtomS.wt (if muType m c.kind = 0 then mutL c d m else ([], muType m c.kind)).1 ≤ 48
      simp only [Bool.and_eq_true] at h
      split
      · rename_i ht
        have hm := mutOK_mok h.2.1 h.2.2.2 ht
        exact mutL_wt c hm.d hm.v
      · exact empty_wt
theorem ans_long {c : Column} {d : List Atom} {m : Mut} (h : 4096 < d.length) : mutateAns c d m = ([], 2) := by unfold mutateAns; rw [if_pos h]
theorem ans_bad {c : Column} {d : List Atom} {m : Mut} (h : ¬ 4096 < d.length) (hb : (colOK c && (datumOK d && (!(fitsCode c d != 0) && mutOK m))) = false) : mutateAns c d m = ([], 1) := by unfold mutateAns; rw [if_neg h, hb]; rfl
theorem ans_go {c : Column} {d : List Atom} {m : Mut} (h : ¬ 4096 < d.length) (h1 : colOK c = true) (h2 : datumOK d = true) (h3 : (fitsCode c d != 0) = false) (h4 : mutOK m = true) : mutateAns c d m = if muType m c.kind = 0 then mutL c d m else ([], muType m c.kind) := by
  unfold mutateAns; rw [if_neg h, h1, h2, h3, h4]; rfl
theorem colIdx_one (c : Column) : colIdx [c] c.name = 0 := by
  unfold colIdx; exact idxF_at (k := 0) (by simp) (fun j hj h => absurd h (Nat.not_lt_zero _)) (eqS_iff.2 rfl)
theorem mutCode_one (c : Column) (m : Mut) : mutCode ⟨⟨#[]⟩, [c], [], false⟩ ⟨c.name, m.func, m.value⟩ = muType m c.kind := by
  unfold mutCode colAt; rw [colIdx_one]; rfl
theorem mutL_name (c : Column) (d : List Atom) (m : Mut) (s : ByteArray) : mutL c d ⟨s, m.func, m.value⟩ = mutL c d m := rfl
set_option maxHeartbeats 8000000 in
theorem impl_Mutate {w : World}  (c : Column) {bs_d : List Nat} {v_d : Value} {d : List Atom} (H_d : AtomSR w bs_d [v_d] d) {bs_m : List Nat} {cs_m : List Value} {m : Mut} (H_m : MutR w bs_m cs_m m) (hc : c.fine) :
    Calls Try.prog 40 #[.agg #[.string c.name, .int .i64 c.kind, .int .i64 c.min, .int .i64 c.max, .int .i64 c.low, .int .i64 c.high, .string c.ref, .bool c.strong], v_d, .agg cs_m.toArray] w (OutS AtomSR w (mutateAns c d m).1 (mutateAns c d m).2) := by
  have H0_d := H_d
  obtain ⟨A_d, c_d, rfl, hlc_d, hcm_d, hel_d⟩ := H_d.use
  have H0_m := H_m
  obtain ⟨m_v2, m_b2, rfl, rfl, hf_m, m_r2⟩ := H_m
  obtain ⟨A_m2, c_m2, rfl, hlc_m2, hcm_m2, hel_m2⟩ := m_r2.use
  have hbx := (((Below.refl w.heap.size w).alloc (Nat.le_refl _) (.cells #[.string c.name, .int .i64 c.kind, .int .i64 c.min, .int .i64 c.max, .int .i64 c.low, .int .i64 c.high, .string c.ref, .bool c.strong] 59)).alloc (by simp; try omega) (.cells #[.string m.column, .int .i64 m.func, .slice A_m2 m.value.length c_m2] 62))
  obtain ⟨q_c, q_m⟩ := two_at (Below.refl ((w.alloc (.cells #[.string c.name, .int .i64 c.kind, .int .i64 c.min, .int .i64 c.max, .int .i64 c.low, .int .i64 c.high, .string c.ref, .bool c.strong] 59)).alloc (.cells #[.string m.column, .int .i64 m.func, .slice A_m2 m.value.length c_m2] 62)).heap.size _)
  have hfm := hide hf_m; clear hf_m hel_d hel_m2; have HCF := hide hc; clear hc
  go_enter Try.func40, Try.ntmps40
  go_wp2_with fail
  refine (impl_isListA (AtomSR.good.nxt hbx H0_d)).mono ?_; rintro e w0 ⟨rfl, rfl⟩
  by_cases hlong : 4096 < d.length
  · have hr := hide (ans_long (c := c) (m := m) hlong); have hd0 : decide ((d.length : Int) ≤ 4096) = false := decide_eq_false (by omega)
    clear hlong
    go_wp2_with fail
    go_ret2
    rw [hr.out]
    exact ⟨_, [], rfl, nil_row (by omega), Fr.nil _ _, hbx⟩
  have hd0 : decide ((d.length : Int) ≤ 4096) = true := decide_eq_true (by omega); have HLG := hide hlong; clear hlong
  go_wp2_with fail
  refine (impl_ColumnOK c _ HCF.out).mono ?_; rintro e w1 ⟨rfl, hb1⟩; replace q_c := box_on q_c rfl hb1; replace q_m := box_on q_m rfl hb1; have hw1 := nxt hbx hb1
  cases h1 : colOK c
  · have hr : Hid (mutateAns c d m = ([], 1)) := by show _ = _; exact ans_bad HLG.out (by rw [h1] <;> simp)
    clear h1
    go_wp2_with fail
    go_ret2
    rw [hr.out]
    exact ⟨_, [], rfl, nil_row (by omega), Fr.nil _ _, hw1⟩
  go_wp2_with fail
  refine (impl_DatumOK hw1 H0_d).mono ?_; rintro e w2 ⟨rfl, hb2⟩; replace q_c := box_on q_c rfl hb2; replace q_m := box_on q_m rfl hb2; have hw2 := nxt hw1 hb2
  cases h2 : datumOK d
  · have hr : Hid (mutateAns c d m = ([], 1)) := by show _ = _; exact ans_bad HLG.out (by rw [h2] <;> simp)
    clear h1 h2
    go_wp2_with fail
    go_ret2
    rw [hr.out]
    exact ⟨_, [], rfl, nil_row (by omega), Fr.nil _ _, hw2⟩
  go_wp2_with fail
  refine (impl_fits hw2 H0_d c).mono ?_; rintro e w3 ⟨rfl, hb3⟩; replace q_c := box_on q_c rfl hb3; replace q_m := box_on q_m rfl hb3; have hw3 := nxt hw2 hb3
  by_cases h3 : (fitsCode c d != 0) = true
  · have hr : Hid (mutateAns c d m = ([], 1)) := by show _ = _; exact ans_bad HLG.out (by rw [h3, h2] <;> simp)
    clear h1 h2
    go_wp2_with fail
    go_ret2
    rw [hr.out]
    exact ⟨_, [], rfl, nil_row (by omega), Fr.nil _ _, hw3⟩
  have h3 := (Bool.not_eq_true _).mp h3
  go_wp2_with fail
  refine (impl_mutOK (MutR.good.nxt hw3 H0_m)).mono ?_; rintro e w4 ⟨rfl, hb4⟩; replace q_c := box_on q_c rfl hb4; replace q_m := box_on q_m rfl hb4; have hw4 := nxt hw3 hb4
  cases h4 : mutOK m
  · have hr : Hid (mutateAns c d m = ([], 1)) := by show _ = _; exact ans_bad HLG.out (by rw [h4, h3, h2] <;> simp)
    clear h1 h2 h3 h4
    go_wp2_with fail
    go_ret2
    rw [hr.out]
    exact ⟨_, [], rfl, nil_row (by omega), Fr.nil _ _, hw4⟩
  have hgo := hide (ans_go HLG.out (by rw [h1]) h2 h3 h4); have HD := hide h2; have HM := hide h4; clear h1 h2 h3 h4
  go_wp2_with fail
  refine (impl_typeCode (MutR.good.nxt hw4 H0_m) c).mono ?_; rintro e w5 ⟨rfl, hb5⟩; replace q_c := box_on q_c rfl hb5; replace q_m := box_on q_m rfl hb5; have hw5 := nxt hw4 hb5
  by_cases h5 : ¬ muType m c.kind = 0
  · have hr := hide (hgo.out.trans (if_neg h5)); have hn5 : (muType m c.kind != 0) = true := by simp [h5]
    clear h5
    go_wp2_with fail
    go_ret2
    rw [hr.out]
    exact ⟨_, [], rfl, nil_row (by omega), Fr.nil _ _, hw5⟩
  have h5 := Decidable.not_not.1 h5; have hr := hide (hgo.out.trans (if_pos h5)); have hn5 : (muType m c.kind != 0) = false := by simp [h5]
  have HK := hide (mutOK_mok HD.out HM.out h5); clear h5
  go_wp2_with fail
  refine (impl_mutate c (AtomSR.good.nxt hw5 H0_d) (MutR.good.nxt hw5 H0_m) HK.out).mono ?_; rintro e w9 ⟨v9, bs9, rfl, r9, f9, hb9⟩; have r90 := r9; obtain ⟨A9, c9, rfl, _, _, _⟩ := r9.use; have hs9 := hw5.size; have hw9 := nxt hw5 hb9
  go_wp2_with fail
  go_ret2
  rw [hr.out]
  exact ⟨_, bs9, rfl, r90, f9.mono hs9, hw9⟩
set_option maxHeartbeats 8000000 in
theorem spec_Mutate {w : World}  (c : Column) {bs_d : List Nat} {v_d : Value} {d : List Atom} (H_d : AtomSR w bs_d [v_d] d) {bs_m : List Nat} {cs_m : List Value} {m : Mut} (H_m : MutR w bs_m cs_m m) (hc : c.fine) :
    Calls Try.prog 37 #[.agg #[.string c.name, .int .i64 c.kind, .int .i64 c.min, .int .i64 c.max, .int .i64 c.low, .int .i64 c.high, .string c.ref, .bool c.strong], v_d, .agg cs_m.toArray] w (SeeS AtomSR w (mutateAns c d m).1 (mutateAns c d m).2) := by
  have H0_d := H_d
  obtain ⟨A_d, c_d, rfl, hlc_d, hcm_d, hel_d⟩ := H_d.use
  have H0_m := H_m
  obtain ⟨m_v2, m_b2, rfl, rfl, hf_m, m_r2⟩ := H_m
  obtain ⟨A_m2, c_m2, rfl, hlc_m2, hcm_m2, hel_m2⟩ := m_r2.use
  have hbx := (((Below.refl w.heap.size w).alloc (Nat.le_refl _) (.cells #[.string c.name, .int .i64 c.kind, .int .i64 c.min, .int .i64 c.max, .int .i64 c.low, .int .i64 c.high, .string c.ref, .bool c.strong] 59)).alloc (by simp; try omega) (.cells #[.string m.column, .int .i64 m.func, .slice A_m2 m.value.length c_m2] 62))
  obtain ⟨q_c, q_m⟩ := two_at (Below.refl ((w.alloc (.cells #[.string c.name, .int .i64 c.kind, .int .i64 c.min, .int .i64 c.max, .int .i64 c.low, .int .i64 c.high, .string c.ref, .bool c.strong] 59)).alloc (.cells #[.string m.column, .int .i64 m.func, .slice A_m2 m.value.length c_m2] 62)).heap.size _)
  have hfm := hide hf_m; clear hf_m hel_d hel_m2; have HCF := hide hc; clear hc
  have R_m : (World.heap ((w.alloc (.cells #[.string c.name, .int .i64 c.kind, .int .i64 c.min, .int .i64 c.max, .int .i64 c.low, .int .i64 c.high, .string c.ref, .bool c.strong] 59)).alloc (.cells #[.string m.column, .int .i64 m.func, .slice A_m2 m.value.length c_m2] 62)))[w.heap.size + 1]? = some (.cells #[.string m.column, .int .i64 m.func, .slice A_m2 m.value.length c_m2] 62 (0, 0)) := by simpa using blk_new ((w.alloc (.cells #[.string c.name, .int .i64 c.kind, .int .i64 c.min, .int .i64 c.max, .int .i64 c.low, .int .i64 c.high, .string c.ref, .bool c.strong] 59))) #[.string m.column, .int .i64 m.func, .slice A_m2 m.value.length c_m2] 62
  have R_free_m := blk_free R_m
  by_cases hlong : 4096 < d.length
  · have hr := hide (ans_long (c := c) (m := m) hlong); have hd0 : decide ((4096 : Int) < (d.length : Int)) = true := decide_eq_true (by omega)
    clear hlong
    go_enter Try.func37, Try.ntmps37
    go_wp2_with fail
    go_ret2
    rw [hr.out]
    exact ⟨_, [], rfl, nil_row (by omega), hbx.alloc hbx.size _⟩
  have hd0 : decide ((4096 : Int) < (d.length : Int)) = false := decide_eq_false (by omega); have HLG := hide hlong; clear hlong
  go_enter Try.func37, Try.ntmps37
  go_wp2_with fail
  refine (spec_ColumnOK c _ HCF.out).mono ?_; rintro e w1 ⟨rfl, hb1⟩; replace q_c := box_on q_c rfl hb1; replace q_m := box_on q_m rfl hb1; have hw1 := nxt hbx hb1; replace R_m := blk_on R_m hb1; replace R_free_m := blk_free R_m
  cases h1 : colOKs c
  · have hr : Hid (mutateAns c d m = ([], 1)) := by show _ = _; exact ans_bad HLG.out (by rw [← colOKs_eq c, h1] <;> simp)
    clear h1
    go_wp2_with fail
    go_ret2
    rw [hr.out]
    exact ⟨_, [], rfl, nil_row (by omega), hw1.alloc hw1.size _⟩
  go_wp2_with fail
  refine (spec_DatumOK hw1 H0_d).mono ?_; rintro e w2 ⟨rfl, hb2⟩; replace q_c := box_on q_c rfl hb2; replace q_m := box_on q_m rfl hb2; have hw2 := nxt hw1 hb2; replace R_m := blk_on R_m hb2; replace R_free_m := blk_free R_m
  cases h2 : datumOK d
  · have hr : Hid (mutateAns c d m = ([], 1)) := by show _ = _; exact ans_bad HLG.out (by rw [h2] <;> simp)
    clear h1 h2
    go_wp2_with fail
    go_ret2
    rw [hr.out]
    exact ⟨_, [], rfl, nil_row (by omega), hw2.alloc hw2.size _⟩
  go_wp2_with fail
  refine (spec_l04Fits hw2 H0_d c).mono ?_; rintro e w3 ⟨rfl, hb3⟩; replace q_c := box_on q_c rfl hb3; replace q_m := box_on q_m rfl hb3; have hw3 := nxt hw2 hb3; replace R_m := blk_on R_m hb3; replace R_free_m := blk_free R_m
  by_cases h3 : (fitsCode c d != 0) = true
  · have hr : Hid (mutateAns c d m = ([], 1)) := by show _ = _; exact ans_bad HLG.out (by rw [h3, h2] <;> simp)
    clear h1 h2
    go_wp2_with fail
    go_ret2
    rw [hr.out]
    exact ⟨_, [], rfl, nil_row (by omega), hw3.alloc hw3.size _⟩
  have h3 := (Bool.not_eq_true _).mp h3
  go_wp2_with fail
  refine (spec_l07OK (MutR.good.nxt hw3 H0_m)).mono ?_; rintro e w4 ⟨rfl, hb4⟩; replace q_c := box_on q_c rfl hb4; replace q_m := box_on q_m rfl hb4; have hw4 := nxt hw3 hb4; replace R_m := blk_on R_m hb4; replace R_free_m := blk_free R_m
  cases h4 : mutOK m
  · have hr : Hid (mutateAns c d m = ([], 1)) := by show _ = _; exact ans_bad HLG.out (by rw [h4, h3, h2] <;> simp)
    clear h1 h2 h3 h4
    go_wp2_with fail
    go_ret2
    rw [hr.out]
    exact ⟨_, [], rfl, nil_row (by omega), hw4.alloc hw4.size _⟩
  have hgo := hide (ans_go HLG.out (by rw [← colOKs_eq c, h1]) h2 h3 h4); have HD := hide h2; have HM := hide h4; clear h1 h2 h3 h4
  have mB : (World.heap ((w4).setCell ⟨w.heap.size + 1, 0, none⟩ (.string c.name)))[w.heap.size + 1]? = some (.cells #[.string c.name, .int .i64 m.func, .slice A_m2 m.value.length c_m2] 62 (0, 0)) := blk_set R_m 0 (.string c.name)
  have HUm := (Upd.refl [w.heap.size + 1] (w4)).set (p := ⟨w.heap.size + 1, 0, none⟩) (by simp) rfl (.string c.name)
  have q_c2 := box_upd q_c rfl HUm (by simp); have q_m2 := blk_cells mB; have hwS := hw4.setCell (p := ⟨w.heap.size + 1, 0, none⟩) (by simp) (.string c.name)
  have tB : (World.heap ((((w4).setCell ⟨w.heap.size + 1, 0, none⟩ (.string c.name))).alloc (.cells #[.string c.name, .int .i64 c.kind, .int .i64 c.min, .int .i64 c.max, .int .i64 c.low, .int .i64 c.high, .string c.ref, .bool c.strong] 59)))[(World.heap w4).size]? = some (.cells #[.string c.name, .int .i64 c.kind, .int .i64 c.min, .int .i64 c.max, .int .i64 c.low, .int .i64 c.high, .string c.ref, .bool c.strong] 59 (0, 0)) := by simpa using blk_new (((w4).setCell ⟨w.heap.size + 1, 0, none⟩ (.string c.name))) #[.string c.name, .int .i64 c.kind, .int .i64 c.min, .int .i64 c.max, .int .i64 c.low, .int .i64 c.high, .string c.ref, .bool c.strong] 59
  have R_c := R_free_m
  replace q_c2 := box_on q_c2 rfl ((Below.refl (World.heap (((w4).setCell ⟨w.heap.size + 1, 0, none⟩ (.string c.name)))).size (((w4).setCell ⟨w.heap.size + 1, 0, none⟩ (.string c.name)))).alloc (Nat.le_refl _) (.cells #[.string c.name, .int .i64 c.kind, .int .i64 c.min, .int .i64 c.max, .int .i64 c.low, .int .i64 c.high, .string c.ref, .bool c.strong] 59))
  replace q_m2 := box_on q_m2 rfl ((Below.refl (World.heap (((w4).setCell ⟨w.heap.size + 1, 0, none⟩ (.string c.name)))).size (((w4).setCell ⟨w.heap.size + 1, 0, none⟩ (.string c.name)))).alloc (Nat.le_refl _) (.cells #[.string c.name, .int .i64 c.kind, .int .i64 c.min, .int .i64 c.max, .int .i64 c.low, .int .i64 c.high, .string c.ref, .bool c.strong] 59))
  have q_t0 := blk_cells (blk_new (((w4).setCell ⟨w.heap.size + 1, 0, none⟩ (.string c.name))) #[.string c.name, .int .i64 c.kind, .int .i64 c.min, .int .i64 c.max, .int .i64 c.low, .int .i64 c.high, .string c.ref, .bool c.strong] 59)
  have hn1 := (hwS).alloc (hwS).size (.cells #[.string c.name, .int .i64 c.kind, .int .i64 c.min, .int .i64 c.max, .int .i64 c.low, .int .i64 c.high, .string c.ref, .bool c.strong] 59)
  have HT : TableR ((((w4).setCell ⟨w.heap.size + 1, 0, none⟩ (.string c.name))).alloc (.cells #[.string c.name, .int .i64 c.kind, .int .i64 c.min, .int .i64 c.max, .int .i64 c.low, .int .i64 c.high, .string c.ref, .bool c.strong] 59)) ((World.heap w4).size :: []) [.string ⟨#[]⟩, .slice (some ⟨(World.heap w4).size, 0, none⟩) 1 1, .slice none 0 0, .bool false] ⟨⟨#[]⟩, [c], [], false⟩ := ⟨_, [(World.heap w4).size], _, [], by simp, rfl, (by show (0 : Nat) ≤ 9223372036854775807; omega), one_row (cs := [.string c.name, .int .i64 c.kind, .int .i64 c.min, .int .i64 c.max, .int .i64 c.low, .int .i64 c.high, .string c.ref, .bool c.strong]) (bk := []) tB ⟨rfl, rfl, HCF.out⟩ rfl, nil_row (by omega)⟩
  have HMx : MutR ((((w4).setCell ⟨w.heap.size + 1, 0, none⟩ (.string c.name))).alloc (.cells #[.string c.name, .int .i64 c.kind, .int .i64 c.min, .int .i64 c.max, .int .i64 c.low, .int .i64 c.high, .string c.ref, .bool c.strong] 59)) bs_m [.string c.name, .int .i64 m.func, .slice A_m2 m.value.length c_m2] ⟨c.name, m.func, m.value⟩ := ⟨_, _, rfl, rfl, ⟨HCF.out.1, hfm.out.2⟩, AtomSR.good.nxt hn1 m_r2⟩
  have HTX := hide HT; have HMX := hide HMx; clear HT HMx tB
  go_wp2_with fail
  refine (spec_l07Code HTX.out HMX.out).mono ?_; rw [mutCode_one]; rintro e w8 ⟨rfl, hb8⟩
  replace q_c2 := box_on q_c2 rfl hb8; replace q_m2 := box_on q_m2 rfl hb8; have hw8 := nxt hn1 hb8
  by_cases h5 : ¬ muType m c.kind = 0
  · have hr := hide (hgo.out.trans (if_neg h5)); have hn5 : (muType m c.kind != 0) = true := by simp [h5]
    clear h5
    go_wp2_with fail
    go_ret2
    rw [hr.out]
    exact ⟨_, [], rfl, nil_row (by omega), hw8.alloc hw8.size _⟩
  have h5 := Decidable.not_not.1 h5; have hr := hide (hgo.out.trans (if_pos h5)); have hn5 : (muType m c.kind != 0) = false := by simp [h5]
  have hk := mutOK_mok HD.out HM.out h5; have HK := hide (show MOK d ⟨c.name, m.func, m.value⟩ from ⟨hk.d, hk.v, hk.f, hk.one⟩); clear h5 hk
  go_wp2_with fail
  refine (spec_l07Mutate c (AtomSR.good.nxt hw8 H0_d) (MutR.good.nxt hb8 HMX.out) HK.out).mono ?_; rw [mutL_name]; rintro e w9 ⟨v9, bs9, rfl, r9, hb9⟩; have r90 := r9; obtain ⟨A9, c9, rfl, _, _, _⟩ := r9.use; have hw9 := nxt hw8 hb9
  go_wp2_with fail
  go_ret2
  rw [hr.out]
  exact ⟨_, bs9, rfl, r90, hw9⟩
end Go.Proofs.Ythglchopajdmhaa
