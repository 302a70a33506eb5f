/- A row's cell, comparing. No statement is proved here; no conditions. Written by a program (gen19.py). -/
import Derived.Test.YthbebbnidgeaeaaGreatConds
import Derived.Test.YthbebbnidgeaeaaGreatLess
import Derived.Test.YthbebbnidgeaeaaGreatSame
import Derived.Test.YthbebbnidgeaeaaGreatFitRow
import Derived.Test.YthbebbnidgeaeaaGreatOrder
namespace Go.Proofs.YthbebbnidgeaeaaGreat
open Go.ChangeShapes Go.WideShapes Go.ChangeAt Go.RowKit Go.Deep
set_option maxRecDepth 100000
set_option linter.unusedVariables false
set_option linter.unusedSimpArgs false

def cellOf (t : Table) (r : Row) (s : ByteArray) : List Atom := if colIdx t.columns s < 0 then [⟨4, r.id, ⟨#[]⟩⟩] else r.cells.getD (colIdx t.columns s).toNat []
def cmpF (f o : Int) : Bool := cond (f == 3) (decide (o < 0)) (cond (f == 4) (decide (o ≤ 0)) (cond (f == 5) (decide (0 < o)) (decide (0 ≤ o))))
def cmpN (f x y : Int) : Bool := cond (f == 3) (decide (x < y)) (cond (f == 4) (decide (x ≤ y)) (cond (f == 5) (decide (y < x)) (decide (y ≤ x))))
def compB (f : Int) (d v : List Atom) : Bool := cond ((d.length : Int) != 1) false (cmpF f (ordA (d.getD 0 default) (v.getD 0 default)))
def compN (f : Int) (d v : List Atom) : Bool := cond ((d.length : Int) == 0) false (cmpN f (d.getD 0 default).n (v.getD 0 default).n)
def mat (f : Int) (d v : List Atom) : Bool := cond (f == 1) (decide (d = v)) (cond (f == 2) (!decide (d = v)) (cond (f == 7) (((minusL v d).length : Int) == 0) (cond (f == 8) (((minusL v d).length : Int) == (v.length : Int)) (compB f d v))))
def matchesB (t : Table) (r : Row) (c : Cond) : Bool := mat c.func (cellOf t r c.column) c.value
def matchAns (t : Table) (r : Row) (c : Cond) : Bool × Int := cond (rowOK t r && condOK c) (if condCode t c = 0 then (matchesB t r c, 0) else (false, condCode t c)) (false, 1)
theorem cmpF_I (f x y : Int) : cmpF f (cmpI x y) = cmpN f x y := by
  have h1 : decide (cmpI x y < 0) = decide (x < y) := by apply decide_eq_decide.2; unfold cmpI; split <;> (try split) <;> omega
  have h2 : decide (cmpI x y ≤ 0) = decide (x ≤ y) := by apply decide_eq_decide.2; unfold cmpI; split <;> (try split) <;> omega
  have h3 : decide (0 < cmpI x y) = decide (y < x) := by apply decide_eq_decide.2; unfold cmpI; split <;> (try split) <;> omega
  have h4 : decide (0 ≤ cmpI x y) = decide (y ≤ x) := by apply decide_eq_decide.2; unfold cmpI; split <;> (try split) <;> omega
  unfold cmpF cmpN; rw [h1, h2, h3, h4]
theorem ordA_int {a b : Atom} (ha : atomOK a = true) (hb : atomOK b = true) (ka : a.kind = 1) (kb : b.kind = 1) : ordA a b = cmpI a.n b.n := by
  unfold atomOK at ha hb
  rw [if_pos ka, Bool.and_eq_true] at ha
  rw [if_pos kb, Bool.and_eq_true] at hb
  have ea := nilB_iff.1 ha.2
  have eb := nilB_iff.1 hb.2
  unfold ordA
  rw [if_neg (by omega)]
  split
  · rfl
  · rename_i h
    have h : a.n = b.n := Decidable.not_not.1 h
    rw [ea, eb, cmpI_zero.2 h]; rfl
theorem datumOK_at {d : List Atom} (h : datumOK d = true) (h0 : 0 < d.length) : atomOK d[0] = true := by
  have hs : stepOK d 0 = true := by
    cases e : stepOK d 0
    · rw [datumOK_bad d 0 h0 e] at h; cases h
    · rfl
  unfold stepOK at hs
  rw [Bool.and_eq_true, Bool.and_eq_true, getD_at d 0 h0] at hs
  exact hs.1.1
theorem cond_named {t : Table} {c : Cond} (h : condCode t c = 0) : condType c (named t c.column) = 0 := by
  unfold condCode at h
  cases e : isNamed t c.column
  · rw [e] at h; cases h
  · rw [e] at h; exact h
/-- What the two say of the four comparing words is the same. -/
theorem comp_eq {t : Table} {r : Row} {c : Cond} (h1 : rowOK t r = true) (h2 : condOK c = true) (h3 : condCode t c = 0)
    (n1 : (c.func == 1) = false) (n2 : (c.func == 2) = false) (n7 : (c.func == 7) = false) (n8 : (c.func == 8) = false) :
    0 < c.value.length ∧ compB c.func (cellOf t r c.column) c.value = compN c.func (cellOf t r c.column) c.value := by
  have hT := cond_named h3
  have n1 := beq_eq_false_iff_ne.1 n1
  have n2 := beq_eq_false_iff_ne.1 n2
  have n7 := beq_eq_false_iff_ne.1 n7
  have n8 := beq_eq_false_iff_ne.1 n8
  unfold condOK at h2
  rw [Bool.and_eq_true, Bool.and_eq_true] at h2
  have hf : 1 ≤ c.func ∧ c.func ≤ 8 := by have := h2.1; unfold inB at this; simpa using this
  have hf2 : 3 ≤ c.func ∧ c.func ≤ 6 := by omega
  have hv := h2.2.1
  unfold condType at hT
  split at hT
  · cases hT
  rename_i g1
  split at hT
  · cases hT
  rename_i g2
  have hl : c.value.length = 1 := by
    by_cases h : (c.value.length : Int) = 1
    · omega
    · exact absurd ⟨hf2, .inr (.inr h)⟩ g2
  have hk : (named t c.column).kind = 1 := by
    by_cases h : (named t c.column).kind = 1
    · exact h
    · exact absurd ⟨hf2, .inl h⟩ g2
  have hm : (named t c.column).max = 1 := by
    by_cases h : (named t c.column).max = 1
    · exact h
    · exact absurd ⟨hf2, .inr (.inl h)⟩ g2
  have hv0 : 0 < c.value.length := by omega
  have kv : c.value[0].kind = 1 := by
    rw [← kind0_at hv0, ← hk]
    by_cases h : kind0 c.value = (named t c.column).kind
    · exact h
    · exact absurd ⟨hv0, h⟩ g1
  refine ⟨hv0, ?_⟩
  by_cases hn : colIdx t.columns c.column < 0
  · unfold named at hk; rw [if_pos hn] at hk; exact absurd hk (by decide)
  obtain ⟨k, hkl, he⟩ := colIdx_lt hn
  have hcol : named t c.column = t.columns[k] := (named_at hkl he).1
  rw [hcol] at hk hm
  unfold rowOK cellsIn at h1
  rw [Bool.and_eq_true, Bool.and_eq_true, Bool.and_eq_true] at h1
  have hlen := of_decide_eq_true h1.2.2.1
  have hkr : k < r.cells.length := by omega
  have hst := upTo_at h1.2.2.2 hkr
  unfold cellStep at hst
  rw [Bool.and_eq_true, get_at _ k hkr, get_at _ k hkl] at hst
  have hce : cellOf t r c.column = r.cells[k] := by unfold cellOf; rw [if_neg hn, he, Int.toNat_natCast]; simp [List.getD, hkr]
  rw [hce]
  have hd := hst.1
  have hfit := eq_of_beq hst.2
  generalize hD : r.cells[k] = D at hd hfit
  have hodd : odd0 t.columns[k] D = false := by
    unfold fitsCode at hfit
    cases e : odd0 t.columns[k] D
    · rfl
    · rw [e] at hfit; cases hfit
  have hle : D.length ≤ 1 := by
    unfold fitsCode at hfit
    rw [hodd] at hfit
    cases e : inB D.length t.columns[k].min t.columns[k].max
    · rw [e] at hfit; cases hfit
    · unfold inB at e; rw [hm] at e; simp at e; omega
  unfold compB compN
  by_cases hD0 : 0 < D.length
  · have e1 : ((D.length : Int) != 1) = false := by have : (D.length : Int) = 1 := by omega
                                                    rw [this]; rfl
    have e2 : ((D.length : Int) == 0) = false := by rw [beq_eq_false_iff_ne]; omega
    rw [e1, e2, getD_at D 0 hD0, getD_at _ 0 hv0]
    have kd : D[0].kind = 1 := by
      rw [odd0_at hD0] at hodd
      have : D[0].kind = t.columns[k].kind := by simpa using hodd
      rw [this, hk]
    show cmpF c.func (ordA D[0] c.value[0]) = cmpN c.func D[0].n c.value[0].n
    rw [ordA_int (datumOK_at hd hD0) (datumOK_at hv hv0) kd kv, cmpF_I]
  · have e0 : (D.length : Int) = 0 := by omega
    rw [e0]; rfl
def ReadS {α : Type} (R : Rd α) (w : World) (a : α) (e : Ending) (w' : World) : Prop := ∃ v bs, e = .returned v ∧ R w' bs [v] a ∧ Below w.heap.size w w'
theorem row_len {t : Table} {r : Row} (h : rowOK t r = true) : r.cells.length = t.columns.length := by
  unfold rowOK cellsIn at h
  rw [Bool.and_eq_true, Bool.and_eq_true, Bool.and_eq_true] at h
  exact of_decide_eq_true h.2.2.1
set_option maxHeartbeats 2000000 in
theorem impl_cell {w : World}  {bs_t : List Nat} {cs_t : List Value} {t : Table} (H_t : TableR w bs_t cs_t t) {bs_r : List Nat} {cs_r : List Value} {r : Row} (H_r : RowR w bs_r cs_r r) (s : ByteArray) (hl : r.cells.length = t.columns.length) :
    Calls Tryz.prog 142 #[.agg cs_t.toArray, .agg cs_r.toArray, .string s] w (ReadS AtomSR w (cellOf t r s)) := by
  have H0_t := H_t
  obtain ⟨t_v1, t_b1, t_v2, t_b2, rfl, rfl, hf_t, t_r1, t_r2⟩ := H_t
  obtain ⟨A_t1, c_t1, rfl, hlc_t1, hcm_t1, hel_t1⟩ := t_r1.use
  obtain ⟨A_t2, c_t2, rfl, hlc_t2, hcm_t2, hel_t2⟩ := t_r2.use
  have H0_r := H_r
  obtain ⟨r_v1, r_b1, rfl, rfl, hf_r, r_r1⟩ := H_r
  obtain ⟨A_r1, c_r1, rfl, hlc_r1, hcm_r1, hel_r1⟩ := r_r1.use
  have hbx := (((Below.refl w.heap.size w).alloc (Nat.le_refl _) (.cells #[.string t.name, .slice A_t1 t.columns.length c_t1, .slice A_t2 t.unique.length c_t2, .bool t.root] 37)).alloc (by simp; try omega) (.cells #[.int .i64 r.id, .slice A_r1 r.cells.length c_r1] 41))
  obtain ⟨q_t, q_r⟩ := two_at (Below.refl ((w.alloc (.cells #[.string t.name, .slice A_t1 t.columns.length c_t1, .slice A_t2 t.unique.length c_t2, .bool t.root] 37)).alloc (.cells #[.int .i64 r.id, .slice A_r1 r.cells.length c_r1] 41)).heap.size _)
  have HL := hide hl; clear hl hel_t1 hel_t2
  by_cases hn : colIdx t.columns s < 0
  · have hs : Hid (cellOf t r s = [⟨4, r.id, ⟨#[]⟩⟩]) := by show _ = _; unfold cellOf; rw [if_pos hn]
    have hd : decide (0 ≤ colIdx t.columns s) = false := decide_eq_false (by omega)
    clear hn
    go_enter Tryz.func142, Tryz.ntmps142
    go_wp2_with fail
    refine (impl_columnAt (TableR.good.nxt hbx H0_t) s).mono ?_; rintro e w1 ⟨rfl, hb1⟩; replace q_t := box_on q_t rfl hb1; replace q_r := box_on q_r rfl hb1; have hw1 := nxt hbx hb1
    have hblk := blk_new w1 #[.int .i64 4, .int .i64 r.id, .string ⟨#[]⟩] 143
    go_wp2_with fail
    go_ret
    rw [hs.out]
    exact ⟨_, [w1.heap.size], rfl, one_row (R := AtomR) (bk := []) (x := ⟨4, r.id, ⟨#[]⟩⟩) hblk ⟨rfl, rfl, (rfl : (Lit.int .i64 4).wf = true), hf_r, Nat.zero_le _⟩ rfl, hw1.alloc hw1.size _⟩
  obtain ⟨k, hk, he⟩ := colIdx_lt hn
  have hkr : k < r.cells.length := by have := HL.out; omega
  have hs : Hid (cellOf t r s = r.cells[k]) := by show _ = _; unfold cellOf; rw [if_neg hn, he, Int.toNat_natCast]; simp [List.getD, hkr]
  have HE := hide he
  clear he hn
  go_enter Tryz.func142, Tryz.ntmps142
  go_wp2_with fail
  refine (impl_columnAt (TableR.good.nxt hbx H0_t) s).mono ?_; rw [HE.out]; rintro e w2 ⟨rfl, hb2⟩; replace q_t := box_on q_t rfl hb2; replace q_r := box_on q_r rfl hb2; have hw2 := nxt hbx hb2
  obtain ⟨gb, go, gbk, ges, rfl, ghbl, ghcl, ghcell, gR, ghbk⟩ := hel_r1 k hkr
  obtain ⟨gA, gc, ghlc, rfl⟩ : ∃ A0 c0, r.cells[k].length ≤ c0 ∧ ges = [.slice A0 r.cells[k].length c0] := by obtain ⟨A0, c0, h, h2, _⟩ := gR; exact ⟨A0, c0, h2, h⟩
  have g_0 := (hw2.cell (p := ⟨gb, _, none⟩) ghbl).trans (ghcell 0 _ rfl)
  simp only [Nat.add_zero, Nat.mul_one] at g_0
  clear ghcell ghcl
  clear hel_r1
  go_wp2_with fail
  go_ret
  rw [hs.out]
  exact ⟨_, _, rfl, AtomSR.good.nxt hw2 gR, hw2⟩
set_option maxHeartbeats 2000000 in
theorem spec_l06Cell {w : World}  {bs_t : List Nat} {cs_t : List Value} {t : Table} (H_t : TableR w bs_t cs_t t) {bs_r : List Nat} {cs_r : List Value} {r : Row} (H_r : RowR w bs_r cs_r r) (s : ByteArray) (hl : r.cells.length = t.columns.length) :
    Calls Tryz.prog 131 #[.agg cs_t.toArray, .agg cs_r.toArray, .string s] w (ReadS AtomSR w (cellOf t r s)) := by
  have H0_t := H_t
  obtain ⟨t_v1, t_b1, t_v2, t_b2, rfl, rfl, hf_t, t_r1, t_r2⟩ := H_t
  obtain ⟨A_t1, c_t1, rfl, hlc_t1, hcm_t1, hel_t1⟩ := t_r1.use
  obtain ⟨A_t2, c_t2, rfl, hlc_t2, hcm_t2, hel_t2⟩ := t_r2.use
  have H0_r := H_r
  obtain ⟨r_v1, r_b1, rfl, rfl, hf_r, r_r1⟩ := H_r
  obtain ⟨A_r1, c_r1, rfl, hlc_r1, hcm_r1, hel_r1⟩ := r_r1.use
  have hbx := (((Below.refl w.heap.size w).alloc (Nat.le_refl _) (.cells #[.string t.name, .slice A_t1 t.columns.length c_t1, .slice A_t2 t.unique.length c_t2, .bool t.root] 37)).alloc (by simp; try omega) (.cells #[.int .i64 r.id, .slice A_r1 r.cells.length c_r1] 41))
  obtain ⟨q_t, q_r⟩ := two_at (Below.refl ((w.alloc (.cells #[.string t.name, .slice A_t1 t.columns.length c_t1, .slice A_t2 t.unique.length c_t2, .bool t.root] 37)).alloc (.cells #[.int .i64 r.id, .slice A_r1 r.cells.length c_r1] 41)).heap.size _)
  have HL := hide hl; clear hl hel_t1 hel_t2
  by_cases hn : colIdx t.columns s < 0
  · have hs : Hid (cellOf t r s = [⟨4, r.id, ⟨#[]⟩⟩]) := by show _ = _; unfold cellOf; rw [if_pos hn]
    have hd : decide (colIdx t.columns s < 0) = true := decide_eq_true hn
    clear hn
    go_enter Tryz.func131, Tryz.ntmps131
    go_wp2_with fail
    refine (spec_l04Column (TableR.good.nxt hbx H0_t) s).mono ?_; rintro e w1 ⟨rfl, hb1⟩; replace q_t := box_on q_t rfl hb1; replace q_r := box_on q_r rfl hb1; have hw1 := nxt hbx hb1
    have hblk := blk_new w1 #[.int .i64 4, .int .i64 r.id, .string ⟨#[]⟩] 143
    go_wp2_with fail
    go_ret
    rw [hs.out]
    exact ⟨_, [w1.heap.size], rfl, one_row (R := AtomR) (bk := []) (x := ⟨4, r.id, ⟨#[]⟩⟩) hblk ⟨rfl, rfl, (rfl : (Lit.int .i64 4).wf = true), hf_r, Nat.zero_le _⟩ rfl, hw1.alloc hw1.size _⟩
  obtain ⟨k, hk, he⟩ := colIdx_lt hn
  have hkr : k < r.cells.length := by have := HL.out; omega
  have hs : Hid (cellOf t r s = r.cells[k]) := by show _ = _; unfold cellOf; rw [if_neg hn, he, Int.toNat_natCast]; simp [List.getD, hkr]
  have HE := hide he
  clear he hn
  go_enter Tryz.func131, Tryz.ntmps131
  go_wp2_with fail
  refine (spec_l04Column (TableR.good.nxt hbx H0_t) s).mono ?_; rw [HE.out]; rintro e w2 ⟨rfl, hb2⟩; replace q_t := box_on q_t rfl hb2; replace q_r := box_on q_r rfl hb2; have hw2 := nxt hbx hb2
  obtain ⟨gb, go, gbk, ges, rfl, ghbl, ghcl, ghcell, gR, ghbk⟩ := hel_r1 k hkr
  obtain ⟨gA, gc, ghlc, rfl⟩ : ∃ A0 c0, r.cells[k].length ≤ c0 ∧ ges = [.slice A0 r.cells[k].length c0] := by obtain ⟨A0, c0, h, h2, _⟩ := gR; exact ⟨A0, c0, h2, h⟩
  have g_0 := (hw2.cell (p := ⟨gb, _, none⟩) ghbl).trans (ghcell 0 _ rfl)
  simp only [Nat.add_zero, Nat.mul_one] at g_0
  clear ghcell ghcl
  clear hel_r1
  go_wp2_with fail
  go_ret
  rw [hs.out]
  exact ⟨_, _, rfl, AtomSR.good.nxt hw2 gR, hw2⟩
set_option maxHeartbeats 4000000 in
theorem impl_compares {w : World}  {bs_d : List Nat} {v_d : Value} {d : List Atom} (H_d : AtomSR w bs_d [v_d] d) {bs_c : List Nat} {cs_c : List Value} {c : Cond} (H_c : CondR w bs_c cs_c c) (hv : 0 < c.value.length) :
    Calls Tryz.prog 145 #[v_d, .agg cs_c.toArray] w (fun e w' => e = .returned (.bool (compB c.func d c.value)) ∧ Below w.heap.size w w') := by
  have H0_d := H_d
  obtain ⟨A_d, c_d, rfl, hlc_d, hcm_d, hel_d⟩ := H_d.use
  have H0_c := H_c
  obtain ⟨c_v2, c_b2, rfl, rfl, hf_c, c_r2⟩ := H_c
  obtain ⟨A_c2, c_c2, rfl, hlc_c2, hcm_c2, hel_c2⟩ := c_r2.use
  have hbx := ((Below.refl w.heap.size w).alloc (Nat.le_refl _) (.cells #[.string c.column, .int .i64 c.func, .slice A_c2 c.value.length c_c2] 95))
  have q_c := blk_cells (blk_new w #[.string c.column, .int .i64 c.func, .slice A_c2 c.value.length c_c2] 95)
  rcases Bool.eq_false_or_eq_true ((d.length : Int) != 1) with h1 | h1
  · clear hel_d hel_c2
    go_enter Tryz.func145, Tryz.ntmps145
    go_wp2_with fail
    go_ret
    exact ⟨ret_bool (by unfold compB; rw [h1]; rfl), hbx⟩
  have hd1 : (d.length : Int) = 1 := by simpa using h1
  have hd0 : 0 < d.length := by omega
  obtain ⟨ab, ao, abk, aes, rfl, ahbl, ahcl, ahcell, ⟨_, ahes, ahf⟩, _⟩ := hel_d 0 hd0; subst ahes
  obtain ⟨vb, vo, vbk, ves, rfl, vhbl, vhcl, vhcell, ⟨_, vhes, vhf⟩, _⟩ := hel_c2 0 hv; subst vhes
  have ak0 := Fw.cell ((hbx.cell (p := ⟨ab, _, none⟩) ahbl).trans (ahcell 0 _ rfl))
  have ak1 := Fw.cell ((hbx.cell (p := ⟨ab, _, none⟩) ahbl).trans (ahcell 1 _ rfl))
  have ak2 := Fw.cell ((hbx.cell (p := ⟨ab, _, none⟩) ahbl).trans (ahcell 2 _ rfl))
  simp only [Nat.zero_mul, Nat.add_zero, Nat.zero_add] at ak0 ak1 ak2; clear ahcell ahcl
  have vk0 := Fw.cell ((hbx.cell (p := ⟨vb, _, none⟩) vhbl).trans (vhcell 0 _ rfl))
  have vk1 := Fw.cell ((hbx.cell (p := ⟨vb, _, none⟩) vhbl).trans (vhcell 1 _ rfl))
  have vk2 := Fw.cell ((hbx.cell (p := ⟨vb, _, none⟩) vhbl).trans (vhcell 2 _ rfl))
  simp only [Nat.zero_mul, Nat.add_zero, Nat.zero_add] at vk0 vk1 vk2; clear vhcell vhcl
  clear hel_d hel_c2
  have hs : Hid (compB c.func d c.value = cmpF c.func (ordA d[0] c.value[0])) := by show _ = _; unfold compB; rw [h1, getD_at d 0 hd0, getD_at _ 0 hv]; rfl
  have H1 := hide h1; clear hd1
  have A2 := hide (fun (W : World) => impl_compareAtoms d[0] c.value[0] W)
  go_enter Tryz.func145, Tryz.ntmps145
  go_wp2_with fail
  have q_cF0 := Fw.cell (box_cell q_c 0 rfl)
  have q_cF1 := Fw.cell (box_cell q_c 1 rfl)
  have q_cF2 := Fw.cell (box_cell q_c 2 rfl)
  refine region_quiet (by kernel_rfl) (by kernel_rfl) ?_
  repeat (go_big_quiet_step ((first | (go_at_call 165; exact quiet_of (A2.out _)))))
  refine wpQuiet_nil ?_; intro w1 hb1; replace q_c := box_on q_c rfl hb1; have hw1 := nxt hbx hb1; clear q_cF0 q_cF1 q_cF2 ak0 ak1 ak2 vk0 vk1 vk2
  rcases Bool.eq_false_or_eq_true (c.func == 3) with h3 | h3
  · go_wp2_with fail
    go_ret
    exact ⟨ret_bool (by rw [hs.out]; unfold cmpF; rw [h3]; rfl), hw1⟩
  rcases Bool.eq_false_or_eq_true (c.func == 4) with h4 | h4
  · go_wp2_with fail
    go_ret
    exact ⟨ret_bool (by rw [hs.out]; unfold cmpF; rw [h3, h4]; rfl), hw1⟩
  rcases Bool.eq_false_or_eq_true (c.func == 5) with h5 | h5
  · go_wp2_with fail
    go_ret
    exact ⟨ret_bool (by rw [hs.out]; unfold cmpF; rw [h3, h4, h5]; rfl), hw1⟩
  go_wp2_with fail
  go_ret
  exact ⟨ret_bool (by rw [hs.out]; unfold cmpF; rw [h3, h4, h5]; rfl), hw1⟩
end Go.Proofs.YthbebbnidgeaeaaGreat
