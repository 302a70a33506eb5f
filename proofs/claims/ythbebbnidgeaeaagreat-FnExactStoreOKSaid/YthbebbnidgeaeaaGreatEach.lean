/- A call for each set of a column of Ids. No statement is proved here; no conditions. Written by a program (gen30.py). -/
import Derived.Test.YthbebbnidgeaeaaGreatStoreF
import Derived.Test.YthbebbnidgeaeaaGreatUpd
import Derived.Test.YthbebbnidgeaeaaGreatDrawn
import Derived.Shelf.Abstract
namespace Go.Proofs.YthbebbnidgeaeaaGreat
open Go.ChangeShapes Go.WideShapes Go.ChangeAt Go.RowKit Go.Deep
set_option maxRecDepth 100000
set_option linter.unusedVariables false
set_option linter.unusedSimpArgs false

def foldN {α : Type} (f : Nat → α → α) : Nat → α → α
  | 0, z => z
  | n + 1, z => f n (foldN f n z)
def colIn (s : Schema) (i k : Nat) : Column := (s.tables.getD i default).columns.getD k default
def cellAt (x : Store) (i j k : Nat) : List Atom := ((x.tables.getD i default).getD j default).cells.getD k default
abbrev Step := Column → Int → List Atom → Int → Int
def eachRow (s : Schema) (x : Store) (f : Step) (i k : Nat) : Nat → Int → Int := foldN fun j z => f (colIn s i k) (tblIdx s.tables (colIn s i k).ref) (cellAt x i j k) z
def colTurn (s : Schema) (x : Store) (f : Step) (i k : Nat) (z : Int) : Int := cond ((colIn s i k).kind != 4) z (eachRow s x f i k (x.tables.getD i default).length z)
def eachCol (s : Schema) (x : Store) (f : Step) (i : Nat) : Nat → Int → Int := foldN (colTurn s x f i)
def tabTurn (s : Schema) (x : Store) (f : Step) (i : Nat) (z : Int) : Int := eachCol s x f i (s.tables.getD i default).columns.length z
def eachF (s : Schema) (x : Store) (f : Step) : Nat → Int → Int := foldN (tabTurn s x f)
theorem eachF_succ (s : Schema) (x : Store) (f : Step) (i : Nat) (z : Int) (h : i < s.tables.length) : eachF s x f (i + 1) z = eachCol s x f i s.tables[i].columns.length (eachF s x f i z) := by
  show tabTurn s x f i _ = _; unfold tabTurn; rw [get_at _ i h]; rfl
theorem eachCol_succ (s : Schema) (x : Store) (f : Step) (i k : Nat) (z : Int) : eachCol s x f i (k + 1) z = colTurn s x f i k (eachCol s x f i k z) := rfl
theorem eachRow_succ (s : Schema) (x : Store) (f : Step) (i k j : Nat) (z : Int) : eachRow s x f i k (j + 1) z = f (colIn s i k) (tblIdx s.tables (colIn s i k).ref) (cellAt x i j k) (eachRow s x f i k j z) := rfl
theorem colIn_at {s : Schema} {i k : Nat} (hi : i < s.tables.length) (hk : k < s.tables[i].columns.length) : colIn s i k = s.tables[i].columns[k] := by unfold colIn; rw [get_at _ i hi, get_at _ k hk]
theorem cellAt_at {x : Store} {i j k : Nat} (hi : i < x.tables.length) (hj : j < x.tables[i].length) (hk : k < x.tables[i][j].cells.length) : cellAt x i j k = x.tables[i][j].cells[k] := by
  unfold cellAt; rw [get_at _ i hi, get_at _ j hj]; simp [List.getD, hk]
theorem sch_len {s : Schema} (h : schOK s = true) : s.tables.length ≤ 4 := by unfold schOK at h; rw [Bool.and_eq_true] at h; have := inB_iff.1 h.1; omega
theorem sch_tbl {s : Schema} (h : schOK s = true) {i : Nat} (hi : i < s.tables.length) : tblOK s.tables[i] = true := by
  unfold schOK at h; rw [Bool.and_eq_true, Bool.and_eq_true] at h
  have := upTo_at h.2.1 hi; unfold tblStep at this; rw [get_at _ i hi, Bool.and_eq_true] at this; exact this.1
theorem tbl_colsN {t : Table} (h : tblOK t = true) : t.columns.length ≤ 6 := by
  unfold tblOK at h; rw [Bool.and_eq_true, Bool.and_eq_true] at h; have := inB_iff.1 h.2.1; omega
theorem updB {w W0 wr : World} {m : Nat} (h0 : Below w.heap.size w W0) (hu : Upd [m] W0 wr) (hm : w.heap.size ≤ m) : Below w.heap.size w wr :=
  h0.trans (hu.below _ h0.size fun b hb => by simp at hb; omega)
theorem Upd.alloc {bs : List Nat} {w w1 : World} (h : Upd bs w w1) (o : Obj) : Upd bs w (w1.alloc o) := h.call ((Below.refl _ _).alloc (Nat.le_refl _) o)
set_option maxHeartbeats 16000000 in
theorem impl_eachSet {w w1 : World} {bs_s bs_x : List Nat} {cs_s cs_x : List Value} {s : Schema} {x : Store} (H_s : SchemaR w bs_s cs_s s) (H_x : StoreR w bs_x cs_x x) (hb : Below w.heap.size w w1) (hok : storeFit s x = true)
    {m : Nat} {z0 : Int} (hm : w.heap.size ≤ m) (q0 : w1.heap[m]? = some (.cells #[.int .i64 z0] 3 (0, 0))) (hz : 0 ≤ z0 ∧ z0 ≤ 30) (g : Nat) (lb : Array Value) (eg : ∀ args w, (callFunc g args).run Tryz.prog w = .ok (.enter g args) w) (f : Step)
    (hst : ∀ c r d (z : Int) (n : Nat), 0 ≤ z → z ≤ 30 + n → 0 ≤ f c r d z ∧ f c r d z ≤ 30 + (n + 1 : Nat))
    (hF : ∀ (i k j : Nat) (hi : i < s.tables.length) (hix : i < x.tables.length) (hk : k < s.tables[i].columns.length) (hj : j < x.tables[i].length) (hjk : k < x.tables[i][j].cells.length) (z : Int) (W : World) (bs : List Nat) (v : Value), s.tables[i].columns[k].kind = 4 → Below w.heap.size w W → AtomSR W bs [v] x.tables[i][j].cells[k] → W.heap[m]? = some (.cells #[.int .i64 z] 3 (0, 0)) → 0 ≤ z → z ≤ 1000000 →
      Calls Tryz.prog g (#[.agg #[.string s.tables[i].columns[k].name, .int .i64 s.tables[i].columns[k].kind, .int .i64 s.tables[i].columns[k].min, .int .i64 s.tables[i].columns[k].max, .int .i64 s.tables[i].columns[k].low, .int .i64 s.tables[i].columns[k].high, .string s.tables[i].columns[k].ref, .bool s.tables[i].columns[k].strong], .int .i64 (tblIdx s.tables s.tables[i].columns[k].ref), v] ++ lb) W fun e W' => e = .returned (.tuple #[]) ∧ W'.heap[m]? = some (.cells #[.int .i64 (f s.tables[i].columns[k] (tblIdx s.tables s.tables[i].columns[k].ref) x.tables[i][j].cells[k] z)] 3 (0, 0)) ∧ Upd [m] W W') :
    Calls Tryz.prog 113 #[.agg cs_s.toArray, .agg cs_x.toArray, .func (.func g) #[] lb] w1 fun e w' => e = .returned (.tuple #[]) ∧ w'.heap[m]? = some (.cells #[.int .i64 (eachF s x f s.tables.length z0)] 3 (0, 0)) ∧ Upd [m] w1 w' := by
  have hin := hide (storeFit_in hok); have hsc := hide (storeFit_sch hok); have HL := hide (storeIn_len hin.out); have hn4 := sch_len hsc.out; clear hok
  have hm1 := lt_of_cells q0
  have HF := hide hF; have HST := hide hst; clear hF hst
  obtain ⟨v1, b1, rfl, rfl, hf_s, s_r0⟩ := H_s; have s_r00 := s_r0; obtain ⟨A_s, c_s, rfl, hlc_s, hcm_s, hel_s⟩ := s_r0.use
  obtain ⟨v2, b2, rfl, rfl, hf_x, x_r0⟩ := H_x; obtain ⟨A_x, c_x, rfl, hlc_x, hcm_x, hel_x⟩ := x_r0.use
  have hbx := (hb.alloc hb.size (.cells #[.slice A_s s.tables.length c_s] 61)).alloc (by have := hb.size; simp; omega) (.cells #[.slice A_x x.tables.length c_x, .int .i64 x.next] 65)
  obtain ⟨q_s, q_x⟩ := two_at (Below.refl ((w1.alloc (.cells #[.slice A_s s.tables.length c_s] 61)).alloc (.cells #[.slice A_x x.tables.length c_x, .int .i64 x.next] 65)).heap.size _)
  have q1 : (World.heap ((w1.alloc (.cells #[.slice A_s s.tables.length c_s] 61)).alloc (.cells #[.slice A_x x.tables.length c_x, .int .i64 x.next] 65)))[m]? = some (.cells #[.int .i64 z0] 3 (0, 0)) := blk_old (blk_old q0 _) _
  have hU : Upd [m] w1 ((w1.alloc (.cells #[.slice A_s s.tables.length c_s] 61)).alloc (.cells #[.slice A_x x.tables.length c_x, .int .i64 x.next] 65)) := ((Upd.refl _ _).alloc _).alloc _
  have ns : w1.heap.size ∉ [m] := by simp; omega
  have nx : w1.heap.size + 1 ∉ [m] := by simp; omega
  go_enter Tryz.func113, Tryz.ntmps113
  go_wp2_with fail
  go_loopw [15] (fun i wr => ∃ k : Nat, k ≤ s.tables.length ∧ i = .int .i64 k ∧ Hid (0 ≤ eachF s x f k z0 ∧ eachF s x f k z0 ≤ 30 + (72 * k : Nat)) ∧ Hid (wr.heap[m]? = some (.cells #[.int .i64 (eachF s x f k z0)] 3 (0, 0))) ∧ Upd [m] ((w1.alloc (.cells #[.slice A_s s.tables.length c_s] 61)).alloc (.cells #[.slice A_x x.tables.length c_x, .int .i64 x.next] 65)) wr) (fun i _ => s.tables.length - (intOf i).toNat)
  case atStart => exact ⟨0, Nat.zero_le _, rfl, ⟨hz.1, by show z0 ≤ _; have := hz.2; omega⟩, q1, Upd.refl _ _⟩
  case round =>
    obtain ⟨k1, hk1, rfl, hB1, hQ1, hu1⟩ := hrel
    obtain ⟨wl1, rfl⟩ : ∃ w' : World, w' = wr := ⟨_, rfl⟩
    have hwl1 := updB hbx hu1 hm; replace q_s := box_upd q_s rfl hu1 ns; replace q_x := box_upd q_x rfl hu1 nx; clear q1 q0; have hm2 := lt_of_cells hQ1.out
    by_cases hlt1 : k1 < s.tables.length
    · have hkx : k1 < x.tables.length := by have := HL.out; omega
      have hfr := hide (storeIn_at hin.out hlt1 hkx); have hro := fitRows_len hfr.out; have hco := tbl_colsN (sch_tbl hsc.out hlt1)
      obtain ⟨tb, to, tbk, tes, rfl, thbl, thcl, thcell, tR, thbk⟩ := hel_s k1 hlt1
      have tR0 := tR
      obtain ⟨tv1, tb1, tv2, tb2, _, thes, thf, tr1, tr2⟩ := tR
      subst thes
      obtain ⟨tA1, tc1, rfl, thlc1, thcm1, thel1⟩ := tr1.use
      obtain ⟨tA2, tc2, rfl, thlc2, thcm2, thel2⟩ := tr2.use
      have t_0 := (hwl1.cell (p := ⟨tb, _, none⟩) thbl).trans (thcell 0 _ rfl)
      have t_1 := (hwl1.cell (p := ⟨tb, _, none⟩) thbl).trans (thcell 1 _ rfl)
      have t_2 := (hwl1.cell (p := ⟨tb, _, none⟩) thbl).trans (thcell 2 _ rfl)
      have t_3 := (hwl1.cell (p := ⟨tb, _, none⟩) thbl).trans (thcell 3 _ rfl)
      simp only [Nat.add_zero] at t_0 t_1 t_2 t_3
      clear thcell thcl
      go_wp2_with fail
      replace q_s := box_on q_s rfl ((Below.refl (World.heap (wl1)).size (wl1)).alloc (Nat.le_refl _) (.cells #[.string s.tables[k1].name, .slice tA1 s.tables[k1].columns.length tc1, .slice tA2 s.tables[k1].unique.length tc2, .bool s.tables[k1].root] 37))
      replace q_x := box_on q_x rfl ((Below.refl (World.heap (wl1)).size (wl1)).alloc (Nat.le_refl _) (.cells #[.string s.tables[k1].name, .slice tA1 s.tables[k1].columns.length tc1, .slice tA2 s.tables[k1].unique.length tc2, .bool s.tables[k1].root] 37))
      have q_t := blk_cells (blk_new (wl1) #[.string s.tables[k1].name, .slice tA1 s.tables[k1].columns.length tc1, .slice tA2 s.tables[k1].unique.length tc2, .bool s.tables[k1].root] 37)
      have hn1 := (hwl1).alloc (hwl1).size (.cells #[.string s.tables[k1].name, .slice tA1 s.tables[k1].columns.length tc1, .slice tA2 s.tables[k1].unique.length tc2, .bool s.tables[k1].root] 37)
      clear t_0 t_1 t_2 t_3
      have q1 : (World.heap ((wl1).alloc (.cells #[.string s.tables[k1].name, .slice tA1 s.tables[k1].columns.length tc1, .slice tA2 s.tables[k1].unique.length tc2, .bool s.tables[k1].root] 37)))[m]? = some (.cells #[.int .i64 (eachF s x f k1 z0)] 3 (0, 0)) := blk_old hQ1.out _
      have nt : wl1.heap.size ∉ [m] := by simp; omega
      have HU1 := hide (hu1.alloc (.cells #[.string s.tables[k1].name, .slice tA1 s.tables[k1].columns.length tc1, .slice tA2 s.tables[k1].unique.length tc2, .bool s.tables[k1].root] 37)); clear hu1
      go_loopw [23] (fun i wr => ∃ k : Nat, k ≤ s.tables[k1].columns.length ∧ i = .int .i64 k ∧ Hid (0 ≤ eachCol s x f k1 k (eachF s x f k1 z0) ∧ eachCol s x f k1 k (eachF s x f k1 z0) ≤ 30 + (72 * k1 + 12 * k : Nat)) ∧ Hid (wr.heap[m]? = some (.cells #[.int .i64 (eachCol s x f k1 k (eachF s x f k1 z0))] 3 (0, 0))) ∧ Upd [m] ((wl1).alloc (.cells #[.string s.tables[k1].name, .slice tA1 s.tables[k1].columns.length tc1, .slice tA2 s.tables[k1].unique.length tc2, .bool s.tables[k1].root] 37)) wr) (fun i _ => s.tables[k1].columns.length - (intOf i).toNat)
      case atStart => exact ⟨0, Nat.zero_le _, rfl, ⟨hB1.out.1, (show eachF s x f k1 z0 ≤ 30 + ((72 * k1 + 12 * 0 : Nat) : Int) from by have := hB1.out.2; omega)⟩, q1, Upd.refl _ _⟩
      case round =>
        obtain ⟨k2, hk2, rfl, hB2, hQ2, hu2⟩ := hrel
        obtain ⟨wl2, rfl⟩ : ∃ w' : World, w' = wr := ⟨_, rfl⟩
        have hwl2 := updB hn1 hu2 hm; replace q_s := box_upd q_s rfl hu2 ns; replace q_x := box_upd q_x rfl hu2 nx; replace q_t := box_upd q_t rfl hu2 nt; clear q1; have hm3 := lt_of_cells hQ2.out
        by_cases hlt2 : k2 < s.tables[k1].columns.length
        · have hcol := hide (colIn_at hlt1 hlt2)
          obtain ⟨cb, co, cbk, ces, rfl, chbl, chcl, chcell, cR, chbk⟩ := thel1 k2 hlt2
          obtain ⟨_, ches, chf⟩ := cR
          subst ches
          have c_0 := (hwl2.cell (p := ⟨cb, _, none⟩) chbl).trans (chcell 0 _ rfl)
          have c_1 := (hwl2.cell (p := ⟨cb, _, none⟩) chbl).trans (chcell 1 _ rfl)
          have c_2 := (hwl2.cell (p := ⟨cb, _, none⟩) chbl).trans (chcell 2 _ rfl)
          have c_3 := (hwl2.cell (p := ⟨cb, _, none⟩) chbl).trans (chcell 3 _ rfl)
          have c_4 := (hwl2.cell (p := ⟨cb, _, none⟩) chbl).trans (chcell 4 _ rfl)
          have c_5 := (hwl2.cell (p := ⟨cb, _, none⟩) chbl).trans (chcell 5 _ rfl)
          have c_6 := (hwl2.cell (p := ⟨cb, _, none⟩) chbl).trans (chcell 6 _ rfl)
          have c_7 := (hwl2.cell (p := ⟨cb, _, none⟩) chbl).trans (chcell 7 _ rfl)
          simp only [Nat.add_zero] at c_0 c_1 c_2 c_3 c_4 c_5 c_6 c_7
          clear chcell chcl
          replace q_s := box_on q_s rfl ((Below.refl (World.heap (wl2)).size (wl2)).alloc (Nat.le_refl _) (.cells #[.string s.tables[k1].columns[k2].name, .int .i64 s.tables[k1].columns[k2].kind, .int .i64 s.tables[k1].columns[k2].min, .int .i64 s.tables[k1].columns[k2].max, .int .i64 s.tables[k1].columns[k2].low, .int .i64 s.tables[k1].columns[k2].high, .string s.tables[k1].columns[k2].ref, .bool s.tables[k1].columns[k2].strong] 130))
          replace q_x := box_on q_x rfl ((Below.refl (World.heap (wl2)).size (wl2)).alloc (Nat.le_refl _) (.cells #[.string s.tables[k1].columns[k2].name, .int .i64 s.tables[k1].columns[k2].kind, .int .i64 s.tables[k1].columns[k2].min, .int .i64 s.tables[k1].columns[k2].max, .int .i64 s.tables[k1].columns[k2].low, .int .i64 s.tables[k1].columns[k2].high, .string s.tables[k1].columns[k2].ref, .bool s.tables[k1].columns[k2].strong] 130))
          replace q_t := box_on q_t rfl ((Below.refl (World.heap (wl2)).size (wl2)).alloc (Nat.le_refl _) (.cells #[.string s.tables[k1].columns[k2].name, .int .i64 s.tables[k1].columns[k2].kind, .int .i64 s.tables[k1].columns[k2].min, .int .i64 s.tables[k1].columns[k2].max, .int .i64 s.tables[k1].columns[k2].low, .int .i64 s.tables[k1].columns[k2].high, .string s.tables[k1].columns[k2].ref, .bool s.tables[k1].columns[k2].strong] 130))
          have q_c := blk_cells (blk_new (wl2) #[.string s.tables[k1].columns[k2].name, .int .i64 s.tables[k1].columns[k2].kind, .int .i64 s.tables[k1].columns[k2].min, .int .i64 s.tables[k1].columns[k2].max, .int .i64 s.tables[k1].columns[k2].low, .int .i64 s.tables[k1].columns[k2].high, .string s.tables[k1].columns[k2].ref, .bool s.tables[k1].columns[k2].strong] 130)
          have hn2 := (hwl2).alloc (hwl2).size (.cells #[.string s.tables[k1].columns[k2].name, .int .i64 s.tables[k1].columns[k2].kind, .int .i64 s.tables[k1].columns[k2].min, .int .i64 s.tables[k1].columns[k2].max, .int .i64 s.tables[k1].columns[k2].low, .int .i64 s.tables[k1].columns[k2].high, .string s.tables[k1].columns[k2].ref, .bool s.tables[k1].columns[k2].strong] 130)
          obtain ⟨pb, po, pbk, pes, rfl, phbl, phcl, phcell, pR, phbk⟩ := hel_x k1 hkx
          obtain ⟨pA, pc, phlc, rfl⟩ : ∃ A0 c0, x.tables[k1].length ≤ c0 ∧ pes = [.slice A0 x.tables[k1].length c0] := by obtain ⟨A0, c0, h, h2, _⟩ := pR; exact ⟨A0, c0, h2, h⟩
          have p_0 := (hn2.cell (p := ⟨pb, _, none⟩) phbl).trans (phcell 0 _ rfl)
          simp only [Nat.add_zero, Nat.mul_one] at p_0
          have pR2 := pR; obtain ⟨pA', pc', hpv, _, _, pel⟩ := pR.use; injection hpv with e1 e2 e3; subst e1; clear e2 e3
          have q1 : (World.heap ((wl2).alloc (.cells #[.string s.tables[k1].columns[k2].name, .int .i64 s.tables[k1].columns[k2].kind, .int .i64 s.tables[k1].columns[k2].min, .int .i64 s.tables[k1].columns[k2].max, .int .i64 s.tables[k1].columns[k2].low, .int .i64 s.tables[k1].columns[k2].high, .string s.tables[k1].columns[k2].ref, .bool s.tables[k1].columns[k2].strong] 130)))[m]? = some (.cells #[.int .i64 (eachCol s x f k1 k2 (eachF s x f k1 z0))] 3 (0, 0)) := blk_old hQ2.out _
          have nc : wl2.heap.size ∉ [m] := by simp; omega
          have HU2 := hide (hu2.alloc (.cells #[.string s.tables[k1].columns[k2].name, .int .i64 s.tables[k1].columns[k2].kind, .int .i64 s.tables[k1].columns[k2].min, .int .i64 s.tables[k1].columns[k2].max, .int .i64 s.tables[k1].columns[k2].low, .int .i64 s.tables[k1].columns[k2].high, .string s.tables[k1].columns[k2].ref, .bool s.tables[k1].columns[k2].strong] 130)); clear hu2
          cases h4 : (s.tables[k1].columns[k2].kind != 4)
          · have hV : Hid (eachCol s x f k1 (k2 + 1) (eachF s x f k1 z0) = eachRow s x f k1 k2 x.tables[k1].length (eachCol s x f k1 k2 (eachF s x f k1 z0))) := by show _ = _; rw [eachCol_succ]; unfold colTurn; rw [hcol.out, h4, get_at _ k1 hkx]; rfl
            have h44 := hide (by simpa using h4 : s.tables[k1].columns[k2].kind = 4)
            go_wp2_with fail
            clear c_0 c_1 c_2 c_3 c_4 c_5 c_6 c_7 p_0 h4
            go_loopw [37] (fun i wr => ∃ k : Nat, k ≤ x.tables[k1].length ∧ i = .int .i64 k ∧ Hid (0 ≤ eachRow s x f k1 k2 k (eachCol s x f k1 k2 (eachF s x f k1 z0)) ∧ eachRow s x f k1 k2 k (eachCol s x f k1 k2 (eachF s x f k1 z0)) ≤ 30 + (72 * k1 + 12 * k2 + k : Nat)) ∧ Hid (wr.heap[m]? = some (.cells #[.int .i64 (eachRow s x f k1 k2 k (eachCol s x f k1 k2 (eachF s x f k1 z0)))] 3 (0, 0))) ∧ Upd [m] ((wl2).alloc (.cells #[.string s.tables[k1].columns[k2].name, .int .i64 s.tables[k1].columns[k2].kind, .int .i64 s.tables[k1].columns[k2].min, .int .i64 s.tables[k1].columns[k2].max, .int .i64 s.tables[k1].columns[k2].low, .int .i64 s.tables[k1].columns[k2].high, .string s.tables[k1].columns[k2].ref, .bool s.tables[k1].columns[k2].strong] 130)) wr) (fun i _ => x.tables[k1].length - (intOf i).toNat)
            case atStart => exact ⟨0, Nat.zero_le _, rfl, ⟨hB2.out.1, (show eachCol s x f k1 k2 (eachF s x f k1 z0) ≤ 30 + ((72 * k1 + 12 * k2 + 0 : Nat) : Int) from by have := hB2.out.2; omega)⟩, q1, Upd.refl _ _⟩
            case round =>
              obtain ⟨k3, hk3, rfl, hB3, hQ3, hu3⟩ := hrel
              obtain ⟨wl3, rfl⟩ : ∃ w' : World, w' = wr := ⟨_, rfl⟩
              have hwl3 := updB hn2 hu3 hm; replace q_s := box_upd q_s rfl hu3 ns; replace q_x := box_upd q_x rfl hu3 nx; replace q_t := box_upd q_t rfl hu3 nt; replace q_c := box_upd q_c rfl hu3 nc; clear q1; have hm4 := lt_of_cells hQ3.out
              by_cases hlt3 : k3 < x.tables[k1].length
              · have hce : Hid (x.tables[k1][k3].cells.length = s.tables[k1].columns.length) := cellsIn_len (fitRow_cells (fitRows_row hfr.out hlt3))
                have hkc : k2 < x.tables[k1][k3].cells.length := by have := hce.out; omega
                obtain ⟨gb, go, gbk, ges, rfl, ghbl, ghcl, ghcell, gR, ghbk⟩ := pel k3 hlt3
                have gR0 := gR
                obtain ⟨gv1, gb1, _, ghes, ghf, gr1⟩ := gR
                subst ghes
                obtain ⟨gA1, gc1, rfl, ghlc1, ghcm1, ghel1⟩ := gr1.use
                have g_0 := (hwl3.cell (p := ⟨gb, _, none⟩) ghbl).trans (ghcell 0 _ rfl)
                have g_1 := (hwl3.cell (p := ⟨gb, _, none⟩) ghbl).trans (ghcell 1 _ rfl)
                simp only [Nat.add_zero] at g_0 g_1
                clear ghcell ghcl
                go_wp2_with fail
                replace q_s := box_on q_s rfl ((Below.refl (World.heap (wl3)).size (wl3)).alloc (Nat.le_refl _) (.cells #[.int .i64 x.tables[k1][k3].id, .slice gA1 x.tables[k1][k3].cells.length gc1] 41))
                replace q_x := box_on q_x rfl ((Below.refl (World.heap (wl3)).size (wl3)).alloc (Nat.le_refl _) (.cells #[.int .i64 x.tables[k1][k3].id, .slice gA1 x.tables[k1][k3].cells.length gc1] 41))
                replace q_t := box_on q_t rfl ((Below.refl (World.heap (wl3)).size (wl3)).alloc (Nat.le_refl _) (.cells #[.int .i64 x.tables[k1][k3].id, .slice gA1 x.tables[k1][k3].cells.length gc1] 41))
                replace q_c := box_on q_c rfl ((Below.refl (World.heap (wl3)).size (wl3)).alloc (Nat.le_refl _) (.cells #[.int .i64 x.tables[k1][k3].id, .slice gA1 x.tables[k1][k3].cells.length gc1] 41))
                have q_r := blk_cells (blk_new (wl3) #[.int .i64 x.tables[k1][k3].id, .slice gA1 x.tables[k1][k3].cells.length gc1] 41)
                have hn3 := (hwl3).alloc (hwl3).size (.cells #[.int .i64 x.tables[k1][k3].id, .slice gA1 x.tables[k1][k3].cells.length gc1] 41)
                have q1 : (World.heap ((wl3).alloc (.cells #[.int .i64 x.tables[k1][k3].id, .slice gA1 x.tables[k1][k3].cells.length gc1] 41)))[m]? = some (.cells #[.int .i64 (eachRow s x f k1 k2 k3 (eachCol s x f k1 k2 (eachF s x f k1 z0)))] 3 (0, 0)) := blk_old hQ3.out _
                have HU3 := hide (hu3.alloc (.cells #[.int .i64 x.tables[k1][k3].id, .slice gA1 x.tables[k1][k3].cells.length gc1] 41)); clear hu3 g_0 g_1
                have GT := hide (TableSR.good.nxt (hn3.drew) s_r00)
                have gW := Below.refl (World.heap ((wl3).alloc (.cells #[.int .i64 x.tables[k1][k3].id, .slice gA1 x.tables[k1][k3].cells.length gc1] 41))).size ((wl3).alloc (.cells #[.int .i64 x.tables[k1][k3].id, .slice gA1 x.tables[k1][k3].cells.length gc1] 41))
                obtain ⟨yb, yo, ybk, yes, rfl, yhbl, yhcl, yhcell, yR, yhbk⟩ := ghel1 k2 hkc
                obtain ⟨yA, yc, yhlc, rfl⟩ : ∃ A0 c0, x.tables[k1][k3].cells[k2].length ≤ c0 ∧ yes = [.slice A0 x.tables[k1][k3].cells[k2].length c0] := by obtain ⟨A0, c0, h, h2, _⟩ := yR; exact ⟨A0, c0, h2, h⟩
                have y_0 := (hn3.cell (p := ⟨yb, _, none⟩) yhbl).trans (yhcell 0 _ rfl)
                simp only [Nat.add_zero, Nat.mul_one] at y_0
                have e0 := box_cell q_c 0 rfl
                have e1 := box_cell q_c 1 rfl
                have e2 := box_cell q_c 2 rfl
                have e3 := box_cell q_c 3 rfl
                have e4 := box_cell q_c 4 rfl
                have e5 := box_cell q_c 5 rfl
                have e6 := box_cell q_c 6 rfl
                have e7 := box_cell q_c 7 rfl
                have es := box_cell q_s 0 rfl; have er0 := box_cell q_r 0 rfl; have er1 := box_cell q_r 1 rfl; have ed := y_0
                refine wp_region_tail (fun w' => w'.cell? ⟨wl2.heap.size, 0, none⟩ = some (.string s.tables[k1].columns[k2].name) ∧ w'.cell? ⟨wl2.heap.size, 1, none⟩ = some (.int .i64 s.tables[k1].columns[k2].kind) ∧ w'.cell? ⟨wl2.heap.size, 2, none⟩ = some (.int .i64 s.tables[k1].columns[k2].min) ∧ w'.cell? ⟨wl2.heap.size, 3, none⟩ = some (.int .i64 s.tables[k1].columns[k2].max) ∧ w'.cell? ⟨wl2.heap.size, 4, none⟩ = some (.int .i64 s.tables[k1].columns[k2].low) ∧ w'.cell? ⟨wl2.heap.size, 5, none⟩ = some (.int .i64 s.tables[k1].columns[k2].high) ∧ w'.cell? ⟨wl2.heap.size, 6, none⟩ = some (.string s.tables[k1].columns[k2].ref) ∧ w'.cell? ⟨wl2.heap.size, 7, none⟩ = some (.bool s.tables[k1].columns[k2].strong) ∧ w'.cell? ⟨w1.heap.size, 0, none⟩ = some (.slice (some ⟨tb, to, none⟩) s.tables.length c_s) ∧ w'.cell? ⟨wl3.heap.size, 0, none⟩ = some (.int .i64 x.tables[k1][k3].id) ∧ w'.cell? ⟨wl3.heap.size, 1, none⟩ = some (.slice (some ⟨yb, yo, none⟩) x.tables[k1][k3].cells.length gc1) ∧ w'.cell? ⟨yb, yo + k2, none⟩ = some (.slice yA x.tables[k1][k3].cells[k2].length yc)) 11 (by kernel_rfl) (by decide) (show _ from ⟨e0, e1, e2, e3, e4, e5, e6, e7, es, er0, er1, ed⟩) (fun hHeld => ?_)
                refine wpT_take (i := 0) rfl (by kernel_rfl) (fun _ _ _ h => h) (Or.inl ⟨by rfl, fun w hSw => by (try dsimp only at hSw); first | (go_simp; done) | (go_simp; with_reducible rfl)⟩) (by assumption) ?_
                (try simp only [Act.put, List.setIfInBounds_toArray, List.set_cons_zero, List.set_cons_succ])
                refine wpT_take (i := 1) rfl (by kernel_rfl) (fun _ _ _ h => h) (Or.inl ⟨by rfl, fun w hSw => by (try dsimp only at hSw); first | (go_simp; done) | (go_simp; with_reducible rfl)⟩) (by assumption) ?_
                (try simp only [Act.put, List.setIfInBounds_toArray, List.set_cons_zero, List.set_cons_succ])
                refine wpT_take (i := 2) rfl (by kernel_rfl) (fun _ _ _ h => h) (Or.inl ⟨by rfl, fun w hSw => by (try dsimp only at hSw); first | (go_simp; done) | (go_simp; with_reducible rfl)⟩) (by assumption) ?_
                (try simp only [Act.put, List.setIfInBounds_toArray, List.set_cons_zero, List.set_cons_succ])
                refine wpT_take (i := 3) rfl (by kernel_rfl) (fun _ _ _ h => h) (Or.inl ⟨by rfl, fun w hSw => by (try dsimp only at hSw); first | (go_simp; done) | (go_simp; with_reducible rfl)⟩) (by assumption) ?_
                (try simp only [Act.put, List.setIfInBounds_toArray, List.set_cons_zero, List.set_cons_succ])
                refine wpT_take (i := 4) rfl (by kernel_rfl) (fun _ _ _ h => h) (Or.inl ⟨by rfl, fun w hSw => by (try dsimp only at hSw); first | (go_simp; done) | (go_simp; with_reducible rfl)⟩) (by assumption) ?_
                (try simp only [Act.put, List.setIfInBounds_toArray, List.set_cons_zero, List.set_cons_succ])
                refine wpT_take (i := 6) rfl (by kernel_rfl) (fun _ _ _ h => h) (Or.inl ⟨by rfl, fun w hSw => by (try dsimp only at hSw); first | (go_simp; done) | (go_simp; with_reducible rfl)⟩) (by assumption) ?_
                (try simp only [Act.put, List.setIfInBounds_toArray, List.set_cons_zero, List.set_cons_succ])
                refine wpT_take (i := 7) rfl (by kernel_rfl) (fun _ _ _ h => h) (Or.inl ⟨by rfl, fun w hSw => by (try dsimp only at hSw); first | (go_simp; done) | (go_simp; with_reducible rfl)⟩) (by assumption) ?_
                (try simp only [Act.put, List.setIfInBounds_toArray, List.set_cons_zero, List.set_cons_succ])
                refine wpT_take (i := 8) rfl (by kernel_rfl) (fun _ _ _ h => h) (Or.inl ⟨by rfl, fun w hSw => by (try dsimp only at hSw); first | (go_simp; done) | (go_simp; with_reducible rfl)⟩) (by assumption) ?_
                (try simp only [Act.put, List.setIfInBounds_toArray, List.set_cons_zero, List.set_cons_succ])
                refine wpT_take (i := 9) rfl (by kernel_rfl) (fun _ _ _ h => h) (Or.inl ⟨by rfl, fun w hSw => by (try dsimp only at hSw); first | (go_simp; done) | (go_simp; with_reducible rfl)⟩) (by assumption) ?_
                (try simp only [Act.put, List.setIfInBounds_toArray, List.set_cons_zero, List.set_cons_succ])
                refine wpT_take (i := 10) rfl (by kernel_rfl) (fun _ _ _ h => h) (Or.inl ⟨by rfl, fun w hSw => by (try dsimp only at hSw); first | (go_simp; done) | (go_simp; with_reducible rfl)⟩) (by assumption) ?_
                (try simp only [Act.put, List.setIfInBounds_toArray, List.set_cons_zero, List.set_cons_succ])
                refine wpT_one (i := 5) rfl (by kernel_rfl) (fun K hK => ?_)
                go_simp; go_at_call 151; refine (impl_tableAt GT.out _).mono ?_; rintro e wd ⟨rfl, hbd0⟩; have hbd := nxt' gW.drew hbd0; have e0_2 := cell_on e0 hbd; have e1_2 := cell_on e1 hbd; have e2_2 := cell_on e2 hbd; have e3_2 := cell_on e3 hbd; have e4_2 := cell_on e4 hbd; have e5_2 := cell_on e5 hbd; have e6_2 := cell_on e6 hbd; have e7_2 := cell_on e7 hbd; have es_2 := cell_on es hbd; have er0_2 := cell_on er0 hbd; have er1_2 := cell_on er1 hbd; have ed_2 := cell_on ed hbd
                clear hHeld; refine hK.out _ _ (show _ from ⟨e0_2, e1_2, e2_2, e3_2, e4_2, e5_2, e6_2, e7_2, es_2, er0_2, er1_2, ed_2⟩) (fun hHeld => ?_)
                clear hK K
                (try simp only [Act.put, List.setIfInBounds_toArray, List.set_cons_zero, List.set_cons_succ])
                refine wpT_done (by kernel_rfl) ?_
                simp only [List.drop_succ_cons, List.drop_zero]
                clear hHeld
                clear e0 e1 e2 e3 e4 e5 e6 e7 es er0 er1 ed e0_2 e1_2 e2_2 e3_2 e4_2 e5_2 e6_2 e7_2 es_2 er0_2 er1_2 ed_2; have hwd := nxt hn3 hbd; have q2 := blk_on q1 hbd
                have hcall := HF.out k1 k2 k3 hlt1 hkx hlt2 hlt3 hkc _ wd _ _ h44.out hwd (AtomSR.good.nxt hwd yR) q2 hB3.out.1 (by have := hB3.out.2; omega)
                have hcl : Hid (cellAt x k1 k3 k2 = x.tables[k1][k3].cells[k2]) := cellAt_at hkx hlt3 hkc
                have hst := HST.out s.tables[k1].columns[k2] (tblIdx s.tables s.tables[k1].columns[k2].ref) x.tables[k1][k3].cells[k2] _ (72 * k1 + 12 * k2 + k3) hB3.out.1 hB3.out.2
                have hV3 : Hid (eachRow s x f k1 k2 (k3 + 1) (eachCol s x f k1 k2 (eachF s x f k1 z0)) = f s.tables[k1].columns[k2] (tblIdx s.tables s.tables[k1].columns[k2].ref) x.tables[k1][k3].cells[k2] (eachRow s x f k1 k2 k3 (eachCol s x f k1 k2 (eachF s x f k1 z0)))) := by show _ = _; rw [eachRow_succ, hcol.out, hcl.out]
                have hn4 : Hid (0 ≤ eachRow s x f k1 k2 (k3 + 1) (eachCol s x f k1 k2 (eachF s x f k1 z0)) ∧ eachRow s x f k1 k2 (k3 + 1) (eachCol s x f k1 k2 (eachF s x f k1 z0)) ≤ 30 + (72 * k1 + 12 * k2 + (k3 + 1) : Nat)) := by show _ ∧ _; rw [hV3.out]; exact ⟨hst.1, by have := hst.2; omega⟩
                clear hst
                go_wp2_with (go_at_fn g; refine hcall.mono ?_; rintro e w9 ⟨rfl, hq9, hu9⟩)
                go_roundw
                case rel => exact ⟨k3 + 1, hlt3, by go_num, hn4, by rw [hV3.out]; exact hq9, (HU3.out.call hbd).trans hu9 (fun _ h => h)⟩
                case measure => simp [intOf]; omega
              · obtain rfl : k3 = x.tables[k1].length := by omega
                have hn3 : Hid (0 ≤ eachCol s x f k1 (k2 + 1) (eachF s x f k1 z0) ∧ eachCol s x f k1 (k2 + 1) (eachF s x f k1 z0) ≤ 30 + (72 * k1 + 12 * (k2 + 1) : Nat)) := by show _ ∧ _; rw [hV.out]; exact ⟨hB3.out.1, by have := hB3.out.2; omega⟩
                clear pel hel_x hel_s thel1
                go_wp2_with fail
                go_roundw
                case rel => exact ⟨k2 + 1, hlt2, by go_num, hn3, by rw [hV.out]; exact hQ3.out, HU2.out.trans hu3 (fun _ h => h)⟩
                case measure => simp [intOf]; omega
          · have hV : Hid (eachCol s x f k1 (k2 + 1) (eachF s x f k1 z0) = eachCol s x f k1 k2 (eachF s x f k1 z0)) := by show _ = _; rw [eachCol_succ]; unfold colTurn; rw [hcol.out, h4]; rfl
            have hn3 : Hid (0 ≤ eachCol s x f k1 (k2 + 1) (eachF s x f k1 z0) ∧ eachCol s x f k1 (k2 + 1) (eachF s x f k1 z0) ≤ 30 + (72 * k1 + 12 * (k2 + 1) : Nat)) := by show _ ∧ _; rw [hV.out]; exact ⟨hB2.out.1, by have := hB2.out.2; omega⟩
            clear pel hel_x hel_s thel1
            go_wp2_with fail
            go_roundw
            case rel => exact ⟨k2 + 1, hlt2, by go_num, hn3, by rw [hV.out]; exact q1, HU2.out⟩
            case measure => simp [intOf]; omega
        · obtain rfl : k2 = s.tables[k1].columns.length := by omega
          have hV1 : Hid (eachF s x f (k1 + 1) z0 = eachCol s x f k1 s.tables[k1].columns.length (eachF s x f k1 z0)) := eachF_succ s x f k1 z0 hlt1
          have hn2 : Hid (0 ≤ eachF s x f (k1 + 1) z0 ∧ eachF s x f (k1 + 1) z0 ≤ 30 + (72 * (k1 + 1) : Nat)) := by show _ ∧ _; rw [hV1.out]; exact ⟨hB2.out.1, by have := hB2.out.2; omega⟩
          clear thel1 hel_s hel_x
          go_wp2_with fail
          go_roundw
          case rel => exact ⟨k1 + 1, hlt1, by go_num, hn2, by rw [hV1.out]; exact hQ2.out, HU1.out.trans hu2 (fun _ h => h)⟩
          case measure => simp [intOf]; omega
    · obtain rfl : k1 = s.tables.length := by omega
      clear hel_s hel_x
      go_wp2
      refine bodyPost_end (results_none Tryz.results113 _ _ _) rfl ?_
      exact ⟨rfl, hQ1.out, hU.trans hu1 (fun _ h => h)⟩
end Go.Proofs.YthbebbnidgeaeaaGreat
