/- In how many sets of Strong columns a row is. No statement is proved here; no conditions. Written by a program (gen31.py). -/
import Derived.Test.YthbebbnidgeaeaaGreatEach
import Derived.Test.YthbebbnidgeaeaaGreatDrop
import Derived.Shelf.Abstract
namespace Go.Proofs.YthbebbnidgeaeaaGreat
open Go.ChangeShapes Go.WideShapes Go.ChangeAt Go.RowKit Go.Deep
set_option maxRecDepth 100000
set_option linter.unusedVariables false
set_option linter.unusedSimpArgs false

def idAtom (id : Int) : Atom := ⟨4, id, ⟨#[]⟩⟩
def strongStep (tb id : Int) : Step := fun c r d z => z + bit (c.strong && ((r == tb) && decide (idAtom id ∈ d)))
theorem strongStep_bd (tb id : Int) : ∀ c r d (z : Int) (n : Nat), 0 ≤ z → z ≤ 30 + n → 0 ≤ strongStep tb id c r d z ∧ strongStep tb id c r d z ≤ 30 + (n + 1 : Nat) := by
  intro c r d z n h1 h2
  unfold strongStep
  have : 0 ≤ bit (c.strong && ((r == tb) && decide (idAtom id ∈ d))) ∧ bit (c.strong && ((r == tb) && decide (idAtom id ∈ d))) ≤ 1 := by cases (c.strong && ((r == tb) && decide (idAtom id ∈ d))) <;> decide
  omega
def specRow (x : Store) (id : Int) (i k : Nat) : Nat → Int → Int := foldN fun j z => z + bit (decide (idAtom id ∈ cellAt x i j k))
def specTurn (s : Schema) (x : Store) (nm : ByteArray) (id : Int) (i k : Nat) (z : Int) : Int := cond (!(colIn s i k).strong) z (cond (!eqS (colIn s i k).ref nm) z (specRow x id i k (x.tables.getD i default).length z))
def specCol (s : Schema) (x : Store) (nm : ByteArray) (id : Int) (i : Nat) : Nat → Int → Int := foldN (specTurn s x nm id i)
def specF (s : Schema) (x : Store) (nm : ByteArray) (id : Int) : Nat → Int → Int := foldN fun i z => specCol s x nm id i (s.tables.getD i default).columns.length z
theorem foldN_same {f g : Nat → Int → Int} : ∀ (n : Nat) (z : Int), (∀ i, i < n → ∀ z, f i z = g i z) → foldN f n z = foldN g n z
  | 0, _, _ => rfl
  | n + 1, z, h => by show f n _ = g n _; rw [foldN_same n z (fun i hi => h i (by omega)), h n (by omega)]
theorem foldN_idle {f : Nat → Int → Int} : ∀ (n : Nat) (z : Int), (∀ i, i < n → ∀ z, f i z = z) → foldN f n z = z
  | 0, _, _ => rfl
  | n + 1, z, h => by show f n _ = z; rw [foldN_idle n z (fun i hi => h i (by omega)), h n (by omega)]
theorem colOK_strong {c : Column} (h : colOK c = true) (hk : c.kind ≠ 4) : c.strong = false := by
  rw [← colOKs_eq] at h
  unfold colOKs at h
  have e4 : (c.kind == 4) = false := by simpa using hk
  rw [e4] at h
  cases hs : c.strong
  · rfl
  · rw [hs] at h
    cases h1 : (c.kind == 1) <;> rw [h1] at h <;> simp at h
theorem less_trans {x y z : List UInt8} (h1 : Op.bytesLess x y = true) (h2 : Op.bytesLess y z = true) : Op.bytesLess x z = true := by
  induction x generalizing y z with
  | nil => cases y with
    | nil => cases h1
    | cons b y => cases z with
      | nil => cases h2
      | cons c z => rfl
  | cons a x ih => cases y with
    | nil => cases h1
    | cons b y => cases z with
      | nil => cases h2
      | cons c z =>
        rw [Op.bytesLess] at h1 h2 ⊢
        simp only [Bool.or_eq_true, Bool.and_eq_true, decide_eq_true_eq, beq_iff_eq] at *
        rcases h1 with h1 | ⟨rfl, h1⟩
        · rcases h2 with h2 | ⟨rfl, h2⟩
          · exact Or.inl (UInt8.lt_trans h1 h2)
          · exact Or.inl h1
        · rcases h2 with h2 | ⟨rfl, h2⟩
          · exact Or.inl h2
          · exact Or.inr ⟨rfl, ih h1 h2⟩
theorem less_self (x : List UInt8) : Op.bytesLess x x = false := by
  induction x with
  | nil => rfl
  | cons a x ih => unfold Op.bytesLess; rw [ih]; simp
theorem idxF_hit {α : Type} {p : α → Bool} {xs : List α} {k : Nat} (hk : idxF p xs = (k : Int)) (hl : k < xs.length) : p xs[k] = true := by
  unfold idxF at hk
  split at hk
  · have e : xs.findIdx p = k := by omega
    subst e
    exact List.findIdx_getElem
  · omega
/-- The names of a right schema rise: each stands once. -/
theorem names_once {s : Schema} (h : schOK s = true) {i j : Nat} (hij : i < j) (hj : j < s.tables.length) : Op.bytesLess s.tables[i].name.toList s.tables[j].name.toList = true := by
  have step : ∀ k (hk : k + 1 < s.tables.length), Op.bytesLess s.tables[k].name.toList s.tables[k + 1].name.toList = true := by
    intro k hk
    unfold schOK at h; rw [Bool.and_eq_true, Bool.and_eq_true] at h
    have := upTo_at h.2.1 hk
    unfold tblStep at this
    rw [Bool.and_eq_true, Nat.add_sub_cancel, get_at _ (k + 1) hk, get_at _ k (by omega)] at this
    simpa using this.2
  induction hij with
  | refl => exact step i hj
  | step hij ih => exact less_trans (ih (by omega) step) (step _ hj)
theorem tblIdx_is {s : Schema} (h : schOK s = true) {t : Nat} (ht : t < s.tables.length) (nm : ByteArray) : (tblIdx s.tables nm == (t : Int)) = eqS nm s.tables[t].name := by
  cases he : eqS nm s.tables[t].name
  · rw [beq_eq_false_iff_ne]
    intro e
    have := eqS_iff.1 (idxF_hit (p := fun t : Table => eqS t.name nm) e ht)
    rw [← this, eqS_self] at he; cases he
  · have he := eqS_iff.1 he
    subst he
    rw [beq_iff_eq]
    refine idxF_at ht (fun j hj hjt => ?_) (eqS_self _)
    have := names_once h hjt ht
    cases e : eqS s.tables[j].name s.tables[t].name
    · rfl
    · rw [eqS_iff.1 e, less_self] at this; cases this
theorem specF_eq {s : Schema} (h : schOK s = true) (x : Store) {t : Nat} (ht : t < s.tables.length) (id : Int) : specF s x s.tables[t].name id s.tables.length 0 = eachF s x (strongStep t id) s.tables.length 0 := by
  refine foldN_same _ _ fun i hi z => ?_
  show specCol s x _ id i _ z = tabTurn s x _ i z
  unfold tabTurn
  rw [get_at _ i hi]
  refine foldN_same _ _ fun k hk z => ?_
  unfold specTurn colTurn
  rw [colIn_at hi hk]
  have hc := cols_ok (sch_tbl h hi) hk
  cases hs : s.tables[i].columns[k].strong
  · have : eachRow s x (strongStep t id) i k (x.tables.getD i default).length z = z := by
      refine foldN_idle _ _ fun j hj z => ?_
      unfold strongStep; rw [colIn_at hi hk, hs]; simp [bit]
    rw [this]; cases (s.tables[i].columns[k].kind != 4) <;> rfl
  · have h4 : s.tables[i].columns[k].kind = 4 := by
      false_or_by_contra; rename_i hne
      rw [colOK_strong hc hne] at hs; cases hs
    rw [h4]
    show cond (!eqS _ _) z _ = eachRow s x _ i k _ z
    cases he : eqS s.tables[i].columns[k].ref s.tables[t].name
    · have : eachRow s x (strongStep t id) i k (x.tables.getD i default).length z = z := by
        refine foldN_idle _ _ fun j hj z => ?_
        unfold strongStep; rw [colIn_at hi hk, hs, tblIdx_is h ht, he]; simp [bit]
      rw [this]; rfl
    · refine foldN_same _ _ fun j hj z => ?_
      show _ = strongStep _ _ _ _ _ _
      unfold strongStep; rw [colIn_at hi hk, hs, tblIdx_is h ht, he]; simp
theorem strong_bd {s : Schema} {x : Store} (h : storeFit s x = true) (tb id : Int) : True := trivial
def countAns (s : Schema) (x : Store) (n id : Int) : Int × Int := cond (storeFit s x) (cond (inB n 0 ((x.tables.length : Int) - 1)) (cond (hasId (tabOf x n) id) (eachF s x (strongStep n id) s.tables.length 0, 0) (0, 5)) (0, 10)) (0, 1)
set_option maxHeartbeats 4000000 in
theorem clo_strong {w : World} {bs : List Nat} {v : Value} {d : List Atom} (H : AtomSR w bs [v] d) (c : Column) (r : Int) {bt bi m : Nat} {tv iv z : Int} (qt : w.cell? ⟨bt, 0, none⟩ = some (.int .i64 tv)) (qi : w.cell? ⟨bi, 0, none⟩ = some (.int .i64 iv)) (qm : w.heap[m]? = some (.cells #[.int .i64 z] 3 (0, 0))) (hz0 : 0 ≤ z) (hz1 : z ≤ 1000000) :
    Calls Tryz.prog 114 #[.agg #[.string c.name, .int .i64 c.kind, .int .i64 c.min, .int .i64 c.max, .int .i64 c.low, .int .i64 c.high, .string c.ref, .bool c.strong], .int .i64 r, v, .pointer (some ⟨bt, 0, none⟩), .pointer (some ⟨bi, 0, none⟩), .pointer (some ⟨m, 0, none⟩)] w fun e W' => e = .returned (.tuple #[]) ∧ W'.heap[m]? = some (.cells #[.int .i64 (strongStep tv iv c r d z)] 3 (0, 0)) ∧ Upd [m] w W' := by
  have H0 := H; obtain ⟨A, n, rfl, _, _, _⟩ := H.use
  have hbx := (Below.refl w.heap.size w).alloc (Nat.le_refl _) (.cells #[.string c.name, .int .i64 c.kind, .int .i64 c.min, .int .i64 c.max, .int .i64 c.low, .int .i64 c.high, .string c.ref, .bool c.strong] 130)
  have hU : Upd [m] w (w.alloc (.cells #[.string c.name, .int .i64 c.kind, .int .i64 c.min, .int .i64 c.max, .int .i64 c.low, .int .i64 c.high, .string c.ref, .bool c.strong] 130)) := (Upd.refl _ _).alloc _
  have qm1 := blk_old qm (.cells #[.string c.name, .int .i64 c.kind, .int .i64 c.min, .int .i64 c.max, .int .i64 c.low, .int .i64 c.high, .string c.ref, .bool c.strong] 130)
  have qt1 := cell_al qt (.cells #[.string c.name, .int .i64 c.kind, .int .i64 c.min, .int .i64 c.max, .int .i64 c.low, .int .i64 c.high, .string c.ref, .bool c.strong] 130); have qi1 := cell_al qi (.cells #[.string c.name, .int .i64 c.kind, .int .i64 c.min, .int .i64 c.max, .int .i64 c.low, .int .i64 c.high, .string c.ref, .bool c.strong] 130)
  clear qt qi
  cases h1 : c.strong
  · have hs : Hid (strongStep tv iv c r d z = z) := by show _ = _; unfold strongStep; rw [h1]; simp [bit]
    simp only [h1] at hbx hU qm1 qt1 qi1 ⊢
    go_enter Tryz.func114, Tryz.ntmps114
    go_wp2_with fail
    refine bodyPost_end (results_none Tryz.results114 _ _ _) rfl ?_
    exact ⟨rfl, by rw [hs.out]; exact qm1, hU⟩
  cases h2 : (r == tv)
  · have hs : Hid (strongStep tv iv c r d z = z) := by show _ = _; unfold strongStep; rw [h1, h2]; simp [bit]
    simp only [h1] at hbx hU qm1 qt1 qi1 ⊢
    go_enter Tryz.func114, Tryz.ntmps114
    go_wp2_with fail
    refine bodyPost_end (results_none Tryz.results114 _ _ _) rfl ?_
    exact ⟨rfl, by rw [hs.out]; exact qm1, hU⟩
  simp only [h1] at hbx hU qm1 qt1 qi1 ⊢
  have hs0 : Hid (strongStep tv iv c r d z = z + bit (decide (idAtom iv ∈ d))) := by show _ = _; unfold strongStep; rw [h1, h2]; rfl
  have hcall := slices_ContainsA hbx H0 (idAtom iv)
  go_enter Tryz.func114, Tryz.ntmps114
  cases h3 : decide (idAtom iv ∈ d)
  · rw [h3] at hcall
    have hs : Hid (strongStep tv iv c r d z = z) := by show _ = _; rw [hs0.out, h3]; simp [bit]
    clear h3
    go_wp2_with fail
    refine hcall.mono ?_; rintro e w1 ⟨rfl, hb1⟩
    go_wp2_with fail
    refine bodyPost_end (results_none Tryz.results114 _ _ _) rfl ?_
    exact ⟨rfl, by rw [hs.out]; exact blk_on qm1 hb1, hU.call hb1⟩
  · rw [h3] at hcall
    have hs : Hid (strongStep tv iv c r d z = z + 1) := by show _ = _; rw [hs0.out, h3]; rfl
    clear h3
    go_wp2_with fail
    refine hcall.mono ?_; rintro e w1 ⟨rfl, hb1⟩
    have qm2 := blk_on qm1 hb1; have qm3 : w1.cell? ⟨m, 0, none⟩ = some (.int .i64 z) := blk_cells qm2 0; have qmf := blk_free qm2
    go_wp2_with fail
    refine bodyPost_end (results_none Tryz.results114 _ _ _) rfl ?_
    exact ⟨rfl, by rw [hs.out]; exact blk_set qm2 0 (.int .i64 (z + 1)), (hU.call hb1).set (p := ⟨m, 0, none⟩) (by simp) rfl _⟩
set_option maxHeartbeats 4000000 in
theorem impl_strongCount {w : World} {bs_s bs_x : List Nat} {cs_s cs_x : List Value} {s : Schema} {x : Store} (H_s : SchemaR w bs_s cs_s s) (H_x : StoreR w bs_x cs_x x) (tb id : Int) (hok : storeFit s x = true) :
    Calls Tryz.prog 68 #[.agg cs_s.toArray, .agg cs_x.toArray, .int .i64 tb, .int .i64 id] w fun e w' => e = .returned (.int .i64 (eachF s x (strongStep tb id) s.tables.length 0)) ∧ Below w.heap.size w w' := by
  have HO := hide hok; clear hok; have H_s0 := H_s; have H_x0 := H_x
  obtain ⟨v1, b1, rfl, rfl, hf_s, s_r0⟩ := H_s; obtain ⟨A_s, c_s, rfl, _, _, _⟩ := s_r0.use
  obtain ⟨v2, b2, rfl, rfl, hf_x, x_r0⟩ := H_x; obtain ⟨A_x, c_x, rfl, _, _, _⟩ := x_r0.use
  have hbx := (((((Below.refl w.heap.size w).alloc (by simp; try omega) (.cells #[.slice A_s s.tables.length c_s] 61)).alloc (by simp; try omega) (.cells #[.slice A_x x.tables.length c_x, .int .i64 x.next] 65)).alloc (by simp; try omega) (.cells #[.int .i64 tb] 3)).alloc (by simp; try omega) (.cells #[.int .i64 id] 3))
  have q_tb : (World.heap ((((w.alloc (.cells #[.slice A_s s.tables.length c_s] 61)).alloc (.cells #[.slice A_x x.tables.length c_x, .int .i64 x.next] 65)).alloc (.cells #[.int .i64 tb] 3)).alloc (.cells #[.int .i64 id] 3)))[w.heap.size + 1 + 1]? = some (.cells #[.int .i64 tb] 3 (0, 0)) := blk_old (by simpa using blk_new ((w.alloc (.cells #[.slice A_s s.tables.length c_s] 61)).alloc (.cells #[.slice A_x x.tables.length c_x, .int .i64 x.next] 65)) #[.int .i64 tb] 3) _
  have q_id : (World.heap ((((w.alloc (.cells #[.slice A_s s.tables.length c_s] 61)).alloc (.cells #[.slice A_x x.tables.length c_x, .int .i64 x.next] 65)).alloc (.cells #[.int .i64 tb] 3)).alloc (.cells #[.int .i64 id] 3)))[w.heap.size + 1 + 1 + 1]? = some (.cells #[.int .i64 id] 3 (0, 0)) := by simpa using blk_new (((w.alloc (.cells #[.slice A_s s.tables.length c_s] 61)).alloc (.cells #[.slice A_x x.tables.length c_x, .int .i64 x.next] 65)).alloc (.cells #[.int .i64 tb] 3)) #[.int .i64 id] 3
  have q_n : (World.heap (((((w.alloc (.cells #[.slice A_s s.tables.length c_s] 61)).alloc (.cells #[.slice A_x x.tables.length c_x, .int .i64 x.next] 65)).alloc (.cells #[.int .i64 tb] 3)).alloc (.cells #[.int .i64 id] 3)).alloc (.cells #[.int .i64 0] 3)))[w.heap.size + 1 + 1 + 1 + 1]? = some (.cells #[.int .i64 0] 3 (0, 0)) := by simpa using blk_new ((((w.alloc (.cells #[.slice A_s s.tables.length c_s] 61)).alloc (.cells #[.slice A_x x.tables.length c_x, .int .i64 x.next] 65)).alloc (.cells #[.int .i64 tb] 3)).alloc (.cells #[.int .i64 id] 3)) #[.int .i64 0] 3
  have t_tb : (World.cell? ((((w.alloc (.cells #[.slice A_s s.tables.length c_s] 61)).alloc (.cells #[.slice A_x x.tables.length c_x, .int .i64 x.next] 65)).alloc (.cells #[.int .i64 tb] 3)).alloc (.cells #[.int .i64 id] 3)) ⟨w.heap.size + 1 + 1, 0, none⟩) = some (.int .i64 tb) := blk_cells q_tb 0
  have t_id : (World.cell? ((((w.alloc (.cells #[.slice A_s s.tables.length c_s] 61)).alloc (.cells #[.slice A_x x.tables.length c_x, .int .i64 x.next] 65)).alloc (.cells #[.int .i64 tb] 3)).alloc (.cells #[.int .i64 id] 3)) ⟨w.heap.size + 1 + 1 + 1, 0, none⟩) = some (.int .i64 id) := blk_cells q_id 0
  have hz4 : (World.heap ((((w.alloc (.cells #[.slice A_s s.tables.length c_s] 61)).alloc (.cells #[.slice A_x x.tables.length c_x, .int .i64 x.next] 65)).alloc (.cells #[.int .i64 tb] 3)).alloc (.cells #[.int .i64 id] 3))).size = w.heap.size + 1 + 1 + 1 + 1 := by simp
  have HC := hide (impl_eachSet (w := ((((w.alloc (.cells #[.slice A_s s.tables.length c_s] 61)).alloc (.cells #[.slice A_x x.tables.length c_x, .int .i64 x.next] 65)).alloc (.cells #[.int .i64 tb] 3)).alloc (.cells #[.int .i64 id] 3))) (SchemaR.good.nxt hbx H_s0) (StoreR.good.nxt hbx H_x0) ((Below.refl (World.heap ((((w.alloc (.cells #[.slice A_s s.tables.length c_s] 61)).alloc (.cells #[.slice A_x x.tables.length c_x, .int .i64 x.next] 65)).alloc (.cells #[.int .i64 tb] 3)).alloc (.cells #[.int .i64 id] 3))).size ((((w.alloc (.cells #[.slice A_s s.tables.length c_s] 61)).alloc (.cells #[.slice A_x x.tables.length c_x, .int .i64 x.next] 65)).alloc (.cells #[.int .i64 tb] 3)).alloc (.cells #[.int .i64 id] 3))).alloc (Nat.le_refl _) (.cells #[.int .i64 0] 3)) HO.out (m := w.heap.size + 1 + 1 + 1 + 1) (z0 := 0) (by rw [hz4]; exact Nat.le_refl _) q_n ⟨by decide, by decide⟩ 114 #[.pointer (some ⟨w.heap.size + 1 + 1, 0, none⟩), .pointer (some ⟨w.heap.size + 1 + 1 + 1, 0, none⟩), .pointer (some ⟨w.heap.size + 1 + 1 + 1 + 1, 0, none⟩)] (enters_of Tryz.func114 (by kernel_rfl) rfl) (strongStep tb id) (strongStep_bd tb id)
    (fun i k j hi hix hk hj hjk z W bs v _ hW hR hq h0 h1 => clo_strong hR _ _ (hW.cell (by simp) |>.trans t_tb) (hW.cell (by simp) |>.trans t_id) hq h0 h1))
  clear q_tb q_id t_tb t_id
  go_enter Tryz.func68, Tryz.ntmps68
  go_wp2_with fail
  refine HC.out.mono ?_; rintro e w5 ⟨rfl, hq, hu⟩; have c5 : w5.cell? ⟨w.heap.size + 1 + 1 + 1 + 1, 0, none⟩ = some _ := blk_cells hq 0
  clear HC
  go_wp2_with fail
  go_ret
  exact ⟨rfl, (hbx.alloc (by simp; try omega) (.cells #[.int .i64 0] 3)).trans (hu.below _ (by simp; omega) (fun b hb => by simp at hb; omega))⟩
set_option maxHeartbeats 16000000 in
theorem spec_l05Strong {w : World} {bs_s bs_x : List Nat} {cs_s cs_x : List Value} {s : Schema} {x : Store} (H_s : SchemaR w bs_s cs_s s) (H_x : StoreR w bs_x cs_x x) {tm : Nat} (htm : tm < s.tables.length) (id : Int) (hok : storeFit s x = true) :
    Calls Tryz.prog 62 #[.agg cs_s.toArray, .agg cs_x.toArray, .int .i64 tm, .int .i64 id] w fun e w' => e = .returned (.int .i64 (specF s x s.tables[tm].name id s.tables.length 0)) ∧ Below w.heap.size w w' := by
  have hin := hide (storeFit_in hok); have hsc := hide (storeFit_sch hok); have HL := hide (storeIn_len hin.out); have hn4 := sch_len hsc.out; clear hok
  obtain ⟨v1, b1, rfl, rfl, hf_s, s_r0⟩ := H_s; obtain ⟨A_s, c_s, rfl, hlc_s, hcm_s, hel_s⟩ := s_r0.use
  obtain ⟨v2, b2, rfl, rfl, hf_x, x_r0⟩ := H_x; obtain ⟨A_x, c_x, rfl, hlc_x, hcm_x, hel_x⟩ := x_r0.use
  have hbx := ((Below.refl w.heap.size w).alloc (Nat.le_refl _) (.cells #[.slice A_s s.tables.length c_s] 61)).alloc (by simp; try omega) (.cells #[.slice A_x x.tables.length c_x, .int .i64 x.next] 65)
  obtain ⟨q_s, q_x⟩ := two_at (Below.refl ((w.alloc (.cells #[.slice A_s s.tables.length c_s] 61)).alloc (.cells #[.slice A_x x.tables.length c_x, .int .i64 x.next] 65)).heap.size _)
  obtain ⟨nm, hnm⟩ : ∃ nm, Hid (nm = s.tables[tm].name) := ⟨_, hide rfl⟩
  rw [← hnm.out]
  go_enter Tryz.func62, Tryz.ntmps62
  go_wp2_with fail
  go_loopw [9, 10] (fun o i wr => ∃ k : Nat, k ≤ s.tables.length ∧ i = .int .i64 k ∧ o = .int .i64 (specF s x nm id k 0) ∧ Hid (0 ≤ specF s x nm id k 0 ∧ specF s x nm id k 0 ≤ (72 * k : Nat)) ∧ Below (World.heap ((w.alloc (.cells #[.slice A_s s.tables.length c_s] 61)).alloc (.cells #[.slice A_x x.tables.length c_x, .int .i64 x.next] 65))).size ((w.alloc (.cells #[.slice A_s s.tables.length c_s] 61)).alloc (.cells #[.slice A_x x.tables.length c_x, .int .i64 x.next] 65)) wr) (fun _ i _ => s.tables.length - (intOf i).toNat)
  case atStart => exact ⟨0, Nat.zero_le _, rfl, rfl, ⟨Int.le_refl 0, (show (0 : Int) ≤ ((72 * 0 : Nat) : Int) from by decide)⟩, Below.refl _ _⟩
  case round =>
    obtain ⟨k1, hk1, rfl, rfl, hB1, hb1⟩ := hrel
    obtain ⟨wl1, rfl⟩ : ∃ w' : World, w' = wr := ⟨_, rfl⟩
    have hwl1 := nxt hbx hb1; replace q_s := box_on q_s rfl hb1; replace q_x := box_on q_x rfl hb1
    by_cases hlt1 : k1 < s.tables.length
    · have hkx : k1 < x.tables.length := by have := HL.out; omega
      have hfr := hide (storeIn_at hin.out hlt1 hkx); have hro := fitRows_len hfr.out; have hco := tbl_colsN (sch_tbl hsc.out hlt1)
      obtain ⟨tb, to, tbk, tes, rfl, thbl, thcl, thcell, tR, thbk⟩ := hel_s k1 hlt1
      have tR0 := tR
      obtain ⟨tv1, tb1, tv2, tb2, _, thes, thf, tr1, tr2⟩ := tR
      subst thes
      obtain ⟨tA1, tc1, rfl, thlc1, thcm1, thel1⟩ := tr1.use
      obtain ⟨tA2, tc2, rfl, thlc2, thcm2, thel2⟩ := tr2.use
      have t_0 := (hwl1.cell (p := ⟨tb, _, none⟩) thbl).trans (thcell 0 _ rfl)
      have t_1 := (hwl1.cell (p := ⟨tb, _, none⟩) thbl).trans (thcell 1 _ rfl)
      have t_2 := (hwl1.cell (p := ⟨tb, _, none⟩) thbl).trans (thcell 2 _ rfl)
      have t_3 := (hwl1.cell (p := ⟨tb, _, none⟩) thbl).trans (thcell 3 _ rfl)
      simp only [Nat.add_zero] at t_0 t_1 t_2 t_3
      go_wp2_with fail
      clear t_0 t_1 t_2 t_3
      go_loopw [9, 11] (fun o i wr => ∃ k : Nat, k ≤ s.tables[k1].columns.length ∧ i = .int .i64 k ∧ o = .int .i64 (specCol s x nm id k1 k (specF s x nm id k1 0)) ∧ Hid (0 ≤ specCol s x nm id k1 k (specF s x nm id k1 0) ∧ specCol s x nm id k1 k (specF s x nm id k1 0) ≤ (72 * k1 + 12 * k : Nat)) ∧ Below (World.heap wl1).size wl1 wr) (fun _ i _ => s.tables[k1].columns.length - (intOf i).toNat)
      case atStart => exact ⟨0, Nat.zero_le _, rfl, rfl, ⟨hB1.out.1, (show specF s x nm id k1 0 ≤ ((72 * k1 + 12 * 0 : Nat) : Int) from by have := hB1.out.2; omega)⟩, Below.refl _ _⟩
      case round =>
        obtain ⟨k2, hk2, rfl, rfl, hB2, hb2⟩ := hrel
        obtain ⟨wl2, rfl⟩ : ∃ w' : World, w' = wr := ⟨_, rfl⟩
        have hwl2 := nxt hwl1 hb2; replace q_s := box_on q_s rfl hb2; replace q_x := box_on q_x rfl hb2
        have hl02 := nxt hb1 hb2
        have t_0 := (hwl2.cell (p := ⟨tb, _, none⟩) thbl).trans (thcell 0 _ rfl)
        have t_1 := (hwl2.cell (p := ⟨tb, _, none⟩) thbl).trans (thcell 1 _ rfl)
        have t_2 := (hwl2.cell (p := ⟨tb, _, none⟩) thbl).trans (thcell 2 _ rfl)
        have t_3 := (hwl2.cell (p := ⟨tb, _, none⟩) thbl).trans (thcell 3 _ rfl)
        simp only [Nat.add_zero] at t_0 t_1 t_2 t_3
        by_cases hlt2 : k2 < s.tables[k1].columns.length
        · have hcol := hide (colIn_at hlt1 hlt2)
          obtain ⟨cb, co, cbk, ces, rfl, chbl, chcl, chcell, cR, chbk⟩ := thel1 k2 hlt2
          obtain ⟨_, ches, chf⟩ := cR
          subst ches
          have c_0 := (hwl2.cell (p := ⟨cb, _, none⟩) chbl).trans (chcell 0 _ rfl)
          have c_1 := (hwl2.cell (p := ⟨cb, _, none⟩) chbl).trans (chcell 1 _ rfl)
          have c_2 := (hwl2.cell (p := ⟨cb, _, none⟩) chbl).trans (chcell 2 _ rfl)
          have c_3 := (hwl2.cell (p := ⟨cb, _, none⟩) chbl).trans (chcell 3 _ rfl)
          have c_4 := (hwl2.cell (p := ⟨cb, _, none⟩) chbl).trans (chcell 4 _ rfl)
          have c_5 := (hwl2.cell (p := ⟨cb, _, none⟩) chbl).trans (chcell 5 _ rfl)
          have c_6 := (hwl2.cell (p := ⟨cb, _, none⟩) chbl).trans (chcell 6 _ rfl)
          have c_7 := (hwl2.cell (p := ⟨cb, _, none⟩) chbl).trans (chcell 7 _ rfl)
          simp only [Nat.add_zero] at c_0 c_1 c_2 c_3 c_4 c_5 c_6 c_7
          clear chcell chcl
          generalize hsg : s.tables[k1].columns[k2].strong = sg at c_7
          go_wp2_with fail
          replace q_s := box_on q_s rfl ((Below.refl (World.heap (wl2)).size (wl2)).alloc (Nat.le_refl _) (.cells #[.string s.tables[k1].columns[k2].name, .int .i64 s.tables[k1].columns[k2].kind, .int .i64 s.tables[k1].columns[k2].min, .int .i64 s.tables[k1].columns[k2].max, .int .i64 s.tables[k1].columns[k2].low, .int .i64 s.tables[k1].columns[k2].high, .string s.tables[k1].columns[k2].ref, .bool sg] 130))
          replace q_x := box_on q_x rfl ((Below.refl (World.heap (wl2)).size (wl2)).alloc (Nat.le_refl _) (.cells #[.string s.tables[k1].columns[k2].name, .int .i64 s.tables[k1].columns[k2].kind, .int .i64 s.tables[k1].columns[k2].min, .int .i64 s.tables[k1].columns[k2].max, .int .i64 s.tables[k1].columns[k2].low, .int .i64 s.tables[k1].columns[k2].high, .string s.tables[k1].columns[k2].ref, .bool sg] 130))
          have q_c := blk_cells (blk_new (wl2) #[.string s.tables[k1].columns[k2].name, .int .i64 s.tables[k1].columns[k2].kind, .int .i64 s.tables[k1].columns[k2].min, .int .i64 s.tables[k1].columns[k2].max, .int .i64 s.tables[k1].columns[k2].low, .int .i64 s.tables[k1].columns[k2].high, .string s.tables[k1].columns[k2].ref, .bool sg] 130)
          have hn1 := (hwl2).alloc (hwl2).size (.cells #[.string s.tables[k1].columns[k2].name, .int .i64 s.tables[k1].columns[k2].kind, .int .i64 s.tables[k1].columns[k2].min, .int .i64 s.tables[k1].columns[k2].max, .int .i64 s.tables[k1].columns[k2].low, .int .i64 s.tables[k1].columns[k2].high, .string s.tables[k1].columns[k2].ref, .bool sg] 130)
          clear c_0 c_1 c_2 c_3 c_4 c_5 c_6 c_7 t_0 t_1 t_2 t_3
          have hal2 := hb2.alloc hb2.size (.cells #[.string s.tables[k1].columns[k2].name, .int .i64 s.tables[k1].columns[k2].kind, .int .i64 s.tables[k1].columns[k2].min, .int .i64 s.tables[k1].columns[k2].max, .int .i64 s.tables[k1].columns[k2].low, .int .i64 s.tables[k1].columns[k2].high, .string s.tables[k1].columns[k2].ref, .bool sg] 130); have hal1 := hl02.alloc hl02.size (.cells #[.string s.tables[k1].columns[k2].name, .int .i64 s.tables[k1].columns[k2].kind, .int .i64 s.tables[k1].columns[k2].min, .int .i64 s.tables[k1].columns[k2].max, .int .i64 s.tables[k1].columns[k2].low, .int .i64 s.tables[k1].columns[k2].high, .string s.tables[k1].columns[k2].ref, .bool sg] 130)
          obtain ⟨nb, no, nbk, nes, nhA, nhbl, nhcl, nhcell, nR, nhbk⟩ := hel_s tm htm
          cases nhA
          have nR0 := nR
          obtain ⟨nv1, nb1, nv2, nb2, _, nhes, nhf, nr1, nr2⟩ := nR
          subst nhes
          obtain ⟨nA1, nc1, rfl, nhlc1, nhcm1, nhel1⟩ := nr1.use
          obtain ⟨nA2, nc2, rfl, nhlc2, nhcm2, nhel2⟩ := nr2.use
          have n_0 := Fw.cell ((hn1.cell (p := ⟨tb, _, none⟩) nhbl).trans (nhcell 0 _ rfl))
          have n_1 := Fw.cell ((hn1.cell (p := ⟨tb, _, none⟩) nhbl).trans (nhcell 1 _ rfl))
          have n_2 := Fw.cell ((hn1.cell (p := ⟨tb, _, none⟩) nhbl).trans (nhcell 2 _ rfl))
          have n_3 := Fw.cell ((hn1.cell (p := ⟨tb, _, none⟩) nhbl).trans (nhcell 3 _ rfl))
          simp only [Nat.add_zero] at n_0 n_1 n_2 n_3
          clear nhcell nhcl
          clear nhel1 nhel2
          cases sg
          · have hV2 : Hid (specCol s x nm id k1 (k2 + 1) (specF s x nm id k1 0) = specCol s x nm id k1 k2 (specF s x nm id k1 0)) := by show _ = _; show specTurn s x nm id k1 k2 (specCol s x nm id k1 k2 (specF s x nm id k1 0)) = _; generalize specCol s x nm id k1 k2 (specF s x nm id k1 0) = zq; unfold specTurn; rw [hcol.out, hsg]; rfl
            have hn3 : Hid (0 ≤ specCol s x nm id k1 (k2 + 1) (specF s x nm id k1 0) ∧ specCol s x nm id k1 (k2 + 1) (specF s x nm id k1 0) ≤ (72 * k1 + 12 * (k2 + 1) : Nat)) := by show _ ∧ _; rw [hV2.out]; exact ⟨hB2.out.1, by have := hB2.out.2; omega⟩
            clear hel_x hel_s thel1
            have q_sF0 := Fw.cell (box_cell q_s 0 rfl)
            have q_xF0 := Fw.cell (box_cell q_x 0 rfl)
            have q_xF1 := Fw.cell (box_cell q_x 1 rfl)
            have q_cF0 := Fw.cell (box_cell q_c 0 rfl)
            have q_cF1 := Fw.cell (box_cell q_c 1 rfl)
            have q_cF2 := Fw.cell (box_cell q_c 2 rfl)
            have q_cF3 := Fw.cell (box_cell q_c 3 rfl)
            have q_cF4 := Fw.cell (box_cell q_c 4 rfl)
            have q_cF5 := Fw.cell (box_cell q_c 5 rfl)
            have q_cF6 := Fw.cell (box_cell q_c 6 rfl)
            have q_cF7 := Fw.cell (box_cell q_c 7 rfl)
            refine region_quiet (by kernel_rfl) (by kernel_rfl) ?_
            repeat (go_big_quiet_step (fail))
            refine wpQuiet_nil ?_; intro w1 hb1; replace q_s := box_on q_s rfl hb1; replace q_x := box_on q_x rfl hb1; replace q_c := box_on q_c rfl hb1; have hw1 := nxt hn1 hb1; have hl0_1 := nxt hal2 hb1; have hl1_1 := nxt hal1 hb1; clear q_sF0 q_xF0 q_xF1 q_cF0 q_cF1 q_cF2 q_cF3 q_cF4 q_cF5 q_cF6 q_cF7 n_0 n_1 n_2 n_3
            go_wp2_with fail
            go_roundw
            case rel => exact ⟨k2 + 1, hlt2, by go_num, by rw [hV2.out], hn3, hl0_1⟩
            case measure => simp [intOf]; omega
          cases h5 : eqS s.tables[k1].columns[k2].ref nm
          · have hV2 : Hid (specCol s x nm id k1 (k2 + 1) (specF s x nm id k1 0) = specCol s x nm id k1 k2 (specF s x nm id k1 0)) := by show _ = _; show specTurn s x nm id k1 k2 (specCol s x nm id k1 k2 (specF s x nm id k1 0)) = _; generalize specCol s x nm id k1 k2 (specF s x nm id k1 0) = zq; unfold specTurn; rw [hcol.out, hsg, h5]; rfl
            have hn3 : Hid (0 ≤ specCol s x nm id k1 (k2 + 1) (specF s x nm id k1 0) ∧ specCol s x nm id k1 (k2 + 1) (specF s x nm id k1 0) ≤ (72 * k1 + 12 * (k2 + 1) : Nat)) := by show _ ∧ _; rw [hV2.out]; exact ⟨hB2.out.1, by have := hB2.out.2; omega⟩
            unfold eqS at h5; rw [hnm.out] at h5
            have h6 : (!(s.tables[k1].columns[k2].ref.toList == s.tables[tm].name.toList)) = true := by rw [h5]; rfl
            clear hel_x hel_s thel1
            have q_sF0 := Fw.cell (box_cell q_s 0 rfl)
            have q_xF0 := Fw.cell (box_cell q_x 0 rfl)
            have q_xF1 := Fw.cell (box_cell q_x 1 rfl)
            have q_cF0 := Fw.cell (box_cell q_c 0 rfl)
            have q_cF1 := Fw.cell (box_cell q_c 1 rfl)
            have q_cF2 := Fw.cell (box_cell q_c 2 rfl)
            have q_cF3 := Fw.cell (box_cell q_c 3 rfl)
            have q_cF4 := Fw.cell (box_cell q_c 4 rfl)
            have q_cF5 := Fw.cell (box_cell q_c 5 rfl)
            have q_cF6 := Fw.cell (box_cell q_c 6 rfl)
            have q_cF7 := Fw.cell (box_cell q_c 7 rfl)
            refine region_quiet (by kernel_rfl) (by kernel_rfl) ?_
            repeat (go_big_quiet_step (fail))
            refine wpQuiet_nil ?_; intro w2 hb2; replace q_s := box_on q_s rfl hb2; replace q_x := box_on q_x rfl hb2; replace q_c := box_on q_c rfl hb2; have hw2 := nxt hn1 hb2; have hl0_2 := nxt hal2 hb2; have hl1_2 := nxt hal1 hb2; clear q_sF0 q_xF0 q_xF1 q_cF0 q_cF1 q_cF2 q_cF3 q_cF4 q_cF5 q_cF6 q_cF7 n_0 n_1 n_2 n_3
            go_wp2_with fail
            go_roundw
            case rel => exact ⟨k2 + 1, hlt2, by go_num, by rw [hV2.out], hn3, hl0_2⟩
            case measure => simp [intOf]; omega
          have hV2 : Hid (specCol s x nm id k1 (k2 + 1) (specF s x nm id k1 0) = specRow x id k1 k2 x.tables[k1].length (specCol s x nm id k1 k2 (specF s x nm id k1 0))) := by show _ = _; show specTurn s x nm id k1 k2 (specCol s x nm id k1 k2 (specF s x nm id k1 0)) = _; generalize specCol s x nm id k1 k2 (specF s x nm id k1 0) = zq; unfold specTurn; rw [hcol.out, hsg, h5, get_at _ k1 hkx]; rfl
          unfold eqS at h5; rw [hnm.out] at h5
          have h6 : (!(s.tables[k1].columns[k2].ref.toList == s.tables[tm].name.toList)) = false := by rw [h5]; rfl
          have q_sF0 := Fw.cell (box_cell q_s 0 rfl)
          have q_xF0 := Fw.cell (box_cell q_x 0 rfl)
          have q_xF1 := Fw.cell (box_cell q_x 1 rfl)
          have q_cF0 := Fw.cell (box_cell q_c 0 rfl)
          have q_cF1 := Fw.cell (box_cell q_c 1 rfl)
          have q_cF2 := Fw.cell (box_cell q_c 2 rfl)
          have q_cF3 := Fw.cell (box_cell q_c 3 rfl)
          have q_cF4 := Fw.cell (box_cell q_c 4 rfl)
          have q_cF5 := Fw.cell (box_cell q_c 5 rfl)
          have q_cF6 := Fw.cell (box_cell q_c 6 rfl)
          have q_cF7 := Fw.cell (box_cell q_c 7 rfl)
          refine region_quiet (by kernel_rfl) (by kernel_rfl) ?_
          repeat (go_big_quiet_step (fail))
          refine wpQuiet_nil ?_; intro w3 hb3; replace q_s := box_on q_s rfl hb3; replace q_x := box_on q_x rfl hb3; replace q_c := box_on q_c rfl hb3; have hw3 := nxt hn1 hb3; have hl0_3 := nxt hal2 hb3; have hl1_3 := nxt hal1 hb3; clear q_sF0 q_xF0 q_xF1 q_cF0 q_cF1 q_cF2 q_cF3 q_cF4 q_cF5 q_cF6 q_cF7 n_0 n_1 n_2 n_3
          obtain ⟨pb, po, pbk, pes, rfl, phbl, phcl, phcell, pR, phbk⟩ := hel_x k1 hkx
          obtain ⟨pA, pc, phlc, rfl⟩ : ∃ A0 c0, x.tables[k1].length ≤ c0 ∧ pes = [.slice A0 x.tables[k1].length c0] := by obtain ⟨A0, c0, h, h2, _⟩ := pR; exact ⟨A0, c0, h2, h⟩
          have p_0 := (hw3.cell (p := ⟨pb, _, none⟩) phbl).trans (phcell 0 _ rfl)
          simp only [Nat.add_zero, Nat.mul_one] at p_0
          have pR2 := pR; obtain ⟨pA', pc', hpv, _, _, pel⟩ := pR.use; injection hpv with e1 e2 e3; subst e1; clear e2 e3 hel_x hel_s thel1 h5 h6
          go_wp2_with fail
          clear p_0
          go_loopw [9, 13] (fun o i wr => ∃ k : Nat, k ≤ x.tables[k1].length ∧ i = .int .i64 k ∧ o = .int .i64 (specRow x id k1 k2 k (specCol s x nm id k1 k2 (specF s x nm id k1 0))) ∧ Hid (0 ≤ specRow x id k1 k2 k (specCol s x nm id k1 k2 (specF s x nm id k1 0)) ∧ specRow x id k1 k2 k (specCol s x nm id k1 k2 (specF s x nm id k1 0)) ≤ (72 * k1 + 12 * k2 + k : Nat)) ∧ Below (World.heap w3).size w3 wr) (fun _ i _ => x.tables[k1].length - (intOf i).toNat)
          case atStart => exact ⟨0, Nat.zero_le _, rfl, rfl, ⟨hB2.out.1, (show specCol s x nm id k1 k2 (specF s x nm id k1 0) ≤ ((72 * k1 + 12 * k2 + 0 : Nat) : Int) from by have := hB2.out.2; omega)⟩, Below.refl _ _⟩
          case round =>
            obtain ⟨k3, hk3, rfl, rfl, hB3, hb3⟩ := hrel
            obtain ⟨wl3, rfl⟩ : ∃ w' : World, w' = wr := ⟨_, rfl⟩
            have hwl3 := nxt hw3 hb3; replace q_s := box_on q_s rfl hb3; replace q_x := box_on q_x rfl hb3; replace q_c := box_on q_c rfl hb3
            have hl63 := nxt hl0_3 hb3
            have p_0 := (hwl3.cell (p := ⟨pb, _, none⟩) phbl).trans (phcell 0 _ rfl)
            simp only [Nat.add_zero, Nat.mul_one] at p_0
            by_cases hlt3 : k3 < x.tables[k1].length
            · have hce : Hid (x.tables[k1][k3].cells.length = s.tables[k1].columns.length) := cellsIn_len (fitRow_cells (fitRows_row hfr.out hlt3))
              have hkc : k2 < x.tables[k1][k3].cells.length := by have := hce.out; omega
              obtain ⟨gb, go, gbk, ges, rfl, ghbl, ghcl, ghcell, gR, ghbk⟩ := pel k3 hlt3
              have gR0 := gR
              obtain ⟨gv1, gb1, _, ghes, ghf, gr1⟩ := gR
              subst ghes
              obtain ⟨gA1, gc1, rfl, ghlc1, ghcm1, ghel1⟩ := gr1.use
              have g_0 := (hwl3.cell (p := ⟨gb, _, none⟩) ghbl).trans (ghcell 0 _ rfl)
              have g_1 := (hwl3.cell (p := ⟨gb, _, none⟩) ghbl).trans (ghcell 1 _ rfl)
              simp only [Nat.add_zero] at g_0 g_1
              clear ghcell ghcl
              obtain ⟨yb, yo, ybk, yes, rfl, yhbl, yhcl, yhcell, yR, yhbk⟩ := ghel1 k2 hkc
              obtain ⟨yA, yc, yhlc, rfl⟩ : ∃ A0 c0, x.tables[k1][k3].cells[k2].length ≤ c0 ∧ yes = [.slice A0 x.tables[k1][k3].cells[k2].length c0] := by obtain ⟨A0, c0, h, h2, _⟩ := yR; exact ⟨A0, c0, h2, h⟩
              have y_0 := (hwl3.cell (p := ⟨yb, _, none⟩) yhbl).trans (yhcell 0 _ rfl)
              simp only [Nat.add_zero, Nat.mul_one] at y_0
              have hcl : Hid (cellAt x k1 k3 k2 = x.tables[k1][k3].cells[k2]) := cellAt_at hkx hlt3 hkc
              have hV3 : Hid (specRow x id k1 k2 (k3 + 1) (specCol s x nm id k1 k2 (specF s x nm id k1 0)) = specRow x id k1 k2 k3 (specCol s x nm id k1 k2 (specF s x nm id k1 0)) + bit (decide (idAtom id ∈ x.tables[k1][k3].cells[k2]))) := by show _ = _; rw [← hcl.out]; rfl
              have hbt : 0 ≤ bit (decide (idAtom id ∈ x.tables[k1][k3].cells[k2])) ∧ bit (decide (idAtom id ∈ x.tables[k1][k3].cells[k2])) ≤ 1 := by cases decide (idAtom id ∈ x.tables[k1][k3].cells[k2]) <;> decide
              have hn4 : Hid (0 ≤ specRow x id k1 k2 (k3 + 1) (specCol s x nm id k1 k2 (specF s x nm id k1 0)) ∧ specRow x id k1 k2 (k3 + 1) (specCol s x nm id k1 k2 (specF s x nm id k1 0)) ≤ (72 * k1 + 12 * k2 + (k3 + 1) : Nat)) := by show _ ∧ _; rw [hV3.out]; exact ⟨by have := hB3.out.1; omega, by have := hB3.out.2; omega⟩
              have hcall := hide (spec_l03Has hwl3 yR (idAtom id)); obtain ⟨zz, hzz⟩ : ∃ zz, Hid (zz = specRow x id k1 k2 k3 (specCol s x nm id k1 k2 (specF s x nm id k1 0))) := ⟨_, hide rfl⟩
              have hzb : 0 ≤ zz ∧ zz ≤ 1000 := by rw [hzz.out]; exact ⟨hB3.out.1, by have := hB3.out.2; omega⟩
              obtain ⟨yy, hyy⟩ : ∃ yy, Hid (yy = bit (decide (idAtom id ∈ x.tables[k1][k3].cells[k2]))) := ⟨_, hide rfl⟩; rw [← hyy.out] at hbt
              rw [← hzz.out]
              go_wp2_with fail
              refine hcall.out.mono ?_; rintro e w8 ⟨rfl, hb8⟩
              go_wp2_with fail
              refine (spec_l01Bit _ _).mono ?_; rw [← hyy.out]; rintro e w9 ⟨rfl, rfl⟩
              go_wp2_with fail
              go_roundw
              case rel => exact ⟨k3 + 1, hlt3, by go_num, by rw [hV3.out, ← hzz.out, ← hyy.out], hn4, nxt hb3 hb8⟩
              case measure => simp [intOf]; omega
            · obtain rfl : k3 = x.tables[k1].length := by omega
              have hn3 : Hid (0 ≤ specCol s x nm id k1 (k2 + 1) (specF s x nm id k1 0) ∧ specCol s x nm id k1 (k2 + 1) (specF s x nm id k1 0) ≤ (72 * k1 + 12 * (k2 + 1) : Nat)) := by show _ ∧ _; rw [hV2.out]; exact ⟨hB3.out.1, by have := hB3.out.2; omega⟩
              clear pel
              go_wp2_with fail
              go_roundw
              case rel => exact ⟨k2 + 1, hlt2, by go_num, by rw [hV2.out], hn3, hl63⟩
              case measure => simp [intOf]; omega
        · obtain rfl : k2 = s.tables[k1].columns.length := by omega
          have hV1 : Hid (specF s x nm id (k1 + 1) 0 = specCol s x nm id k1 s.tables[k1].columns.length (specF s x nm id k1 0)) := by show _ = _; show specCol s x nm id k1 (s.tables.getD k1 default).columns.length _ = _; rw [get_at _ k1 hlt1]; rfl
          have hn2 : Hid (0 ≤ specF s x nm id (k1 + 1) 0 ∧ specF s x nm id (k1 + 1) 0 ≤ (72 * (k1 + 1) : Nat)) := by show _ ∧ _; rw [hV1.out]; exact ⟨hB2.out.1, by have := hB2.out.2; omega⟩
          clear thel1 hel_s hel_x
          go_wp2_with fail
          go_roundw
          case rel => exact ⟨k1 + 1, hlt1, by go_num, by rw [hV1.out], hn2, hl02⟩
          case measure => simp [intOf]; omega
    · obtain rfl : k1 = s.tables.length := by omega
      have hlx : x.tables.length = s.tables.length := HL.out
      clear hel_s hel_x
      go_wp2
      go_ret
      exact ⟨rfl, hwl1⟩
set_option maxHeartbeats 4000000 in
theorem impl_StrongCount {w : World}  {bs_s : List Nat} {cs_s : List Value} {s : Schema} (H_s : SchemaR w bs_s cs_s s) {bs_x : List Nat} {cs_x : List Value} {x : Store} (H_x : StoreR w bs_x cs_x x) (n : Int) (id : Int)  :
    Calls Tryz.prog 23 #[.agg cs_s.toArray, .agg cs_x.toArray, .int .i64 n, .int .i64 id] w (fun e w' => e = .returned (.tuple #[.int .i64 (countAns s x n id).1, .int .i64 (countAns s x n id).2]) ∧ Below w.heap.size w w') := by
  have H0_s := H_s
  obtain ⟨s_v0, s_b0, rfl, rfl, hf_s, s_r0⟩ := H_s
  obtain ⟨A_s0, c_s0, rfl, hlc_s0, hcm_s0, hel_s0⟩ := s_r0.use
  have H0_x := H_x
  obtain ⟨x_v0, x_b0, rfl, rfl, hf_x, x_r0⟩ := H_x
  obtain ⟨A_x0, c_x0, rfl, hlc_x0, hcm_x0, hel_x0⟩ := x_r0.use
  have hbx := (((Below.refl w.heap.size w).alloc (Nat.le_refl _) (.cells #[.slice A_s0 s.tables.length c_s0] 61)).alloc (by simp; try omega) (.cells #[.slice A_x0 x.tables.length c_x0, .int .i64 x.next] 65))
  obtain ⟨q_s, q_x⟩ := two_at (Below.refl ((w.alloc (.cells #[.slice A_s0 s.tables.length c_s0] 61)).alloc (.cells #[.slice A_x0 x.tables.length c_x0, .int .i64 x.next] 65)).heap.size _)
  clear hel_s0 hel_x0
  go_enter Tryz.func23, Tryz.ntmps23
  go_wp2_with fail
  refine (impl_storeFits (SchemaR.good.nxt hbx H0_s) (StoreR.good.nxt hbx H0_x)).mono ?_; rintro e w1 ⟨rfl, hb1⟩; replace q_s := box_on q_s rfl hb1; replace q_x := box_on q_x rfl hb1; have hw1 := nxt hbx hb1
  cases h1 : storeFit s x
  · go_wp2_with fail
    go_ret2
    exact ⟨by unfold countAns; rw [h1]; rfl, hw1⟩
  go_wp2_with fail
  refine (impl_within _ _ _ _).mono ?_; rintro e w2 ⟨rfl, rfl⟩
  cases h2 : inB n 0 ((x.tables.length : Int) - 1)
  · go_wp2_with fail
    go_ret2
    exact ⟨by unfold countAns; rw [h1, h2]; rfl, hw1⟩
  obtain ⟨m, hn, hm, htab⟩ : ∃ m : Nat, n = m ∧ ∃ hm : m < x.tables.length, tabOf x n = x.tables[m] := by have h3 := inB_iff.1 h2; refine ⟨n.toNat, by omega, by omega, ?_⟩; unfold tabOf; simp [List.getD, (by omega : n.toNat < x.tables.length)]
  subst hn; have hms : m < s.tables.length := by have := storeIn_len (storeFit_in h1); omega
  have hfr := storeIn_at (storeFit_in h1) hms hm; have HR := hide (fitRows_rise hfr); have HN : Hid (x.tables[m].length ≤ 1048576) := by show _ ≤ _; have := fitRows_len hfr; omega
  have HT := hide htab; have H1 := hide h1; have H2 := hide h2; clear htab h1 h2 hfr
  go_wp2_with fail
  refine (impl_hasRow (StoreR.good.nxt hw1 H0_x) hm id HR.out HN.out).mono ?_; rintro e w3 ⟨rfl, hb3⟩; replace q_s := box_on q_s rfl hb3; replace q_x := box_on q_x rfl hb3; have hw3 := nxt hw1 hb3
  cases h3 : hasId x.tables[m] id
  · go_wp2_with fail
    go_ret2
    exact ⟨by unfold countAns; rw [H1.out, H2.out, HT.out, h3]; rfl, hw3⟩
  have H3 := hide h3; clear h3
  go_wp2_with fail
  refine (impl_strongCount (SchemaR.good.nxt hw3 H0_s) (StoreR.good.nxt hw3 H0_x) m id H1.out).mono ?_; rintro e w4 ⟨rfl, hb4⟩; replace q_s := box_on q_s rfl hb4; replace q_x := box_on q_x rfl hb4; have hw4 := nxt hw3 hb4
  go_wp2_with fail
  go_ret2
  exact ⟨by unfold countAns; rw [H1.out, H2.out, HT.out, H3.out]; rfl, hw4⟩
set_option maxHeartbeats 4000000 in
theorem spec_StrongCount {w : World}  {bs_s : List Nat} {cs_s : List Value} {s : Schema} (H_s : SchemaR w bs_s cs_s s) {bs_x : List Nat} {cs_x : List Value} {x : Store} (H_x : StoreR w bs_x cs_x x) (n : Int) (id : Int)  :
    Calls Tryz.prog 20 #[.agg cs_s.toArray, .agg cs_x.toArray, .int .i64 n, .int .i64 id] w (fun e w' => e = .returned (.tuple #[.int .i64 (countAns s x n id).1, .int .i64 (countAns s x n id).2]) ∧ Below w.heap.size w w') := by
  have H0_s := H_s
  obtain ⟨s_v0, s_b0, rfl, rfl, hf_s, s_r0⟩ := H_s
  obtain ⟨A_s0, c_s0, rfl, hlc_s0, hcm_s0, hel_s0⟩ := s_r0.use
  have H0_x := H_x
  obtain ⟨x_v0, x_b0, rfl, rfl, hf_x, x_r0⟩ := H_x
  obtain ⟨A_x0, c_x0, rfl, hlc_x0, hcm_x0, hel_x0⟩ := x_r0.use
  have hbx := (((Below.refl w.heap.size w).alloc (Nat.le_refl _) (.cells #[.slice A_s0 s.tables.length c_s0] 61)).alloc (by simp; try omega) (.cells #[.slice A_x0 x.tables.length c_x0, .int .i64 x.next] 65))
  obtain ⟨q_s, q_x⟩ := two_at (Below.refl ((w.alloc (.cells #[.slice A_s0 s.tables.length c_s0] 61)).alloc (.cells #[.slice A_x0 x.tables.length c_x0, .int .i64 x.next] 65)).heap.size _)
  clear hel_s0
  go_enter Tryz.func20, Tryz.ntmps20
  go_wp2_with fail
  refine (spec_SchemaOK (SchemaR.good.nxt hbx H0_s)).mono ?_; rw [schOKs_eq]; rintro e w1 ⟨rfl, hb1⟩; replace q_s := box_on q_s rfl hb1; replace q_x := box_on q_x rfl hb1; have hw1 := nxt hbx hb1
  cases h1 : schOK s
  · clear hel_x0
    go_wp2_with fail
    go_ret2
    exact ⟨by unfold countAns storeFit; rw [h1]; rfl, hw1⟩
  go_wp2_with fail
  refine (spec_l05Form (SchemaR.good.nxt hw1 H0_s) (StoreR.good.nxt hw1 H0_x)).mono ?_; rw [formIn_eq]; rintro e w2 ⟨rfl, hb2⟩; replace q_s := box_on q_s rfl hb2; replace q_x := box_on q_x rfl hb2; have hw2 := nxt hw1 hb2
  cases h2 : storeIn s x
  · clear hel_x0
    go_wp2_with fail
    go_ret2
    exact ⟨by unfold countAns storeFit; rw [h1, h2]; rfl, hw2⟩
  have hL := storeIn_len h2; have HO : Hid (storeFit s x = true) := by show _ = _; unfold storeFit; rw [h1, h2]; rfl
  have h12 := hide h2; clear h1 h2
  go_wp2_with fail
  refine (spec_l01In _ _ _ _).mono ?_; rintro e w3 ⟨rfl, rfl⟩
  cases h3 : inB n 0 ((s.tables.length : Int) - 1)
  · clear hel_x0
    go_wp2_with fail
    go_ret2
    exact ⟨by unfold countAns; rw [HO.out, hL, h3]; rfl, hw2⟩
  have H3 : Hid (inB n 0 ((x.tables.length : Int) - 1) = true) := by show _ = _; rw [hL]; exact h3
  obtain ⟨m, hn, hm, htab⟩ : ∃ m : Nat, n = m ∧ ∃ hm : m < x.tables.length, tabOf x n = x.tables[m] := by have h3 := inB_iff.1 H3.out; refine ⟨n.toNat, by omega, by omega, ?_⟩; unfold tabOf; simp [List.getD, (by omega : n.toNat < x.tables.length)]
  subst hn; have hms : m < s.tables.length := by omega
  have HT := hide htab; have HL := hide hL; clear htab hL h3
  obtain ⟨pb, po, pbk, pes, rfl, phbl, phcl, phcell, pR, phbk⟩ := hel_x0 m hm
  obtain ⟨pA, pc, phlc, rfl⟩ : ∃ A0 c0, x.tables[m].length ≤ c0 ∧ pes = [.slice A0 x.tables[m].length c0] := by obtain ⟨A0, c0, h, h2, _⟩ := pR; exact ⟨A0, c0, h2, h⟩
  have p_0 := (hw2.cell (p := ⟨pb, _, none⟩) phbl).trans (phcell 0 _ rfl)
  simp only [Nat.add_zero, Nat.mul_one] at p_0
  clear hel_x0
  go_wp2_with fail
  refine (spec_l05Place (RowSR.good.nxt hw2 pR) id).mono ?_; rintro e w4 ⟨rfl, hb4⟩; replace q_s := box_on q_s rfl hb4; replace q_x := box_on q_x rfl hb4; have hw4 := nxt hw2 hb4
  clear p_0
  have hd := rowIdx_has x.tables[m] id
  cases h4 : hasId x.tables[m] id
  · rw [h4] at hd; have hd2 : decide (rowIdx x.tables[m] id < 0) = true := decide_eq_true (by have := of_decide_eq_false hd; omega)
    clear hd
    go_wp2_with fail
    go_ret2
    exact ⟨by unfold countAns; rw [HO.out, H3.out, HT.out, h4]; rfl, hw4⟩
  rw [h4] at hd; have hd2 : decide (rowIdx x.tables[m] id < 0) = false := decide_eq_false (by have := of_decide_eq_true hd; omega)
  have H4 := hide h4; clear hd h4
  go_wp2_with fail
  refine (spec_l05Strong (SchemaR.good.nxt hw4 H0_s) (StoreR.good.nxt hw4 H0_x) hms id HO.out).mono ?_; rw [specF_eq (storeFit_sch HO.out) x hms id]; rintro e w5 ⟨rfl, hb5⟩; replace q_s := box_on q_s rfl hb5; replace q_x := box_on q_x rfl hb5; have hw5 := nxt hw4 hb5
  go_wp2_with fail
  go_ret2
  exact ⟨by unfold countAns; rw [HO.out, H3.out, HT.out, H4.out]; rfl, hw5⟩
end Go.Proofs.YthbebbnidgeaeaaGreat
