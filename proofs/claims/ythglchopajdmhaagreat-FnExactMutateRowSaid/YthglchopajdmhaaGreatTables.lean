/- Tables and schemas: what is found by a name. No statement is proved here; no conditions. -/
import Derived.Test.YthglchopajdmhaaGreatColumn
import Derived.Test.YthglchopajdmhaaGreatFunc
import Derived.Test.YthglchopajdmhaaGreatOwn
namespace Go.Proofs.YthglchopajdmhaaGreat
open Go.ChangeShapes Go.WideShapes Go.ChangeAt Go.RowKit Go.Deep
set_option maxRecDepth 100000
set_option linter.unusedVariables false

abbrev Column.cells (c : Column) : Array Value := #[.string c.name, .int .i64 c.kind, .int .i64 c.min, .int .i64 c.max, .int .i64 c.low, .int .i64 c.high, .string c.ref, .bool c.strong]
def colIdx (cs : List Column) (name : ByteArray) : Int := idxF (fun c : Column => eqS c.name name) cs
def tblIdx (ts : List Table) (name : ByteArray) : Int := idxF (fun t : Table => eqS t.name name) ts
/-- A block that is made and then filled from its first cell on. -/
theorem stored {w w1 : World} {Z : Array Value} {t : TypeId} {es : List Value} (hz : Z.size = es.length)
    (hb : Below (setMany (w.alloc (.cells Z t)) w.heap.size 0 es).heap.size (setMany (w.alloc (.cells Z t)) w.heap.size 0 es) w1) :
    (∀ j, w1.cell? ⟨w.heap.size, j, none⟩ = es.toArray[j]?) ∧ Below w.heap.size w w1 := by
  obtain ⟨cs', h1, h2, h3, h4⟩ := setMany_at es 0 (w.alloc (.cells Z t)) Z (blk_new w Z t) (by omega)
  refine ⟨fun j => ?_, nxt' (setMany_below es 0 _ (Nat.le_refl _) ((Below.refl w.heap.size w).alloc (Nat.le_refl _) _)) hb (by rw [setMany_size]; simp)⟩
  rw [blk_cells (blk_on h1 hb)]
  rcases Nat.lt_or_ge j es.length with h | h
  · have := h3 j es[j] (List.getElem?_eq_getElem h)
    rw [Nat.zero_add] at this
    rw [this]; simp [h]
  · rw [Array.getElem?_eq_none (by omega), Array.getElem?_eq_none (by simpa using h)]
theorem clo_columnAt {w : World} {b : Nat} (name : ByteArray) (q : ∀ j, w.cell? ⟨b, j, none⟩ = #[Value.string name][j]?) (c : Column) :
    Calls Tryz.prog 91 #[.agg c.cells, .pointer (some ⟨b, 0, none⟩)] w fun e w' => e = .returned (.bool (eqS c.name name)) ∧ Below w.heap.size w w' := by
  have hbx := ((Below.refl w.heap.size w).alloc (Nat.le_refl _) (.cells c.cells 88))
  have q1 := box_on q rfl hbx
  clear q
  go_enter Tryz.func91, Tryz.ntmps91
  go_wp2
  go_ret
  exact ⟨rfl, hbx⟩
theorem impl_columnAt {w : World} {bs : List Nat} {cs : List Value} {t : Table} (ht : TableR w bs cs t) (name : ByteArray) :
    Calls Tryz.prog 65 #[.agg cs.toArray, .string name] w fun e w' => e = .returned (.int .i64 (colIdx t.columns name)) ∧ Below w.heap.size w w' := by
  obtain ⟨v1, b1, v2, b2, rfl, rfl, hf, r1, r2⟩ := ht
  obtain ⟨A1, c1, rfl, _, _, _⟩ := r1.use
  have hbx := ((Below.refl w.heap.size w).alloc (Nat.le_refl _) (.cells #[.string t.name, .slice A1 t.columns.length c1, v2, .bool t.root] 40)).alloc (by simp) (.cells #[.string name] 9)
  have q := blk_cells (blk_new (w.alloc (.cells #[.string t.name, .slice A1 t.columns.length c1, v2, .bool t.root] 40)) #[.string name] 9)
  have hbd := idxF_bd (fun c : Column => eqS c.name name) t.columns
  rw [show (w.alloc (.cells #[.string t.name, .slice A1 t.columns.length c1, v2, .bool t.root] 40)).heap.size = w.heap.size + 1 by simp] at q
  go_enter Tryz.func65, Tryz.ntmps65
  go_wp2_with fail
  refine (slices_IndexFuncColumnS (ColumnSR.good.nxt hbx r1) (fun c : Column => eqS c.name name) 91 #[.pointer (some ⟨w.heap.size + 1, 0, none⟩)] (enters_of Tryz.func91 (by kernel_rfl) rfl) (fun k hk bk es hR W hW => by obtain ⟨rfl, rfl, _⟩ := hR; exact clo_columnAt name (box_on q rfl hW) t.columns[k])).mono ?_; rintro e w2 ⟨rfl, hb2⟩
  go_wp2_with fail
  go_ret
  exact ⟨rfl, nxt hbx hb2⟩
theorem spec_l04Column {w : World} {bs : List Nat} {cs : List Value} {t : Table} (ht : TableR w bs cs t) (name : ByteArray) :
    Calls Tryz.prog 53 #[.agg cs.toArray, .string name] w fun e w' => e = .returned (.int .i64 (colIdx t.columns name)) ∧ Below w.heap.size w w' := by
  obtain ⟨v1, b1, v2, b2, rfl, rfl, hf, r1, r2⟩ := ht
  obtain ⟨A1, c1, rfl, hlc, hcm, hel⟩ := r1.use
  have hbx := (Below.refl w.heap.size w).alloc (Nat.le_refl _) (.cells #[.string t.name, .slice A1 t.columns.length c1, v2, .bool t.root] 40)
  unfold colIdx
  go_enter Tryz.func53, Tryz.ntmps53
  go_wp2
  go_loopw [5] (fun i wr => ∃ k : Nat, k ≤ t.columns.length ∧ i = .int .i64 k ∧ Hid (∀ j (hj : j < t.columns.length), j < k → eqS t.columns[j].name name = false) ∧ Below (w.alloc (.cells #[.string t.name, .slice A1 t.columns.length c1, v2, .bool t.root] 40)).heap.size (w.alloc (.cells #[.string t.name, .slice A1 t.columns.length c1, v2, .bool t.root] 40)) wr) (fun i _ => t.columns.length - (intOf i).toNat)
  case atStart => exact ⟨0, Nat.zero_le _, rfl, fun j hj h => absurd h (by omega), Below.refl _ _⟩
  case round =>
    obtain ⟨k, hk, rfl, hn, hbr⟩ := hrel
    have hw1 := nxt hbx hbr
    have q := box_at hbr
    by_cases hlt : k < t.columns.length
    · obtain ⟨b, o, bk, es, rfl, hbl, hcl, hcell, hR, hbk⟩ := hel k hlt
      obtain ⟨hbk', hes, hff⟩ := hR
      subst hes
      have c_0 := (hw1.cell (p := ⟨b, _, none⟩) hbl).trans (hcell 0 _ rfl)
      simp only [Nat.add_zero] at c_0
      clear hcell hel hcl
      cases h1 : eqS t.columns[k].name name
      · have hn2 : Hid (∀ j (hj : j < t.columns.length), j < k + 1 → eqS t.columns[j].name name = false) := by
          intro j hj hjk
          by_cases hjk' : j = k
          · subst hjk'; exact h1
          · exact hn.out j hj (by omega)
        unfold eqS at h1
        go_wp2
        go_roundw
        case rel => exact ⟨k + 1, hlt, by go_num, hn2, hbr⟩
        case measure => simp [intOf]; omega
      · have hr := hide (idxF_at (p := fun c : Column => eqS c.name name) hlt hn.out h1)
        unfold eqS at h1
        go_wp2
        go_ret
        exact ⟨by rw [hr.out]; rfl, hw1⟩
    · obtain rfl : k = t.columns.length := by omega
      have hr := hide (idxF_none (p := fun c : Column => eqS c.name name) hn.out)
      clear hel
      go_wp2
      go_ret
      exact ⟨by rw [hr.out]; rfl, hw1⟩
def upTo (f : Nat → Bool) (n : Nat) : Bool := (List.range n).all f
theorem upTo_zero (f : Nat → Bool) : upTo f 0 = true := rfl
theorem upTo_succ (f : Nat → Bool) (n : Nat) : upTo f (n + 1) = (upTo f n && f n) := by unfold upTo; rw [List.range_succ, List.all_append]; simp
theorem upTo_bad {f : Nat → Bool} {n k : Nat} (hk : k < n) (h : f k = false) : upTo f n = false := by
  unfold upTo; rw [List.all_eq_false]; exact ⟨k, List.mem_range.2 hk, by simp [h]⟩
theorem upTo_at {f : Nat → Bool} {n k : Nat} (h : upTo f n = true) (hk : k < n) : f k = true := by
  unfold upTo at h; exact List.all_eq_true.1 h k (List.mem_range.2 hk)
theorem upTo_iff {f : Nat → Bool} {n : Nat} : upTo f n = true ↔ ∀ k, k < n → f k = true := by
  unfold upTo; simp [List.all_eq_true]
def nameFree (cs : List Column) (i : Nat) : Bool := upTo (fun k => !eqS (cs.getD k default).name (cs.getD i default).name) i
def colStep (cs : List Column) (i : Nat) : Bool := colOK (cs.getD i default) && nameFree cs i
def uniStep (n : Nat) (u : List Int) (i : Nat) : Bool := inB (u.getD i 0) 0 ((n : Int) - 1) && (decide (i = 0) || decide (u.getD (i - 1) 0 < u.getD i 0))
def tblOK (t : Table) : Bool := nameOK t.name && (inB t.columns.length 1 6 && (decide (t.unique.length ≤ 6) && (upTo (colStep t.columns) t.columns.length && upTo (uniStep t.columns.length t.unique) t.unique.length)))
theorem get_at {α : Type} [Inhabited α] (xs : List α) (k : Nat) (h : k < xs.length) : xs.getD k default = xs[k] := by simp [List.getD, h]
theorem get_at0 (xs : List Int) (k : Nat) (h : k < xs.length) : xs.getD k 0 = xs[k] := by simp [List.getD, h]
theorem eqS_self (s : ByteArray) : eqS s s = true := eqS_iff.2 rfl
theorem nameFree_eq (cs : List Column) (i : Nat) (h : i < cs.length) : (colIdx cs cs[i].name == (i : Int)) = nameFree cs i := by
  cases hf : nameFree cs i
  · have hb : ∃ k, k < i ∧ eqS (cs.getD k default).name (cs.getD i default).name = true := by
      false_or_by_contra
      rename_i hne
      have : nameFree cs i = true := upTo_iff.2 fun k hk => by
        cases he : eqS (cs.getD k default).name (cs.getD i default).name
        · rfl
        · exact absurd ⟨k, hk, he⟩ hne
      rw [this] at hf; cases hf
    obtain ⟨k, hk, he⟩ := hb
    rw [get_at cs k (by omega), get_at cs i h] at he
    have h1 : colIdx cs cs[i].name ≤ k := by
      unfold colIdx idxF
      rw [if_pos (List.any_eq_true.2 ⟨cs[k], List.getElem_mem (by omega), he⟩)]
      have : cs.findIdx (fun c => eqS c.name cs[i].name) ≤ k := Nat.not_lt.1 fun hlt => by have := List.not_of_lt_findIdx hlt; simp only [he] at this; simp at this
      omega
    simp only [beq_eq_false_iff_ne]; omega
  · have h1 := idxF_at (p := fun c : Column => eqS c.name cs[i].name) h (fun j hj hjk => by
      have := upTo_at hf hjk
      simp only [get_at cs j hj, get_at cs i h] at this
      simpa using this) (eqS_self _)
    unfold colIdx; rw [h1]; simp
theorem uni_le {n : Nat} {u : List Int} (h : upTo (uniStep n u) u.length = true) (hn : 1 ≤ n) : u.length ≤ n := by
  have hge : ∀ i, i < u.length → (i : Int) ≤ u.getD i 0 := by
    intro i
    induction i with
    | zero => intro hi; have := upTo_at h hi; unfold uniStep at this; rw [Bool.and_eq_true] at this; have h1 := inB_iff.1 this.1; omega
    | succ i ih =>
      intro hi
      have h0 := ih (by omega)
      have := upTo_at h hi
      unfold uniStep at this
      simp only [Nat.add_sub_cancel, Bool.and_eq_true, Bool.or_eq_true, decide_eq_true_eq] at this
      omega
  by_cases hz : u.length = 0
  · omega
  · have h1 := hge (u.length - 1) (by omega)
    have := upTo_at h (show u.length - 1 < u.length by omega)
    unfold uniStep at this; rw [Bool.and_eq_true] at this
    have h2 := inB_iff.1 this.1
    omega
theorem tblOK_long {t : Table} (h1 : inB t.columns.length 1 6 = true) (h : t.columns.length < t.unique.length) : tblOK t = false := by
  unfold tblOK
  have : upTo (uniStep t.columns.length t.unique) t.unique.length = false := by
    cases hu : upTo (uniStep t.columns.length t.unique) t.unique.length
    · rfl
    · have := uni_le hu (by have := inB_iff.1 h1; omega); omega
  rw [this]; simp
set_option maxHeartbeats 4000000 in
theorem impl_isTable {w : World} {bs : List Nat} {cs : List Value} {t : Table} (ht : TableR w bs cs t) :
    Calls Tryz.prog 60 #[.agg cs.toArray] w fun e w' => e = .returned (.bool (tblOK t)) ∧ Below w.heap.size w w' := by
  have ht0 := ht
  obtain ⟨v1, b1, v2, b2, rfl, rfl, hf, r1, r2⟩ := ht
  obtain ⟨A1, c1, rfl, hlc, hcm, hel⟩ := r1.use
  obtain ⟨A2, c2, rfl, hlc2, hcm2, hel2⟩ := r2.use
  have hbx := (Below.refl w.heap.size w).alloc (Nat.le_refl _) (.cells #[.string t.name, .slice A1 t.columns.length c1, .slice A2 t.unique.length c2, .bool t.root] 40)
  have q := box_at (Below.refl (w.alloc (.cells #[.string t.name, .slice A1 t.columns.length c1, .slice A2 t.unique.length c2, .bool t.root] 40)).heap.size _)
  cases h1 : nameOK t.name
  · have hr : Hid (tblOK t = false) := by show _ = _; unfold tblOK; rw [h1]; rfl
    have H1 := hide h1; clear h1 hel hel2
    go_enter Tryz.func60, Tryz.ntmps60
    go_wp2_with fail
    refine (impl_NameOK _ _ hf).mono ?_; rw [H1.out]; rintro e w1 ⟨rfl, rfl⟩
    go_wp2_with fail
    go_ret
    exact ⟨by rw [hr.out]; rfl, hbx⟩
  cases h2 : inB t.columns.length 1 6
  · have hr : Hid (tblOK t = false) := by show _ = _; unfold tblOK; rw [h1, h2]; rfl
    have H1 := hide h1; have H2 := hide h2; clear h1 h2 hel hel2
    go_enter Tryz.func60, Tryz.ntmps60
    go_wp2_with fail
    refine (impl_NameOK _ _ hf).mono ?_; rw [H1.out]; rintro e w1 ⟨rfl, rfl⟩
    go_wp2_with fail
    refine (impl_within _ _ _ _).mono ?_; rw [H2.out]; rintro e w1 ⟨rfl, rfl⟩
    go_wp2_with fail
    go_ret
    exact ⟨by rw [hr.out]; rfl, hbx⟩
  by_cases hlong : t.columns.length < t.unique.length
  · have hr : Hid (tblOK t = false) := tblOK_long h2 hlong
    have H1 := hide h1; have H2 := hide h2; clear h1 h2 hel hel2
    go_enter Tryz.func60, Tryz.ntmps60
    go_wp2_with fail
    refine (impl_NameOK _ _ hf).mono ?_; rw [H1.out]; rintro e w1 ⟨rfl, rfl⟩
    go_wp2_with fail
    refine (impl_within _ _ _ _).mono ?_; rw [H2.out]; rintro e w1 ⟨rfl, rfl⟩
    go_wp2_with fail
    go_ret
    exact ⟨by rw [hr.out]; rfl, hbx⟩
  have hin := inB_iff.1 h2
  have hr0 : Hid (tblOK t = (upTo (colStep t.columns) t.columns.length && upTo (uniStep t.columns.length t.unique) t.unique.length)) := by
    show _ = _; unfold tblOK; rw [h1, h2, show decide (t.unique.length ≤ 6) = true from decide_eq_true (by omega)]; simp
  have H1 := hide h1; have H2 := hide h2; clear h1 h2
  go_enter Tryz.func60, Tryz.ntmps60
  go_wp2_with fail
  refine (impl_NameOK _ _ hf).mono ?_; rw [H1.out]; rintro e w1 ⟨rfl, rfl⟩
  go_wp2_with fail
  refine (impl_within _ _ _ _).mono ?_; rw [H2.out]; rintro e w1 ⟨rfl, rfl⟩
  go_wp2_with fail
  clear H1 H2
  go_loopw [30] (fun i wr => ∃ k : Nat, k ≤ t.columns.length ∧ i = .int .i64 k ∧ Hid (upTo (colStep t.columns) k = true) ∧ Below (w.alloc (.cells #[.string t.name, .slice A1 t.columns.length c1, .slice A2 t.unique.length c2, .bool t.root] 40)).heap.size (w.alloc (.cells #[.string t.name, .slice A1 t.columns.length c1, .slice A2 t.unique.length c2, .bool t.root] 40)) wr) (fun i _ => t.columns.length - (intOf i).toNat)
  case atStart => exact ⟨0, Nat.zero_le _, rfl, upTo_zero _, Below.refl _ _⟩
  case round =>
    obtain ⟨k, hk, rfl, hn, hbr⟩ := hrel
    have hw1 := nxt hbx hbr
    clear q
    have q := box_at hbr
    by_cases hlt : k < t.columns.length
    · obtain ⟨b, o, bk, es, rfl, hbl, hcl, hcell, hR, hbk⟩ := hel k hlt
      obtain ⟨hbk', hes, hff⟩ := hR
      subst hes
      have c_0 := (hw1.cell (p := ⟨b, _, none⟩) hbl).trans (hcell 0 _ rfl)
      have c_1 := (hw1.cell (p := ⟨b, _, none⟩) hbl).trans (hcell 1 _ rfl)
      have c_2 := (hw1.cell (p := ⟨b, _, none⟩) hbl).trans (hcell 2 _ rfl)
      have c_3 := (hw1.cell (p := ⟨b, _, none⟩) hbl).trans (hcell 3 _ rfl)
      have c_4 := (hw1.cell (p := ⟨b, _, none⟩) hbl).trans (hcell 4 _ rfl)
      have c_5 := (hw1.cell (p := ⟨b, _, none⟩) hbl).trans (hcell 5 _ rfl)
      have c_6 := (hw1.cell (p := ⟨b, _, none⟩) hbl).trans (hcell 6 _ rfl)
      have c_7 := (hw1.cell (p := ⟨b, _, none⟩) hbl).trans (hcell 7 _ rfl)
      simp only [Nat.add_zero] at c_0 c_1 c_2 c_3 c_4 c_5 c_6 c_7
      clear hcell hel hcl
      have hB := (Below.refl wr.heap.size wr).alloc (Nat.le_refl _) (.cells t.columns[k].cells 88)
      have hcs : colStep t.columns k = (colOK t.columns[k] && nameFree t.columns k) := by unfold colStep; rw [get_at _ k hlt]
      have hne : (colIdx t.columns t.columns[k].name != (k : Int)) = !nameFree t.columns k := by rw [bne, nameFree_eq _ _ hlt]
      cases hc : colOK t.columns[k]
      · have hr : Hid (tblOK t = false) := by show _ = _; rw [hr0.out, upTo_bad hlt (hcs.trans (by rw [hc]; rfl))]; rfl
        have HC := hide hc; clear hc hcs hne
        go_wp2_with fail
        refine (impl_ColumnOK _ _ hff).mono ?_; rw [HC.out]; rintro e w1 ⟨rfl, hb1⟩
        go_wp2_with fail
        go_ret
        exact ⟨by rw [hr.out]; rfl, nxt hw1 (nxt' hB hb1)⟩
      cases hfr : nameFree t.columns k
      · have hr : Hid (tblOK t = false) := by show _ = _; rw [hr0.out, upTo_bad hlt (hcs.trans (by rw [hc, hfr]; rfl))]; rfl
        rw [hfr] at hne
        have HC := hide hc; clear hc hcs hfr
        go_wp2_with fail
        refine (impl_ColumnOK _ _ hff).mono ?_; rw [HC.out]; rintro e w1 ⟨rfl, hb1⟩; have q4 := box_at hb1; have q1 := box_on q rfl (nxt' hB hb1)
        go_wp2_with fail
        refine (impl_columnAt (TableR.good.nxt (nxt hw1 (nxt' hB hb1)) ht0) _).mono ?_; rintro e w2 ⟨rfl, hb2⟩
        go_wp2_with fail
        go_ret
        exact ⟨by rw [hr.out]; rfl, nxt (nxt hw1 (nxt' hB hb1)) hb2⟩
      · have hn2 : Hid (upTo (colStep t.columns) (k + 1) = true) := by show _ = _; rw [upTo_succ, hn.out, hcs, hc, hfr]; rfl
        rw [hfr] at hne
        have HC := hide hc; clear hc hcs hfr
        go_wp2_with fail
        refine (impl_ColumnOK _ _ hff).mono ?_; rw [HC.out]; rintro e w1 ⟨rfl, hb1⟩; have q4 := box_at hb1; have q1 := box_on q rfl (nxt' hB hb1)
        go_wp2_with fail
        refine (impl_columnAt (TableR.good.nxt (nxt hw1 (nxt' hB hb1)) ht0) _).mono ?_; rintro e w2 ⟨rfl, hb2⟩
        go_wp2_with fail
        go_roundw
        case rel => exact ⟨k + 1, hlt, by go_num, hn2, nxt (nxt hbr (nxt' hB hb1)) hb2⟩
        case measure => simp [intOf]; omega
    · obtain rfl : k = t.columns.length := by omega
      have hr1 : Hid (tblOK t = upTo (uniStep t.columns.length t.unique) t.unique.length) := by show _ = _; rw [hr0.out, hn.out]; rfl
      clear hr0 hel hn
      go_wp2_with fail
      go_loopw [50] (fun i wr => ∃ k : Nat, k ≤ t.unique.length ∧ i = .int .i64 k ∧ Hid (upTo (uniStep t.columns.length t.unique) k = true) ∧ Below (w.alloc (.cells #[.string t.name, .slice A1 t.columns.length c1, .slice A2 t.unique.length c2, .bool t.root] 40)).heap.size (w.alloc (.cells #[.string t.name, .slice A1 t.columns.length c1, .slice A2 t.unique.length c2, .bool t.root] 40)) wr) (fun i _ => t.unique.length - (intOf i).toNat)
      case atStart => exact ⟨0, Nat.zero_le _, rfl, upTo_zero _, hbr⟩
      case round =>
        clear q hw1 hbr
        rename_i wr2
        obtain ⟨k, hk, rfl, hn, hbr⟩ := hrel
        have hw1 := nxt hbx hbr
        have q := box_at hbr
        by_cases hlt : k < t.unique.length
        · obtain ⟨b, o, bk, es, rfl, hbl, hcl, hcell, hR, hbk⟩ := hel2 k hlt
          obtain ⟨hbk', hes, hwf⟩ := hR
          subst hes
          have c_0 := (hw1.cell (p := ⟨b, _, none⟩) hbl).trans (hcell 0 _ rfl)
          simp only [Nat.add_zero, Nat.mul_one] at c_0
          clear hcell hcl
          have hus : uniStep t.columns.length t.unique k = (inB t.unique[k] 0 ((t.columns.length : Int) - 1) && (decide (k = 0) || decide (t.unique.getD (k - 1) 0 < t.unique[k]))) := by unfold uniStep; rw [get_at0 _ k hlt]
          cases hi : inB t.unique[k] 0 ((t.columns.length : Int) - 1)
          · have hr : Hid (tblOK t = false) := by show _ = _; rw [hr1.out, upTo_bad hlt (hus.trans (by rw [hi]; rfl))]
            have HI := hide hi; clear hi hus hel2
            go_wp2_with (go_at_call 82; refine (impl_within _ _ _ _).mono ?_; rw [HI.out]; rintro e w' ⟨rfl, rfl⟩)
            go_ret
            exact ⟨by rw [hr.out]; rfl, hw1⟩
          by_cases hk0 : k = 0
          · have hn2 : Hid (upTo (uniStep t.columns.length t.unique) (k + 1) = true) := by show _ = _; rw [upTo_succ, hn.out, hus, hi, decide_eq_true hk0]; rfl
            have HI := hide hi; clear hi hus hel2
            subst hk0
            simp only [Nat.add_zero] at c_0
            go_wp2_with (go_at_call 82; refine (impl_within _ _ _ _).mono ?_; rw [HI.out]; rintro e w' ⟨rfl, rfl⟩)
            go_roundw
            case rel => exact ⟨1, by omega, rfl, hn2, hbr⟩
            case measure => simp [intOf]; omega
          · obtain ⟨b', o', bk', es', hA', hbl', _, hcell', ⟨_, hes', _⟩, _⟩ := hel2 (k - 1) (by omega)
            cases hA'
            subst hes'
            have c_p := (hw1.cell (p := ⟨b, _, none⟩) hbl).trans (hcell' 0 _ rfl)
            simp only [Nat.add_zero, Nat.mul_one] at c_p
            have hk1 : 1 ≤ k := by omega
            have hk2 : decide ((0 : Int) < (k : Int)) = true := decide_eq_true (by omega)
            rw [get_at0 _ (k - 1) (by omega), decide_eq_false hk0] at hus
            clear hcell' hel2 hk0
            by_cases hup : t.unique[k - 1] < t.unique[k]
            · have hn2 : Hid (upTo (uniStep t.columns.length t.unique) (k + 1) = true) := by show _ = _; rw [upTo_succ, hn.out, hus, hi, decide_eq_true hup]; rfl
              have hle : decide (t.unique[k] ≤ t.unique[k - 1]) = false := decide_eq_false (by omega)
              have HI := hide hi; clear hi hus hup
              go_wp2_with (go_at_call 82; refine (impl_within _ _ _ _).mono ?_; rw [HI.out]; rintro e w' ⟨rfl, rfl⟩)
              go_roundw
              case rel => exact ⟨k + 1, hlt, by go_num, hn2, hbr⟩
              case measure => simp [intOf]; omega
            · have hr : Hid (tblOK t = false) := by show _ = _; rw [hr1.out, upTo_bad hlt (hus.trans (by rw [hi, decide_eq_false hup]; rfl))]
              have hle : decide (t.unique[k] ≤ t.unique[k - 1]) = true := decide_eq_true (by omega)
              have HI := hide hi; clear hi hus hup
              go_wp2_with (go_at_call 82; refine (impl_within _ _ _ _).mono ?_; rw [HI.out]; rintro e w' ⟨rfl, rfl⟩)
              go_ret
              exact ⟨by rw [hr.out]; rfl, hw1⟩
        · obtain rfl : k = t.unique.length := by omega
          have hr : Hid (tblOK t = true) := by show _ = _; rw [hr1.out, hn.out]
          clear hel2
          go_wp2
          go_ret
          exact ⟨by rw [hr.out]; rfl, hw1⟩
set_option maxHeartbeats 4000000 in
theorem spec_l04Table {w : World} {bs : List Nat} {cs : List Value} {t : Table} (ht : TableR w bs cs t) :
    Calls Tryz.prog 48 #[.agg cs.toArray] w fun e w' => e = .returned (.bool (tblOK t)) ∧ Below w.heap.size w w' := by
  obtain ⟨v1, b1, v2, b2, rfl, rfl, hf, r1, r2⟩ := ht
  obtain ⟨A1, c1, rfl, hlc, hcm, hel⟩ := r1.use
  obtain ⟨A2, c2, rfl, hlc2, hcm2, hel2⟩ := r2.use
  have hbx := (Below.refl w.heap.size w).alloc (Nat.le_refl _) (.cells #[.string t.name, .slice A1 t.columns.length c1, .slice A2 t.unique.length c2, .bool t.root] 40)
  have q := box_at (Below.refl (w.alloc (.cells #[.string t.name, .slice A1 t.columns.length c1, .slice A2 t.unique.length c2, .bool t.root] 40)).heap.size _)
  cases h1 : nameOK t.name
  · have hr : Hid (tblOK t = false) := by show _ = _; unfold tblOK; rw [h1]; rfl
    have H1 := hide h1; clear h1 hel hel2
    go_enter Tryz.func48, Tryz.ntmps48
    go_wp2_with fail
    refine (spec_NameOK _ _ hf).mono ?_; rw [H1.out]; rintro e w1 ⟨rfl, rfl⟩
    go_wp2_with fail
    go_ret
    exact ⟨by rw [hr.out]; rfl, hbx⟩
  cases h2 : inB t.columns.length 1 6
  · have hr : Hid (tblOK t = false) := by show _ = _; unfold tblOK; rw [h1, h2]; rfl
    have H1 := hide h1; have H2 := hide h2; clear h1 h2 hel hel2
    go_enter Tryz.func48, Tryz.ntmps48
    go_wp2_with fail
    refine (spec_NameOK _ _ hf).mono ?_; rw [H1.out]; rintro e w1 ⟨rfl, rfl⟩
    go_wp2_with fail
    refine (spec_l01In _ _ _ _).mono ?_; rw [H2.out]; rintro e w1 ⟨rfl, rfl⟩
    go_wp2_with fail
    go_ret
    exact ⟨by rw [hr.out]; rfl, hbx⟩
  by_cases hlong : 6 < t.unique.length
  · have hr : Hid (tblOK t = false) := by show _ = _; unfold tblOK; rw [h1, h2, decide_eq_false (by omega)]; rfl
    have H1 := hide h1; have H2 := hide h2; clear h1 h2 hel hel2
    go_enter Tryz.func48, Tryz.ntmps48
    go_wp2_with fail
    refine (spec_NameOK _ _ hf).mono ?_; rw [H1.out]; rintro e w1 ⟨rfl, rfl⟩
    go_wp2_with fail
    refine (spec_l01In _ _ _ _).mono ?_; rw [H2.out]; rintro e w1 ⟨rfl, rfl⟩
    go_wp2_with fail
    go_ret
    exact ⟨by rw [hr.out]; rfl, hbx⟩
  have hin := inB_iff.1 h2
  have hr0 : Hid (tblOK t = (upTo (colStep t.columns) t.columns.length && upTo (uniStep t.columns.length t.unique) t.unique.length)) := by
    show _ = _; unfold tblOK; rw [h1, h2, show decide (t.unique.length ≤ 6) = true from decide_eq_true (by omega)]; simp
  have H1 := hide h1; have H2 := hide h2; clear h1 h2
  go_enter Tryz.func48, Tryz.ntmps48
  go_wp2_with fail
  refine (spec_NameOK _ _ hf).mono ?_; rw [H1.out]; rintro e w1 ⟨rfl, rfl⟩
  go_wp2_with fail
  refine (spec_l01In _ _ _ _).mono ?_; rw [H2.out]; rintro e w1 ⟨rfl, rfl⟩
  go_wp2_with fail
  clear H1 H2
  go_loopw [3] (fun i wr => ∃ k : Nat, k ≤ t.columns.length ∧ i = .int .i64 k ∧ Hid (upTo (colStep t.columns) k = true) ∧ Below (w.alloc (.cells #[.string t.name, .slice A1 t.columns.length c1, .slice A2 t.unique.length c2, .bool t.root] 40)).heap.size (w.alloc (.cells #[.string t.name, .slice A1 t.columns.length c1, .slice A2 t.unique.length c2, .bool t.root] 40)) wr) (fun i _ => t.columns.length - (intOf i).toNat)
  case atStart => exact ⟨0, Nat.zero_le _, rfl, upTo_zero _, Below.refl _ _⟩
  case round =>
    obtain ⟨k, hk, rfl, hn, hbr⟩ := hrel
    have hw1 := nxt hbx hbr
    clear q
    have q := box_at hbr
    by_cases hlt : k < t.columns.length
    · obtain ⟨b, o, bk, es, rfl, hbl, hcl, hcell, hR, hbk⟩ := hel k hlt
      obtain ⟨hbk', hes, hff⟩ := hR
      subst hes
      have c_0 := (hw1.cell (p := ⟨b, _, none⟩) hbl).trans (hcell 0 _ rfl)
      have c_1 := (hw1.cell (p := ⟨b, _, none⟩) hbl).trans (hcell 1 _ rfl)
      have c_2 := (hw1.cell (p := ⟨b, _, none⟩) hbl).trans (hcell 2 _ rfl)
      have c_3 := (hw1.cell (p := ⟨b, _, none⟩) hbl).trans (hcell 3 _ rfl)
      have c_4 := (hw1.cell (p := ⟨b, _, none⟩) hbl).trans (hcell 4 _ rfl)
      have c_5 := (hw1.cell (p := ⟨b, _, none⟩) hbl).trans (hcell 5 _ rfl)
      have c_6 := (hw1.cell (p := ⟨b, _, none⟩) hbl).trans (hcell 6 _ rfl)
      have c_7 := (hw1.cell (p := ⟨b, _, none⟩) hbl).trans (hcell 7 _ rfl)
      simp only [Nat.add_zero] at c_0 c_1 c_2 c_3 c_4 c_5 c_6 c_7
      clear hcell hcl
      have hcs : colStep t.columns k = (colOK t.columns[k] && nameFree t.columns k) := by unfold colStep; rw [get_at _ k hlt]
      cases hc : colOK t.columns[k]
      · have hr : Hid (tblOK t = false) := by show _ = _; rw [hr0.out, upTo_bad hlt (hcs.trans (by rw [hc]; rfl))]; rfl
        have HC := hide hc; clear hc hcs hel
        go_wp2_with fail
        refine (spec_ColumnOK _ _ hff).mono ?_; rw [colOKs_eq, HC.out]; rintro e w1 ⟨rfl, hb1⟩
        go_wp2_with fail
        go_ret
        exact ⟨by rw [hr.out]; rfl, nxt hw1 hb1⟩
      have HC := hide hc; clear hc
      go_wp2_with fail
      refine (spec_ColumnOK _ _ hff).mono ?_; rw [colOKs_eq, HC.out]; rintro e w1 ⟨rfl, hb1⟩
      have hbr1 := nxt hbr hb1
      clear q c_0 c_1 c_2 c_3 c_4 c_5 c_6 c_7
      go_wp2_with fail
      go_loopw [4] (fun i wr => ∃ m : Nat, m ≤ k ∧ i = .int .i64 m ∧ Hid (upTo (fun j => !eqS (t.columns.getD j default).name (t.columns.getD k default).name) m = true) ∧ Below (w.alloc (.cells #[.string t.name, .slice (some ⟨b, o, none⟩) t.columns.length c1, .slice A2 t.unique.length c2, .bool t.root] 40)).heap.size (w.alloc (.cells #[.string t.name, .slice (some ⟨b, o, none⟩) t.columns.length c1, .slice A2 t.unique.length c2, .bool t.root] 40)) wr) (fun i _ => k - (intOf i).toNat)
      case atStart => exact ⟨0, Nat.zero_le _, rfl, upTo_zero _, hbr1⟩
      case round =>
        clear hw1 hbr hbr1 hb1
        rename_i wr2
        obtain ⟨m, hm, rfl, hmn, hbr⟩ := hrel
        have hw1 := nxt hbx hbr
        by_cases hlm : m < k
        · obtain ⟨b', o', bk', es', hA', hbl', _, hcell', ⟨_, hes', _⟩, _⟩ := hel m (by omega)
          cases hA'
          subst hes'
          obtain ⟨b', o', bk'', es'', hA', _, _, hcell'', ⟨_, hes'', _⟩, _⟩ := hel k hlt
          cases hA'
          subst hes''
          have q := Fw.box (box_at hbr) rfl
          have c_m := Fw.cell ((hw1.cell (p := ⟨b, _, none⟩) hbl).trans (hcell' 0 _ rfl))
          have c_k := Fw.cell ((hw1.cell (p := ⟨b, _, none⟩) hbl).trans (hcell'' 0 _ rfl))
          simp only [Nat.add_zero] at c_m c_k
          clear hel hcell' hcell''
          have he : (!eqS (t.columns.getD m default).name (t.columns.getD k default).name) = !eqS t.columns[m].name t.columns[k].name := by rw [get_at _ m (by omega), get_at _ k hlt]
          have hmlt : m < t.columns.length := by omega
          cases hx : eqS t.columns[m].name t.columns[k].name
          · have hn2 : Hid (upTo (fun j => !eqS (t.columns.getD j default).name (t.columns.getD k default).name) (m + 1) = true) := by show _ = _; rw [upTo_succ, hmn.out, he, hx]; rfl
            unfold eqS at hx
            clear he hcs
            go_wp2_with fail
            refine region_quiet (by kernel_rfl) (by kernel_rfl) ?_
            repeat (go_big_quiet_step (fail))
            refine wpQuiet_nil ?_; intro w3 hb3; clear q c_m c_k
            go_wp2_with fail
            go_roundw
            case rel => exact ⟨m + 1, by omega, by go_num, hn2, nxt hbr hb3⟩
            case measure => simp [intOf]; omega
          · have hr : Hid (tblOK t = false) := by
              show _ = _
              rw [hr0.out, upTo_bad hlt (hcs.trans (by rw [HC.out, show nameFree t.columns k = false from upTo_bad hlm (he.trans (by rw [hx]; rfl))]; rfl))]; rfl
            unfold eqS at hx
            clear he hcs
            go_wp2_with fail
            refine region_quiet (by kernel_rfl) (by kernel_rfl) ?_
            repeat (go_big_quiet_step (fail))
            refine wpQuiet_nil ?_; intro w3 hb3; clear q c_m c_k
            go_wp2_with fail
            go_ret
            exact ⟨by rw [hr.out]; rfl, nxt hw1 hb3⟩
        · obtain rfl : m = k := by omega
          have hn2 : Hid (upTo (colStep t.columns) (m + 1) = true) := by show _ = _; rw [upTo_succ, hn.out, hcs, HC.out, show nameFree t.columns m = true from hmn.out]; rfl
          clear hel hcs
          go_wp2_with fail
          go_roundw
          case rel => exact ⟨m + 1, hlt, by go_num, hn2, hbr⟩
          case measure => simp [intOf]; omega
    · obtain rfl : k = t.columns.length := by omega
      have hr1 : Hid (tblOK t = upTo (uniStep t.columns.length t.unique) t.unique.length) := by show _ = _; rw [hr0.out, hn.out]; rfl
      clear hr0 hel hn
      go_wp2_with fail
      go_loopw [5] (fun i wr => ∃ k : Nat, k ≤ t.unique.length ∧ i = .int .i64 k ∧ Hid (upTo (uniStep t.columns.length t.unique) k = true) ∧ Below (w.alloc (.cells #[.string t.name, .slice A1 t.columns.length c1, .slice A2 t.unique.length c2, .bool t.root] 40)).heap.size (w.alloc (.cells #[.string t.name, .slice A1 t.columns.length c1, .slice A2 t.unique.length c2, .bool t.root] 40)) wr) (fun i _ => t.unique.length - (intOf i).toNat)
      case atStart => exact ⟨0, Nat.zero_le _, rfl, upTo_zero _, hbr⟩
      case round =>
        clear q hw1 hbr
        rename_i wr2
        obtain ⟨k, hk, rfl, hn, hbr⟩ := hrel
        have hw1 := nxt hbx hbr
        by_cases hlt : k < t.unique.length
        · obtain ⟨b, o, bk, es, rfl, hbl, hcl, hcell, hR, hbk⟩ := hel2 k hlt
          obtain ⟨hbk', hes, hwf⟩ := hR
          subst hes
          have qb := box_at hbr
          have q := Fw.box qb rfl
          have c_0 := Fw.cell ((hw1.cell (p := ⟨b, _, none⟩) hbl).trans (hcell 0 _ rfl))
          simp only [Nat.add_zero, Nat.mul_one] at c_0
          clear hcell hcl
          have hus : uniStep t.columns.length t.unique k = (inB t.unique[k] 0 ((t.columns.length : Int) - 1) && (decide (k = 0) || decide (t.unique.getD (k - 1) 0 < t.unique[k]))) := by unfold uniStep; rw [get_at0 _ k hlt]
          have A1 := hide (fun w => spec_l01In t.unique[k] 0 ((t.columns.length : Int) - 1) w)
          cases hi : inB t.unique[k] 0 ((t.columns.length : Int) - 1)
          · have hr : Hid (tblOK t = false) := by show _ = _; rw [hr1.out, upTo_bad hlt (hus.trans (by rw [hi]; rfl))]
            rw [hi] at A1; clear hi hus hel2
            go_wp2_with fail
            refine region_quiet (by kernel_rfl) (by kernel_rfl) ?_
            repeat (go_big_quiet_step ((go_at_call 72; exact quiet_of_eq (A1.out _))))
            refine wpQuiet_nil ?_; intro w3 hb3; clear q qb c_0
            go_wp2_with fail
            go_ret
            exact ⟨by rw [hr.out]; rfl, nxt hw1 hb3⟩
          by_cases hk0 : k = 0
          · have hn2 : Hid (upTo (uniStep t.columns.length t.unique) (k + 1) = true) := by show _ = _; rw [upTo_succ, hn.out, hus, hi, decide_eq_true hk0]; rfl
            rw [hi] at A1; clear hi hus hel2
            subst hk0
            simp only [Nat.add_zero] at c_0
            go_wp2_with fail
            refine region_quiet (by kernel_rfl) (by kernel_rfl) ?_
            repeat (go_big_quiet_step ((go_at_call 72; exact quiet_of_eq (A1.out _))))
            refine wpQuiet_nil ?_; intro w3 hb3; clear q qb c_0
            go_wp2_with fail
            go_roundw
            case rel => exact ⟨1, by omega, rfl, hn2, nxt hbr hb3⟩
            case measure => simp [intOf]; omega
          · obtain ⟨b', o', bk', es', hA', hbl', _, hcell', ⟨_, hes', _⟩, _⟩ := hel2 (k - 1) (by omega)
            cases hA'
            subst hes'
            have c_p := Fw.cell ((hw1.cell (p := ⟨b, _, none⟩) hbl).trans (hcell' 0 _ rfl))
            simp only [Nat.add_zero, Nat.mul_one] at c_p
            have hk1 : 1 ≤ k := by omega
            have hk2 : decide (0 < k) = true := decide_eq_true (by omega)
            rw [get_at0 _ (k - 1) (by omega), decide_eq_false hk0] at hus
            clear hcell' hel2 hk0
            by_cases hup : t.unique[k - 1] < t.unique[k]
            · have hn2 : Hid (upTo (uniStep t.columns.length t.unique) (k + 1) = true) := by show _ = _; rw [upTo_succ, hn.out, hus, hi, decide_eq_true hup]; rfl
              have hle : decide (t.unique[k] ≤ t.unique[k - 1]) = false := decide_eq_false (by omega)
              rw [hi] at A1; clear hi hus hup
              go_wp2_with fail
              refine region_quiet (by kernel_rfl) (by kernel_rfl) ?_
              repeat (go_big_quiet_step ((go_at_call 72; exact quiet_of_eq (A1.out _))))
              refine wpQuiet_nil ?_; intro w3 hb3; clear q qb c_0 c_p
              go_wp2_with fail
              go_roundw
              case rel => exact ⟨k + 1, hlt, by go_num, hn2, nxt hbr hb3⟩
              case measure => simp [intOf]; omega
            · have hr : Hid (tblOK t = false) := by show _ = _; rw [hr1.out, upTo_bad hlt (hus.trans (by rw [hi, decide_eq_false hup]; rfl))]
              have hle : decide (t.unique[k] ≤ t.unique[k - 1]) = true := decide_eq_true (by omega)
              rw [hi] at A1; clear hi hus hup
              go_wp2_with fail
              refine region_quiet (by kernel_rfl) (by kernel_rfl) ?_
              repeat (go_big_quiet_step ((go_at_call 72; exact quiet_of_eq (A1.out _))))
              refine wpQuiet_nil ?_; intro w3 hb3; clear q qb c_0 c_p
              go_wp2_with fail
              go_ret
              exact ⟨by rw [hr.out]; rfl, nxt hw1 hb3⟩
        · obtain rfl : k = t.unique.length := by omega
          have hr : Hid (tblOK t = true) := by show _ = _; rw [hr1.out, hn.out]
          have q := box_at hbr
          clear hel2
          go_wp2
          go_ret
          exact ⟨by rw [hr.out]; rfl, hw1⟩
end Go.Proofs.YthglchopajdmhaaGreat
