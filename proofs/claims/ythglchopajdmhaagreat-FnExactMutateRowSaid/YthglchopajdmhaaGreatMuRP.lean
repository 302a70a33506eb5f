/- A row behind mutations, in plain Lean. No statement is proved here; no conditions. Written by a program (gen48.py). -/
import Derived.Test.YthglchopajdmhaaGreatMutT
import Derived.Test.YthglchopajdmhaaGreatFitRow
namespace Go.Proofs.YthglchopajdmhaaGreat
open Go.ChangeShapes Go.WideShapes Go.ChangeAt Go.RowKit Go.Deep
set_option maxRecDepth 100000
set_option linter.unusedVariables false
set_option linter.unusedSimpArgs false

theorem datum_mk {x : List Atom} {K : Int} (hu : Up x) (ha : ∀ a ∈ x, atomOK a = true ∧ a.kind = K) (hl : x.length ≤ 8) : datumOK x = true := by
  unfold datumOK datumTo
  rw [Bool.and_eq_true]
  refine ⟨List.all_eq_true.2 fun k hk => ?_, decide_eq_true (by omega)⟩
  have hk : k < x.length := by simpa using hk
  have h0 : 0 < x.length := by omega
  have h1 := ha x[k] (List.getElem_mem hk)
  have h2 := ha x[0] (List.getElem_mem h0)
  unfold stepOK kindAt
  rw [get_d _ _ hk, get_d _ _ h0, h1.1, h1.2, h2.2]
  by_cases hk0 : k = 0
  · simp [hk0]
  · have hlt : LtA x[k - 1] x[k] := List.pairwise_iff_getElem.1 hu (k - 1) k (by omega) hk (by omega)
    rw [get_d _ _ (by omega), decide_eq_true (ordA_lt.2 hlt)]; simp
theorem fits_parts {c : Column} {d : List Atom} (h : fitsCode c d = 0) : odd0 c d = false ∧ inB d.length c.min c.max = true := by
  unfold fitsCode at h
  cases h1 : odd0 c d
  · rw [h1] at h
    cases h2 : inB d.length c.min c.max
    · rw [h2] at h; cases h
    · exact ⟨rfl, rfl⟩
  · rw [h1] at h; cases h
theorem fits_kind {c : Column} {d : List Atom} (hd : datumOK d = true) (h : odd0 c d = false) : ∀ a ∈ d, atomOK a = true ∧ a.kind = c.kind := by
  intro a ha
  obtain ⟨k, hk, rfl⟩ := List.mem_iff_getElem.1 ha
  have h1 := datum_all hd k hk
  refine ⟨h1.1, ?_⟩
  have h0 : 0 < d.length := by omega
  rw [odd0_at h0] at h
  have h2 : d[0].kind = c.kind := by simpa using h
  rw [h1.2, kindAt0 h0, h2]
theorem colOK_max {c : Column} (h : colOK c = true) : c.max ≤ 8 := by
  unfold colOK at h; simp only [Bool.and_eq_true] at h; exact (inB_iff.1 h.2.2.1).2
theorem fin_zero {c : Column} {out x : List Atom} (h : finM c out = (x, 0)) : x = out ∧ fitsCode c out = 0 := by
  unfold finM at h
  cases hq : (fitsCode c out != 0)
  · rw [hq] at h
    have h1 : out = x := congrArg Prod.fst h
    exact ⟨h1.symm, by simpa using hq⟩
  · rw [hq] at h
    have h1 : fitsCode c out = 0 := congrArg Prod.snd h
    rw [h1] at hq; cases hq
theorem val_kind {m : Mut} {c : Column} (hv : datumOK m.value = true) (ht : muType m c.kind = 0) : ∀ a ∈ m.value, atomOK a = true ∧ a.kind = c.kind := by
  intro a ha
  obtain ⟨k, hk, rfl⟩ := List.mem_iff_getElem.1 ha
  have h1 := datum_all hv k hk
  refine ⟨h1.1, ?_⟩
  have h0 : 0 < m.value.length := by omega
  unfold muType at ht
  split at ht
  · cases ht
  · rename_i hne
    have h2 : kind0 m.value = c.kind := by
      by_cases h3 : kind0 m.value = c.kind
      · exact h3
      · exact absurd ⟨h0, h3⟩ hne
    rw [h1.2, kindAt0 h0, ← h2, kind0_at h0]
theorem num_kind {m : Mut} {k : Int} (ht : muType m k = 0) (h5 : m.func ≤ 5) : k = 1 := by
  unfold muType at ht
  split at ht
  · cases ht
  · split at ht
    · cases ht
    · rename_i h2
      by_cases hl : k = 1
      · exact hl
      · exact absurd ⟨h5, Or.inl hl⟩ h2
theorem mutL_good {c : Column} {d : List Atom} {m : Mut} (hok : MOK d m) (hc : colOK c = true) (hf : fitsCode c d = 0) (ht : muType m c.kind = 0) {x : List Atom} (h : mutL c d m = (x, 0)) : datumOK x = true ∧ fitsCode c x = 0 := by
  have hdk := fits_kind hok.d (fits_parts hf).1
  have hvk := val_kind hok.v ht
  have fin : ∀ {out : List Atom}, finM c out = (x, 0) → Up out → (∀ a ∈ out, atomOK a = true ∧ a.kind = c.kind) → datumOK x = true ∧ fitsCode c x = 0 := by
    intro out h1 hu ha
    obtain ⟨rfl, h2⟩ := fin_zero h1
    refine ⟨datum_mk hu ha ?_, h2⟩
    have := inB_iff.1 (fits_parts h2).2; have := colOK_max hc; omega
  unfold mutL at h
  split at h
  · exact fin h (joinA_up (datum_up hok.d) _) fun a ha => by
      rcases (joinA_mem _ _ _).1 ha with h1 | h1
      · exact hdk a h1
      · exact hvk a h1
  · split at h
    · exact fin h ((datum_up hok.d).sublist List.filter_sublist) fun a ha => hdk a (List.mem_filter.1 ha).1
    · cases hall : allNum m.func (mv0 m) d
      · rw [hall] at h
        have : (4 : Int) = 0 := congrArg Prod.snd h
        cases this
      · rw [hall] at h
        have hk1 := num_kind ht (by have := hok.f; omega)
        refine fin h (joinA_up List.Pairwise.nil _) fun a ha => ?_
        rcases (joinA_mem _ _ _).1 ha with h1 | h1
        · cases h1
        · obtain ⟨b, hb, rfl⟩ := List.mem_map.1 h1
          have h2 := numOK_in (List.all_eq_true.1 hall b hb)
          refine ⟨?_, hk1.symm⟩
          show atomOK ⟨1, num m.func b.n (mv0 m), ⟨#[]⟩⟩ = true
          have h3 : inB (num m.func b.n (mv0 m)) (-1000000000) 1000000000 = true := inB_iff.2 h2
          unfold atomOK; simp [h3]; unfold nilB; rw [ByteArray.toList_eq]; rfl
/-- The sets of a row behind the first n mutations. -/
def mcell (t : Table) (cs : List (List Atom)) (m : Mut) : List Atom × Int := mutL (colAt t m.column) (cs.getD (colIdx t.columns m.column).toNat []) m
def mnext (t : Table) (cs : List (List Atom)) (m : Mut) : List (List Atom) × Int := if (mcell t cs m).2 = 0 then (cs.set (colIdx t.columns m.column).toNat (mcell t cs m).1, 0) else ([], (mcell t cs m).2)
def mrun (t : Table) (cs : List (List Atom)) (l : List Mut) : Nat → List (List Atom) × Int
  | 0 => (cs, 0)
  | n + 1 => if (mrun t cs l n).2 = 0 then mnext t (mrun t cs l n).1 (l.getD n default) else mrun t cs l n
def mutRowL (t : Table) (r : Row) (l : List Mut) : Row × Int := if (mrun t r.cells l l.length).2 = 0 then (⟨r.id, (mrun t r.cells l l.length).1⟩, 0) else (⟨0, []⟩, (mrun t r.cells l l.length).2)
structure RG (t : Table) (cs : List (List Atom)) : Prop where
  len : cs.length = t.columns.length
  ok : ∀ k (hk : k < cs.length) (ht : k < t.columns.length), datumOK cs[k] = true ∧ fitsCode t.columns[k] cs[k] = 0
theorem mrun_stop {t : Table} {cs : List (List Atom)} {l : List Mut} {n : Nat} (h : (mrun t cs l n).2 ≠ 0) : ∀ k, n ≤ k → mrun t cs l k = mrun t cs l n := by
  intro k hk
  induction k with
  | zero => obtain rfl : n = 0 := by omega
            rfl
  | succ k ih =>
    by_cases he : n = k + 1
    · subst he; rfl
    · have h1 := ih (by omega)
      show (if (mrun t cs l k).2 = 0 then _ else _) = _
      rw [h1, if_neg h]
theorem mrun_succ {t : Table} {cs : List (List Atom)} {l : List Mut} {n : Nat} (h : (mrun t cs l n).2 = 0) (hn : n < l.length) : mrun t cs l (n + 1) = mnext t (mrun t cs l n).1 l[n] := by
  show (if (mrun t cs l n).2 = 0 then _ else _) = _
  rw [if_pos h, show l.getD n default = l[n] from by rw [List.getD_eq_getElem?_getD, List.getElem?_eq_getElem hn]; rfl]
theorem mnext_bad {t : Table} {cs : List (List Atom)} {m : Mut} {co : Int} (h : (mcell t cs m).2 = co) (hc : co ≠ 0) : mnext t cs m = ([], co) := by unfold mnext; rw [if_neg (by rw [h]; exact hc), h]
theorem mnext_good {t : Table} {cs : List (List Atom)} {m : Mut} (h : (mcell t cs m).2 = 0) : mnext t cs m = (cs.set (colIdx t.columns m.column).toNat (mcell t cs m).1, 0) := by unfold mnext; rw [if_pos h]
theorem mutRowL_bad {t : Table} {r : Row} {l : List Mut} {n : Nat} {co : Int} (hn : n < l.length) (h0 : (mrun t r.cells l n).2 = 0) (h : (mcell t (mrun t r.cells l n).1 l[n]).2 = co) (hc : co ≠ 0) : mutRowL t r l = (⟨0, []⟩, co) := by
  have h1 := mrun_succ h0 hn
  rw [mnext_bad h hc] at h1
  have h2 := mrun_stop (n := n + 1) (by rw [h1]; exact hc) l.length (by omega)
  unfold mutRowL; rw [h2, h1, if_neg hc]
theorem mutRowL_good {t : Table} {r : Row} {l : List Mut} (h : (mrun t r.cells l l.length).2 = 0) : mutRowL t r l = (⟨r.id, (mrun t r.cells l l.length).1⟩, 0) := by unfold mutRowL; rw [if_pos h]
/-- What a mutation that has no code meets. -/
structure MGo (t : Table) (m : Mut) : Prop where
  ok : mutOK m = true
  code : mutCode t m = 0
theorem MGo.col {t : Table} {m : Mut} (h : MGo t m) : ∃ k : Nat, ∃ hk : k < t.columns.length, colIdx t.columns m.column = k ∧ muType m t.columns[k].kind = 0 := by
  have hc := h.code
  unfold mutCode at hc
  split at hc
  · cases hc
  · rename_i h1
    obtain ⟨k, hk, he⟩ := colIdx_lt h1
    exact ⟨k, hk, he, by rw [colAt_at hk he] at hc; exact hc⟩
theorem mcell_at {t : Table} {cs : List (List Atom)} {m : Mut} {k : Nat} (hk : k < t.columns.length) (he : colIdx t.columns m.column = k) (hc : k < cs.length) : mcell t cs m = mutL t.columns[k] cs[k] m := by
  unfold mcell; rw [colAt_at hk he, he]
  show mutL _ (cs.getD k []) m = _
  rw [List.getD_eq_getElem?_getD, List.getElem?_eq_getElem hc]; rfl
theorem RG.mok {t : Table} {cs : List (List Atom)} {m : Mut} {k : Nat} (hg : RG t cs) (hm : MGo t m) (hk : k < t.columns.length) (hc : k < cs.length) (ht : muType m t.columns[k].kind = 0) : MOK cs[k] m := mutOK_mok (hg.ok k hc hk).1 hm.ok ht
theorem tbl_col {t : Table} (h : tblOK t = true) {k : Nat} (hk : k < t.columns.length) : colOK t.columns[k] = true := by
  unfold tblOK at h
  simp only [Bool.and_eq_true] at h
  have h1 := upTo_at h.2.2.2.1 hk
  unfold colStep at h1
  rw [get_at _ k hk, Bool.and_eq_true] at h1
  exact h1.1
theorem tbl_six {t : Table} (h : tblOK t = true) : t.columns.length ≤ 6 := by
  unfold tblOK at h; rw [Bool.and_eq_true, Bool.and_eq_true] at h; have := inB_iff.1 h.2.1; omega
theorem RG.next {t : Table} {cs : List (List Atom)} {m : Mut} {k : Nat} (hg : RG t cs) (hm : MGo t m) (htb : tblOK t = true) (hk : k < t.columns.length) (hc : k < cs.length) (ht : muType m t.columns[k].kind = 0) (h0 : (mutL t.columns[k] cs[k] m).2 = 0) : RG t (cs.set k (mutL t.columns[k] cs[k] m).1) := by
  refine ⟨by rw [List.length_set]; exact hg.len, fun j hj hjt => ?_⟩
  rw [List.length_set] at hj
  rw [List.getElem_set]
  by_cases hkj : k = j
  · subst hkj
    rw [if_pos rfl]
    exact mutL_good (hg.mok hm hk hc ht) (tbl_col htb hk) (hg.ok k hc hk).2 ht (Prod.ext rfl h0)
  · rw [if_neg hkj]; exact hg.ok j hj hjt
theorem RG.start {t : Table} {r : Row} (h : cellsIn t r = true) : RG t r.cells := by
  unfold cellsIn at h
  rw [Bool.and_eq_true] at h
  refine ⟨of_decide_eq_true h.1, fun k hk ht => ?_⟩
  have := upTo_at h.2 hk
  unfold cellStep at this
  rw [List.getD_eq_getElem?_getD, List.getElem?_eq_getElem hk, List.getD_eq_getElem?_getD, List.getElem?_eq_getElem ht] at this
  simpa using this
theorem RG.wt {t : Table} {cs : List (List Atom)} (h : RG t cs) : AtomSS.wt cs ≤ 24 * cs.length := by
  have key : ∀ cs : List (List Atom), (∀ d ∈ cs, d.length ≤ 8) → AtomSS.wt cs ≤ 24 * cs.length := by
    intro cs
    unfold AtomSS.wt
    induction cs with
    | nil => intro _; simp
    | cons d cs ih =>
      intro h
      have h1 := ih fun x hx => h x (by simp [hx])
      have h2 := h d (by simp)
      have h3 := AtomS.wt_len d
      simp only [List.map_cons, List.sum_cons, List.length_cons]; omega
  refine key cs fun d hd => ?_
  obtain ⟨k, hk, rfl⟩ := List.mem_iff_getElem.1 hd
  exact datumOK_len (h.ok k hk (by rw [← h.len]; exact hk)).1
theorem mrun_good {t : Table} {cs : List (List Atom)} {l : List Mut} (htb : tblOK t = true) (hg : RG t cs) (hl : ∀ n (hn : n < l.length), MGo t l[n]) : ∀ n, n ≤ l.length → (mrun t cs l n).2 = 0 → RG t (mrun t cs l n).1
  | 0, _, _ => hg
  | n + 1, hn, h => by
    by_cases h0 : (mrun t cs l n).2 = 0
    · have h1 := mrun_succ (n := n) h0 (by omega)
      have hG := mrun_good htb hg hl n (by omega) h0
      have hm := hl n (by omega)
      obtain ⟨k, hk, he, ht⟩ := hm.col
      have hc : k < (mrun t cs l n).1.length := by rw [hG.len]; exact hk
      have hcell := mcell_at hk he hc
      rw [h1] at h ⊢
      by_cases h2 : (mcell t (mrun t cs l n).1 l[n]).2 = 0
      · rw [mnext_good h2, he, hcell]
        rw [hcell] at h2
        exact hG.next hm htb hk hc ht h2
      · rw [mnext_bad rfl h2] at h; exact absurd h h2
    · have h1 := mrun_stop h0 (n + 1) (by omega)
      rw [h1] at h; exact absurd h h0
def mutsOKB (l : List Mut) : Bool := decide (l.length ≤ 8) && l.all mutOK
def codesL (t : Table) (l : List Mut) : Nat → Int
  | 0 => 0
  | n + 1 => if codesL t l n = 0 then mutCode t (l.getD n default) else codesL t l n
theorem codesL_stop {t : Table} {l : List Mut} {n : Nat} (hn : n < l.length) (h0 : codesL t l n = 0) (h : mutCode t l[n] ≠ 0) : codesL t l l.length = mutCode t l[n] := by
  have h1 : codesL t l (n + 1) = mutCode t l[n] := by
    show (if codesL t l n = 0 then _ else _) = _
    rw [if_pos h0, List.getD_eq_getElem?_getD, List.getElem?_eq_getElem hn]; rfl
  have key : ∀ k, n + 1 ≤ k → codesL t l k = mutCode t l[n] := by
    intro k hk
    induction k with
    | zero => omega
    | succ k ih =>
      by_cases he : n = k
      · subst he; exact h1
      · have h2 := ih (by omega)
        show (if codesL t l k = 0 then _ else _) = _
        rw [h2, if_neg h]
  exact key _ hn
theorem codesL_next {t : Table} {l : List Mut} {n : Nat} (hn : n < l.length) (h0 : codesL t l n = 0) : codesL t l (n + 1) = mutCode t l[n] := by
  show (if codesL t l n = 0 then _ else _) = _
  rw [if_pos h0, List.getD_eq_getElem?_getD, List.getElem?_eq_getElem hn]; rfl
theorem codesL_all {t : Table} {l : List Mut} : ∀ n, n ≤ l.length → codesL t l n = 0 → ∀ k (hk : k < l.length), k < n → mutCode t l[k] = 0
  | 0, _, _, _, _, h => absurd h (Nat.not_lt_zero _)
  | n + 1, hn, h, k, hk, hkn => by
    by_cases h0 : codesL t l n = 0
    · rcases Nat.lt_or_ge k n with h1 | h1
      · exact codesL_all n (by omega) h0 k hk h1
      · obtain rfl : k = n := by omega
        rw [codesL_next hk h0] at h; exact h
    · have : codesL t l (n + 1) = codesL t l n := by show (if codesL t l n = 0 then _ else _) = _; rw [if_neg h0]
      rw [this] at h; exact absurd h h0
theorem mgo_of {t : Table} {l : List Mut} (h : mutsOKB l = true) (hc : codesL t l l.length = 0) : ∀ n (hn : n < l.length), MGo t l[n] := fun n hn => by
  unfold mutsOKB at h; rw [Bool.and_eq_true] at h
  exact ⟨List.all_eq_true.1 h.2 _ (List.getElem_mem hn), codesL_all l.length (Nat.le_refl _) hc n hn hn⟩
def mrowAns (t : Table) (r : Row) (l : List Mut) : Row × Int := if 4096 < l.length then (⟨0, []⟩, 2) else cond (mutsOKB l && rowOK t r) (if codesL t l l.length = 0 then mutRowL t r l else (⟨0, []⟩, codesL t l l.length)) (⟨0, []⟩, 1)
theorem mrow_long {t : Table} {r : Row} {l : List Mut} (h : 4096 < l.length) : mrowAns t r l = (⟨0, []⟩, 2) := by unfold mrowAns; rw [if_pos h]
theorem mrow_bad {t : Table} {r : Row} {l : List Mut} (h : ¬ 4096 < l.length) (hb : (mutsOKB l && rowOK t r) = false) : mrowAns t r l = (⟨0, []⟩, 1) := by unfold mrowAns; rw [if_neg h, hb]; rfl
theorem mrow_go {t : Table} {r : Row} {l : List Mut} (h : ¬ 4096 < l.length) (h1 : mutsOKB l = true) (h2 : rowOK t r = true) : mrowAns t r l = if codesL t l l.length = 0 then mutRowL t r l else (⟨0, []⟩, codesL t l l.length) := by unfold mrowAns; rw [if_neg h, h1, h2]; rfl
theorem rowOK_parts {t : Table} {r : Row} (h : rowOK t r = true) : tblOK t = true ∧ cellsIn t r = true := by
  unfold rowOK at h; simp only [Bool.and_eq_true] at h; exact ⟨h.1, h.2.2⟩
theorem mrowAns_wt (t : Table) (r : Row) (l : List Mut) : Row.wtV (mrowAns t r l).1 ≤ 1000 := by
  have hz : Row.wtV ⟨0, []⟩ ≤ 1000 := by simp [Row.wtV, AtomSS.wt]
  unfold mrowAns; split
  · exact hz
  · cases h : (mutsOKB l && rowOK t r)
    · exact hz
    · show Row.wtV (if codesL t l l.length = 0 then mutRowL t r l else (⟨0, []⟩, codesL t l l.length)).1 ≤ 1000
      rw [Bool.and_eq_true] at h
      split
      · rename_i hc
        unfold mutRowL; split
        · rename_i h0
          obtain ⟨h1, h2⟩ := rowOK_parts h.2
          have hG := mrun_good h1 (RG.start h2) (mgo_of h.1 hc) l.length (Nat.le_refl _) h0
          have h3 := hG.wt; have h4 := hG.len; have h5 := tbl_six h1
          show AtomSS.wt (mrun t r.cells l l.length).1 ≤ 1000
          omega
        · exact hz
      · exact hz
end Go.Proofs.YthglchopajdmhaaGreat
