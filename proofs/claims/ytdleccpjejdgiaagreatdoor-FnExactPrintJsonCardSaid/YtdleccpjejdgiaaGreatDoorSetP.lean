/- Sets of atoms: by sorting, and by putting one behind the other. No statement is proved here; no conditions. Written by a program (gen37.py). -/
import Derived.Test.YtdleccpjejdgiaaGreatDoorDatum
namespace Go.Proofs.YtdleccpjejdgiaaGreatDoor
open Go.ChangeShapes Go.WideShapes Go.ChangeAt Go.RowKit Go.Deep
set_option maxRecDepth 100000
set_option linter.unusedVariables false
set_option linter.unusedSimpArgs false

def lessB (x y : List UInt8) : Bool := Op.bytesLess x y
theorem lessB_trans {x y z : List UInt8} (h1 : Op.bytesLess x y = true) (h2 : Op.bytesLess y z = true) : Op.bytesLess x z = true := by
  induction x generalizing y z with
  | nil => cases y with
    | nil => cases h1
    | cons b y => cases z with
      | nil => cases h2
      | cons c z => rfl
  | cons a x ih => cases y with
    | nil => cases h1
    | cons b y => cases z with
      | nil => cases h2
      | cons c z =>
        rw [Op.bytesLess] at h1 h2 ⊢
        simp only [Bool.or_eq_true, Bool.and_eq_true, decide_eq_true_eq, beq_iff_eq] at *
        rcases h1 with h1 | ⟨rfl, h1⟩
        · rcases h2 with h2 | ⟨rfl, h2⟩
          · exact Or.inl (UInt8.lt_trans h1 h2)
          · exact Or.inl h1
        · rcases h2 with h2 | ⟨rfl, h2⟩
          · exact Or.inl h2
          · exact Or.inr ⟨rfl, ih h1 h2⟩
theorem lessB_self (x : List UInt8) : Op.bytesLess x x = false := by
  induction x with
  | nil => rfl
  | cons a x ih => rw [Op.bytesLess, ih]; simp
theorem lessB_tri (x y : List UInt8) : x = y ∨ Op.bytesLess x y = true ∨ Op.bytesLess y x = true := by
  induction x generalizing y with
  | nil => cases y with
    | nil => exact Or.inl rfl
    | cons b y => exact Or.inr (Or.inl rfl)
  | cons a x ih => cases y with
    | nil => exact Or.inr (Or.inr rfl)
    | cons b y =>
      rw [Op.bytesLess, Op.bytesLess]
      by_cases h1 : a < b
      · right; left; simp [h1]
      · by_cases h2 : b < a
        · right; right; simp [h2]
        · have : a = b := by
            rw [UInt8.lt_iff_toNat_lt] at h1 h2
            exact UInt8.toNat_inj.1 (by omega)
          subst this
          rcases ih y with rfl | h | h
          · exact Or.inl rfl
          · right; left; simp [h]
          · right; right; simp [h]
def LtA (x y : Atom) : Prop := x.kind < y.kind ∨ (x.kind = y.kind ∧ (x.n < y.n ∨ (x.n = y.n ∧ Op.bytesLess x.t.toList y.t.toList = true)))
theorem cmpI_lt {a b : Int} : cmpI a b < 0 ↔ a < b := by unfold cmpI; split <;> (try split) <;> constructor <;> intro h <;> omega
theorem cmpI_gt {a b : Int} : 0 < cmpI a b ↔ b < a := by unfold cmpI; split <;> (try split) <;> constructor <;> intro h <;> omega
theorem eqS_toList {s t : ByteArray} : s.toList = t.toList ↔ s = t := by
  rw [ByteArray.toList_eq, ByteArray.toList_eq]; exact ⟨fun h => ByteArray.ext (Array.ext' h), fun h => by rw [h]⟩
theorem cmpS_lt {s t : ByteArray} : cmpS s t < 0 ↔ Op.bytesLess s.toList t.toList = true := by
  rw [cmpS_cases]
  by_cases h : s = t
  · subst h; rw [if_pos (eqS_iff.2 rfl), lessB_self]; simp
  · rw [if_neg (fun h' => h (eqS_iff.1 h'))]; unfold bit; cases Op.bytesLess s.toList t.toList <;> simp
theorem cmpS_gt {s t : ByteArray} : 0 < cmpS s t ↔ Op.bytesLess t.toList s.toList = true := by
  rw [cmpS_cases]
  by_cases h : s = t
  · subst h; rw [if_pos (eqS_iff.2 rfl), lessB_self]; simp
  · rw [if_neg (fun h' => h (eqS_iff.1 h'))]
    rcases lessB_tri s.toList t.toList with h1 | h1 | h1
    · exact absurd (eqS_toList.1 h1) h
    · have : Op.bytesLess t.toList s.toList = false := by
        cases h2 : Op.bytesLess t.toList s.toList
        · rfl
        · rw [← lessB_self s.toList]; exact (lessB_trans h1 h2).symm
      rw [this, h1]; unfold bit; simp
    · have : Op.bytesLess s.toList t.toList = false := by
        cases h2 : Op.bytesLess s.toList t.toList
        · rfl
        · rw [← lessB_self s.toList]; exact (lessB_trans h2 h1).symm
      rw [this, h1]; unfold bit; simp
theorem ordA_lt {x y : Atom} : ordA x y < 0 ↔ LtA x y := by
  unfold ordA LtA
  by_cases h1 : x.kind = y.kind
  · by_cases h2 : x.n = y.n
    · rw [if_neg (by simp [h1]), if_neg (by simp [h2]), cmpS_lt]; simp [h1, h2]
    · rw [if_neg (by simp [h1]), if_pos h2, cmpI_lt]; simp [h1, h2]
  · rw [if_pos h1, cmpI_lt]; simp [h1]
theorem ordA_gt {x y : Atom} : 0 < ordA x y ↔ LtA y x := by
  unfold ordA LtA
  by_cases h1 : x.kind = y.kind
  · by_cases h2 : x.n = y.n
    · rw [if_neg (by simp [h1]), if_neg (by simp [h2]), cmpS_gt]; simp [h1, h2]
    · have h2' : ¬ y.n = x.n := fun h => h2 h.symm
      rw [if_neg (by simp [h1]), if_pos h2, cmpI_gt]; simp [h1, h2']
  · have h1' : ¬ y.kind = x.kind := fun h => h1 h.symm
    rw [if_pos h1, cmpI_gt]; simp [h1']
theorem LtA.irrefl (x : Atom) : ¬ LtA x x := by unfold LtA; rw [lessB_self]; simp
theorem LtA.trans {x y z : Atom} (h1 : LtA x y) (h2 : LtA y z) : LtA x z := by
  unfold LtA at *
  rcases h1 with h1 | ⟨e1, h1 | ⟨f1, h1⟩⟩ <;> rcases h2 with h2 | ⟨e2, h2 | ⟨f2, h2⟩⟩
  · left; omega
  · left; omega
  · left; omega
  · left; omega
  · right; exact ⟨by omega, Or.inl (by omega)⟩
  · right; exact ⟨by omega, Or.inl (by omega)⟩
  · left; omega
  · right; exact ⟨by omega, Or.inl (by omega)⟩
  · right; exact ⟨by omega, Or.inr ⟨by omega, lessB_trans h1 h2⟩⟩
theorem LtA.tri (x y : Atom) : x = y ∨ LtA x y ∨ LtA y x := by
  obtain ⟨k1, n1, t1⟩ := x; obtain ⟨k2, n2, t2⟩ := y
  unfold LtA; dsimp only
  by_cases h1 : k1 = k2
  · subst h1
    by_cases h2 : n1 = n2
    · subst h2
      rcases lessB_tri t1.toList t2.toList with h | h | h
      · left; rw [eqS_toList.1 h]
      · right; left; right; exact ⟨rfl, Or.inr ⟨rfl, h⟩⟩
      · right; right; right; exact ⟨rfl, Or.inr ⟨rfl, h⟩⟩
    · by_cases h3 : n1 < n2
      · right; left; right; exact ⟨rfl, Or.inl h3⟩
      · right; right; right; exact ⟨rfl, Or.inl (by omega)⟩
  · by_cases h3 : k1 < k2
    · right; left; left; exact h3
    · right; right; left; omega
theorem LtA.asymm {x y : Atom} (h : LtA x y) : ¬ LtA y x := fun h2 => LtA.irrefl x (h.trans h2)
theorem ordA_zero {x y : Atom} : ordA x y = 0 ↔ x = y := by
  constructor
  · intro h
    rcases LtA.tri x y with h1 | h1 | h1
    · exact h1
    · have := ordA_lt.2 h1; omega
    · have := ordA_gt.2 h1; omega
  · rintro rfl
    have h1 : ¬ ordA x x < 0 := fun h => LtA.irrefl x (ordA_lt.1 h)
    have h2 : ¬ 0 < ordA x x := fun h => LtA.irrefl x (ordA_gt.1 h)
    omega
/-- Rising. -/
def Up (l : List Atom) : Prop := l.Pairwise LtA
theorem up_unique : ∀ {l m : List Atom}, Up l → Up m → (∀ x, x ∈ l ↔ x ∈ m) → l = m
  | [], [], _, _, _ => rfl
  | [], b :: m, _, _, h => by have := (h b).2 (by simp); cases this
  | a :: l, [], _, _, h => by have := (h a).1 (by simp); cases this
  | a :: l, b :: m, hl, hm, h => by
    have hl' := List.pairwise_cons.1 hl; have hm' := List.pairwise_cons.1 hm
    have hab : a = b := by
      rcases List.mem_cons.1 ((h a).1 (by simp)) with h1 | h1
      · exact h1
      · rcases List.mem_cons.1 ((h b).2 (by simp)) with h2 | h2
        · exact h2.symm
        · exact absurd (hm'.1 a h1) (LtA.asymm (hl'.1 b h2))
    subst hab
    have ht : l = m := up_unique hl'.2 hm'.2 fun x => by
      constructor
      · intro hx
        rcases List.mem_cons.1 ((h x).1 (List.mem_cons_of_mem _ hx)) with h1 | h1
        · subst h1; exact absurd (hl'.1 x hx) (LtA.irrefl x)
        · exact h1
      · intro hx
        rcases List.mem_cons.1 ((h x).2 (List.mem_cons_of_mem _ hx)) with h1 | h1
        · subst h1; exact absurd (hm'.1 x hx) (LtA.irrefl x)
        · exact h1
    rw [ht]
/-- What the reference does: one atom put where it belongs. -/
def cutA (d : List Atom) (a : Atom) : Nat → Nat
  | 0 => 0
  | k + 1 => if 0 < ordA (d.getD k default) a then cutA d a k else k + 1
def putA (d : List Atom) (a : Atom) : List Atom := if a ∈ d then d else (d.take (cutA d a d.length) ++ [a]) ++ d.drop (cutA d a d.length)
def joinA (d l : List Atom) : List Atom := l.foldl putA d
theorem cutA_le (d : List Atom) (a : Atom) : ∀ k, cutA d a k ≤ k
  | 0 => Nat.le_refl _
  | k + 1 => by unfold cutA; split; exact Nat.le_succ_of_le (cutA_le d a k); exact Nat.le_refl _
theorem cutA_above (d : List Atom) (a : Atom) : ∀ k, ∀ j, cutA d a k ≤ j → j < k → 0 < ordA (d.getD j default) a
  | 0 => fun j _ h => absurd h (Nat.not_lt_zero _)
  | k + 1 => fun j h1 h2 => by
    unfold cutA at h1
    split at h1
    · rcases Nat.lt_or_ge j k with h3 | h3
      · exact cutA_above d a k j h1 h3
      · obtain rfl : j = k := by omega
        assumption
    · omega
theorem cutA_at (d : List Atom) (a : Atom) : ∀ k, 0 < cutA d a k → ¬ 0 < ordA (d.getD (cutA d a k - 1) default) a
  | 0 => fun h => absurd h (Nat.lt_irrefl _)
  | k + 1 => fun h => by
    unfold cutA at h ⊢
    split
    · rename_i h1; rw [if_pos h1] at h; exact cutA_at d a k h
    · rename_i h1; rw [Nat.add_sub_cancel]; exact h1
theorem putA_mem (d : List Atom) (a x : Atom) : x ∈ putA d a ↔ x ∈ d ∨ x = a := by
  unfold putA; split
  · rename_i h; constructor
    · exact Or.inl
    · rintro (h1 | rfl); exact h1; exact h
  · have : x ∈ d ↔ x ∈ d.take (cutA d a d.length) ∨ x ∈ d.drop (cutA d a d.length) := by rw [← List.mem_append, List.take_append_drop]
    rw [List.mem_append, List.mem_append, this, List.mem_singleton]
    constructor
    · rintro ((h | h) | h); exact Or.inl (Or.inl h); exact Or.inr h; exact Or.inl (Or.inr h)
    · rintro ((h | h) | h); exact Or.inl (Or.inl h); exact Or.inr h; exact Or.inl (Or.inr h)
theorem get_d (d : List Atom) (k : Nat) (h : k < d.length) : d.getD k default = d[k] := by rw [List.getD_eq_getElem?_getD, List.getElem?_eq_getElem h]; rfl
theorem putA_up {d : List Atom} (hd : Up d) (a : Atom) : Up (putA d a) := by
  unfold putA; split
  · exact hd
  · rename_i hne
    have hle := cutA_le d a d.length
    have hpw := List.pairwise_iff_getElem.1 hd
    have hlow : ∀ x ∈ d.take (cutA d a d.length), LtA x a := by
      intro x hx
      obtain ⟨i, hi, rfl⟩ := List.mem_iff_getElem.1 hx
      rw [List.length_take] at hi
      have hi2 : i < d.length := by omega
      rw [List.getElem_take]
      have hc := cutA_at d a d.length (by omega)
      rw [get_d _ _ (by omega)] at hc
      have hlast : LtA d[cutA d a d.length - 1] a := by
        rcases LtA.tri d[cutA d a d.length - 1] a with h | h | h
        · exact absurd (h ▸ List.getElem_mem _) hne
        · exact h
        · exact absurd (ordA_gt.2 h) hc
      rcases Nat.lt_or_ge i (cutA d a d.length - 1) with h | h
      · exact (hpw i _ hi2 (by omega) h).trans hlast
      · have : i = cutA d a d.length - 1 := by omega
        subst this; exact hlast
    have hhigh : ∀ x ∈ d.drop (cutA d a d.length), LtA a x := by
      intro x hx
      obtain ⟨i, hi, rfl⟩ := List.mem_iff_getElem.1 hx
      rw [List.length_drop] at hi
      rw [List.getElem_drop]
      have := cutA_above d a d.length (cutA d a d.length + i) (by omega) (by omega)
      rw [get_d _ _ (by omega)] at this
      exact ordA_gt.1 this
    unfold Up
    rw [List.append_assoc, List.singleton_append, List.pairwise_append, List.pairwise_cons]
    refine ⟨hd.sublist (List.take_sublist _ _), ⟨hhigh, hd.sublist (List.drop_sublist _ _)⟩, fun x hx y hy => ?_⟩
    rcases List.mem_cons.1 hy with rfl | hy
    · exact hlow x hx
    · exact (hlow x hx).trans (hhigh y hy)
theorem joinA_up {d : List Atom} (hd : Up d) (l : List Atom) : Up (joinA d l) := by
  unfold joinA; induction l generalizing d with
  | nil => exact hd
  | cons a l ih => exact ih (putA_up hd a)
theorem joinA_mem (d l : List Atom) (x : Atom) : x ∈ joinA d l ↔ x ∈ d ∨ x ∈ l := by
  unfold joinA; induction l generalizing d with
  | nil => simp
  | cons a l ih => rw [List.foldl_cons, ih, putA_mem, List.mem_cons, or_assoc]
theorem putA_len (d : List Atom) (a : Atom) : (putA d a).length ≤ d.length + 1 := by
  unfold putA; split
  · omega
  · rw [List.length_append, List.length_append, List.length_take, List.length_drop]; simp; omega
theorem joinA_len (d l : List Atom) : (joinA d l).length ≤ d.length + l.length := by
  unfold joinA; induction l generalizing d with
  | nil => simp
  | cons a l ih => have := ih (putA d a); have := putA_len d a; simp; omega
theorem joinA_take (d l : List Atom) (k : Nat) (h : k < l.length) : joinA d (l.take (k + 1)) = putA (joinA d (l.take k)) l[k] := by
  unfold joinA; rw [List.take_add_one, List.getElem?_eq_getElem h, List.foldl_append]; rfl
/-- What the program does: sorted, each once. -/
def ltB (x y : Atom) : Bool := decide (ordA x y < 0)
def sortA (l : List Atom) : List Atom := l.mergeSort fun x y => !ltB y x
theorem ltOf_iff {x y : Atom} : ltB x y = true ↔ LtA x y := by unfold ltB; rw [decide_eq_true_eq]; exact ordA_lt
theorem ltOf_not {x y : Atom} : ltB x y = false ↔ ¬ LtA x y := by rw [← ltOf_iff]; simp
theorem ordA_total (x y : Atom) (h1 : ltB x y = false) (h2 : ltB y x = false) : x = y := by
  rcases LtA.tri x y with h | h | h
  · exact h
  · exact absurd h (ltOf_not.1 h1)
  · exact absurd h (ltOf_not.1 h2)
theorem sortA_mem (l : List Atom) (x : Atom) : x ∈ sortA l ↔ x ∈ l := List.mem_mergeSort
theorem sortA_len (l : List Atom) : (sortA l).length = l.length := List.length_mergeSort l
theorem sortA_pair (l : List Atom) : (sortA l).Pairwise fun x y => ¬ LtA y x := by
  have := List.pairwise_mergeSort (le := fun x y => !ltB y x) (fun a b c h1 h2 => by
    simp only [Bool.not_eq_true'] at *
    exact ltOf_not.2 fun h => by
      have h1 := ltOf_not.1 h1; have h2 := ltOf_not.1 h2
      rcases LtA.tri a b with rfl | h3 | h3
      · exact h2 h
      · exact h2 (h.trans h3)
      · exact h1 h3) (fun a b => by
    rw [Bool.or_eq_true, Bool.not_eq_true', Bool.not_eq_true']
    by_cases h : LtA a b
    · left; exact ltOf_not.2 (LtA.asymm h)
    · right; exact ltOf_not.2 h) l
  exact this.imp fun h => by simpa [ltOf_not] using h
def oldB (xs : List Atom) (q : Nat) : Bool := decide (0 < q) && decide (xs.getD q default = xs.getD (q - 1) default)
def compIdx (xs : List Atom) (k : Nat) : List Nat := (List.range k).filter fun q => !oldB xs q
def compA (xs : List Atom) : List Atom := (compIdx xs xs.length).map fun q => xs.getD q default
theorem compIdx_lt {xs : List Atom} {k q : Nat} (h : q ∈ compIdx xs k) : q < k := by unfold compIdx at h; simpa using (List.mem_filter.1 h).1
theorem compIdx_succ (xs : List Atom) (k : Nat) : compIdx xs (k + 1) = if oldB xs k then compIdx xs k else compIdx xs k ++ [k] := by
  unfold compIdx; rw [List.range_succ, List.filter_append]; cases h : oldB xs k <;> simp [h]
theorem compIdx_len (xs : List Atom) (k : Nat) : (compIdx xs k).length ≤ k := by unfold compIdx; exact Nat.le_trans (List.length_filter_le _ _) (by simp)
theorem compA_mem (xs : List Atom) (x : Atom) : x ∈ compA xs ↔ x ∈ xs := by
  constructor
  · intro h
    obtain ⟨q, hq, rfl⟩ := List.mem_map.1 h
    have := compIdx_lt hq
    rw [get_d _ _ this]; exact List.getElem_mem _
  · intro h
    obtain ⟨i, hi, rfl⟩ := List.mem_iff_getElem.1 h
    have key : ∀ i (hi : i < xs.length), xs[i] ∈ compA xs := by
      intro i
      induction i with
      | zero => intro hi; exact List.mem_map.2 ⟨0, List.mem_filter.2 ⟨by simpa using hi, by simp [oldB]⟩, get_d _ _ hi⟩
      | succ i ih =>
        intro hi
        by_cases he : xs[i + 1] = xs[i]
        · rw [he]; exact ih (by omega)
        · refine List.mem_map.2 ⟨i + 1, List.mem_filter.2 ⟨by simpa using hi, ?_⟩, get_d _ _ hi⟩
          unfold oldB; rw [get_d _ _ hi, Nat.add_sub_cancel, get_d _ _ (by omega)]; simp [he]
    exact key i hi
theorem compA_up {xs : List Atom} (h : xs.Pairwise fun x y => ¬ LtA y x) : Up (compA xs) := by
  have hpw := List.pairwise_iff_getElem.1 h
  have step : ∀ i j, i < j → (hj : j < xs.length) → oldB xs j = false → LtA (xs.getD i default) (xs.getD j default) := by
    intro i j hij hj ho
    unfold oldB at ho
    rw [decide_eq_true (by omega : 0 < j), Bool.true_and, get_d _ _ hj, get_d _ _ (by omega)] at ho
    have hne := of_decide_eq_false ho
    have hlt : LtA xs[j - 1] xs[j] := by
      rcases LtA.tri xs[j - 1] xs[j] with h1 | h1 | h1
      · exact absurd h1.symm hne
      · exact h1
      · exact absurd h1 (hpw (j - 1) j (by omega) hj (by omega))
    rw [get_d _ _ hj, get_d _ _ (by omega)]
    rcases Nat.lt_or_ge i (j - 1) with h2 | h2
    · have h3 := hpw i (j - 1) (by omega) (by omega) h2
      rcases LtA.tri xs[i] xs[j - 1] with h1 | h1 | h1
      · rw [h1]; exact hlt
      · exact h1.trans hlt
      · exact absurd h1 h3
    · have : i = j - 1 := by omega
      subst this; exact hlt
  unfold Up compA
  rw [List.pairwise_map]
  have hr : (compIdx xs xs.length).Pairwise fun i j => i < j := (List.pairwise_lt_range).sublist List.filter_sublist
  refine hr.imp_of_mem fun {i j} hi hj hij => ?_
  have hj' := List.mem_filter.1 hj
  exact step i j hij (by simpa using hj'.1) (by simpa using hj'.2)
def setA (l : List Atom) : List Atom := compA (sortA l)
theorem setA_up (l : List Atom) : Up (setA l) := compA_up (sortA_pair l)
theorem setA_mem (l : List Atom) (x : Atom) : x ∈ setA l ↔ x ∈ l := (compA_mem _ _).trans (sortA_mem _ _)
theorem setA_join {d : List Atom} (hd : Up d) (l : List Atom) : setA (d ++ l) = joinA d l :=
  up_unique (setA_up _) (joinA_up hd l) fun x => by rw [setA_mem, joinA_mem, List.mem_append]
theorem setA_join0 (l : List Atom) : setA l = joinA [] l := setA_join (d := []) List.Pairwise.nil l
theorem setA_len (l : List Atom) : (setA l).length ≤ l.length := by
  unfold setA compA; rw [List.length_map]; have := compIdx_len (sortA l) (sortA l).length; rw [sortA_len] at this; simpa [sortA_len] using this
theorem datum_up {d : List Atom} (h : datumOK d = true) : Up d := by
  unfold datumOK datumTo at h
  rw [Bool.and_eq_true] at h
  have hs : ∀ k (hk : k < d.length), stepOK d k = true := fun k hk => List.all_eq_true.1 h.1 k (by simpa using hk)
  have next : ∀ k (hk : k + 1 < d.length), LtA d[k] d[k + 1] := by
    intro k hk
    have := hs (k + 1) hk
    unfold stepOK at this
    rw [Bool.and_eq_true, Bool.or_eq_true, get_d _ _ hk, Nat.add_sub_cancel, get_d _ _ (by omega)] at this
    rcases this.2 with h1 | h1
    · simp at h1
    · exact ordA_lt.1 (of_decide_eq_true h1)
  refine List.pairwise_iff_getElem.2 fun i j hi hj hij => ?_
  induction j with
  | zero => omega
  | succ j ih =>
    rcases Nat.lt_or_ge i j with h1 | h1
    · exact (ih (by omega) h1).trans (next j hj)
    · have : i = j := by omega
      subst this; exact next i hj
def codeStep (l : List Atom) (i : Nat) : Int := cond (atomOK (l.getD i default)) (cond (kindAt l i == kindAt l 0) 0 9) 1
def codeL (l : List Atom) : Nat → Int
  | 0 => 0
  | k + 1 => cond (codeL l k == 0) (codeStep l k) (codeL l k)
def ofAns (l : List Atom) : List Atom × Int := cond (codeL l l.length == 0) (if 8 < (setA l).length then ([], 6) else (setA l, 0)) ([], codeL l l.length)
end Go.Proofs.YtdleccpjejdgiaaGreatDoor
