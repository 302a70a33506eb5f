/- Printing parts right values. No statement is proved here; no conditions. Written by a program (gen53.py). -/
import Derived.Test.YtdleccpjejdgiaaGreatDoorJsonN
namespace Go.Proofs.YtdleccpjejdgiaaGreatDoor
open Go.ChangeShapes Go.WideShapes Go.ChangeAt Go.RowKit Go.Deep
set_option maxRecDepth 100000
set_option linter.unusedVariables false
set_option linter.unusedSimpArgs false

def stopB (b : UInt8) : Bool := b == 44 || (b == 93 || b == 125)
def Stop (s : List UInt8) : Prop := ∀ b, s.head? = some b → stopB b = true
def qL : List UInt8 → List UInt8
  | [] => []
  | x :: xs => if x == 34 || x == 92 then 92 :: x :: qL xs else x :: qL xs
def quoteL (t : ByteArray) : List UInt8 := 34 :: (qL t.toList ++ [34])
theorem qL_inj : ∀ {x y s t : List UInt8}, qL x ++ 34 :: s = qL y ++ 34 :: t → x = y ∧ s = t
  | [], [], s, t, h => ⟨rfl, by simpa [qL] using h⟩
  | [], b :: y, s, t, h => by
    unfold qL at h
    split at h
    · simp [qL] at h
    · rename_i hb
      simp only [qL, List.nil_append, List.cons_append, List.cons.injEq] at h
      rw [← h.1] at hb; simp at hb
  | a :: x, [], s, t, h => by
    unfold qL at h
    split at h
    · simp [qL] at h
    · rename_i hb
      simp only [qL, List.nil_append, List.cons_append, List.cons.injEq] at h
      rw [h.1] at hb; simp at hb
  | a :: x, b :: y, s, t, h => by
    unfold qL at h
    split at h
    · split at h
      · simp only [List.cons_append, List.cons.injEq, true_and] at h
        obtain ⟨rfl, h2⟩ := h
        obtain ⟨rfl, h3⟩ := qL_inj h2
        exact ⟨rfl, h3⟩
      · rename_i hb
        simp only [List.cons_append, List.cons.injEq] at h
        rw [← h.1] at hb; simp at hb
    · rename_i ha
      split at h
      · simp only [List.cons_append, List.cons.injEq] at h
        rw [h.1] at ha; simp at ha
      · simp only [List.cons_append, List.cons.injEq] at h
        obtain ⟨rfl, h2⟩ := h
        obtain ⟨rfl, h3⟩ := qL_inj h2
        exact ⟨rfl, h3⟩
theorem toL_inj {s t : ByteArray} (h : s.toList = t.toList) : s = t := by
  rw [ByteArray.toList_eq, ByteArray.toList_eq] at h; exact ByteArray.ext (Array.ext' h)
theorem quoteL_inj {x y : ByteArray} {s t : List UInt8} (h : quoteL x ++ s = quoteL y ++ t) : x = y ∧ s = t := by
  unfold quoteL at h
  simp only [List.cons_append, List.append_assoc, List.singleton_append, List.cons.injEq, true_and, List.nil_append] at h
  obtain ⟨h1, h2⟩ := qL_inj h
  exact ⟨toL_inj h1, h2⟩
theorem span_inj {p : UInt8 → Bool} : ∀ {l m s t : List UInt8}, (∀ b ∈ l, p b = true) → (∀ b ∈ m, p b = true) → (∀ b, s.head? = some b → p b = false) → (∀ b, t.head? = some b → p b = false) → l ++ s = m ++ t → l = m ∧ s = t
  | [], [], _, _, _, _, _, _, h => ⟨rfl, h⟩
  | [], b :: m, s, t, _, hm, hs, _, h => by
    have h1 := hs b (by rw [show s = b :: (m ++ t) from h]; rfl)
    rw [hm b (by simp)] at h1; cases h1
  | a :: l, [], s, t, hl, _, _, ht, h => by
    have h1 := ht a (by rw [show t = a :: (l ++ s) from h.symm]; rfl)
    rw [hl a (by simp)] at h1; cases h1
  | a :: l, b :: m, s, t, hl, hm, hs, ht, h => by
    simp only [List.cons_append, List.cons.injEq] at h
    obtain ⟨rfl, h2⟩ := h
    obtain ⟨rfl, h3⟩ := span_inj (fun b hb => hl b (by simp [hb])) (fun b hb => hm b (by simp [hb])) hs ht h2
    exact ⟨rfl, h3⟩
def dig (n : Nat) : UInt8 := UInt8.ofNat (48 + n)
def digN (n : Nat) : List UInt8 := if h : n < 10 then [dig n] else digN (n / 10) ++ [dig (n % 10)]
decreasing_by omega
def digI (z : Int) : List UInt8 := if z < 0 then 45 :: digN (-z).toNat else digN z.toNat
def isD (b : UInt8) : Bool := b == 45 || (decide (48 ≤ b.toNat) && decide (b.toNat ≤ 57))
theorem dig_nat {n : Nat} (h : n < 10) : (dig n).toNat = 48 + n := by unfold dig; rw [UInt8.toNat_ofNat']; omega
theorem digN_mem : ∀ (n : Nat) (b : UInt8), b ∈ digN n → 48 ≤ b.toNat ∧ b.toNat ≤ 57 := by
  intro n
  induction n using Nat.strongRecOn with
  | _ n ih =>
  intro b hb
  unfold digN at hb
  split at hb
  · rename_i h
    simp only [List.mem_singleton] at hb; subst hb
    rw [dig_nat h]; omega
  · rename_i h
    rcases List.mem_append.1 hb with hb | hb
    · exact ih (n / 10) (by omega) b hb
    · simp only [List.mem_singleton] at hb; subst hb
      rw [dig_nat (Nat.mod_lt _ (by decide))]
      have := Nat.mod_lt n (show 0 < 10 by decide); omega
theorem digI_mem (z : Int) (b : UInt8) (hb : b ∈ digI z) : isD b = true := by
  unfold isD
  have key : ∀ n, b ∈ digN n → (b == 45 || (decide (48 ≤ b.toNat) && decide (b.toNat ≤ 57))) = true := fun n h => by
    have := digN_mem n b h; simp [this.1, this.2]
  unfold digI at hb
  split at hb
  · rcases List.mem_cons.1 hb with rfl | hb
    · rfl
    · exact key _ hb
  · exact key _ hb
def valD (l : List UInt8) : Nat := l.foldl (fun a b => 10 * a + (b.toNat - 48)) 0
theorem valD_digN : ∀ n, valD (digN n) = n := by
  intro n
  induction n using Nat.strongRecOn with
  | _ n ih =>
  unfold digN
  split
  · rename_i h
    show 10 * 0 + ((dig n).toNat - 48) = n
    rw [dig_nat h]; omega
  · rename_i h
    have h1 := ih (n / 10) (by omega)
    unfold valD at h1 ⊢
    rw [List.foldl_append, h1]
    show 10 * (n / 10) + ((dig (n % 10)).toNat - 48) = n
    rw [dig_nat (Nat.mod_lt _ (by decide))]; omega
theorem digN_inj {n m : Nat} (h : digN n = digN m) : n = m := by rw [← valD_digN n, ← valD_digN m, h]
theorem digI_inj {a b : Int} (h : digI a = digI b) : a = b := by
  have no : ∀ n (l : List UInt8), digN n ≠ 45 :: l := fun n l h => by
    have := digN_mem n 45 (by rw [h]; simp); simp at this
  unfold digI at h
  split at h
  · split at h
    · simp only [List.cons.injEq, true_and] at h
      have := digN_inj h; omega
    · exact absurd h.symm (no _ _)
  · split at h
    · exact absurd h (no _ _)
    · have := digN_inj h; omega
theorem stop_isD {s : List UInt8} (h : Stop s) : ∀ b, s.head? = some b → isD b = false := fun b hb => by
  have := h b hb
  unfold stopB at this
  simp only [Bool.or_eq_true, beq_iff_eq] at this
  rcases this with rfl | rfl | rfl <;> rfl
theorem digI_par {a b : Int} {s t : List UInt8} (hs : Stop s) (ht : Stop t) (h : digI a ++ s = digI b ++ t) : a = b ∧ s = t := by
  obtain ⟨h1, h2⟩ := span_inj (digI_mem a) (digI_mem b) (stop_isD hs) (stop_isD ht) h
  exact ⟨digI_inj h1, h2⟩
theorem digN_ne (n : Nat) : digN n ≠ [] := by
  unfold digN; split
  · simp
  · simp
/-- What stands between brackets. -/
def joinC : List (List UInt8) → List UInt8
  | [] => []
  | [x] => x
  | x :: y :: r => x ++ 44 :: joinC (y :: r)
theorem joinC_cons (x : List UInt8) (r : List (List UInt8)) : joinC (x :: r) = x ++ (match r with | [] => [] | y :: q => 44 :: joinC (y :: q)) := by
  cases r with
  | nil => simp [joinC]
  | cons y q => rfl
theorem joinC_snoc (x : List UInt8) : ∀ l : List (List UInt8), joinC (l ++ [x]) = joinC l ++ ((if l = [] then [] else [44]) ++ x)
  | [] => by simp [joinC]
  | [a] => by simp [joinC]
  | a :: b :: r => by
    have := joinC_snoc x (b :: r)
    show a ++ 44 :: joinC (b :: (r ++ [x])) = _
    rw [show b :: (r ++ [x]) = (b :: r) ++ [x] from rfl, this]
    simp [joinC]
theorem joinC_inj {α : Type} (F : α → List UInt8) {e : UInt8} (he : e = 93 ∨ e = 125) : ∀ (xs ys : List α), (∀ x ∈ xs, ∃ b l, F x = b :: l ∧ stopB b = false) → (∀ y ∈ ys, ∃ b l, F y = b :: l ∧ stopB b = false) →
    (∀ x ∈ xs, ∀ y ∈ ys, ∀ s t, Stop s → Stop t → F x ++ s = F y ++ t → x = y ∧ s = t) → ∀ s t, joinC (xs.map F) ++ e :: s = joinC (ys.map F) ++ e :: t → xs = ys ∧ s = t
  | [], [], _, _, _, s, t, h => ⟨rfl, by simpa [joinC] using h⟩
  | [], y :: ys, _, hy, _, s, t, h => by
    obtain ⟨b, l, hb, hs⟩ := hy y (by simp)
    rw [List.map_cons, joinC_cons, hb] at h
    simp only [List.map_nil, joinC, List.nil_append, List.cons_append, List.cons.injEq] at h
    rw [← h.1] at hs
    rcases he with rfl | rfl <;> cases hs
  | x :: xs, [], hx, _, _, s, t, h => by
    obtain ⟨b, l, hb, hs⟩ := hx x (by simp)
    rw [List.map_cons, joinC_cons, hb] at h
    simp only [List.map_nil, joinC, List.nil_append, List.cons_append, List.cons.injEq] at h
    rw [h.1] at hs
    rcases he with rfl | rfl <;> cases hs
  | x :: xs, y :: ys, hx, hy, hi, s, t, h => by
    rw [List.map_cons, List.map_cons, joinC_cons, joinC_cons, List.append_assoc, List.append_assoc] at h
    have tail : ∀ (r : List (List UInt8)) (u : List UInt8), Stop ((match r with | [] => [] | y :: q => 44 :: joinC (y :: q)) ++ e :: u) := by
      intro r u b hb
      cases r with
      | nil =>
        have : e = b := by simpa using hb
        subst this; rcases he with rfl | rfl <;> rfl
      | cons y q =>
        have : 44 = b := by simpa using hb
        subst this; rfl
    obtain ⟨rfl, h2⟩ := hi x (by simp) y (by simp) _ _ (tail _ _) (tail _ _) h
    cases xs with
    | nil =>
      cases ys with
      | nil => exact ⟨rfl, by simpa using h2⟩
      | cons y' ys' =>
        have : e = 44 := by simpa using congrArg List.head? h2
        rcases he with rfl | rfl <;> cases this
    | cons x' xs' =>
      cases ys with
      | nil =>
        have : 44 = e := by simpa using congrArg List.head? h2
        rcases he with rfl | rfl <;> cases this
      | cons y' ys' =>
        have h3 : joinC ((x' :: xs').map F) ++ e :: s = joinC ((y' :: ys').map F) ++ e :: t := by
          simpa using h2
        obtain ⟨h4, h5⟩ := joinC_inj F he (x' :: xs') (y' :: ys') (fun x hx' => hx x (List.mem_cons_of_mem _ hx')) (fun y hy' => hy y (List.mem_cons_of_mem _ hy')) (fun a ha b hb => hi a (List.mem_cons_of_mem _ ha) b (List.mem_cons_of_mem _ hb)) s t h3
        exact ⟨by rw [h4], h5⟩
def prtL : Nat → Json → List UInt8
  | 0, _ => []
  | d + 1, j =>
    if j.kind = 0 then [110, 117, 108, 108] else if j.kind = 1 then (if j.n = 1 then [116, 114, 117, 101] else [102, 97, 108, 115, 101]) else if j.kind = 2 then digI j.n else if j.kind = 3 then quoteL j.t
    else if j.kind = 5 then 123 :: (joinC ((j.keys.zip j.items).map fun p => quoteL p.1 ++ 58 :: prtL d p.2) ++ [125]) else 91 :: (joinC (j.items.map (prtL d)) ++ [93])
/-- Which kind a first byte tells. -/
def kindOf (b : UInt8) : Int := if b = 110 then 0 else if b = 116 then 1 else if b = 102 then 1 else if b = 34 then 3 else if b = 91 then 4 else if b = 123 then 5 else 2
theorem digI_head (z : Int) : ∃ b l, digI z = b :: l ∧ kindOf b = 2 ∧ stopB b = false := by
  have key : ∀ b : UInt8, isD b = true → kindOf b = 2 ∧ stopB b = false := by
    intro b hb
    have h1 : b.toNat = 45 ∨ (48 ≤ b.toNat ∧ b.toNat ≤ 57) := by
      unfold isD at hb
      simp only [Bool.or_eq_true, beq_iff_eq, Bool.and_eq_true, decide_eq_true_eq] at hb
      rcases hb with rfl | hb
      · left; rfl
      · right; exact hb
    have ne : ∀ c : UInt8, c.toNat ≠ 45 → (c.toNat < 48 ∨ 57 < c.toNat) → b ≠ c := fun c h2 h3 h => by subst h; omega
    refine ⟨?_, ?_⟩
    · unfold kindOf
      rw [if_neg (ne 110 (by decide) (by decide)), if_neg (ne 116 (by decide) (by decide)), if_neg (ne 102 (by decide) (by decide)), if_neg (ne 34 (by decide) (by decide)), if_neg (ne 91 (by decide) (by decide)), if_neg (ne 123 (by decide) (by decide))]
    · unfold stopB
      rw [beq_eq_false_iff_ne.2 (ne 44 (by decide) (by decide)), beq_eq_false_iff_ne.2 (ne 93 (by decide) (by decide)), beq_eq_false_iff_ne.2 (ne 125 (by decide) (by decide))]; rfl
  have hne : digI z ≠ [] := by
    unfold digI; split
    · simp
    · exact digN_ne _
  cases h : digI z with
  | nil => exact absurd h hne
  | cons b l => exact ⟨b, l, rfl, key b (digI_mem z b (by rw [h]; simp))⟩
theorem prt_head {d : Nat} {a : Json} (h : partOK a = true) : ∃ b l, prtL (d + 1) a = b :: l ∧ kindOf b = a.kind ∧ stopB b = false := by
  have hk := part_kind h
  unfold prtL
  by_cases e0 : a.kind = 0
  · rw [if_pos e0]; exact ⟨110, _, rfl, by rw [e0]; rfl, rfl⟩
  · rw [if_neg e0]
    by_cases e1 : a.kind = 1
    · rw [if_pos e1]; split
      · exact ⟨116, _, rfl, by rw [e1]; rfl, rfl⟩
      · exact ⟨102, _, rfl, by rw [e1]; rfl, rfl⟩
    · rw [if_neg e1]
      by_cases e2 : a.kind = 2
      · rw [if_pos e2]
        obtain ⟨b, l, h1, h2, h3⟩ := digI_head a.n
        exact ⟨b, l, h1, by rw [e2]; exact h2, h3⟩
      · rw [if_neg e2]
        by_cases e3 : a.kind = 3
        · rw [if_pos e3]; exact ⟨34, _, rfl, by rw [e3]; rfl, rfl⟩
        · rw [if_neg e3]
          by_cases e5 : a.kind = 5
          · rw [if_pos e5]; exact ⟨123, _, rfl, by rw [e5]; rfl, rfl⟩
          · rw [if_neg e5]; exact ⟨91, _, rfl, by rw [show a.kind = 4 by omega]; rfl, rfl⟩
theorem nil_of {s : ByteArray} (h : s.toList.isEmpty = true) : s.toList = [] := by simpa using h
theorem prt_inj : ∀ (d : Nat) (a b : Json), goodJ d a = true → goodJ d b = true → ∀ s t, Stop s → Stop t → prtL d a ++ s = prtL d b ++ t → a = b ∧ s = t
  | 0, _, _, ha, _, _, _, _, _, _ => by cases ha
  | d + 1, a, b, ha, hb, s, t, hs, ht, h => by
    obtain ⟨pa, ga⟩ := good_parts ha
    obtain ⟨pb, gb⟩ := good_parts hb
    obtain ⟨x, l, hx, kx, _⟩ := prt_head (d := d) pa
    obtain ⟨y, m, hy, ky, _⟩ := prt_head (d := d) pb
    have hk : a.kind = b.kind := by
      rw [hx, hy] at h
      have : x = y := by simpa using congrArg List.head? h
      rw [← kx, ← ky, this]
    have hka := part_kind pa
    have ga' : ∀ x ∈ a.items, goodJ d x = true := fun x hx => by obtain ⟨k, hk, rfl⟩ := List.mem_iff_getElem.1 hx; exact ga k hk
    have gb' : ∀ x ∈ b.items, goodJ d x = true := fun x hx => by obtain ⟨k, hk, rfl⟩ := List.mem_iff_getElem.1 hx; exact gb k hk
    have hd : ∀ x, goodJ d x = true → ∃ b l, prtL d x = b :: l ∧ stopB b = false := fun x hx => by
      cases d with
      | zero => cases hx
      | succ d => obtain ⟨b, l, h1, _, h3⟩ := prt_head (d := d) (good_parts hx).1; exact ⟨b, l, h1, h3⟩
    obtain ⟨k1, n1, t1, ks1, is1⟩ := a
    obtain ⟨k2, n2, t2, ks2, is2⟩ := b
    simp only [Json.kind, Json.items] at hk hka ga' gb'
    subst hk
    unfold prtL at h
    unfold partOK at pa pb
    simp only [Json.kind, Json.n, Json.t, Json.keys, Json.items] at h pa pb
    by_cases e0 : k1 = 0
    · subst e0; simp at pa pb h
      obtain ⟨rfl, h1, h2, h3⟩ := pa; obtain ⟨rfl, h4, h5, h6⟩ := pb
      subst h2; subst h3; subst h5; subst h6
      exact ⟨by rw [toL_inj (h1.trans h4.symm)], h⟩
    by_cases e1 : k1 = 1
    · subst e1; simp at pa pb h
      obtain ⟨h0, h1, h2, h3⟩ := pa; obtain ⟨h0', h4, h5, h6⟩ := pb
      subst h2; subst h3; subst h5; subst h6
      have b1 := inB_iff.1 h0; have b2 := inB_iff.1 h0'
      have hn : n1 = n2 ∧ s = t := by
        by_cases q1 : n1 = 1 <;> by_cases q2 : n2 = 1
        · simp [q1, q2] at h; exact ⟨by omega, h⟩
        · simp [q1, q2] at h
        · simp [q1, q2] at h
        · simp [q1, q2] at h; exact ⟨by omega, h⟩
      exact ⟨by rw [toL_inj (h1.trans h4.symm), hn.1], hn.2⟩
    by_cases e2 : k1 = 2
    · subst e2; simp at pa pb h
      obtain ⟨h0, h1, h2, h3⟩ := pa; obtain ⟨h0', h4, h5, h6⟩ := pb
      subst h2; subst h3; subst h5; subst h6
      have hn := digI_par hs ht h
      exact ⟨by rw [toL_inj (h1.trans h4.symm), hn.1], hn.2⟩
    by_cases e3 : k1 = 3
    · subst e3; simp at pa pb h
      obtain ⟨rfl, h1, h2, h3⟩ := pa; obtain ⟨rfl, h4, h5, h6⟩ := pb
      subst h2; subst h3; subst h5; subst h6
      have hn := quoteL_inj h
      exact ⟨by rw [hn.1], hn.2⟩
    by_cases e4 : k1 = 4
    · subst e4; simp at pa pb h
      obtain ⟨rfl, h1, h2⟩ := pa; obtain ⟨rfl, h4, h5⟩ := pb
      subst h2; subst h5
      have h6 := joinC_inj (prtL d) (Or.inl rfl) is1 is2 (fun x hx => hd x (ga' x hx)) (fun x hx => hd x (gb' x hx)) (fun x hx y hy => prt_inj d x y (ga' x hx) (gb' y hy)) s t h
      exact ⟨by rw [toL_inj (h1.trans h4.symm), h6.1], h6.2⟩
    · have e5 : k1 = 5 := by have := hka.2.1; have := hka.1; omega
      subst e5; simp at pa pb h
      obtain ⟨rfl, h1, h2, _⟩ := pa; obtain ⟨rfl, h4, h5, _⟩ := pb
      have h6 := joinC_inj (fun p : ByteArray × Json => quoteL p.1 ++ 58 :: prtL d p.2) (Or.inr rfl) (ks1.zip is1) (ks2.zip is2)
        (fun p hp => ⟨34, _, rfl, rfl⟩) (fun p hp => ⟨34, _, rfl, rfl⟩)
        (fun p hp q hq u v hu hv he => by
          obtain ⟨p1, p2⟩ := p; obtain ⟨q1, q2⟩ := q
          simp only [List.append_assoc, List.cons_append] at he
          obtain ⟨r1, r2⟩ := quoteL_inj he
          simp only [List.cons.injEq, true_and] at r2
          obtain ⟨r3, r4⟩ := prt_inj d p2 q2 (ga' _ (List.of_mem_zip hp).2) (gb' _ (List.of_mem_zip hq).2) u v hu hv r2
          exact ⟨by rw [r1, r3], r4⟩) s t h
      have hz := h6.1
      have hks : ks1 = ks2 := by
        have := congrArg (List.map Prod.fst) hz
        rwa [List.map_fst_zip (by omega), List.map_fst_zip (by omega)] at this
      have his : is1 = is2 := by
        have := congrArg (List.map Prod.snd) hz
        rwa [List.map_snd_zip (by omega), List.map_snd_zip (by omega)] at this
      exact ⟨by rw [toL_inj (h1.trans h4.symm), hks, his], h6.2⟩
theorem prt_eq {d : Nat} {a b : Json} (ha : goodJ d a = true) (hb : goodJ d b = true) : prtL d a = prtL d b ↔ a = b :=
  ⟨fun h => (prt_inj d a b ha hb [] [] (fun _ h => by cases h) (fun _ h => by cases h) (by rw [h])).1, fun h => by rw [h]⟩
end Go.Proofs.YtdleccpjejdgiaaGreatDoor
