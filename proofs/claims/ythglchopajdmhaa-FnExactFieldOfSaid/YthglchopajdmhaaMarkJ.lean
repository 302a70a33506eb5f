/- Marks of values. No statement is proved here; no conditions. Written by a program (gen59.py). -/
import Derived.Test.YthglchopajdmhaaJson
import Derived.Test.YthglchopajdmhaaMarkV
import Derived.Test.YthglchopajdmhaaHeld
namespace Go.Proofs.Ythglchopajdmhaa
open Go.ChangeShapes Go.WideShapes Go.ChangeAt Go.RowKit Go.Deep
set_option maxRecDepth 100000
set_option linter.unusedVariables false
set_option linter.unusedSimpArgs false

mutual
def Json.wt : Json → Nat
  | ⟨_, _, _, ks, its⟩ => 1 + 1 + 1 + StringS.wt ks + Json.wts its
def Json.wts : List Json → Nat
  | [] => 0
  | x :: l => x.wt + Json.wts l
end
def JsonS.wt (xs : List Json) : Nat := (xs.map Json.wt).sum
theorem Json.wts_eq : ∀ l : List Json, Json.wts l = JsonS.wt l
  | [] => rfl
  | x :: l => by show x.wt + Json.wts l = _; rw [Json.wts_eq l]; simp [JsonS.wt]
theorem Json.wt_eq : ∀ a : Json, a.wt = 1 + 1 + 1 + StringS.wt a.keys + JsonS.wt a.items
  | ⟨_, _, _, ks, its⟩ => by show 1 + 1 + 1 + StringS.wt ks + Json.wts its = _; rw [Json.wts_eq]; rfl
mutual
theorem Json.wt_le : ∀ a : Json, a.wt ≤ 8 * (1 + a.bulk)
  | ⟨_, _, t, ks, its⟩ => by
    show 1 + 1 + 1 + StringS.wt ks + Json.wts its ≤ 8 * (1 + (t.size + StringS.bulk ks + Json.bulks its))
    have h1 := StringS.wt_le ks; have h2 := Json.wts_le its; omega
theorem Json.wts_le : ∀ l : List Json, Json.wts l ≤ 8 * Json.bulks l
  | [] => Nat.le_refl _
  | x :: l => by
    show x.wt + Json.wts l ≤ 8 * (1 + x.bulk + Json.bulks l)
    have h1 := Json.wt_le x; have h2 := Json.wts_le l; omega
end
theorem JsonS.wt_le (xs : List Json) : JsonS.wt xs ≤ 8 * JsonS.bulk xs := by rw [← Json.wts_eq, ← Json.bulks_eq]; exact Json.wts_le xs
mutual
def Json.mark : Json → Int → Json
  | ⟨_, _, _, ks, its⟩, k => ⟨k, k + 1, mText (k + 1 + 1), StringS.mark ks (k + 1 + 1 + 1), Json.marks its (k + 1 + 1 + 1 + (StringS.wt ks : Int))⟩
def Json.marks : List Json → Int → List Json
  | [], _ => []
  | x :: l, k => x.mark k :: Json.marks l (k + (x.wt : Int))
end
def JsonS.mark (xs : List Json) (k : Int) : List Json := mkUp Json.mark Json.wt xs k xs.length
theorem JsonS.mark_at {l : List Json} {k : Int} {j : Nat} (hj : j < l.length) (h2 : j < (JsonS.mark l k).length) : (JsonS.mark l k)[j] = Json.mark l[j] (k + psum Json.wt l j) :=
  (mkUp_at (mk := Json.mark) (wt := Json.wt) h2 hj).trans (if_pos hj)
theorem Json.marks_eq : ∀ (l : List Json) (k : Int), Json.marks l k = JsonS.mark l k
  | [], k => rfl
  | x :: l, k => by
    show x.mark k :: Json.marks l (k + (x.wt : Int)) = _
    rw [Json.marks_eq l]
    apply List.ext_getElem
    · simp [JsonS.mark, mkUp_len]
    · intro j h1 h2
      have hj : j < (x :: l).length := by simpa [JsonS.mark, mkUp_len] using h2
      rw [JsonS.mark_at hj h2]
      match j, hj with
      | 0, _ => simp [psum_zero]
      | j + 1, hj =>
        have hj' : j < l.length := by simpa using hj
        rw [List.getElem_cons_succ, List.getElem_cons_succ, JsonS.mark_at hj']
        congr 1
        simp [psum]; omega
theorem Json.mark_eq : ∀ (a : Json) (k : Int), a.mark k = ⟨k, k + 1, mText (k + 1 + 1), StringS.mark a.keys (k + 1 + 1 + 1), JsonS.mark a.items (k + 1 + 1 + 1 + (StringS.wt a.keys : Int))⟩
  | ⟨_, _, _, ks, its⟩, k => by show Json.mk _ _ _ _ (Json.marks its _) = _; rw [Json.marks_eq]; rfl
def Json.markV (a : Json) (k : Int) : Json := ⟨a.kind, a.n, a.t, StringS.mark a.keys k, JsonS.mark a.items (k + (StringS.wt a.keys : Int))⟩
def Json.wtV (a : Json) : Nat := StringS.wt a.keys + JsonS.wt a.items
theorem Json.wtV_le (a : Json) : Json.wtV a ≤ 8 * Json.bulk a := by
  have h1 := StringS.wt_le a.keys; have h2 := JsonS.wt_le a.items; unfold Json.wtV; rw [Json.bulk_eq]; omega
abbrev MkIH (N : Nat) : Prop := ∀ {w : World} {lo : Nat} {bs : List Nat} {v : Value} {xs : List Json} (h : (SlR 5 (JR N)) w bs [v] xs) (hf : Fr lo w bs) {k : Int} (h0 : 0 < k) (h1 : k + JsonS.wt xs ≤ 1099511627776), Calls Try.prog 62 #[v, .int .i64 k] w (MkP (SlR 5 (JR N)) w lo bs [v] (JsonS.mark xs k) (k + JsonS.wt xs))
set_option maxHeartbeats 4000000 in
theorem markJsonS_step {N : Nat} (IH : ∀ n, N = n + 1 → MkIH n) : MkIH N := by
  intro w lo bs v xs h hf k h0 h1
  have h00 := h
  obtain ⟨A, c, rfl, hlc, hcm, _⟩ := h.use
  have hs0 : Hid ((SlR 5 (JR N)) w bs [.slice A xs.length c] (mkUp Json.mark Json.wt xs k 0)) := by show (SlR 5 (JR N)) w bs _ _; rw [mkUp_zero]; exact h00
  clear h h00
  have htot : (xs.map Json.wt).sum = JsonS.wt xs := rfl
  have HT := hide htot
  clear htot
  go_enter Try.func62, Try.ntmps62
  go_wp2
  go_loopw [1, 5] (fun kk i wr => ∃ j : Nat, j ≤ xs.length ∧ i = .int .i64 j ∧ kk = .int .i64 (k + psum Json.wt xs j) ∧ Hid ((SlR 5 (JR N)) wr bs [.slice A xs.length c] (mkUp Json.mark Json.wt xs k j)) ∧ Fr lo wr bs ∧ Upd bs w wr) (fun _ i _ => xs.length - (intOf i).toNat)
  case atStart => exact ⟨0, Nat.zero_le _, rfl, by rw [psum_zero]; go_num, hs0, hf, Upd.refl _ _⟩
  case round =>
    clear hs0 hf
    obtain ⟨j, hj, rfl, rfl, hR, hF, hU⟩ := hrel
    by_cases hlt : j < xs.length
    · obtain ⟨b, o, bk, es, cur, ty, rfl, hcur, hbm, hbn, hsub, hes, hcell, hRe, hFk, hclose⟩ := SlR.at (JR.good N) hR.out hF (by rw [mkUp_len]; exact hlt)
      rw [mkUp_here _ hlt] at hRe
      obtain ⟨n, hN⟩ : ∃ m, N = m + 1 := (by cases N with | zero => exact hRe.elim | succ m => exact ⟨m, rfl⟩); subst hN; have IH := @IH n rfl
      have hclose := hide hclose
      obtain ⟨v3, b3, v4, b4, hbk, hee, _, r3, r4⟩ := hRe
      subst hee
      have rr3 := hide r3
      obtain ⟨D3, d3, rfl, _, _, _⟩ := r3.use
      have rr4 := hide r4
      obtain ⟨D4, d4, rfl, _, _, _⟩ := r4.use
      have hbk := hbk.symm; subst hbk
      have hsz : o + j * 5 + 5 ≤ cur.size := by have := (Array.getElem?_eq_some_iff.1 (hcell 4 _ rfl)).1; omega
      have hp := psum_succ Json.wt xs j hlt
      have hp2 := psum_le Json.wt xs (j + 1)
      have hp3 : k + (psum Json.wt xs j : Int) + (Json.wt xs[j] : Int) ≤ 1099511627776 := by rw [HT.out] at hp2; omega
      have hwt : (Json.wt xs[j] : Int) = 1 + 1 + 1 + (StringS.wt xs[j].keys : Int) + (JsonS.wt xs[j].items : Int) := by rw [Json.wt_eq]; simp
      rw [hwt] at hp3
      have HW := hide hwt; clear hwt
      have HP := hide hp; clear hp hp2
      have fz := blk_free hcur
      have hbn3 : b ∉ b3 := fun hx => hbn (List.mem_append_left _ hx)
      have hss3 : ∀ x ∈ b3, x ∈ bs := fun x hx => hsub x (List.mem_append_left _ hx)
      have hFn3 : Fr lo wr b3 := ⟨(List.nodup_append.1 hFk.1).1, fun x hx => hFk.2 x (List.mem_append_left _ hx)⟩
      have hbn4 : b ∉ b4 := fun hx => hbn (List.mem_append_right _ hx)
      have hss4 : ∀ x ∈ b4, x ∈ bs := fun x hx => hsub x (List.mem_append_right _ hx)
      have hFn4 : Fr lo wr b4 := ⟨(List.nodup_append.1 hFk.1).2.1, fun x hx => hFk.2 x (List.mem_append_right _ hx)⟩
      have hdis : ∀ x ∈ b4, x ∉ b3 := fun x hx hy => (List.nodup_append.1 hFk.1).2.2 x hy x hx rfl
      obtain ⟨u0, s0⟩ := blk_cell hcur (j := o + j * 5) (by (try simp); omega)
      obtain ⟨u1, s1⟩ := blk_cell hcur (j := o + j * 5 + 1) (by (try simp); omega)
      obtain ⟨u2, s2⟩ := blk_cell hcur (j := o + j * 5 + 2) (by (try simp); omega)
      have s3 := (blk_cells hcur (o + j * 5 + 3)).trans ((hcell 3 _ rfl))
      have s4 := (blk_cells hcur (o + j * 5 + 4)).trans ((hcell 4 _ rfl))
      go_wp2_with fail
      refine (markText (by omega) (by omega)).mono ?_; rintro e w1 ⟨rfl, hb1⟩
      have B1 := blk_on (blk_set (blk_set (hcur) (o + j * 5) (.int .i64 (k + psum Json.wt xs j))) (o + j * 5 + 1) (.int .i64 (k + psum Json.wt xs j + 1))) hb1
      have fz := blk_free B1
      obtain ⟨u2, s2⟩ := blk_cell B1 (j := o + j * 5 + 2) (by (try simp); omega)
      have s3 := (blk_cells B1 (o + j * 5 + 3)).trans ((Array.getElem?_setIfInBounds_ne (by omega)).trans ((Array.getElem?_setIfInBounds_ne (by omega)).trans ((hcell 3 _ rfl))))
      have s4 := (blk_cells B1 (o + j * 5 + 4)).trans ((Array.getElem?_setIfInBounds_ne (by omega)).trans ((Array.getElem?_setIfInBounds_ne (by omega)).trans ((hcell 4 _ rfl))))
      go_wp2_with fail
      have n2 := StringSR.good.upd rr3.out (((((Upd.refl (b :: []) wr).set (p := ⟨b, o + j * 5, none⟩) (by simp) rfl (.int .i64 (k + psum Json.wt xs j))).set (p := ⟨b, o + j * 5 + 1, none⟩) (by simp) rfl (.int .i64 (k + psum Json.wt xs j + 1))).call hb1).set (p := ⟨b, o + j * 5 + 2, none⟩) (by simp) rfl (.string (mText (k + psum Json.wt xs j + 1 + 1)))) (fun x hx hm => by rcases List.mem_cons.1 hm with rfl | hm; exact hbn3 hx; cases hm)
      have m2 := hFn3.upd (((((Upd.refl (b :: []) wr).set (p := ⟨b, o + j * 5, none⟩) (by simp) rfl (.int .i64 (k + psum Json.wt xs j))).set (p := ⟨b, o + j * 5 + 1, none⟩) (by simp) rfl (.int .i64 (k + psum Json.wt xs j + 1))).call hb1).set (p := ⟨b, o + j * 5 + 2, none⟩) (by simp) rfl (.string (mText (k + psum Json.wt xs j + 1 + 1))))
      refine (markStringS n2 m2 (by omega) (by omega)).mono ?_; rintro e w2 ⟨rfl, r2x, f2x, u2x⟩
      have B2 := (u2x.far b (lt_of_cells (blk_set (B1) (o + j * 5 + 2) (.string (mText (k + psum Json.wt xs j + 1 + 1))))) hbn3).trans (blk_set (B1) (o + j * 5 + 2) (.string (mText (k + psum Json.wt xs j + 1 + 1))))
      have fz := blk_free B2
      have s4 := (blk_cells B2 (o + j * 5 + 4)).trans ((Array.getElem?_setIfInBounds_ne (by omega)).trans ((Array.getElem?_setIfInBounds_ne (by omega)).trans ((Array.getElem?_setIfInBounds_ne (by omega)).trans ((hcell 4 _ rfl)))))
      go_wp2_with fail
      have n3 := (SlR.good (JR.good n)).upd rr4.out ((((((Upd.refl (b :: b3) wr).set (p := ⟨b, o + j * 5, none⟩) (by simp) rfl (.int .i64 (k + psum Json.wt xs j))).set (p := ⟨b, o + j * 5 + 1, none⟩) (by simp) rfl (.int .i64 (k + psum Json.wt xs j + 1))).call hb1).set (p := ⟨b, o + j * 5 + 2, none⟩) (by simp) rfl (.string (mText (k + psum Json.wt xs j + 1 + 1)))).trans u2x (fun x hx => by simp [hx])) (fun x hx hm => by rcases List.mem_cons.1 hm with rfl | hm; exact hbn4 hx; exact hdis x hx hm)
      have m3 := hFn4.upd ((((((Upd.refl (b :: b3) wr).set (p := ⟨b, o + j * 5, none⟩) (by simp) rfl (.int .i64 (k + psum Json.wt xs j))).set (p := ⟨b, o + j * 5 + 1, none⟩) (by simp) rfl (.int .i64 (k + psum Json.wt xs j + 1))).call hb1).set (p := ⟨b, o + j * 5 + 2, none⟩) (by simp) rfl (.string (mText (k + psum Json.wt xs j + 1 + 1)))).trans u2x (fun x hx => by simp [hx]))
      refine (IH n3 m3 (by omega) (by omega)).mono ?_; rintro e w3 ⟨rfl, r3x, f3x, u3x⟩
      have B3 := (u3x.far b (lt_of_cells (B2)) hbn4).trans (B2)
      have fz := blk_free B3
      go_wp2_with fail
      have V := (((((((Upd.refl (b :: (b3 ++ b4)) wr).set (p := ⟨b, o + j * 5, none⟩) (by simp) rfl (.int .i64 (k + psum Json.wt xs j))).set (p := ⟨b, o + j * 5 + 1, none⟩) (by simp) rfl (.int .i64 (k + psum Json.wt xs j + 1))).call hb1).set (p := ⟨b, o + j * 5 + 2, none⟩) (by simp) rfl (.string (mText (k + psum Json.wt xs j + 1 + 1)))).trans u2x (fun x hx => by simp [hx])).trans u3x (fun x hx => by simp [hx]))
      have HU := ((((((hU.set (p := ⟨b, o + j * 5, none⟩) hbm rfl (.int .i64 (k + psum Json.wt xs j))).set (p := ⟨b, o + j * 5 + 1, none⟩) hbm rfl (.int .i64 (k + psum Json.wt xs j + 1))).call hb1).set (p := ⟨b, o + j * 5 + 2, none⟩) hbm rfl (.string (mText (k + psum Json.wt xs j + 1 + 1)))).trans u2x hss3).trans u3x hss4)
      have hfin := B3
      have q3 := StringSR.good.upd r2x ((Upd.refl (b :: b4) w2).trans u3x (fun x hx => by simp [hx])) (fun x hx hm => by rcases List.mem_cons.1 hm with rfl | hm; exact hbn3 hx; exact hdis x hm hx)
      have q4 := (SlR.good (JR.good n)).upd r3x (Upd.refl (b :: []) w3) (fun x hx hm => by rcases List.mem_cons.1 hm with rfl | hm; exact hbn4 hx; cases hm)
      have hnew := hclose.out _ _ [.int .i64 (k + psum Json.wt xs j), .int .i64 (k + psum Json.wt xs j + 1), .string (mText (k + psum Json.wt xs j + 1 + 1)), .slice D3 xs[j].keys.length d3, .slice D4 xs[j].items.length d4] (Json.mk (k + psum Json.wt xs j) (k + psum Json.wt xs j + 1) (mText (k + psum Json.wt xs j + 1 + 1)) (StringS.mark xs[j].keys (k + psum Json.wt xs j + 1 + 1 + 1)) (JsonS.mark xs[j].items (k + psum Json.wt xs j + 1 + 1 + 1 + (StringS.wt xs[j].keys : Int)))) V hfin rfl (fun j' u hu => match j', hu with
        | 0, hu => by simp only [List.getElem?_cons_zero, List.getElem?_cons_succ, Option.some.injEq] at hu; subst hu; rw [Array.getElem?_setIfInBounds_ne (by omega)]; rw [Array.getElem?_setIfInBounds_ne (by omega)]; exact Array.getElem?_setIfInBounds_self_of_lt (by (try simp); omega)
        | 1, hu => by simp only [List.getElem?_cons_zero, List.getElem?_cons_succ, Option.some.injEq] at hu; subst hu; rw [Array.getElem?_setIfInBounds_ne (by omega)]; exact Array.getElem?_setIfInBounds_self_of_lt (by (try simp); omega)
        | 2, hu => by simp only [List.getElem?_cons_zero, List.getElem?_cons_succ, Option.some.injEq] at hu; subst hu; exact Array.getElem?_setIfInBounds_self_of_lt (by (try simp); omega)
        | 3, hu => by simp only [List.getElem?_cons_zero, List.getElem?_cons_succ, Option.some.injEq] at hu; subst hu; rw [Array.getElem?_setIfInBounds_ne (by omega)]; rw [Array.getElem?_setIfInBounds_ne (by omega)]; rw [Array.getElem?_setIfInBounds_ne (by omega)]; exact hcell 3 _ rfl
        | 4, hu => by simp only [List.getElem?_cons_zero, List.getElem?_cons_succ, Option.some.injEq] at hu; subst hu; rw [Array.getElem?_setIfInBounds_ne (by omega)]; rw [Array.getElem?_setIfInBounds_ne (by omega)]; rw [Array.getElem?_setIfInBounds_ne (by omega)]; exact hcell 4 _ rfl
        | j' + 5, hu => by simp at hu) (fun p hp => by rw [Array.getElem?_setIfInBounds_ne (by omega)]; rw [Array.getElem?_setIfInBounds_ne (by omega)]; rw [Array.getElem?_setIfInBounds_ne (by omega)]) (⟨_, b3, _, b4, rfl, rfl, ⟨wf_mk (n := k + psum Json.wt xs j) (by omega) (by omega), wf_mk (n := k + psum Json.wt xs j + 1) (by omega) (by omega), mText_size (k := k + psum Json.wt xs j + 1 + 1) (by omega) (by omega)⟩, q3, q4⟩)
      rw [← Json.mark_eq, ← mkUp_succ _ _ _ hlt] at hnew
      have HN := hide hnew
      have HF := hF.upd V
      clear hnew
      go_roundw
      case rel => exact ⟨j + 1, hlt, by go_num, by rw [HP.out]; rw [show ((psum Json.wt xs j + Json.wt xs[j] : Nat) : Int) = psum Json.wt xs j + (Json.wt xs[j] : Int) from by simp, HW.out]; go_num, HN, HF, HU⟩
      case measure => simp [intOf]; omega
    · obtain rfl : j = xs.length := by omega
      rw [psum_all]
      go_wp2
      go_ret
      exact ⟨by rw [HT.out]; rfl, hR.out, hF, hU⟩
theorem markJsonN : ∀ N, MkIH N
  | 0 => markJsonS_step fun _ h => by cases h
  | N + 1 => markJsonS_step fun n h => by injection h with h; subst h; exact markJsonN N
theorem markJsonS {w : World} {lo : Nat} {bs : List Nat} {v : Value} {xs : List Json} (h : JsonSR w bs [v] xs) (hf : Fr lo w bs) {k : Int} (h0 : 0 < k) (h1 : k + JsonS.wt xs ≤ 1099511627776) :
    Calls Try.prog 62 #[v, .int .i64 k] w (MkP JsonSR w lo bs [v] (JsonS.mark xs k) (k + JsonS.wt xs)) := by
  obtain ⟨n, h⟩ := h.flat
  exact (markJsonN n h hf h0 h1).mono fun e w' ⟨he, hR, hF, hU⟩ => ⟨he, JsonSR.of hR, hF, hU⟩
theorem markVJson {w : World} {lo : Nat} {bs : List Nat} {cs : List Value} {a : Json} (h : JsonR w bs cs a) (hf : Fr lo w bs) {k : Int} (h0 : 0 < k) (h1 : k + a.wtV ≤ 1099511627776) :
    Calls Try.prog 24 #[.agg cs.toArray, .int .i64 k] w (MkP JsonR w lo bs cs (a.markV k) (k + a.wtV)) := by
  obtain ⟨v3, b3, v4, b4, rfl, rfl, hfine, r3, r4⟩ := h.open
  have rr3 := hide r3
  obtain ⟨D3, d3, rfl, _, _, _⟩ := r3.use
  have rr4 := hide r4
  obtain ⟨D4, d4, rfl, _, _, _⟩ := r4.use
  have hw : (a.wtV : Int) = (StringS.wt a.keys : Int) + (JsonS.wt a.items : Int) := by unfold Json.wtV; simp
  rw [hw] at h1 ⊢
  clear hw
  have hss3 : ∀ x ∈ b3, x ∈ b3 ++ b4 := fun x hx => (List.mem_append_left _ hx)
  have hFn3 : Fr lo w b3 := ⟨(List.nodup_append.1 hf.1).1, fun x hx => hf.2 x (List.mem_append_left _ hx)⟩
  have hss4 : ∀ x ∈ b4, x ∈ b3 ++ b4 := fun x hx => (List.mem_append_right _ hx)
  have hFn4 : Fr lo w b4 := ⟨(List.nodup_append.1 hf.1).2.1, fun x hx => hf.2 x (List.mem_append_right _ hx)⟩
  have hdis : ∀ x ∈ b4, x ∉ b3 := fun x hx hy => (List.nodup_append.1 hf.1).2.2 x hy x hx rfl
  have hlt3 := hide (fun x hx => StringSR.good.lt rr3.out x hx)
  have hlt4 := hide (fun x hx => JsonSR.good.lt rr4.out x hx)
  have hB := (Below.refl w.heap.size w).alloc (Nat.le_refl _) (.cells #[.int .i64 a.kind, .int .i64 a.n, .string a.t, .slice D3 a.keys.length d3, .slice D4 a.items.length d4] 30)
  have B0 := blk_new w #[.int .i64 a.kind, .int .i64 a.n, .string a.t, .slice D3 a.keys.length d3, .slice D4 a.items.length d4] 30
  have c0 := blk_cells B0
  go_enter Try.func24, Try.ntmps24
  have n3 := StringSR.good.upd rr3.out (Upd.of (bs := []) hB) (fun x hx hm => by cases hm)
  have m3 := hFn3.upd (Upd.of (bs := []) hB)
  go_wp2_with fail
  refine (markStringS n3 m3 (by omega) (by omega)).mono ?_; rintro e w3 ⟨rfl, x3, y3, u3⟩
  have B31 := (u3.far w.heap.size (lt_of_cells (B0)) (fun hx => by have := hlt3.out _ hx; omega)).trans (B0)
  clear c0; have c0 := blk_cells B31
  have n4 := JsonSR.good.upd rr4.out ((Upd.of (bs := b3) hB).trans u3 (fun x hx => by simp [hx])) (fun x hx hm => hdis x hx hm)
  have m4 := hFn4.upd ((Upd.of (bs := b3) hB).trans u3 (fun x hx => by simp [hx]))
  go_wp2_with fail
  refine (markJsonS n4 m4 (by omega) (by omega)).mono ?_; rintro e w4 ⟨rfl, x4, y4, u4⟩
  have B41 := (u4.far w.heap.size (lt_of_cells (B31)) (fun hx => by have := hlt4.out _ hx; omega)).trans (B31)
  clear c0; have c0 := blk_cells B41
  have HU := (((Upd.of (bs := b3 ++ b4) hB).trans u3 hss3).trans u4 hss4)
  have hF' := hf.upd HU
  have hRR := hide (show JsonR _ (b3 ++ b4) _ (a.markV k) from JsonR.shut (a := a.markV k) hfine (StringSR.good.upd x3 u4 (fun x hx hm => hdis x hm hx)) (x4))
  go_wp2_with fail
  go_ret
  exact ⟨by first | rfl | (rw [Int.add_assoc]; rfl), hRR.out, hF', HU⟩
abbrev HdIH (N : Nat) : Prop := ∀ {w0 w : World} (hb : Below w0.heap.size w0 w) {bs : List Nat} {v : Value} {xs : List Json} {k : Int} (h : (SlR 5 (JR N)) w0 bs [v] (JsonS.mark xs k)) (h0 : 0 < k) (h1 : k + JsonS.wt xs ≤ 1099511627776), Calls Try.prog 64 #[v, .int .i64 k] w fun e w' => e = .returned (.int .i64 (k + JsonS.wt xs)) ∧ Below w.heap.size w w'
set_option maxHeartbeats 4000000 in
theorem heldJsonS_step {N : Nat} (IH : ∀ n, N = n + 1 → HdIH n) : HdIH N := by
  intro w0 w hb bs v xs k h h0 h1
  unfold JsonS.mark at h
  obtain ⟨A, c, hv, hlc, hcm, hel⟩ := h.use
  rw [mkUp_len] at hv hlc
  subst hv
  have hel := hide hel
  have htot : (xs.map Json.wt).sum = JsonS.wt xs := rfl
  have HT := hide htot
  clear htot h
  have qs := hns
  have qi := hni
  have qb := hnb
  go_enter Try.func64, Try.ntmps64
  go_wp2
  go_loopw [1, 5] (fun kk i wr => ∃ j : Nat, j ≤ xs.length ∧ i = .int .i64 j ∧ kk = .int .i64 (k + psum Json.wt xs j) ∧ Below w.heap.size w wr) (fun _ i _ => xs.length - (intOf i).toNat)
  case atStart => exact ⟨0, Nat.zero_le _, rfl, by rw [psum_zero]; go_num, Below.refl _ _⟩
  case round =>
    obtain ⟨j, hj, rfl, rfl, hbr⟩ := hrel
    by_cases hlt : j < xs.length
    · obtain ⟨b, o, bk, es, rfl, hbl, hcl, hcell, hR, hbk⟩ := hel.out j (by rw [mkUp_len]; exact hlt)
      rw [mkUp_at _ hlt, if_pos hlt, Json.mark_eq] at hR
      obtain ⟨n, hN⟩ : ∃ m, N = m + 1 := (by cases N with | zero => exact hR.elim | succ m => exact ⟨m, rfl⟩); subst hN; have IH := @IH n rfl
      obtain ⟨v3, b3, v4, b4, _, hee, _, r3, r4⟩ := hR
      subst hee
      have rr3 := hide r3
      obtain ⟨D3, d3, rfl, _, _, _⟩ := r3.use
      have rr4 := hide r4
      obtain ⟨D4, d4, rfl, _, _, _⟩ := r4.use
      have hp := psum_succ Json.wt xs j hlt
      have hp2 := psum_le Json.wt xs (j + 1)
      have hp3 : k + (psum Json.wt xs j : Int) + (Json.wt xs[j] : Int) ≤ 1099511627776 := by rw [HT.out] at hp2; omega
      have hwt : (Json.wt xs[j] : Int) = 1 + 1 + 1 + (StringS.wt xs[j].keys : Int) + (JsonS.wt xs[j].items : Int) := by rw [Json.wt_eq]; simp
      rw [hwt] at hp3
      have HW := hide hwt; clear hwt
      have HP := hide hp; clear hp hp2
      have c_0 : World.cell? wr ⟨b, o + j * 5, none⟩ = some (.int .i64 (k + psum Json.wt xs j)) := by have hx := ((nxt hb hbr).cell (p := ⟨b, _, none⟩) hbl).trans (hcell 0 _ rfl); (try simp only [Nat.add_zero] at hx); exact hx
      have c_1 : World.cell? wr ⟨b, o + j * 5 + 1, none⟩ = some (.int .i64 (k + psum Json.wt xs j + 1)) := by have hx := ((nxt hb hbr).cell (p := ⟨b, _, none⟩) hbl).trans (hcell 1 _ rfl); (try simp only [Nat.add_zero] at hx); exact hx
      go_wp2_with fail
      clear c_0 c_1
      have c_2 := Fw.cell (show World.cell? wr ⟨b, o + j * 5 + 2, none⟩ = some (.string (mText (k + psum Json.wt xs j + 1 + 1))) from by have hx := ((nxt hb hbr).cell (p := ⟨b, _, none⟩) hbl).trans (hcell 2 _ rfl); (try simp only [Nat.add_zero] at hx); exact hx)
      refine region_quiet (by kernel_rfl) (by kernel_rfl) ?_
      repeat (go_big_quiet_step ((go_at_call 72; exact quiet_of (markText (by omega) (by omega)))))
      refine wpQuiet_nil ?_; intro w1 hb1; clear c_2; have hw1 := nxt hbr hb1
      have c_3 : World.cell? w1 ⟨b, o + j * 5 + 3, none⟩ = some (.slice D3 (StringS.mark xs[j].keys (k + psum Json.wt xs j + 1 + 1 + 1)).length d3) := by have hx := ((nxt hb hw1).cell (p := ⟨b, _, none⟩) hbl).trans (hcell 3 _ rfl); (try simp only [Nat.add_zero] at hx); exact hx
      go_wp2_with fail
      refine (heldStringS (nxt hb hw1) rr3.out (by omega) (by omega)).mono ?_; rintro e w2 ⟨rfl, hb2⟩; clear c_3; have hw2 := nxt hw1 hb2
      have c_4 : World.cell? w2 ⟨b, o + j * 5 + 4, none⟩ = some (.slice D4 (JsonS.mark xs[j].items (k + psum Json.wt xs j + 1 + 1 + 1 + (StringS.wt xs[j].keys : Int))).length d4) := by have hx := ((nxt hb hw2).cell (p := ⟨b, _, none⟩) hbl).trans (hcell 4 _ rfl); (try simp only [Nat.add_zero] at hx); exact hx
      go_wp2_with fail
      refine (IH (nxt hb hw2) rr4.out (by omega) (by omega)).mono ?_; rintro e w3 ⟨rfl, hb3⟩; clear c_4; have hw3 := nxt hw2 hb3
      go_wp2_with fail
      go_roundw
      case rel => exact ⟨j + 1, hlt, by go_num, by rw [HP.out]; rw [show ((psum Json.wt xs j + Json.wt xs[j] : Nat) : Int) = psum Json.wt xs j + (Json.wt xs[j] : Int) from by simp, HW.out]; go_num, hw3⟩
      case measure => simp [intOf]; omega
    · obtain rfl : j = xs.length := by omega
      rw [psum_all]
      go_wp2
      go_ret
      exact ⟨by rw [HT.out]; rfl, hbr⟩

theorem heldJsonN : ∀ N, HdIH N
  | 0 => heldJsonS_step fun _ h => by cases h
  | N + 1 => heldJsonS_step fun n h => by injection h with h; subst h; exact heldJsonN N
theorem heldJsonS {w0 w : World} (hb : Below w0.heap.size w0 w) {bs : List Nat} {v : Value} {xs : List Json} {k : Int} (h : JsonSR w0 bs [v] (JsonS.mark xs k)) (h0 : 0 < k) (h1 : k + JsonS.wt xs ≤ 1099511627776) :
    Calls Try.prog 64 #[v, .int .i64 k] w fun e w' => e = .returned (.int .i64 (k + JsonS.wt xs)) ∧ Below w.heap.size w w' := by
  obtain ⟨n, h⟩ := h.flat
  exact heldJsonN n hb h h0 h1
theorem heldVJson {w0 w : World} (hb : Below w0.heap.size w0 w) {bs : List Nat} {cs : List Value} {a : Json} {k : Int} (h : JsonR w0 bs cs (a.markV k)) (h0 : 0 < k) (h1 : k + a.wtV ≤ 1099511627776) :
    Calls Try.prog 25 #[.agg cs.toArray, .int .i64 k] w fun e w' => e = .returned (.int .i64 (k + a.wtV)) ∧ Below w.heap.size w w' := by
  obtain ⟨v3, b3, v4, b4, _, rfl, _, r3, r4⟩ := h.open
  have rr3 := hide r3
  obtain ⟨D3, d3, rfl, _, _, _⟩ := r3.use
  have rr4 := hide r4
  obtain ⟨D4, d4, rfl, _, _, _⟩ := r4.use
  have hw : (a.wtV : Int) = (StringS.wt a.keys : Int) + (JsonS.wt a.items : Int) := by unfold Json.wtV; simp
  rw [hw] at h1 ⊢
  clear hw
  have hB := (Below.refl w.heap.size w).alloc (Nat.le_refl _) (.cells #[.int .i64 a.kind, .int .i64 a.n, .string a.t, .slice D3 (StringS.mark a.keys (k)).length d3, .slice D4 (JsonS.mark a.items (k + (StringS.wt a.keys : Int))).length d4] 30)
  have hB0 := hb.alloc hb.size (.cells #[.int .i64 a.kind, .int .i64 a.n, .string a.t, .slice D3 (StringS.mark a.keys (k)).length d3, .slice D4 (JsonS.mark a.items (k + (StringS.wt a.keys : Int))).length d4] 30)
  have c0 := blk_cells (blk_new w #[.int .i64 a.kind, .int .i64 a.n, .string a.t, .slice D3 (StringS.mark a.keys (k)).length d3, .slice D4 (JsonS.mark a.items (k + (StringS.wt a.keys : Int))).length d4] 30)
  go_enter Try.func25, Try.ntmps25
  go_wp2_with fail
  refine (heldStringS hB0 rr3.out (by omega) (by omega)).mono ?_; rintro e w3 ⟨rfl, hb3⟩; replace c0 := box_on c0 rfl hb3; have hw3 := nxt hB hb3; have hv3 := nxt hB0 hb3
  go_wp2_with fail
  refine (heldJsonS hv3 rr4.out (by omega) (by omega)).mono ?_; rintro e w4 ⟨rfl, hb4⟩; replace c0 := box_on c0 rfl hb4; have hw4 := nxt hw3 hb4; have hv4 := nxt hv3 hb4
  go_wp2_with fail
  go_ret
  exact ⟨by first | rfl | (rw [Int.add_assoc]; rfl), hw4⟩
end Go.Proofs.Ythglchopajdmhaa
