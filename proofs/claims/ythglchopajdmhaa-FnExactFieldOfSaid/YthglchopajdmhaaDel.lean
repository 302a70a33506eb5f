/- slices.DeleteFunc. No statement is proved here; no conditions. Written by a program (gen17.py). -/
import Derived.Test.YthglchopajdmhaaClone
import Derived.Test.YthglchopajdmhaaFunc
import Derived.Shelf.Abstract
namespace Go.Proofs.Ythglchopajdmhaa
open Go.ChangeShapes Go.WideShapes Go.ChangeAt Go.RowKit Go.Deep
set_option maxRecDepth 100000
set_option linter.unusedVariables false
set_option linter.unusedSimpArgs false

section
variable {α : Type} [Inhabited α]
theorem kept_some (p : α → Bool) (xs : List α) : (keptIdx p xs xs.length).map (fun q => xs[q]?) = (xs.filter fun x => !p x).map some := by
  have h := kept_map p xs xs.length (Nat.le_refl _)
  rw [List.take_length] at h
  rw [← h, List.map_map]
  apply List.map_congr_left
  intro q hq
  have := kept_lt hq
  simp [List.getD, this]
theorem kept_sub (p : α → Bool) (xs : List α) (k : Nat) : (keptIdx p xs k).Sublist (List.range k) := List.filter_sublist
end
theorem kept_mem {bss : List (List Nat)} {idx : List Nat} {x : Nat} (h : x ∈ (idx.map fun q => bss.getD q []).flatten) : x ∈ bss.flatten := by
  obtain ⟨l, hl, hx⟩ := List.mem_flatten.1 h
  obtain ⟨q, _, rfl⟩ := List.mem_map.1 hl
  rw [List.getD_eq_getElem?_getD] at hx
  cases hq : bss[q]? with
  | none => rw [hq] at hx; simp at hx
  | some l => rw [hq] at hx; exact List.mem_flatten.2 ⟨l, List.mem_of_getElem? hq, hx⟩
theorem kept_fr {lo : Nat} {w W : World} {b : Nat} {bss : List (List Nat)} {idx : List Nat} {n : Nat} (hf : Fr lo w (b :: bss.flatten)) (hu : Upd [b] w W) (hn : bss.length = n) (hi : idx.Sublist (List.range n)) :
    Fr lo W (if idx = [] then [] else b :: (idx.map fun q => bss.getD q []).flatten) := by
  have h1 := hf.upd hu
  split
  · exact Fr.nil _ _
  · have hc := List.nodup_cons.1 hf.1
    refine ⟨List.nodup_cons.2 ⟨fun hm => hc.1 (kept_mem hm), kept_nodup hc.2 hn hi⟩, fun x hx => ?_⟩
    rcases List.mem_cons.1 hx with rfl | hx
    · exact h1.2 x (by simp)
    · exact h1.2 x (List.mem_cons_of_mem _ (kept_mem hx))
theorem kept_in {b : Nat} {bss : List (List Nat)} {idx : List Nat} : ∀ x ∈ (if idx = [] then [] else b :: (idx.map fun q => bss.getD q []).flatten), x ∈ b :: bss.flatten := by
  intro x hx
  split at hx
  · cases hx
  · rcases List.mem_cons.1 hx with rfl | hx
    · simp
    · exact List.mem_cons_of_mem _ (kept_mem hx)
set_option maxHeartbeats 8000000 in
theorem slices_DeleteFuncAtomS {w : World} {lo : Nat} {bs : List Nat} {v : Value} {xs : List Atom} (ha : AtomSR w bs [v] xs) (hf : Fr lo w bs) (p : Atom → Bool) (g : Nat) (lb : Array Value) (eg : ∀ args w, (callFunc g args).run Try.prog w = .ok (.enter g args) w)
    (hp : ∀ x bk es W, Upd bs w W → AtomR W bk es x → Calls Try.prog g (#[.agg es.toArray] ++ lb) W fun e w' => e = .returned (.bool (p x)) ∧ Below W.heap.size W w') :
    Calls Try.prog 135 #[v, .func (.func g) #[] lb] w fun e w' => ∃ v' bs', e = .returned v' ∧ AtomSR w' bs' [v'] (xs.filter fun x => !p x) ∧ Fr lo w' bs' ∧ Upd bs w w' ∧ ∀ x ∈ bs', x ∈ bs := by
  have ha0 := ha
  obtain ⟨A, c, rfl, hlc, hcm, _⟩ := ha.use
  have hidx := fun (k : Nat) (hk : k < xs.length) bk es (hR : AtomR w bk es xs[k]) W (hW : Below w.heap.size w W) => hp xs[k] bk es W (Upd.of hW) (AtomR.good.nxt hW hR)
  by_cases hany : xs.any p = false
  · have hi : idxF p xs = -1 := by unfold idxF; rw [if_neg (by simp [hany])]
    have hfl : Hid (xs.filter (fun x => !p x) = xs) := by show _ = _; rw [List.filter_eq_self]; intro x hx; have := List.any_eq_false.1 hany x hx; simp [this]
    clear hp
    go_enter Try.func135, Try.ntmps135
    go_wp2_with fail
    refine (slices_IndexFuncAtomS ha0 p g lb eg hidx).mono ?_; rw [hi]; rintro e w1 ⟨rfl, hb1⟩
    go_wp2_with fail
    go_ret
    refine ⟨_, bs, rfl, ?_, hf.below hb1, Upd.of hb1, fun x hx => hx⟩
    rw [hfl.out]; exact AtomSR.good.nxt hb1 ha0
  have hany := (Bool.not_eq_false _).mp hany
  obtain ⟨x0, hx0, hp0⟩ := List.any_eq_true.1 hany
  obtain ⟨k0, hk0, he0, hb0⟩ : ∃ k0, ∃ (hk : k0 < xs.length), p xs[k0] = true ∧ ∀ j (hj : j < xs.length), j < k0 → p xs[j] = false := by
    have h1 : xs.findIdx p < xs.length := List.findIdx_lt_length_of_exists ⟨x0, hx0, hp0⟩
    exact ⟨xs.findIdx p, h1, List.findIdx_getElem (w := h1), fun j hj hjk => by have := List.not_of_lt_findIdx hjk; simpa using this⟩
  have hi := idxF_at hk0 hb0 he0
  have hkf := kept_first hk0 hb0 he0
  clear hb0 he0 hany hp0 hx0
  obtain ⟨b, o, cur0, e0, css, bss, rfl, hcur0, rfl, hcl, hbl, hsz, hcell, hRd⟩ := SlR.whole ha0 hf (by omega)
  have hkf2 : (keptIdx p xs (k0 + 1)).length = k0 := by rw [hkf]; simp
  have hcap : o + xs.length * 3 ≤ cur0.size := by
    obtain ⟨cs, hcs⟩ := idx_some (l := css) (k := xs.length - 1) (by omega)
    obtain ⟨u, hu⟩ := idx_some (l := cs) (k := 2) (by rw [hsz _ cs hcs]; omega)
    have := (Array.getElem?_eq_some_iff.1 (hcell _ cs hcs 2 u hu)).1; omega
  have hbn : b ∉ bss.flatten := (List.nodup_cons.1 hf.1).1
  have hm1 : ((k0 : Int) == -1) = false := by first | (simp; done) | (simp; omega)
  have HX := hide hidx; clear hidx; have HP := hide hp; clear hp; have HS := hide hsz; clear hsz; have HC := hide hcell; clear hcell; have HR := hide hRd; clear hRd; have HK := hide hkf; clear hkf; have HK2 := hide hkf2; clear hkf2; have HL := hide hcl; clear hcl; have HB := hide hbl; clear hbl
  go_enter Try.func135, Try.ntmps135
  go_wp2_with fail
  refine (slices_IndexFuncAtomS ha0 p g lb eg HX.out).mono ?_; rw [hi]; rintro e w1 ⟨rfl, hb1⟩
  go_wp2_with fail
  clear HX hi
  go_loopw [5, 6] (fun i j wr => ∃ jj : Nat, k0 + 1 ≤ jj ∧ jj ≤ xs.length ∧ j = .int .i64 jj ∧ i = .int .i64 (keptIdx p xs jj).length ∧ (keptIdx p xs jj).length < jj ∧ Upd [b] w wr ∧ Hid (∃ cur, wr.heap[b]? = some (.cells cur e0 (0, 0)) ∧ cur.size = cur0.size ∧ Cmp 3 o css cur (keptIdx p xs jj) jj)) (fun _ j _ => xs.length - (intOf j).toNat)
  case atStart =>
    refine ⟨k0 + 1, Nat.le_refl _, hk0, by go_num, by rw [HK2.out], by rw [HK2.out]; omega, Upd.of hb1, cur0, blk_on hcur0 hb1, rfl, ?_⟩
    refine ⟨fun q p' cs hq hp' j u hu => ?_, fun p' cs _ hp' => HC.out p' cs hp'⟩
    rw [HK.out] at hq
    have hql := idx_lt hq
    rw [List.getElem?_range (by simpa using hql)] at hq
    injection hq with hq; subst hq
    exact HC.out q cs hp' j u hu
  case round =>
    clear HK HK2 hb1
    obtain ⟨jj, hj0, hj1, rfl, rfl, hil, hU, hH⟩ := hrel
    obtain ⟨cur, hcur, hcs0, hcmp⟩ := hH.out
    have hcmp := hide hcmp
    have fz := blk_free hcur
    have hUs := hU.size
    by_cases hlt : jj < xs.length
    · obtain ⟨cs, hcs⟩ := idx_some (l := css) (k := jj) (by have := HL.out; omega)
      obtain ⟨bk, hbk⟩ := idx_some (l := bss) (k := jj) (by have := HB.out; omega)
      have hRj0 := HR.out jj xs[jj] cs bk (List.getElem?_eq_getElem hlt) hcs hbk
      have hbkn : ∀ x ∈ bk, x ∈ bss.flatten := fun x hx => List.mem_flatten.2 ⟨bk, List.mem_of_getElem? hbk, hx⟩
      have hRj := AtomR.good.upd hRj0 hU (fun x hx hm => hbn (by simp at hm; subst hm; exact hbkn _ hx))
      have hRk := hide hRj
      obtain ⟨hbk0, hes, _⟩ := hRj
      subst hes
      have c_0 := (blk_cells hcur _).trans (hcmp.out.2 jj _ (Nat.le_refl _) hcs 0 _ rfl)
      have c_1 := (blk_cells hcur _).trans (hcmp.out.2 jj _ (Nat.le_refl _) hcs 1 _ rfl)
      have c_2 := (blk_cells hcur _).trans (hcmp.out.2 jj _ (Nat.le_refl _) hcs 2 _ rfl)
      simp only [Nat.add_zero] at c_0 c_1 c_2
      have hal := (Below.refl wr.heap.size wr).alloc (Nat.le_refl _) (.cells #[.int .i64 xs[jj].kind, .int .i64 xs[jj].n, .string xs[jj].t] 90)
      have hcall := HP.out xs[jj] bk _ _ ((hU.call hal).wide (by simp)) (AtomR.good.nxt hal hRk.out)
      cases hq : p xs[jj]
      · rw [hq] at hcall
        have hks : keptIdx p xs (jj + 1) = keptIdx p xs jj ++ [jj] := by rw [kept_succ p xs jj hlt, hq]; rfl
        have HKS := hide hks; clear hks hq
        go_wp2_with fail
        go_at_fn g
        refine hcall.mono ?_; rintro e w2 ⟨rfl, hb2⟩; clear hcall
        have B2 := blk_on (blk_old hcur _) hb2
        have fz2 := blk_free B2
        have q2 := box_at hb2
        have hil2 : o + (keptIdx p xs jj).length * 3 + 3 ≤ cur.size := by rw [hcs0]; omega
        obtain ⟨u0, s0⟩ := blk_cell B2 (j := o + (keptIdx p xs jj).length * 3) (by omega)
        obtain ⟨u1, s1⟩ := blk_cell B2 (j := o + (keptIdx p xs jj).length * 3 + 1) (by omega)
        obtain ⟨u2, s2⟩ := blk_cell B2 (j := o + (keptIdx p xs jj).length * 3 + 2) (by omega)
        have hfin := hide (blk_set (blk_set (blk_set (B2) (o + (keptIdx p xs jj).length * 3) (.int .i64 xs[jj].kind)) (o + (keptIdx p xs jj).length * 3 + 1) (.int .i64 xs[jj].n)) (o + (keptIdx p xs jj).length * 3 + 2) (.string xs[jj].t))
        have HU := ((((hU.call (nxt' hal hb2)).set (p := ⟨b, o + (keptIdx p xs jj).length * 3, none⟩) (by simp) rfl (.int .i64 xs[jj].kind)).set (p := ⟨b, o + (keptIdx p xs jj).length * 3 + 1, none⟩) (by simp) rfl (.int .i64 xs[jj].n)).set (p := ⟨b, o + (keptIdx p xs jj).length * 3 + 2, none⟩) (by simp) rfl (.string xs[jj].t))
        have hc2 := hide (Cmp.take hcmp.out HS.out (by omega) hcs (cur' := (((cur).setIfInBounds (o + (keptIdx p xs jj).length * 3) (.int .i64 xs[jj].kind)).setIfInBounds (o + (keptIdx p xs jj).length * 3 + 1) (.int .i64 xs[jj].n)).setIfInBounds (o + (keptIdx p xs jj).length * 3 + 2) (.string xs[jj].t)) (fun j u hu => match j, hu with
          | 0, hu => by simp only [List.getElem?_cons_zero, List.getElem?_cons_succ, Option.some.injEq] at hu; subst hu; rw [Array.getElem?_setIfInBounds_ne (by omega)]; rw [Array.getElem?_setIfInBounds_ne (by omega)]; exact Array.getElem?_setIfInBounds_self_of_lt (by (try simp); omega)
          | 1, hu => by simp only [List.getElem?_cons_zero, List.getElem?_cons_succ, Option.some.injEq] at hu; subst hu; rw [Array.getElem?_setIfInBounds_ne (by omega)]; exact Array.getElem?_setIfInBounds_self_of_lt (by (try simp); omega)
          | 2, hu => by simp only [List.getElem?_cons_zero, List.getElem?_cons_succ, Option.some.injEq] at hu; subst hu; exact Array.getElem?_setIfInBounds_self_of_lt (by (try simp); omega)
          | j' + 3, hu => by simp at hu) (fun p hp => by rw [Array.getElem?_setIfInBounds_ne (by omega)]; rw [Array.getElem?_setIfInBounds_ne (by omega)]; rw [Array.getElem?_setIfInBounds_ne (by omega)]))
        go_wp2_with fail
        go_roundw
        case rel => exact ⟨jj + 1, by omega, hlt, by go_num, by rw [HKS.out, List.length_append]; go_num, by rw [HKS.out, List.length_append]; simp; omega, HU, _, hfin.out, by simpa using hcs0, by rw [HKS.out]; exact hc2.out⟩
        case measure => simp [intOf]; omega
      · rw [hq] at hcall
        have hks : keptIdx p xs (jj + 1) = keptIdx p xs jj := by rw [kept_succ p xs jj hlt, hq]; rfl
        have HKS := hide hks; clear hks hq
        go_wp2_with fail
        go_at_fn g
        refine hcall.mono ?_; rintro e w2 ⟨rfl, hb2⟩; clear hcall
        have B2 := hide (blk_on (blk_old hcur _) hb2)
        have HU := hU.call (nxt' hal hb2)
        go_wp2_with fail
        go_roundw
        case rel => exact ⟨jj + 1, by omega, hlt, by go_num, by rw [HKS.out], by rw [HKS.out]; omega, HU, cur, B2.out, hcs0, by rw [HKS.out]; exact hcmp.out.skip⟩
        case measure => simp [intOf]; omega
    · obtain rfl : jj = xs.length := by omega
      have hzc : (Value.cells (.agg #[.int .i64 0, .int .i64 0, .string ⟨#[]⟩])).size = 3 := rfl
      have hrem : 0 < xs.length - (keptIdx p xs xs.length).length := by omega
      have hcl := fun ty => run_clear_rows (P := Try.prog) wr 43 90 ty (.agg #[.int .i64 0, .int .i64 0, .string ⟨#[]⟩]) Try.underlying43 (fun _ => by kernel_rfl) (by decide) (by decide) b (o + (keptIdx p xs xs.length).length * 3) (xs.length - (keptIdx p xs xs.length).length) (c - (keptIdx p xs xs.length).length) hrem (fun j hj => by rw [hzc] at hj; obtain ⟨u, hu⟩ := blk_cell hcur (j := o + (keptIdx p xs xs.length).length * 3 + j) (by rw [hcs0]; omega); rw [hu]; rfl) (fun j hj => fz _)
      clear hzc
      rw [setCells_many] at hcl
      have hlc2 : (keptIdx p xs xs.length).length < c := by omega
      have hzl : (Builtin.zeroCells (Value.cells (.agg #[.int .i64 0, .int .i64 0, .string ⟨#[]⟩])) (xs.length - (keptIdx p xs xs.length).length)).toList.length = (xs.length - (keptIdx p xs xs.length).length) * 3 := by rw [Array.length_toList]; exact size_zeroCells _ _
      have hmn := setMany_at (t := e0) (Builtin.zeroCells (Value.cells (.agg #[.int .i64 0, .int .i64 0, .string ⟨#[]⟩])) (xs.length - (keptIdx p xs xs.length).length)).toList (o + (keptIdx p xs xs.length).length * 3) wr cur hcur (by rw [hzl, hcs0]; omega)
      clear hzl
      have HMN := hide hmn; clear hmn
      have HUF := Upd.many (List.mem_singleton.2 rfl) (Builtin.zeroCells (Value.cells (.agg #[.int .i64 0, .int .i64 0, .string ⟨#[]⟩])) (xs.length - (keptIdx p xs xs.length).length)).toList (o + (keptIdx p xs xs.length).length * 3) wr hU
      go_wp2
      go_ret
      obtain ⟨cur', m1, m2, m3, m4⟩ := HMN.out
      have hres := Cmp.done (R := AtomR) (c := c) hcmp.out m1 HS.out (fun p hp => m4 p (Or.inl hp)) HL.out HB.out (fun q hq => kept_lt hq) (fun k x cs bk h1 h2 h3 => AtomR.good.upd (HR.out k x cs bk h1 h2 h3) HUF (fun x hx hm => hbn (by simp at hm; subst hm; exact List.mem_flatten.2 ⟨bk, List.mem_of_getElem? h3, hx⟩))) (by omega) hcm (kept_some p xs)
      exact ⟨_, _, rfl, hres, kept_fr hf HUF HB.out (kept_sub p xs _), HUF.wide (by simp), kept_in⟩
end Go.Proofs.Ythglchopajdmhaa
