/- Atoms put where they belong. No statement is proved here; no conditions. Written by a program (gen42.py). -/
import Derived.Test.YthglchopajdmhaaSetP
import Derived.Test.YthglchopajdmhaaOrder
import Derived.Test.YthglchopajdmhaaHas
import Derived.Test.YthglchopajdmhaaClone
import Derived.Test.YthglchopajdmhaaApp
import Derived.Test.YthglchopajdmhaaLess
import Derived.Test.YthglchopajdmhaaDrawn
namespace Go.Proofs.Ythglchopajdmhaa
open Go.ChangeShapes Go.WideShapes Go.ChangeAt Go.RowKit Go.Deep
set_option maxRecDepth 100000
set_option linter.unusedVariables false
set_option linter.unusedSimpArgs false

section
variable {P : Program} {Q : Exit → Act → World → Prop} {md : Region.Mode} {S : World → Prop} {n : Nat} {L : Array Bool → Act → World → Prop}
/-- One of two operations may come up. -/
theorem wpT_two {l : List Oper} {i j : Nat} {o o' : Oper} {f : Nat} {listed : Array Bool} {a : Act} {w : World} (ho : l.toArray[i]? = some o) (ho' : l.toArray[j]? = some o') (hB : (decide (Region.ready md l.toArray listed = [i, j]) && (decide (i < n) && decide (j < n))) = true)
    (h : ∀ K' : Act → World → Prop, Shut (∀ a w, S w → (S w → wpT P md l.toArray Q S n L f (listed.setIfInBounds i true) a w) → K' a w) → if Region.wanted o (yielded l.toArray a.tmps) = true then Oper.wp P o a w K' Q else K' (a.put o.dst undef) w)
    (h' : ∀ K' : Act → World → Prop, Shut (∀ a w, S w → (S w → wpT P md l.toArray Q S n L f (listed.setIfInBounds j true) a w) → K' a w) → if Region.wanted o' (yielded l.toArray a.tmps) = true then Oper.wp P o' a w K' Q else K' (a.put o'.dst undef) w) :
    wpT P md l.toArray Q S n L (f + 1) listed a w := by
  simp only [Bool.and_eq_true, decide_eq_true_eq] at hB
  refine ⟨by rw [hB.1]; simp, fun q hq => ?_⟩
  rw [hB.1] at hq
  have hq' : q = i ∨ q = j := by simpa using hq
  rcases hq' with rfl | rfl
  · exact ⟨hB.2.1, wpOp_step ho (fun K' hK => h K' (fun a w hS hW => hK a w ⟨hS, hW hS⟩))⟩
  · exact ⟨hB.2.2, wpOp_step ho' (fun K' hK => h' K' (fun a w hS hW => hK a w ⟨hS, hW hS⟩))⟩
end
section
variable {α : Type} {R : Rd α} {size : Nat}
theorem Apd.keepSl {e : TypeId} {lo : Nat} {w w' : World} {v v' : Value} {bss bss2 : List (List Nat)} {xs ys : List α} {bs2 : List Nat} (g : Good R) (h : Apd size R e lo w v bss xs bs2 ys v' w' bss2) {bs : List Nat} {u : Value} {zs : List α} (hz : SlR size R w bs [u] zs) (hn : ∀ b ∈ bs, v.ownBlock ≠ some b) : SlR size R w' bs [u] zs ∧ ∀ b ∈ bs, v'.ownBlock ≠ some b := by
  have hg := SlR.good (size := size) g
  refine ⟨hg.keep hz fun b hb => h.hold b (hg.lt hz b hb) (hn b hb), fun b hb hv => ?_⟩
  rcases h.own with h1 | ⟨k, h1, h2⟩
  · rw [h1] at hv; exact hn b hb hv
  · rw [h1] at hv; injection hv with hv; subst hv; have := hg.lt hz k hb; omega
theorem madeA {e : TypeId} {w : World} {n : Nat} (h : w.heap.size = n) : Gr size R e n (w.alloc (.cells #[] e)) (.slice (some ⟨n, 0, none⟩) 0 0) [] [] := by subst h; exact Gr.made w #[] 0 (Nat.le_refl _) (by simp [maxLen]) (by simp)
theorem dropA {w : World} {bs : List Nat} {b o n c : Nat} {xs : List α} (h : SlR size R w bs [.slice (some ⟨b, o, none⟩) n c] xs) {k : Nat} (hk : k ≤ xs.length) :
    ∃ A bs', (if c = k then some ⟨b, o, none⟩ else some ⟨b, o + k * size, none⟩ : Option Addr) = A ∧ SlR size R w bs' [.slice A (xs.length - k) (c - k)] (xs.drop k) ∧ ∀ b ∈ bs', b ∈ bs := by
  by_cases hc : c = k
  · obtain ⟨A', c', hv, h1, h2, _⟩ := h
    obtain ⟨rfl, rfl, rfl⟩ : some ⟨b, o, none⟩ = A' ∧ n = xs.length ∧ c = c' := by simpa using hv
    have h0 : xs.drop k = [] := List.drop_eq_nil_of_le (by omega)
    exact ⟨some ⟨b, o, none⟩, [], if_pos hc, ⟨some ⟨b, o, none⟩, c - k, by rw [List.length_drop], by rw [List.length_drop]; omega, by omega, .inl ⟨h0, rfl⟩⟩, fun b hb => by cases hb⟩
  · obtain ⟨bs', h1, h2⟩ := h.drop hk
    exact ⟨_, bs', if_neg hc, h1, h2⟩
/-- A slice value that lies somewhere. -/
def Sm (v : Value) (n : Nat) : Prop := ∃ b o c, v = .slice (some ⟨b, o, none⟩) n c
theorem Gr.sm {e : TypeId} {lo : Nat} {w : World} {v : Value} {bss : List (List Nat)} {xs : List α} (h : Gr size R e lo w v bss xs) (hv : v.ownBlock ≠ none) : Sm v xs.length := by
  obtain ⟨css, _, _, ⟨_, ho⟩, _⟩ := h
  rcases ho with ⟨rfl, _⟩ | ⟨g, cap, cur, rfl, _⟩
  · exact absurd rfl hv
  · exact ⟨_, _, _, rfl⟩
theorem Apd.some {e : TypeId} {lo : Nat} {w w' : World} {v v' : Value} {bss bss2 : List (List Nat)} {xs ys : List α} {bs2 : List Nat} (h : Apd size R e lo w v bss xs bs2 ys v' w' bss2) (hv : v.ownBlock ≠ none) : v'.ownBlock ≠ none := by
  rcases h.own with h | ⟨k, h, _⟩ <;> rw [h]
  · exact hv
  · simp
end
theorem cutA_go {d : List Atom} {a : Atom} {k : Nat} (h0 : 0 < k) (h : 0 < ordA (d.getD (k - 1) default) a) : cutA d a k = cutA d a (k - 1) := by
  obtain ⟨m, rfl⟩ : ∃ m, k = m + 1 := ⟨k - 1, by omega⟩
  rw [Nat.add_sub_cancel] at h ⊢
  show (if 0 < ordA (d.getD m default) a then cutA d a m else m + 1) = _
  rw [if_pos h]
theorem cutA_stop {d : List Atom} {a : Atom} {k : Nat} (h : ¬ (0 < k ∧ 0 < ordA (d.getD (k - 1) default) a)) : cutA d a k = k := by
  cases k with
  | zero => rfl
  | succ m =>
    rw [Nat.add_sub_cancel] at h
    show (if 0 < ordA (d.getD m default) a then cutA d a m else m + 1) = _
    rw [if_neg (fun h1 => h ⟨by omega, h1⟩)]
theorem putA_new {d : List Atom} {a : Atom} {k : Nat} (hm : decide (a ∈ d) = false) (h : cutA d a d.length = k) : putA d a = (d.take k ++ [a]) ++ d.drop k := by
  unfold putA; rw [if_neg (of_decide_eq_false hm), h]
set_option maxHeartbeats 8000000 in
theorem spec_l03Put {w : World}  {bs_d : List Nat} {v_d : Value} {d : List Atom} (H_d : AtomSR w bs_d [v_d] d) (a : Atom) (hs : Sm v_d d.length) (ha : a.fine) (hn : d.length ≤ 1048576) :
    Calls Try.prog 100 #[v_d, .agg #[.int .i64 a.kind, .int .i64 a.n, .string a.t]] w (fun e w' => ∃ v' bs', e = .returned v' ∧ AtomSR w' bs' [v'] (putA d a) ∧ Sm v' (putA d a).length ∧ (bs' = bs_d ∨ Fr w.heap.size w' bs') ∧ Below w.heap.size w w') := by
  have H0_d := H_d
  obtain ⟨A_d, c_d, rfl, hlc_d, hcm_d, hel_d⟩ := H_d.use
  have hbx := ((Below.refl w.heap.size w).alloc (Nat.le_refl _) (.cells #[.int .i64 a.kind, .int .i64 a.n, .string a.t] 90))
  have q_a := blk_cells (blk_new w #[.int .i64 a.kind, .int .i64 a.n, .string a.t] 90)
  obtain ⟨sb, so, sc, hsv⟩ := hs; obtain ⟨rfl, rfl⟩ : A_d = some ⟨sb, so, none⟩ ∧ c_d = sc := by simpa using hsv
  clear hsv; have hdn := hide hn; clear hn; have haf := hide ha; clear ha
  obtain ⟨ii, ji, jz, js, jby⟩ := info_parts AtomS.info
  go_enter Try.func100, Try.ntmps100
  go_wp2_with fail
  refine (spec_l03Has hbx H0_d a).mono ?_; rintro e w1 ⟨rfl, hb1⟩; replace q_a := box_on q_a rfl hb1; have hw1 := nxt hbx hb1
  cases hm : decide (a ∈ d)
  · have HM := hide hm; clear hm
    go_wp2_with fail
    go_loopw [5] (fun i wr => ∃ k : Nat, k ≤ d.length ∧ i = .int .i64 k ∧ Hid (cutA d a d.length = cutA d a k) ∧ Below (World.heap (w1)).size (w1) wr) (fun i _ => (intOf i).toNat)
    case atStart => exact ⟨d.length, Nat.le_refl _, rfl, rfl, Below.refl _ _⟩
    case round =>
      obtain ⟨k, hk, rfl, hc, hbr⟩ := hrel; obtain ⟨wl, rfl⟩ : ∃ w' : World, w' = wr := ⟨_, rfl⟩
      replace q_a := box_on q_a rfl hbr; have hwl := nxt hw1 hbr
      by_cases hgo : 0 < k ∧ 0 < ordA (d.getD (k - 1) default) a
      · have hc2 := hide (hc.out.trans (cutA_go hgo.1 hgo.2))
        have hkm : k - 1 < d.length := (by omega); have hk1 : 1 ≤ k := (by omega)
        have hgd := hide (get_d d (k - 1) hkm)
        obtain ⟨gb, go, gbk, ges, ghA, ghbl, ghcl, ghcell, gR, ghbk⟩ := hel_d (k - 1) hkm
        cases ghA
        obtain ⟨_, ghes, ghf⟩ := gR
        subst ghes
        have g_0 := Fw.cell ((hwl.cell (p := ⟨sb, _, none⟩) ghbl).trans (ghcell 0 _ rfl))
        have g_1 := Fw.cell ((hwl.cell (p := ⟨sb, _, none⟩) ghbl).trans (ghcell 1 _ rfl))
        have g_2 := Fw.cell ((hwl.cell (p := ⟨sb, _, none⟩) ghbl).trans (ghcell 2 _ rfl))
        simp only [Nat.add_zero] at g_0 g_1 g_2
        clear ghcell ghcl
        clear hel_d
        have A0 := hide (fun (i : Fw wl) => spec_l03Order d[k - 1] a i.W)
        have hd1 : decide (0 < k) = true := decide_eq_true (by omega)
        have hd2 : decide ((0 : Int) < (k : Int)) = true := decide_eq_true (by omega)
        have hg2 : decide (0 < ordA d[k - 1] a) = true := decide_eq_true (by have := hgo.2; rw [hgd.out] at this; exact this)
        clear hgo hc
        go_wp2_with fail
        have q_aF0 := Fw.cell (box_cell q_a 0 rfl)
        have q_aF1 := Fw.cell (box_cell q_a 1 rfl)
        have q_aF2 := Fw.cell (box_cell q_a 2 rfl)
        refine region_quiet (by kernel_rfl) (by kernel_rfl) ?_
        repeat (go_big_quiet_step ((first | (go_at_call 106; exact quiet_of (A0.out _)))))
        refine wpQuiet_nil ?_; intro w2 hb2; replace q_a := box_on q_a rfl hb2; have hw2 := nxt hwl hb2; have hl0_2 := nxt hbr hb2; clear q_aF0 q_aF1 q_aF2 g_0 g_1 g_2
        go_wp2_with fail
        go_roundw
        case rel => exact ⟨k - 1, by omega, by go_num, hc2, hl0_2⟩
        case measure => simp [intOf]; omega
      · have hc2 := hide (putA_new HM.out (hc.out.trans (cutA_stop hgo)))
        by_cases hk0 : 0 < k
        · have hkm : k - 1 < d.length := (by omega); have hk1 : 1 ≤ k := (by omega)
          have hgd := hide (get_d d (k - 1) hkm)
          obtain ⟨gb, go, gbk, ges, ghA, ghbl, ghcl, ghcell, gR, ghbk⟩ := hel_d (k - 1) hkm
          cases ghA
          obtain ⟨_, ghes, ghf⟩ := gR
          subst ghes
          have g_0 := Fw.cell ((hwl.cell (p := ⟨sb, _, none⟩) ghbl).trans (ghcell 0 _ rfl))
          have g_1 := Fw.cell ((hwl.cell (p := ⟨sb, _, none⟩) ghbl).trans (ghcell 1 _ rfl))
          have g_2 := Fw.cell ((hwl.cell (p := ⟨sb, _, none⟩) ghbl).trans (ghcell 2 _ rfl))
          simp only [Nat.add_zero] at g_0 g_1 g_2
          clear ghcell ghcl
          clear hel_d
          have A0 := hide (fun (i : Fw wl) => spec_l03Order d[k - 1] a i.W)
          have hd1 : decide (0 < k) = true := decide_eq_true (by omega)
          have hd2 : decide ((0 : Int) < (k : Int)) = true := decide_eq_true (by omega)
          have hg2 : decide (0 < ordA d[k - 1] a) = false := decide_eq_false (fun h => hgo ⟨hk0, by rw [hgd.out]; exact h⟩)
          clear hgo hc
          go_wp2_with fail
          have q_aF0 := Fw.cell (box_cell q_a 0 rfl)
          have q_aF1 := Fw.cell (box_cell q_a 1 rfl)
          have q_aF2 := Fw.cell (box_cell q_a 2 rfl)
          refine region_quiet (by kernel_rfl) (by kernel_rfl) ?_
          repeat (go_big_quiet_step ((first | (go_at_call 106; exact quiet_of (A0.out _)))))
          refine wpQuiet_nil ?_; intro w3 hb3; replace q_a := box_on q_a rfl hb3; have hw3 := nxt hwl hb3; have hl0_3 := nxt hbr hb3; clear q_aF0 q_aF1 q_aF2 g_0 g_1 g_2
          have hdW := AtomSR.good.nxt hw3 H0_d; have hdl := hide (AtomSR.good.lt hdW)
          have hlt1 : (d.take k).length = k := by rw [List.length_take]; omega
          have HLT := hide hlt1; clear hlt1; have hld : (d.drop k).length = d.length - k := List.length_drop; have HLD := hide hld; clear hld
          obtain ⟨AD, hAD⟩ : ∃ A, (if c_d = k then some ⟨sb, so, none⟩ else some ⟨sb, so + k * 3, none⟩ : Option Addr) = A := ⟨_, rfl⟩
          have hkc : k ≤ c_d := by omega
          have hbox : w.heap.size < (World.heap w3).size := World.block_lt_of_cell? _ ⟨w.heap.size, 0, none⟩ (box_cell q_a 0 rfl)
          have HDW := hide hdW; clear hdW
          have x_0 : World.cell? w3 ⟨w.heap.size, 0, none⟩ = some (.int .i64 a.kind) := box_cell q_a 0 rfl
          have x_1 : World.cell? w3 ⟨w.heap.size, 1, none⟩ = some (.int .i64 a.n) := box_cell q_a 1 rfl
          have x_2 : World.cell? w3 ⟨w.heap.size, 2, none⟩ = some (.string a.t) := box_cell q_a 2 rfl
          have e0 := (Below.refl (World.heap w3).size w3).drew
          have hsz0 : (World.heap w3).size = (World.heap w3).size := rfl
          go_wp2_with fail
          refine wp_region_tail (fun w' => w'.cell? ⟨w.heap.size, 0, none⟩ = some (.int .i64 a.kind) ∧ w'.cell? ⟨w.heap.size, 1, none⟩ = some (.int .i64 a.n) ∧ w'.cell? ⟨w.heap.size, 2, none⟩ = some (.string a.t)) 12 (by kernel_rfl) (by decide) (show _ from ⟨x_0, x_1, x_2⟩) (fun hHeld => ?_)
          refine wpT_take (i := 1) rfl (by kernel_rfl) (fun _ _ _ h => h) (Or.inl ⟨by rfl, fun w hSw => by (try dsimp only at hSw); first | (go_simp; done) | (go_simp; with_reducible rfl)⟩) (by assumption) ?_
          (try simp only [Act.put, List.setIfInBounds_toArray, List.set_cons_zero, List.set_cons_succ])
          refine wpT_take (i := 2) rfl (by kernel_rfl) (fun _ _ _ h => h) (Or.inl ⟨by rfl, fun w hSw => by (try dsimp only at hSw); first | (go_simp; done) | (go_simp; with_reducible rfl)⟩) (by assumption) ?_
          (try simp only [Act.put, List.setIfInBounds_toArray, List.set_cons_zero, List.set_cons_succ])
          refine wpT_take (i := 3) rfl (by kernel_rfl) (fun _ _ _ h => h) (Or.inl ⟨by rfl, fun w hSw => by (try dsimp only at hSw); first | (go_simp; done) | (go_simp; with_reducible rfl)⟩) (by assumption) ?_
          (try simp only [Act.put, List.setIfInBounds_toArray, List.set_cons_zero, List.set_cons_succ])
          refine wpT_take (i := 5) rfl (by kernel_rfl) (fun _ _ _ h => h) (Or.inl ⟨by rfl, fun w hSw => by (try dsimp only at hSw); first | (go_simp; done) | (go_simp; with_reducible rfl)⟩) (by assumption) ?_
          (try simp only [Act.put, List.setIfInBounds_toArray, List.set_cons_zero, List.set_cons_succ])
          refine wpT_take (i := 8) rfl (by kernel_rfl) (fun _ _ _ h => h) (Or.inl ⟨by rfl, fun w hSw => by (try dsimp only at hSw); first | (go_simp; done) | (go_simp; with_reducible rfl)⟩) (by assumption) ?_
          (try simp only [Act.put, List.setIfInBounds_toArray, List.set_cons_zero, List.set_cons_succ])
          refine wpT_take (i := 9) rfl (by kernel_rfl) (fun _ _ _ h => h) (Or.inl ⟨by rfl, fun w hSw => by (try dsimp only at hSw); first | (go_simp; done) | (go_simp; with_reducible rfl)⟩) (by assumption) ?_
          (try simp only [Act.put, List.setIfInBounds_toArray, List.set_cons_zero, List.set_cons_succ])
          refine wpT_take (i := 10) rfl (by kernel_rfl) (fun _ _ _ h => h) (Or.inl ⟨by rfl, fun w hSw => by (try dsimp only at hSw); first | (go_simp; done) | (go_simp; with_reducible rfl)⟩) (by assumption) ?_
          (try simp only [Act.put, List.setIfInBounds_toArray, List.set_cons_zero, List.set_cons_succ])
          refine wpT_two (i := 0) (j := 6) rfl rfl (by kernel_rfl) (fun K hK => ?_) (fun K hK => ?_)
          · have hGm := hide (madeA (size := 3) (R := AtomR) (e := 90) (w := World.drew w3) (n := (World.heap w3).size) rfl)
            have e1 := e0.alloc (Nat.le_refl _) (.cells #[] 90)
            go_simp
            clear hHeld; refine hK.out _ _ (show _ from ⟨(e1.cell (p := ⟨w.heap.size, 0, none⟩) hbox).trans x_0, (e1.cell (p := ⟨w.heap.size, 1, none⟩) hbox).trans x_1, (e1.cell (p := ⟨w.heap.size, 2, none⟩) hbox).trans x_2⟩) (fun hHeld => ?_)
            clear hK K
            (try simp only [Act.put, List.setIfInBounds_toArray, List.set_cons_zero, List.set_cons_succ])
            refine wpT_two (i := 4) (j := 6) rfl rfl (by kernel_rfl) (fun K hK => ?_) (fun K hK => ?_)
            · obtain ⟨bT, hT, hTs⟩ := (AtomSR.good.below' e1 HDW.out hdl.out).take (k := k) hk; have HT := hide hT; have HTs := hide hTs; clear hT hTs
              refine step_append_sl AtomR.good rfl _ _ 43 rfl Try.underlying43 ji jz js jby rfl (by decide) (v := .slice (some ⟨(World.heap w3).size, 0, none⟩) 0 0) rfl hGm.out HT.out rfl AtomR.one (fun b hb hv => by have h1 := hdl.out b (HTs.out b hb); have h9 : (World.heap w3).size = b := (by injection hv); omega) (by have h00 : ([] : List Atom).length = 0 := rfl; have := HLT.out; have := HLD.out; have := hdn.out; simp only [List.length_append, List.length_cons, h00, List.length_nil]; omega) (by have h00 : ([] : List Atom).length = 0 := rfl; have := HLT.out; have := HLD.out; have := hdn.out; simp only [List.length_append, List.length_cons, h00, List.length_nil]; omega) e1.size ?_; intro v2 wA bss2 hA
              have hb2 := hA.below (World.heap w3).size _ e1 (by omega); have hz2 := hb2.size
              have hge : (World.heap w3).size ≤ (World.heap wA).size := by have := hA.size; simp at this; omega
              clear hHeld; refine hK.out _ _ (show _ from ⟨(hb2.cell (p := ⟨w.heap.size, 0, none⟩) hbox).trans x_0, (hb2.cell (p := ⟨w.heap.size, 1, none⟩) hbox).trans x_1, (hb2.cell (p := ⟨w.heap.size, 2, none⟩) hbox).trans x_2⟩) (fun hHeld => ?_)
              clear hK K
              (try simp only [Act.put, List.setIfInBounds_toArray, List.set_cons_zero, List.set_cons_succ])
              refine wpT_one (i := 6) rfl (by kernel_rfl) (fun K hK => ?_)
              have e2 := hb2.alloc hz2 (.cells #[.int .i64 a.kind, .int .i64 a.n, .string a.t] 90); have hGA := hide (hA.gr.below AtomR.good ((Below.refl _ _).alloc (Nat.le_refl _) (.cells #[.int .i64 a.kind, .int .i64 a.n, .string a.t] 90))); have hLit := hide (row_of_one (size := 3) (R := AtomR) (cs := [.int .i64 a.kind, .int .i64 a.n, .string a.t]) (x := a) (blk_new wA #[.int .i64 a.kind, .int .i64 a.n, .string a.t] 90) ⟨rfl, rfl, haf.out⟩ rfl)
              go_simp
              clear hHeld; refine hK.out _ _ (show _ from ⟨(e2.cell (p := ⟨w.heap.size, 0, none⟩) hbox).trans x_0, (e2.cell (p := ⟨w.heap.size, 1, none⟩) hbox).trans x_1, (e2.cell (p := ⟨w.heap.size, 2, none⟩) hbox).trans x_2⟩) (fun hHeld => ?_)
              clear hK K
              (try simp only [Act.put, List.setIfInBounds_toArray, List.set_cons_zero, List.set_cons_succ])
              refine wpT_one (i := 7) rfl (by kernel_rfl) (fun K hK => ?_)
              refine step_append_sl AtomR.good rfl _ _ 43 rfl Try.underlying43 ji jz js jby rfl (by decide) (v := v2) (by rfl) hGA.out hLit.out (by rfl) AtomR.one (fun b hb hv => by simp at hb; have := (hA.gr.blk b hv).2; omega) (by have h00 : ([] : List Atom).length = 0 := rfl; have := HLT.out; have := HLD.out; have := hdn.out; simp only [List.length_append, List.length_cons, h00, List.length_nil]; omega) (by have h00 : ([] : List Atom).length = 0 := rfl; have := HLT.out; have := HLD.out; have := hdn.out; simp only [List.length_append, List.length_cons, h00, List.length_nil]; omega) (by have := hge; have := e2.size; (try simp at this); (try simp); omega) ?_; intro v3 wB bss3 hA3
              have hb3 := hA3.below (World.heap w3).size _ e2 (by omega); have hz3 := hb3.size; have hge3 := hA3.size
              obtain ⟨A9, bD, hA9, hD, hDs⟩ := dropA (AtomSR.good.below' hb3 HDW.out hdl.out) (k := k) hk; rw [hAD] at hA9; subst hA9; have HD := hide hD; have HDs := hide hDs; clear hD hDs
              clear hHeld; refine hK.out _ _ (show _ from ⟨(hb3.cell (p := ⟨w.heap.size, 0, none⟩) hbox).trans x_0, (hb3.cell (p := ⟨w.heap.size, 1, none⟩) hbox).trans x_1, (hb3.cell (p := ⟨w.heap.size, 2, none⟩) hbox).trans x_2⟩) (fun hHeld => ?_)
              clear hK K
              (try simp only [Act.put, List.setIfInBounds_toArray, List.set_cons_zero, List.set_cons_succ])
              refine wpT_one (i := 11) rfl (by kernel_rfl) (fun K hK => ?_)
              refine step_append_sl AtomR.good rfl _ _ 43 rfl Try.underlying43 ji jz js jby rfl (by decide) (v := v3) (by rfl) hA3.gr HD.out (by rfl) AtomR.one (fun b hb hv => by have := (hA3.gr.blk b hv).1; have := hdl.out b (HDs.out b hb); omega) (by have h00 : ([] : List Atom).length = 0 := rfl; have := HLT.out; have := HLD.out; have := hdn.out; simp only [List.length_append, List.length_cons, h00, List.length_nil]; omega) (by have h00 : ([] : List Atom).length = 0 := rfl; have := HLT.out; have := HLD.out; have := hdn.out; simp only [List.length_append, List.length_cons, h00, List.length_nil]; omega) (by have := hge; (try simp at hge3); omega) ?_; intro v4 wC bss4 hA4; have hb4 := hA4.below (World.heap w3).size _ hb3 (by omega)
              clear hHeld; refine hK.out _ _ (show _ from ⟨(hb4.cell (p := ⟨w.heap.size, 0, none⟩) hbox).trans x_0, (hb4.cell (p := ⟨w.heap.size, 1, none⟩) hbox).trans x_1, (hb4.cell (p := ⟨w.heap.size, 2, none⟩) hbox).trans x_2⟩) (fun hHeld => ?_)
              clear hK K
              (try simp only [Act.put, List.setIfInBounds_toArray, List.set_cons_zero, List.set_cons_succ])
              refine wpT_done (by kernel_rfl) ?_
              simp only [List.drop_succ_cons, List.drop_zero]
              clear hHeld
              go_wp2_with fail
              go_ret
              obtain ⟨bs4, r4, f4, _⟩ := hA4.gr.done
              have hsm := hA4.gr.sm (hA4.some (hA3.some (hA.some (fun h => by cases h))))
              exact ⟨v4, bs4, rfl, by rw [hc2.out]; exact r4, by rw [hc2.out]; exact hsm, Or.inr ((f4 (by rw [hA4.gr.bss_nil AtomR.flat]; exact Fr.nil _ _)).mono (by omega)), nxt hw3 hb4⟩
            · have e2 := e1.alloc (by simp) (.cells #[.int .i64 a.kind, .int .i64 a.n, .string a.t] 90); replace hGm := hide (hGm.out.below AtomR.good ((Below.refl _ _).alloc (Nat.le_refl _) (.cells #[.int .i64 a.kind, .int .i64 a.n, .string a.t] 90)))
              have hL0 : (World.heap (((World.drew w3).alloc (.cells #[] 90)).alloc (.cells #[.int .i64 a.kind, .int .i64 a.n, .string a.t] 90)))[(World.heap w3).size + 1]? = some (.cells #[.int .i64 a.kind, .int .i64 a.n, .string a.t] 90 (0, 0)) := by simpa using blk_new ((World.drew w3).alloc (.cells #[] 90)) #[.int .i64 a.kind, .int .i64 a.n, .string a.t] 90
              have hLit0 := hide (row_of_one (size := 3) (R := AtomR) (cs := [.int .i64 a.kind, .int .i64 a.n, .string a.t]) (x := a) hL0 ⟨rfl, rfl, haf.out⟩ rfl); clear hL0
              go_simp
              clear hHeld; refine hK.out _ _ (show _ from ⟨(e2.cell (p := ⟨w.heap.size, 0, none⟩) hbox).trans x_0, (e2.cell (p := ⟨w.heap.size, 1, none⟩) hbox).trans x_1, (e2.cell (p := ⟨w.heap.size, 2, none⟩) hbox).trans x_2⟩) (fun hHeld => ?_)
              clear hK K
              (try simp only [Act.put, List.setIfInBounds_toArray, List.set_cons_zero, List.set_cons_succ])
              refine wpT_one (i := 4) rfl (by kernel_rfl) (fun K hK => ?_)
              obtain ⟨bT, hT, hTs⟩ := (AtomSR.good.below' e2 HDW.out hdl.out).take (k := k) hk; have HT := hide hT; have HTs := hide hTs; clear hT hTs
              refine step_append_sl AtomR.good rfl _ _ 43 rfl Try.underlying43 ji jz js jby rfl (by decide) (v := .slice (some ⟨(World.heap w3).size, 0, none⟩) 0 0) rfl hGm.out HT.out rfl AtomR.one (fun b hb hv => by have h1 := hdl.out b (HTs.out b hb); have h9 : (World.heap w3).size = b := (by injection hv); omega) (by have h00 : ([] : List Atom).length = 0 := rfl; have := HLT.out; have := HLD.out; have := hdn.out; simp only [List.length_append, List.length_cons, h00, List.length_nil]; omega) (by have h00 : ([] : List Atom).length = 0 := rfl; have := HLT.out; have := HLD.out; have := hdn.out; simp only [List.length_append, List.length_cons, h00, List.length_nil]; omega) e2.size ?_; intro v2 wA bss2 hA
              have hb2 := hA.below (World.heap w3).size _ e2 (by omega); have hz2 := hb2.size
              have hge : (World.heap w3).size ≤ (World.heap wA).size := by have := hA.size; simp at this; omega
              clear hHeld; refine hK.out _ _ (show _ from ⟨(hb2.cell (p := ⟨w.heap.size, 0, none⟩) hbox).trans x_0, (hb2.cell (p := ⟨w.heap.size, 1, none⟩) hbox).trans x_1, (hb2.cell (p := ⟨w.heap.size, 2, none⟩) hbox).trans x_2⟩) (fun hHeld => ?_)
              clear hK K
              (try simp only [Act.put, List.setIfInBounds_toArray, List.set_cons_zero, List.set_cons_succ])
              obtain ⟨hLa, hLn⟩ := hA.keepSl AtomR.good hLit0.out (fun b hb hv => by simp at hb; have h9 : (World.heap w3).size = b := (by injection hv); omega)
              have hLit := hide hLa; clear hLa; have hGA := hide hA.gr
              refine wpT_one (i := 7) rfl (by kernel_rfl) (fun K hK => ?_)
              refine step_append_sl AtomR.good rfl _ _ 43 rfl Try.underlying43 ji jz js jby rfl (by decide) (v := v2) (by rfl) hGA.out hLit.out (by rfl) AtomR.one hLn (by have h00 : ([] : List Atom).length = 0 := rfl; have := HLT.out; have := HLD.out; have := hdn.out; simp only [List.length_append, List.length_cons, h00, List.length_nil]; omega) (by have h00 : ([] : List Atom).length = 0 := rfl; have := HLT.out; have := HLD.out; have := hdn.out; simp only [List.length_append, List.length_cons, h00, List.length_nil]; omega) (by have := hge; have := hb2.size; (try simp at this); (try simp); omega) ?_; intro v3 wB bss3 hA3
              have hb3 := hA3.below (World.heap w3).size _ hb2 (by omega); have hz3 := hb3.size; have hge3 := hA3.size
              obtain ⟨A9, bD, hA9, hD, hDs⟩ := dropA (AtomSR.good.below' hb3 HDW.out hdl.out) (k := k) hk; rw [hAD] at hA9; subst hA9; have HD := hide hD; have HDs := hide hDs; clear hD hDs
              clear hHeld; refine hK.out _ _ (show _ from ⟨(hb3.cell (p := ⟨w.heap.size, 0, none⟩) hbox).trans x_0, (hb3.cell (p := ⟨w.heap.size, 1, none⟩) hbox).trans x_1, (hb3.cell (p := ⟨w.heap.size, 2, none⟩) hbox).trans x_2⟩) (fun hHeld => ?_)
              clear hK K
              (try simp only [Act.put, List.setIfInBounds_toArray, List.set_cons_zero, List.set_cons_succ])
              refine wpT_one (i := 11) rfl (by kernel_rfl) (fun K hK => ?_)
              refine step_append_sl AtomR.good rfl _ _ 43 rfl Try.underlying43 ji jz js jby rfl (by decide) (v := v3) (by rfl) hA3.gr HD.out (by rfl) AtomR.one (fun b hb hv => by have := (hA3.gr.blk b hv).1; have := hdl.out b (HDs.out b hb); omega) (by have h00 : ([] : List Atom).length = 0 := rfl; have := HLT.out; have := HLD.out; have := hdn.out; simp only [List.length_append, List.length_cons, h00, List.length_nil]; omega) (by have h00 : ([] : List Atom).length = 0 := rfl; have := HLT.out; have := HLD.out; have := hdn.out; simp only [List.length_append, List.length_cons, h00, List.length_nil]; omega) (by have := hge; (try simp at hge3); omega) ?_; intro v4 wC bss4 hA4; have hb4 := hA4.below (World.heap w3).size _ hb3 (by omega)
              clear hHeld; refine hK.out _ _ (show _ from ⟨(hb4.cell (p := ⟨w.heap.size, 0, none⟩) hbox).trans x_0, (hb4.cell (p := ⟨w.heap.size, 1, none⟩) hbox).trans x_1, (hb4.cell (p := ⟨w.heap.size, 2, none⟩) hbox).trans x_2⟩) (fun hHeld => ?_)
              clear hK K
              (try simp only [Act.put, List.setIfInBounds_toArray, List.set_cons_zero, List.set_cons_succ])
              refine wpT_done (by kernel_rfl) ?_
              simp only [List.drop_succ_cons, List.drop_zero]
              clear hHeld
              go_wp2_with fail
              go_ret
              obtain ⟨bs4, r4, f4, _⟩ := hA4.gr.done
              have hsm := hA4.gr.sm (hA4.some (hA3.some (hA.some (fun h => by cases h))))
              exact ⟨v4, bs4, rfl, by rw [hc2.out]; exact r4, by rw [hc2.out]; exact hsm, Or.inr ((f4 (by rw [hA4.gr.bss_nil AtomR.flat]; exact Fr.nil _ _)).mono (by omega)), nxt hw3 hb4⟩
          · have e1 := e0.alloc (Nat.le_refl _) (.cells #[.int .i64 a.kind, .int .i64 a.n, .string a.t] 90)
            have hLit0 := hide (row_of_one (size := 3) (R := AtomR) (cs := [.int .i64 a.kind, .int .i64 a.n, .string a.t]) (x := a) (blk_new (World.drew w3) #[.int .i64 a.kind, .int .i64 a.n, .string a.t] 90) ⟨rfl, rfl, haf.out⟩ rfl)
            go_simp
            clear hHeld; refine hK.out _ _ (show _ from ⟨(e1.cell (p := ⟨w.heap.size, 0, none⟩) hbox).trans x_0, (e1.cell (p := ⟨w.heap.size, 1, none⟩) hbox).trans x_1, (e1.cell (p := ⟨w.heap.size, 2, none⟩) hbox).trans x_2⟩) (fun hHeld => ?_)
            clear hK K
            (try simp only [Act.put, List.setIfInBounds_toArray, List.set_cons_zero, List.set_cons_succ])
            refine wpT_one (i := 0) rfl (by kernel_rfl) (fun K hK => ?_)
            have e2 := e1.alloc (by simp) (.cells #[] 90); have hLit1 := hide (AtomSR.good.nxt ((Below.refl _ _).alloc (Nat.le_refl _) (.cells #[] 90)) hLit0.out)
            have hGm := hide (madeA (size := 3) (R := AtomR) (e := 90) (w := (World.drew w3).alloc (.cells #[.int .i64 a.kind, .int .i64 a.n, .string a.t] 90)) (n := (World.heap w3).size + 1) (by simp))
            go_simp
            clear hHeld; refine hK.out _ _ (show _ from ⟨(e2.cell (p := ⟨w.heap.size, 0, none⟩) hbox).trans x_0, (e2.cell (p := ⟨w.heap.size, 1, none⟩) hbox).trans x_1, (e2.cell (p := ⟨w.heap.size, 2, none⟩) hbox).trans x_2⟩) (fun hHeld => ?_)
            clear hK K
            (try simp only [Act.put, List.setIfInBounds_toArray, List.set_cons_zero, List.set_cons_succ])
            refine wpT_one (i := 4) rfl (by kernel_rfl) (fun K hK => ?_)
            obtain ⟨bT, hT, hTs⟩ := (AtomSR.good.below' e2 HDW.out hdl.out).take (k := k) hk; have HT := hide hT; have HTs := hide hTs; clear hT hTs
            refine step_append_sl AtomR.good rfl _ _ 43 rfl Try.underlying43 ji jz js jby rfl (by decide) (v := .slice (some ⟨(World.heap w3).size + 1, 0, none⟩) 0 0) rfl hGm.out HT.out rfl AtomR.one (fun b hb hv => by have h1 := hdl.out b (HTs.out b hb); have h9 : (World.heap w3).size + 1 = b := (by injection hv); omega) (by have h00 : ([] : List Atom).length = 0 := rfl; have := HLT.out; have := HLD.out; have := hdn.out; simp only [List.length_append, List.length_cons, h00, List.length_nil]; omega) (by have h00 : ([] : List Atom).length = 0 := rfl; have := HLT.out; have := HLD.out; have := hdn.out; simp only [List.length_append, List.length_cons, h00, List.length_nil]; omega) (by simp) ?_; intro v2 wA bss2 hA
            have hb2 := hA.below (World.heap w3).size _ e2 (by omega); have hz2 := hb2.size
            have hge : (World.heap w3).size + 1 ≤ (World.heap wA).size := by have := hA.size; simp at this; omega
            clear hHeld; refine hK.out _ _ (show _ from ⟨(hb2.cell (p := ⟨w.heap.size, 0, none⟩) hbox).trans x_0, (hb2.cell (p := ⟨w.heap.size, 1, none⟩) hbox).trans x_1, (hb2.cell (p := ⟨w.heap.size, 2, none⟩) hbox).trans x_2⟩) (fun hHeld => ?_)
            clear hK K
            (try simp only [Act.put, List.setIfInBounds_toArray, List.set_cons_zero, List.set_cons_succ])
            obtain ⟨hLa, hLn⟩ := hA.keepSl AtomR.good hLit1.out (fun b hb hv => by have hb' : b = (World.heap w3).size := (by simpa using hb); have h9 : (World.heap w3).size + 1 = b := (by injection hv); omega)
            have hLit := hide hLa; clear hLa; have hGA := hide hA.gr
            refine wpT_one (i := 7) rfl (by kernel_rfl) (fun K hK => ?_)
            refine step_append_sl AtomR.good rfl _ _ 43 rfl Try.underlying43 ji jz js jby rfl (by decide) (v := v2) (by rfl) hGA.out hLit.out (by rfl) AtomR.one hLn (by have h00 : ([] : List Atom).length = 0 := rfl; have := HLT.out; have := HLD.out; have := hdn.out; simp only [List.length_append, List.length_cons, h00, List.length_nil]; omega) (by have h00 : ([] : List Atom).length = 0 := rfl; have := HLT.out; have := HLD.out; have := hdn.out; simp only [List.length_append, List.length_cons, h00, List.length_nil]; omega) (by have := hge; have := hb2.size; (try simp at this); (try simp); omega) ?_; intro v3 wB bss3 hA3
            have hb3 := hA3.below (World.heap w3).size _ hb2 (by omega); have hz3 := hb3.size; have hge3 := hA3.size
            obtain ⟨A9, bD, hA9, hD, hDs⟩ := dropA (AtomSR.good.below' hb3 HDW.out hdl.out) (k := k) hk; rw [hAD] at hA9; subst hA9; have HD := hide hD; have HDs := hide hDs; clear hD hDs
            clear hHeld; refine hK.out _ _ (show _ from ⟨(hb3.cell (p := ⟨w.heap.size, 0, none⟩) hbox).trans x_0, (hb3.cell (p := ⟨w.heap.size, 1, none⟩) hbox).trans x_1, (hb3.cell (p := ⟨w.heap.size, 2, none⟩) hbox).trans x_2⟩) (fun hHeld => ?_)
            clear hK K
            (try simp only [Act.put, List.setIfInBounds_toArray, List.set_cons_zero, List.set_cons_succ])
            refine wpT_one (i := 11) rfl (by kernel_rfl) (fun K hK => ?_)
            refine step_append_sl AtomR.good rfl _ _ 43 rfl Try.underlying43 ji jz js jby rfl (by decide) (v := v3) (by rfl) hA3.gr HD.out (by rfl) AtomR.one (fun b hb hv => by have := (hA3.gr.blk b hv).1; have := hdl.out b (HDs.out b hb); omega) (by have h00 : ([] : List Atom).length = 0 := rfl; have := HLT.out; have := HLD.out; have := hdn.out; simp only [List.length_append, List.length_cons, h00, List.length_nil]; omega) (by have h00 : ([] : List Atom).length = 0 := rfl; have := HLT.out; have := HLD.out; have := hdn.out; simp only [List.length_append, List.length_cons, h00, List.length_nil]; omega) (by have := hge; (try simp at hge3); omega) ?_; intro v4 wC bss4 hA4; have hb4 := hA4.below (World.heap w3).size _ hb3 (by omega)
            clear hHeld; refine hK.out _ _ (show _ from ⟨(hb4.cell (p := ⟨w.heap.size, 0, none⟩) hbox).trans x_0, (hb4.cell (p := ⟨w.heap.size, 1, none⟩) hbox).trans x_1, (hb4.cell (p := ⟨w.heap.size, 2, none⟩) hbox).trans x_2⟩) (fun hHeld => ?_)
            clear hK K
            (try simp only [Act.put, List.setIfInBounds_toArray, List.set_cons_zero, List.set_cons_succ])
            refine wpT_done (by kernel_rfl) ?_
            simp only [List.drop_succ_cons, List.drop_zero]
            clear hHeld
            go_wp2_with fail
            go_ret
            obtain ⟨bs4, r4, f4, _⟩ := hA4.gr.done
            have hsm := hA4.gr.sm (hA4.some (hA3.some (hA.some (fun h => by cases h))))
            exact ⟨v4, bs4, rfl, by rw [hc2.out]; exact r4, by rw [hc2.out]; exact hsm, Or.inr ((f4 (by rw [hA4.gr.bss_nil AtomR.flat]; exact Fr.nil _ _)).mono (by omega)), nxt hw3 hb4⟩
        · have hd1 : decide (0 < k) = false := decide_eq_false hk0; have hd2 : decide ((0 : Int) < (k : Int)) = false := decide_eq_false (by omega)
          clear hgo hc hel_d
          go_wp2_with fail
          have q_aF0 := Fw.cell (box_cell q_a 0 rfl)
          have q_aF1 := Fw.cell (box_cell q_a 1 rfl)
          have q_aF2 := Fw.cell (box_cell q_a 2 rfl)
          refine region_quiet (by kernel_rfl) (by kernel_rfl) ?_
          repeat (go_big_quiet_step (fail))
          refine wpQuiet_nil ?_; intro w4 hb4; replace q_a := box_on q_a rfl hb4; have hw4 := nxt hwl hb4; have hl0_4 := nxt hbr hb4; clear q_aF0 q_aF1 q_aF2
          have hdW := AtomSR.good.nxt hw4 H0_d; have hdl := hide (AtomSR.good.lt hdW)
          have hlt1 : (d.take k).length = k := by rw [List.length_take]; omega
          have HLT := hide hlt1; clear hlt1; have hld : (d.drop k).length = d.length - k := List.length_drop; have HLD := hide hld; clear hld
          obtain ⟨AD, hAD⟩ : ∃ A, (if c_d = k then some ⟨sb, so, none⟩ else some ⟨sb, so + k * 3, none⟩ : Option Addr) = A := ⟨_, rfl⟩
          have hkc : k ≤ c_d := by omega
          have hbox : w.heap.size < (World.heap w4).size := World.block_lt_of_cell? _ ⟨w.heap.size, 0, none⟩ (box_cell q_a 0 rfl)
          have HDW := hide hdW; clear hdW
          have x_0 : World.cell? w4 ⟨w.heap.size, 0, none⟩ = some (.int .i64 a.kind) := box_cell q_a 0 rfl
          have x_1 : World.cell? w4 ⟨w.heap.size, 1, none⟩ = some (.int .i64 a.n) := box_cell q_a 1 rfl
          have x_2 : World.cell? w4 ⟨w.heap.size, 2, none⟩ = some (.string a.t) := box_cell q_a 2 rfl
          have e0 := (Below.refl (World.heap w4).size w4).drew
          have hsz0 : (World.heap w4).size = (World.heap w4).size := rfl
          go_wp2_with fail
          refine wp_region_tail (fun w' => w'.cell? ⟨w.heap.size, 0, none⟩ = some (.int .i64 a.kind) ∧ w'.cell? ⟨w.heap.size, 1, none⟩ = some (.int .i64 a.n) ∧ w'.cell? ⟨w.heap.size, 2, none⟩ = some (.string a.t)) 12 (by kernel_rfl) (by decide) (show _ from ⟨x_0, x_1, x_2⟩) (fun hHeld => ?_)
          refine wpT_take (i := 1) rfl (by kernel_rfl) (fun _ _ _ h => h) (Or.inl ⟨by rfl, fun w hSw => by (try dsimp only at hSw); first | (go_simp; done) | (go_simp; with_reducible rfl)⟩) (by assumption) ?_
          (try simp only [Act.put, List.setIfInBounds_toArray, List.set_cons_zero, List.set_cons_succ])
          refine wpT_take (i := 2) rfl (by kernel_rfl) (fun _ _ _ h => h) (Or.inl ⟨by rfl, fun w hSw => by (try dsimp only at hSw); first | (go_simp; done) | (go_simp; with_reducible rfl)⟩) (by assumption) ?_
          (try simp only [Act.put, List.setIfInBounds_toArray, List.set_cons_zero, List.set_cons_succ])
          refine wpT_take (i := 3) rfl (by kernel_rfl) (fun _ _ _ h => h) (Or.inl ⟨by rfl, fun w hSw => by (try dsimp only at hSw); first | (go_simp; done) | (go_simp; with_reducible rfl)⟩) (by assumption) ?_
          (try simp only [Act.put, List.setIfInBounds_toArray, List.set_cons_zero, List.set_cons_succ])
          refine wpT_take (i := 5) rfl (by kernel_rfl) (fun _ _ _ h => h) (Or.inl ⟨by rfl, fun w hSw => by (try dsimp only at hSw); first | (go_simp; done) | (go_simp; with_reducible rfl)⟩) (by assumption) ?_
          (try simp only [Act.put, List.setIfInBounds_toArray, List.set_cons_zero, List.set_cons_succ])
          refine wpT_take (i := 8) rfl (by kernel_rfl) (fun _ _ _ h => h) (Or.inl ⟨by rfl, fun w hSw => by (try dsimp only at hSw); first | (go_simp; done) | (go_simp; with_reducible rfl)⟩) (by assumption) ?_
          (try simp only [Act.put, List.setIfInBounds_toArray, List.set_cons_zero, List.set_cons_succ])
          refine wpT_take (i := 9) rfl (by kernel_rfl) (fun _ _ _ h => h) (Or.inl ⟨by rfl, fun w hSw => by (try dsimp only at hSw); first | (go_simp; done) | (go_simp; with_reducible rfl)⟩) (by assumption) ?_
          (try simp only [Act.put, List.setIfInBounds_toArray, List.set_cons_zero, List.set_cons_succ])
          refine wpT_take (i := 10) rfl (by kernel_rfl) (fun _ _ _ h => h) (Or.inl ⟨by rfl, fun w hSw => by (try dsimp only at hSw); first | (go_simp; done) | (go_simp; with_reducible rfl)⟩) (by assumption) ?_
          (try simp only [Act.put, List.setIfInBounds_toArray, List.set_cons_zero, List.set_cons_succ])
          refine wpT_two (i := 0) (j := 6) rfl rfl (by kernel_rfl) (fun K hK => ?_) (fun K hK => ?_)
          · have hGm := hide (madeA (size := 3) (R := AtomR) (e := 90) (w := World.drew w4) (n := (World.heap w4).size) rfl)
            have e1 := e0.alloc (Nat.le_refl _) (.cells #[] 90)
            go_simp
            clear hHeld; refine hK.out _ _ (show _ from ⟨(e1.cell (p := ⟨w.heap.size, 0, none⟩) hbox).trans x_0, (e1.cell (p := ⟨w.heap.size, 1, none⟩) hbox).trans x_1, (e1.cell (p := ⟨w.heap.size, 2, none⟩) hbox).trans x_2⟩) (fun hHeld => ?_)
            clear hK K
            (try simp only [Act.put, List.setIfInBounds_toArray, List.set_cons_zero, List.set_cons_succ])
            refine wpT_two (i := 4) (j := 6) rfl rfl (by kernel_rfl) (fun K hK => ?_) (fun K hK => ?_)
            · obtain ⟨bT, hT, hTs⟩ := (AtomSR.good.below' e1 HDW.out hdl.out).take (k := k) hk; have HT := hide hT; have HTs := hide hTs; clear hT hTs
              refine step_append_sl AtomR.good rfl _ _ 43 rfl Try.underlying43 ji jz js jby rfl (by decide) (v := .slice (some ⟨(World.heap w4).size, 0, none⟩) 0 0) rfl hGm.out HT.out rfl AtomR.one (fun b hb hv => by have h1 := hdl.out b (HTs.out b hb); have h9 : (World.heap w4).size = b := (by injection hv); omega) (by have h00 : ([] : List Atom).length = 0 := rfl; have := HLT.out; have := HLD.out; have := hdn.out; simp only [List.length_append, List.length_cons, h00, List.length_nil]; omega) (by have h00 : ([] : List Atom).length = 0 := rfl; have := HLT.out; have := HLD.out; have := hdn.out; simp only [List.length_append, List.length_cons, h00, List.length_nil]; omega) e1.size ?_; intro v2 wA bss2 hA
              have hb2 := hA.below (World.heap w4).size _ e1 (by omega); have hz2 := hb2.size
              have hge : (World.heap w4).size ≤ (World.heap wA).size := by have := hA.size; simp at this; omega
              clear hHeld; refine hK.out _ _ (show _ from ⟨(hb2.cell (p := ⟨w.heap.size, 0, none⟩) hbox).trans x_0, (hb2.cell (p := ⟨w.heap.size, 1, none⟩) hbox).trans x_1, (hb2.cell (p := ⟨w.heap.size, 2, none⟩) hbox).trans x_2⟩) (fun hHeld => ?_)
              clear hK K
              (try simp only [Act.put, List.setIfInBounds_toArray, List.set_cons_zero, List.set_cons_succ])
              refine wpT_one (i := 6) rfl (by kernel_rfl) (fun K hK => ?_)
              have e2 := hb2.alloc hz2 (.cells #[.int .i64 a.kind, .int .i64 a.n, .string a.t] 90); have hGA := hide (hA.gr.below AtomR.good ((Below.refl _ _).alloc (Nat.le_refl _) (.cells #[.int .i64 a.kind, .int .i64 a.n, .string a.t] 90))); have hLit := hide (row_of_one (size := 3) (R := AtomR) (cs := [.int .i64 a.kind, .int .i64 a.n, .string a.t]) (x := a) (blk_new wA #[.int .i64 a.kind, .int .i64 a.n, .string a.t] 90) ⟨rfl, rfl, haf.out⟩ rfl)
              go_simp
              clear hHeld; refine hK.out _ _ (show _ from ⟨(e2.cell (p := ⟨w.heap.size, 0, none⟩) hbox).trans x_0, (e2.cell (p := ⟨w.heap.size, 1, none⟩) hbox).trans x_1, (e2.cell (p := ⟨w.heap.size, 2, none⟩) hbox).trans x_2⟩) (fun hHeld => ?_)
              clear hK K
              (try simp only [Act.put, List.setIfInBounds_toArray, List.set_cons_zero, List.set_cons_succ])
              refine wpT_one (i := 7) rfl (by kernel_rfl) (fun K hK => ?_)
              refine step_append_sl AtomR.good rfl _ _ 43 rfl Try.underlying43 ji jz js jby rfl (by decide) (v := v2) (by rfl) hGA.out hLit.out (by rfl) AtomR.one (fun b hb hv => by simp at hb; have := (hA.gr.blk b hv).2; omega) (by have h00 : ([] : List Atom).length = 0 := rfl; have := HLT.out; have := HLD.out; have := hdn.out; simp only [List.length_append, List.length_cons, h00, List.length_nil]; omega) (by have h00 : ([] : List Atom).length = 0 := rfl; have := HLT.out; have := HLD.out; have := hdn.out; simp only [List.length_append, List.length_cons, h00, List.length_nil]; omega) (by have := hge; have := e2.size; (try simp at this); (try simp); omega) ?_; intro v3 wB bss3 hA3
              have hb3 := hA3.below (World.heap w4).size _ e2 (by omega); have hz3 := hb3.size; have hge3 := hA3.size
              obtain ⟨A9, bD, hA9, hD, hDs⟩ := dropA (AtomSR.good.below' hb3 HDW.out hdl.out) (k := k) hk; rw [hAD] at hA9; subst hA9; have HD := hide hD; have HDs := hide hDs; clear hD hDs
              clear hHeld; refine hK.out _ _ (show _ from ⟨(hb3.cell (p := ⟨w.heap.size, 0, none⟩) hbox).trans x_0, (hb3.cell (p := ⟨w.heap.size, 1, none⟩) hbox).trans x_1, (hb3.cell (p := ⟨w.heap.size, 2, none⟩) hbox).trans x_2⟩) (fun hHeld => ?_)
              clear hK K
              (try simp only [Act.put, List.setIfInBounds_toArray, List.set_cons_zero, List.set_cons_succ])
              refine wpT_one (i := 11) rfl (by kernel_rfl) (fun K hK => ?_)
              refine step_append_sl AtomR.good rfl _ _ 43 rfl Try.underlying43 ji jz js jby rfl (by decide) (v := v3) (by rfl) hA3.gr HD.out (by rfl) AtomR.one (fun b hb hv => by have := (hA3.gr.blk b hv).1; have := hdl.out b (HDs.out b hb); omega) (by have h00 : ([] : List Atom).length = 0 := rfl; have := HLT.out; have := HLD.out; have := hdn.out; simp only [List.length_append, List.length_cons, h00, List.length_nil]; omega) (by have h00 : ([] : List Atom).length = 0 := rfl; have := HLT.out; have := HLD.out; have := hdn.out; simp only [List.length_append, List.length_cons, h00, List.length_nil]; omega) (by have := hge; (try simp at hge3); omega) ?_; intro v4 wC bss4 hA4; have hb4 := hA4.below (World.heap w4).size _ hb3 (by omega)
              clear hHeld; refine hK.out _ _ (show _ from ⟨(hb4.cell (p := ⟨w.heap.size, 0, none⟩) hbox).trans x_0, (hb4.cell (p := ⟨w.heap.size, 1, none⟩) hbox).trans x_1, (hb4.cell (p := ⟨w.heap.size, 2, none⟩) hbox).trans x_2⟩) (fun hHeld => ?_)
              clear hK K
              (try simp only [Act.put, List.setIfInBounds_toArray, List.set_cons_zero, List.set_cons_succ])
              refine wpT_done (by kernel_rfl) ?_
              simp only [List.drop_succ_cons, List.drop_zero]
              clear hHeld
              go_wp2_with fail
              go_ret
              obtain ⟨bs4, r4, f4, _⟩ := hA4.gr.done
              have hsm := hA4.gr.sm (hA4.some (hA3.some (hA.some (fun h => by cases h))))
              exact ⟨v4, bs4, rfl, by rw [hc2.out]; exact r4, by rw [hc2.out]; exact hsm, Or.inr ((f4 (by rw [hA4.gr.bss_nil AtomR.flat]; exact Fr.nil _ _)).mono (by omega)), nxt hw4 hb4⟩
            · have e2 := e1.alloc (by simp) (.cells #[.int .i64 a.kind, .int .i64 a.n, .string a.t] 90); replace hGm := hide (hGm.out.below AtomR.good ((Below.refl _ _).alloc (Nat.le_refl _) (.cells #[.int .i64 a.kind, .int .i64 a.n, .string a.t] 90)))
              have hL0 : (World.heap (((World.drew w4).alloc (.cells #[] 90)).alloc (.cells #[.int .i64 a.kind, .int .i64 a.n, .string a.t] 90)))[(World.heap w4).size + 1]? = some (.cells #[.int .i64 a.kind, .int .i64 a.n, .string a.t] 90 (0, 0)) := by simpa using blk_new ((World.drew w4).alloc (.cells #[] 90)) #[.int .i64 a.kind, .int .i64 a.n, .string a.t] 90
              have hLit0 := hide (row_of_one (size := 3) (R := AtomR) (cs := [.int .i64 a.kind, .int .i64 a.n, .string a.t]) (x := a) hL0 ⟨rfl, rfl, haf.out⟩ rfl); clear hL0
              go_simp
              clear hHeld; refine hK.out _ _ (show _ from ⟨(e2.cell (p := ⟨w.heap.size, 0, none⟩) hbox).trans x_0, (e2.cell (p := ⟨w.heap.size, 1, none⟩) hbox).trans x_1, (e2.cell (p := ⟨w.heap.size, 2, none⟩) hbox).trans x_2⟩) (fun hHeld => ?_)
              clear hK K
              (try simp only [Act.put, List.setIfInBounds_toArray, List.set_cons_zero, List.set_cons_succ])
              refine wpT_one (i := 4) rfl (by kernel_rfl) (fun K hK => ?_)
              obtain ⟨bT, hT, hTs⟩ := (AtomSR.good.below' e2 HDW.out hdl.out).take (k := k) hk; have HT := hide hT; have HTs := hide hTs; clear hT hTs
              refine step_append_sl AtomR.good rfl _ _ 43 rfl Try.underlying43 ji jz js jby rfl (by decide) (v := .slice (some ⟨(World.heap w4).size, 0, none⟩) 0 0) rfl hGm.out HT.out rfl AtomR.one (fun b hb hv => by have h1 := hdl.out b (HTs.out b hb); have h9 : (World.heap w4).size = b := (by injection hv); omega) (by have h00 : ([] : List Atom).length = 0 := rfl; have := HLT.out; have := HLD.out; have := hdn.out; simp only [List.length_append, List.length_cons, h00, List.length_nil]; omega) (by have h00 : ([] : List Atom).length = 0 := rfl; have := HLT.out; have := HLD.out; have := hdn.out; simp only [List.length_append, List.length_cons, h00, List.length_nil]; omega) e2.size ?_; intro v2 wA bss2 hA
              have hb2 := hA.below (World.heap w4).size _ e2 (by omega); have hz2 := hb2.size
              have hge : (World.heap w4).size ≤ (World.heap wA).size := by have := hA.size; simp at this; omega
              clear hHeld; refine hK.out _ _ (show _ from ⟨(hb2.cell (p := ⟨w.heap.size, 0, none⟩) hbox).trans x_0, (hb2.cell (p := ⟨w.heap.size, 1, none⟩) hbox).trans x_1, (hb2.cell (p := ⟨w.heap.size, 2, none⟩) hbox).trans x_2⟩) (fun hHeld => ?_)
              clear hK K
              (try simp only [Act.put, List.setIfInBounds_toArray, List.set_cons_zero, List.set_cons_succ])
              obtain ⟨hLa, hLn⟩ := hA.keepSl AtomR.good hLit0.out (fun b hb hv => by simp at hb; have h9 : (World.heap w4).size = b := (by injection hv); omega)
              have hLit := hide hLa; clear hLa; have hGA := hide hA.gr
              refine wpT_one (i := 7) rfl (by kernel_rfl) (fun K hK => ?_)
              refine step_append_sl AtomR.good rfl _ _ 43 rfl Try.underlying43 ji jz js jby rfl (by decide) (v := v2) (by rfl) hGA.out hLit.out (by rfl) AtomR.one hLn (by have h00 : ([] : List Atom).length = 0 := rfl; have := HLT.out; have := HLD.out; have := hdn.out; simp only [List.length_append, List.length_cons, h00, List.length_nil]; omega) (by have h00 : ([] : List Atom).length = 0 := rfl; have := HLT.out; have := HLD.out; have := hdn.out; simp only [List.length_append, List.length_cons, h00, List.length_nil]; omega) (by have := hge; have := hb2.size; (try simp at this); (try simp); omega) ?_; intro v3 wB bss3 hA3
              have hb3 := hA3.below (World.heap w4).size _ hb2 (by omega); have hz3 := hb3.size; have hge3 := hA3.size
              obtain ⟨A9, bD, hA9, hD, hDs⟩ := dropA (AtomSR.good.below' hb3 HDW.out hdl.out) (k := k) hk; rw [hAD] at hA9; subst hA9; have HD := hide hD; have HDs := hide hDs; clear hD hDs
              clear hHeld; refine hK.out _ _ (show _ from ⟨(hb3.cell (p := ⟨w.heap.size, 0, none⟩) hbox).trans x_0, (hb3.cell (p := ⟨w.heap.size, 1, none⟩) hbox).trans x_1, (hb3.cell (p := ⟨w.heap.size, 2, none⟩) hbox).trans x_2⟩) (fun hHeld => ?_)
              clear hK K
              (try simp only [Act.put, List.setIfInBounds_toArray, List.set_cons_zero, List.set_cons_succ])
              refine wpT_one (i := 11) rfl (by kernel_rfl) (fun K hK => ?_)
              refine step_append_sl AtomR.good rfl _ _ 43 rfl Try.underlying43 ji jz js jby rfl (by decide) (v := v3) (by rfl) hA3.gr HD.out (by rfl) AtomR.one (fun b hb hv => by have := (hA3.gr.blk b hv).1; have := hdl.out b (HDs.out b hb); omega) (by have h00 : ([] : List Atom).length = 0 := rfl; have := HLT.out; have := HLD.out; have := hdn.out; simp only [List.length_append, List.length_cons, h00, List.length_nil]; omega) (by have h00 : ([] : List Atom).length = 0 := rfl; have := HLT.out; have := HLD.out; have := hdn.out; simp only [List.length_append, List.length_cons, h00, List.length_nil]; omega) (by have := hge; (try simp at hge3); omega) ?_; intro v4 wC bss4 hA4; have hb4 := hA4.below (World.heap w4).size _ hb3 (by omega)
              clear hHeld; refine hK.out _ _ (show _ from ⟨(hb4.cell (p := ⟨w.heap.size, 0, none⟩) hbox).trans x_0, (hb4.cell (p := ⟨w.heap.size, 1, none⟩) hbox).trans x_1, (hb4.cell (p := ⟨w.heap.size, 2, none⟩) hbox).trans x_2⟩) (fun hHeld => ?_)
              clear hK K
              (try simp only [Act.put, List.setIfInBounds_toArray, List.set_cons_zero, List.set_cons_succ])
              refine wpT_done (by kernel_rfl) ?_
              simp only [List.drop_succ_cons, List.drop_zero]
              clear hHeld
              go_wp2_with fail
              go_ret
              obtain ⟨bs4, r4, f4, _⟩ := hA4.gr.done
              have hsm := hA4.gr.sm (hA4.some (hA3.some (hA.some (fun h => by cases h))))
              exact ⟨v4, bs4, rfl, by rw [hc2.out]; exact r4, by rw [hc2.out]; exact hsm, Or.inr ((f4 (by rw [hA4.gr.bss_nil AtomR.flat]; exact Fr.nil _ _)).mono (by omega)), nxt hw4 hb4⟩
          · have e1 := e0.alloc (Nat.le_refl _) (.cells #[.int .i64 a.kind, .int .i64 a.n, .string a.t] 90)
            have hLit0 := hide (row_of_one (size := 3) (R := AtomR) (cs := [.int .i64 a.kind, .int .i64 a.n, .string a.t]) (x := a) (blk_new (World.drew w4) #[.int .i64 a.kind, .int .i64 a.n, .string a.t] 90) ⟨rfl, rfl, haf.out⟩ rfl)
            go_simp
            clear hHeld; refine hK.out _ _ (show _ from ⟨(e1.cell (p := ⟨w.heap.size, 0, none⟩) hbox).trans x_0, (e1.cell (p := ⟨w.heap.size, 1, none⟩) hbox).trans x_1, (e1.cell (p := ⟨w.heap.size, 2, none⟩) hbox).trans x_2⟩) (fun hHeld => ?_)
            clear hK K
            (try simp only [Act.put, List.setIfInBounds_toArray, List.set_cons_zero, List.set_cons_succ])
            refine wpT_one (i := 0) rfl (by kernel_rfl) (fun K hK => ?_)
            have e2 := e1.alloc (by simp) (.cells #[] 90); have hLit1 := hide (AtomSR.good.nxt ((Below.refl _ _).alloc (Nat.le_refl _) (.cells #[] 90)) hLit0.out)
            have hGm := hide (madeA (size := 3) (R := AtomR) (e := 90) (w := (World.drew w4).alloc (.cells #[.int .i64 a.kind, .int .i64 a.n, .string a.t] 90)) (n := (World.heap w4).size + 1) (by simp))
            go_simp
            clear hHeld; refine hK.out _ _ (show _ from ⟨(e2.cell (p := ⟨w.heap.size, 0, none⟩) hbox).trans x_0, (e2.cell (p := ⟨w.heap.size, 1, none⟩) hbox).trans x_1, (e2.cell (p := ⟨w.heap.size, 2, none⟩) hbox).trans x_2⟩) (fun hHeld => ?_)
            clear hK K
            (try simp only [Act.put, List.setIfInBounds_toArray, List.set_cons_zero, List.set_cons_succ])
            refine wpT_one (i := 4) rfl (by kernel_rfl) (fun K hK => ?_)
            obtain ⟨bT, hT, hTs⟩ := (AtomSR.good.below' e2 HDW.out hdl.out).take (k := k) hk; have HT := hide hT; have HTs := hide hTs; clear hT hTs
            refine step_append_sl AtomR.good rfl _ _ 43 rfl Try.underlying43 ji jz js jby rfl (by decide) (v := .slice (some ⟨(World.heap w4).size + 1, 0, none⟩) 0 0) rfl hGm.out HT.out rfl AtomR.one (fun b hb hv => by have h1 := hdl.out b (HTs.out b hb); have h9 : (World.heap w4).size + 1 = b := (by injection hv); omega) (by have h00 : ([] : List Atom).length = 0 := rfl; have := HLT.out; have := HLD.out; have := hdn.out; simp only [List.length_append, List.length_cons, h00, List.length_nil]; omega) (by have h00 : ([] : List Atom).length = 0 := rfl; have := HLT.out; have := HLD.out; have := hdn.out; simp only [List.length_append, List.length_cons, h00, List.length_nil]; omega) (by simp) ?_; intro v2 wA bss2 hA
            have hb2 := hA.below (World.heap w4).size _ e2 (by omega); have hz2 := hb2.size
            have hge : (World.heap w4).size + 1 ≤ (World.heap wA).size := by have := hA.size; simp at this; omega
            clear hHeld; refine hK.out _ _ (show _ from ⟨(hb2.cell (p := ⟨w.heap.size, 0, none⟩) hbox).trans x_0, (hb2.cell (p := ⟨w.heap.size, 1, none⟩) hbox).trans x_1, (hb2.cell (p := ⟨w.heap.size, 2, none⟩) hbox).trans x_2⟩) (fun hHeld => ?_)
            clear hK K
            (try simp only [Act.put, List.setIfInBounds_toArray, List.set_cons_zero, List.set_cons_succ])
            obtain ⟨hLa, hLn⟩ := hA.keepSl AtomR.good hLit1.out (fun b hb hv => by have hb' : b = (World.heap w4).size := (by simpa using hb); have h9 : (World.heap w4).size + 1 = b := (by injection hv); omega)
            have hLit := hide hLa; clear hLa; have hGA := hide hA.gr
            refine wpT_one (i := 7) rfl (by kernel_rfl) (fun K hK => ?_)
            refine step_append_sl AtomR.good rfl _ _ 43 rfl Try.underlying43 ji jz js jby rfl (by decide) (v := v2) (by rfl) hGA.out hLit.out (by rfl) AtomR.one hLn (by have h00 : ([] : List Atom).length = 0 := rfl; have := HLT.out; have := HLD.out; have := hdn.out; simp only [List.length_append, List.length_cons, h00, List.length_nil]; omega) (by have h00 : ([] : List Atom).length = 0 := rfl; have := HLT.out; have := HLD.out; have := hdn.out; simp only [List.length_append, List.length_cons, h00, List.length_nil]; omega) (by have := hge; have := hb2.size; (try simp at this); (try simp); omega) ?_; intro v3 wB bss3 hA3
            have hb3 := hA3.below (World.heap w4).size _ hb2 (by omega); have hz3 := hb3.size; have hge3 := hA3.size
            obtain ⟨A9, bD, hA9, hD, hDs⟩ := dropA (AtomSR.good.below' hb3 HDW.out hdl.out) (k := k) hk; rw [hAD] at hA9; subst hA9; have HD := hide hD; have HDs := hide hDs; clear hD hDs
            clear hHeld; refine hK.out _ _ (show _ from ⟨(hb3.cell (p := ⟨w.heap.size, 0, none⟩) hbox).trans x_0, (hb3.cell (p := ⟨w.heap.size, 1, none⟩) hbox).trans x_1, (hb3.cell (p := ⟨w.heap.size, 2, none⟩) hbox).trans x_2⟩) (fun hHeld => ?_)
            clear hK K
            (try simp only [Act.put, List.setIfInBounds_toArray, List.set_cons_zero, List.set_cons_succ])
            refine wpT_one (i := 11) rfl (by kernel_rfl) (fun K hK => ?_)
            refine step_append_sl AtomR.good rfl _ _ 43 rfl Try.underlying43 ji jz js jby rfl (by decide) (v := v3) (by rfl) hA3.gr HD.out (by rfl) AtomR.one (fun b hb hv => by have := (hA3.gr.blk b hv).1; have := hdl.out b (HDs.out b hb); omega) (by have h00 : ([] : List Atom).length = 0 := rfl; have := HLT.out; have := HLD.out; have := hdn.out; simp only [List.length_append, List.length_cons, h00, List.length_nil]; omega) (by have h00 : ([] : List Atom).length = 0 := rfl; have := HLT.out; have := HLD.out; have := hdn.out; simp only [List.length_append, List.length_cons, h00, List.length_nil]; omega) (by have := hge; (try simp at hge3); omega) ?_; intro v4 wC bss4 hA4; have hb4 := hA4.below (World.heap w4).size _ hb3 (by omega)
            clear hHeld; refine hK.out _ _ (show _ from ⟨(hb4.cell (p := ⟨w.heap.size, 0, none⟩) hbox).trans x_0, (hb4.cell (p := ⟨w.heap.size, 1, none⟩) hbox).trans x_1, (hb4.cell (p := ⟨w.heap.size, 2, none⟩) hbox).trans x_2⟩) (fun hHeld => ?_)
            clear hK K
            (try simp only [Act.put, List.setIfInBounds_toArray, List.set_cons_zero, List.set_cons_succ])
            refine wpT_done (by kernel_rfl) ?_
            simp only [List.drop_succ_cons, List.drop_zero]
            clear hHeld
            go_wp2_with fail
            go_ret
            obtain ⟨bs4, r4, f4, _⟩ := hA4.gr.done
            have hsm := hA4.gr.sm (hA4.some (hA3.some (hA.some (fun h => by cases h))))
            exact ⟨v4, bs4, rfl, by rw [hc2.out]; exact r4, by rw [hc2.out]; exact hsm, Or.inr ((f4 (by rw [hA4.gr.bss_nil AtomR.flat]; exact Fr.nil _ _)).mono (by omega)), nxt hw4 hb4⟩
  · have hr : Hid (putA d a = d) := by show _ = _; unfold putA; rw [if_pos (of_decide_eq_true hm)]
    clear hm hel_d
    go_wp2_with fail
    go_ret
    exact ⟨_, bs_d, rfl, by rw [hr.out]; exact AtomSR.good.nxt hw1 H0_d, by rw [hr.out]; exact ⟨_, _, _, rfl⟩, Or.inl rfl, hw1⟩
end Go.Proofs.Ythglchopajdmhaa
