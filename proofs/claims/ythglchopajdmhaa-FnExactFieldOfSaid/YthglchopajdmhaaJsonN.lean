/- Nodes and depth of values. No statement is proved here; no conditions. Written by a program (gen36.py). -/
import Derived.Test.YthglchopajdmhaaJsonOK
import Derived.Test.YthglchopajdmhaaOrder
namespace Go.Proofs.Ythglchopajdmhaa
open Go.ChangeShapes Go.WideShapes Go.ChangeAt Go.RowKit Go.Deep
set_option maxRecDepth 100000
set_option linter.unusedVariables false
set_option linter.unusedSimpArgs false

def mxJ (f : Json → Nat) (xs : List Json) : Nat := xs.foldl (fun z x => max z (f x)) 0
def dep : Nat → Json → Nat
  | 0, _ => 0
  | d + 1, j => mxJ (dep d) j.items + (if 4 ≤ j.kind then 1 else 0)
theorem good_parts {d : Nat} {a : Json} (h : goodJ (d + 1) a = true) : partOK a = true ∧ ∀ k (hk : k < a.items.length), goodJ d a.items[k] = true := by
  have h1 : (partOK a && a.items.all (goodJ d)) = true := h
  rw [Bool.and_eq_true] at h1
  exact ⟨h1.1, fun k hk => List.all_eq_true.1 h1.2 _ (List.getElem_mem hk)⟩
theorem cnt_succ (d : Nat) (a : Json) : cnt (d + 1) a = 1 + psum (cnt d) a.items a.items.length := by rw [psum_all]; rfl
theorem cnt_item {d : Nat} {a : Json} {k : Nat} (hk : k < a.items.length) (h : cnt (d + 1) a ≤ 400) : cnt d a.items[k] ≤ 400 ∧ psum (cnt d) a.items (k + 1) ≤ 399 := by
  rw [cnt_succ] at h
  have h1 := psum_succ (cnt d) a.items k hk; have h2 := psum_le (cnt d) a.items (k + 1); rw [← psum_all] at h2
  constructor <;> omega
theorem part_kind {a : Json} (h : partOK a = true) : 0 ≤ a.kind ∧ a.kind ≤ 5 ∧ (a.kind < 4 → a.items.length = 0) := by
  unfold partOK at h
  by_cases e0 : a.kind = 0
  · rw [e0] at h ⊢; simp at h; refine ⟨by omega, by omega, fun _ => ?_⟩; simp [h.2.2.2]
  · by_cases e1 : a.kind = 1
    · rw [e1] at h ⊢; simp at h; refine ⟨by omega, by omega, fun _ => ?_⟩; simp [h.2.2.2]
    · by_cases e2 : a.kind = 2
      · rw [e2] at h ⊢; simp at h; refine ⟨by omega, by omega, fun _ => ?_⟩; simp [h.2.2.2]
      · by_cases e3 : a.kind = 3
        · rw [e3] at h ⊢; simp at h; refine ⟨by omega, by omega, fun _ => ?_⟩; simp [h.2.2.2]
        · by_cases e4 : a.kind = 4
          · omega
          · by_cases e5 : a.kind = 5
            · omega
            · simp [e0, e1, e2, e3, e4, e5] at h
theorem mxJ_le (f : Json → Nat) (m : Nat) : ∀ (xs : List Json), (∀ x ∈ xs, f x ≤ m) → mxJ f xs ≤ m := fun xs => by
  unfold mxJ
  have : ∀ (xs : List Json) (z : Nat), z ≤ m → (∀ x ∈ xs, f x ≤ m) → xs.foldl (fun z x => max z (f x)) z ≤ m := by
    intro xs
    induction xs with
    | nil => intro z hz _; exact hz
    | cons x xs ih => intro z hz h; exact ih _ (Nat.max_le.2 ⟨hz, h x (by simp)⟩) fun y hy => h y (by simp [hy])
  exact this xs 0 (Nat.zero_le _)
theorem dep_le : ∀ (d : Nat) (a : Json), dep d a ≤ d
  | 0, _ => Nat.le_refl _
  | d + 1, a => by have := mxJ_le (dep d) d a.items (fun x _ => dep_le d x); show mxJ (dep d) a.items + _ ≤ _; split <;> omega
theorem mxJ_take (f : Json → Nat) (xs : List Json) (k : Nat) (h : k < xs.length) : mxJ f (xs.take (k + 1)) = max (mxJ f (xs.take k)) (f xs[k]) := by
  unfold mxJ; rw [List.take_add_one, List.getElem?_eq_getElem h, List.foldl_append]; rfl
abbrev ND (d : Nat) : Prop := ∀ {w : World} {bs : List Nat} {cs : List Value} {a : Json} (H : JsonR w bs cs a) (hg : goodJ d a = true) (h4 : cnt d a ≤ 400),
    Calls Try.prog 51 #[.agg cs.toArray] w fun e w' => e = .returned (.int .i64 ((cnt d a : Nat) : Int)) ∧ Below w.heap.size w w'
abbrev DP (F : FuncId) (d : Nat) : Prop := ∀ {w : World} {bs : List Nat} {cs : List Value} {a : Json} (H : JsonR w bs cs a) (hg : goodJ d a = true) (hd : d ≤ 12),
    Calls Try.prog F #[.agg cs.toArray] w fun e w' => e = .returned (.int .i64 ((dep d a : Nat) : Int)) ∧ Below w.heap.size w w'
set_option maxHeartbeats 4000000 in
theorem nodes_step {w : World} {d : Nat} (IH : ND d) {bs_a : List Nat} {cs_a : List Value} {a : Json} (H_a : JsonR w bs_a cs_a a) (hg : goodJ (d + 1) a = true) (h4 : cnt (d + 1) a ≤ 400) :
    Calls Try.prog 51 #[.agg cs_a.toArray] w (fun e w' => e = .returned (.int .i64 (((cnt (d + 1) a : Nat) : Int))) ∧ Below w.heap.size w w') := by
  have H0_a := H_a
  obtain ⟨a_v3, a_b3, a_v4, a_b4, rfl, rfl, hf_a, a_r3, a_r4⟩ := H_a.open
  obtain ⟨A_a3, c_a3, rfl, hlc_a3, hcm_a3, hel_a3⟩ := a_r3.use
  obtain ⟨A_a4, c_a4, rfl, hlc_a4, hcm_a4, hel_a4⟩ := a_r4.use
  have hbx := ((Below.refl w.heap.size w).alloc (Nat.le_refl _) (.cells #[.int .i64 a.kind, .int .i64 a.n, .string a.t, .slice A_a3 a.keys.length c_a3, .slice A_a4 a.items.length c_a4] 30))
  have q_a := blk_cells (blk_new w #[.int .i64 a.kind, .int .i64 a.n, .string a.t, .slice A_a3 a.keys.length c_a3, .slice A_a4 a.items.length c_a4] 30)
  have hgp := hide (good_parts hg); have hci := hide (fun k (hk : k < a.items.length) => cnt_item hk h4); have hcs := hide (cnt_succ d a); clear hg h4 hf_a hel_a3
  go_enter Try.func51, Try.ntmps51
  go_wp2_with fail
  go_loopw [3, 9] (fun o i wr => ∃ k : Nat, k ≤ a.items.length ∧ i = .int .i64 k ∧ o = .int .i64 (1 + (psum (cnt d) a.items k : Nat)) ∧ Hid (True) ∧ Below (World.heap ((w.alloc (.cells #[.int .i64 a.kind, .int .i64 a.n, .string a.t, .slice A_a3 a.keys.length c_a3, .slice A_a4 a.items.length c_a4] 30)))).size ((w.alloc (.cells #[.int .i64 a.kind, .int .i64 a.n, .string a.t, .slice A_a3 a.keys.length c_a3, .slice A_a4 a.items.length c_a4] 30))) wr) (fun _ i _ => a.items.length - (intOf i).toNat)
  case atStart => exact ⟨0, Nat.zero_le _, rfl, by rw [psum_zero]; rfl, trivial, Below.refl _ _⟩
  case round =>
    obtain ⟨k1, hk1, rfl, rfl, hn1_, hb1001⟩ := hrel
    obtain ⟨wl1, rfl⟩ : ∃ w' : World, w' = wr := ⟨_, rfl⟩
    replace q_a := box_on q_a rfl hb1001
    have hwl1 := nxt hbx hb1001
    by_cases hlt1 : k1 < a.items.length
    · obtain ⟨gb, go, gbk, ges, rfl, ghbl, ghcl, ghcell, gR, ghbk⟩ := hel_a4 k1 hlt1
      have gR0 := gR
      obtain ⟨gv3, gb3, gv4, gb4, _, ghes, ghf, gr3, gr4⟩ := gR.open
      subst ghes
      obtain ⟨gA3, gc3, rfl, ghlc3, ghcm3, ghel3⟩ := gr3.use
      obtain ⟨gA4, gc4, rfl, ghlc4, ghcm4, ghel4⟩ := gr4.use
      have g_0 := (hwl1.cell (p := ⟨gb, _, none⟩) ghbl).trans (ghcell 0 _ rfl)
      have g_1 := (hwl1.cell (p := ⟨gb, _, none⟩) ghbl).trans (ghcell 1 _ rfl)
      have g_2 := (hwl1.cell (p := ⟨gb, _, none⟩) ghbl).trans (ghcell 2 _ rfl)
      have g_3 := (hwl1.cell (p := ⟨gb, _, none⟩) ghbl).trans (ghcell 3 _ rfl)
      have g_4 := (hwl1.cell (p := ⟨gb, _, none⟩) ghbl).trans (ghcell 4 _ rfl)
      simp only [Nat.add_zero] at g_0 g_1 g_2 g_3 g_4
      clear ghcell ghcl
      clear hel_a4
      go_wp2_with fail
      replace q_a := box_on q_a rfl ((Below.refl (World.heap (wl1)).size (wl1)).alloc (Nat.le_refl _) (.cells #[.int .i64 a.items[k1].kind, .int .i64 a.items[k1].n, .string a.items[k1].t, .slice gA3 a.items[k1].keys.length gc3, .slice gA4 a.items[k1].items.length gc4] 30))
      have q_v := blk_cells (blk_new (wl1) #[.int .i64 a.items[k1].kind, .int .i64 a.items[k1].n, .string a.items[k1].t, .slice gA3 a.items[k1].keys.length gc3, .slice gA4 a.items[k1].items.length gc4] 30)
      have hn1 := (hwl1).alloc (hwl1).size (.cells #[.int .i64 a.items[k1].kind, .int .i64 a.items[k1].n, .string a.items[k1].t, .slice gA3 a.items[k1].keys.length gc3, .slice gA4 a.items[k1].items.length gc4] 30)
      have hc1_0 := (hb1001).alloc (hb1001).size (.cells #[.int .i64 a.items[k1].kind, .int .i64 a.items[k1].n, .string a.items[k1].t, .slice gA3 a.items[k1].keys.length gc3, .slice gA4 a.items[k1].items.length gc4] 30)
      clear g_0 g_1 g_2 g_3 g_4
      have hit := hide (hci.out k1 hlt1); have hps := hide (psum_succ (cnt d) a.items k1 hlt1)
      have hb1 : psum (cnt d) a.items k1 + cnt d a.items[k1] ≤ 399 := by have := hit.out.2; have := hps.out; omega
      go_wp2_with fail
      refine (IH (JsonR.good.nxt hn1 gR0) (hgp.out.2 k1 hlt1) hit.out.1).mono ?_; rintro e w1 ⟨rfl, hb1⟩; replace q_a := box_on q_a rfl hb1; replace q_v := box_on q_v rfl hb1; have hw1 := nxt hn1 hb1; have hl0_1 := nxt hc1_0 hb1
      go_wp2_with fail
      go_roundw
      case rel => exact ⟨k1 + 1, hlt1, by go_num, by rw [hps.out]; go_num, trivial, hl0_1⟩
      case measure => simp [intOf]; omega
    · obtain rfl : k1 = a.items.length := by omega
      clear hel_a4
      go_wp2
      go_ret
      exact ⟨by rw [hcs.out]; go_num, hwl1⟩
theorem impl_nodes : ∀ d, ND d
  | 0 => fun _ hg _ => by cases hg
  | d + 1 => fun H hg h4 => nodes_step (@impl_nodes d) H hg h4
set_option maxHeartbeats 4000000 in
theorem depth_step {w : World} {d : Nat} (IH : DP 53 d) {bs_a : List Nat} {cs_a : List Value} {a : Json} (H_a : JsonR w bs_a cs_a a) (hg : goodJ (d + 1) a = true) (hd : d + 1 ≤ 12) :
    Calls Try.prog 53 #[.agg cs_a.toArray] w (fun e w' => e = .returned (.int .i64 (((dep (d + 1) a : Nat) : Int))) ∧ Below w.heap.size w w') := by
  have H0_a := H_a
  obtain ⟨a_v3, a_b3, a_v4, a_b4, rfl, rfl, hf_a, a_r3, a_r4⟩ := H_a.open
  obtain ⟨A_a3, c_a3, rfl, hlc_a3, hcm_a3, hel_a3⟩ := a_r3.use
  obtain ⟨A_a4, c_a4, rfl, hlc_a4, hcm_a4, hel_a4⟩ := a_r4.use
  have hbx := ((Below.refl w.heap.size w).alloc (Nat.le_refl _) (.cells #[.int .i64 a.kind, .int .i64 a.n, .string a.t, .slice A_a3 a.keys.length c_a3, .slice A_a4 a.items.length c_a4] 30))
  have q_a := blk_cells (blk_new w #[.int .i64 a.kind, .int .i64 a.n, .string a.t, .slice A_a3 a.keys.length c_a3, .slice A_a4 a.items.length c_a4] 30)
  have hgp := hide (good_parts hg); have hpk := part_kind hgp.out.1; clear hg hf_a hel_a3
  have hml := hide (fun k => mxJ_le (dep d) d (a.items.take k) fun x _ => dep_le d x)
  by_cases hk4 : a.kind < 4
  · have hr : Hid (dep (d + 1) a = 0) := by show mxJ (dep d) a.items + _ = 0; rw [List.eq_nil_of_length_eq_zero (hpk.2.2 hk4), if_neg (by omega)]; rfl
    have k4 : (a.kind != 4) = true := by simp; omega
    have k5 : (a.kind != 5) = true := by simp; omega
    clear hel_a4 hpk
    go_enter Try.func53, Try.ntmps53
    go_wp2_with fail
    go_ret
    exact ⟨by rw [hr.out]; rfl, hbx⟩
  have hcs : Hid (dep (d + 1) a = mxJ (dep d) a.items + 1) := by show mxJ (dep d) a.items + _ = _; rw [if_pos (by omega)]
  have hk45 : a.kind = 4 ∨ a.kind = 5 := by omega
  clear hpk
  rcases hk45 with hk | hk
  · have k4 : (a.kind != 4) = false := by rw [hk]; rfl
    clear hk hk4
    go_enter Try.func53, Try.ntmps53
    go_wp2_with fail
    go_loopw [3, 17] (fun o i wr => ∃ k : Nat, k ≤ a.items.length ∧ i = .int .i64 k ∧ o = .int .i64 ((mxJ (dep d) (a.items.take k) : Nat)) ∧ Hid (True) ∧ Below (World.heap ((w.alloc (.cells #[.int .i64 a.kind, .int .i64 a.n, .string a.t, .slice A_a3 a.keys.length c_a3, .slice A_a4 a.items.length c_a4] 30)))).size ((w.alloc (.cells #[.int .i64 a.kind, .int .i64 a.n, .string a.t, .slice A_a3 a.keys.length c_a3, .slice A_a4 a.items.length c_a4] 30))) wr) (fun _ i _ => a.items.length - (intOf i).toNat)
    case atStart => exact ⟨0, Nat.zero_le _, rfl, rfl, trivial, Below.refl _ _⟩
    case round =>
      obtain ⟨k1, hk1, rfl, rfl, hn1_, hb1001⟩ := hrel
      obtain ⟨wl1, rfl⟩ : ∃ w' : World, w' = wr := ⟨_, rfl⟩
      replace q_a := box_on q_a rfl hb1001
      have hwl1 := nxt hbx hb1001
      by_cases hlt1 : k1 < a.items.length
      · obtain ⟨gb, go, gbk, ges, rfl, ghbl, ghcl, ghcell, gR, ghbk⟩ := hel_a4 k1 hlt1
        have gR0 := gR
        obtain ⟨gv3, gb3, gv4, gb4, _, ghes, ghf, gr3, gr4⟩ := gR.open
        subst ghes
        obtain ⟨gA3, gc3, rfl, ghlc3, ghcm3, ghel3⟩ := gr3.use
        obtain ⟨gA4, gc4, rfl, ghlc4, ghcm4, ghel4⟩ := gr4.use
        have g_0 := (hwl1.cell (p := ⟨gb, _, none⟩) ghbl).trans (ghcell 0 _ rfl)
        have g_1 := (hwl1.cell (p := ⟨gb, _, none⟩) ghbl).trans (ghcell 1 _ rfl)
        have g_2 := (hwl1.cell (p := ⟨gb, _, none⟩) ghbl).trans (ghcell 2 _ rfl)
        have g_3 := (hwl1.cell (p := ⟨gb, _, none⟩) ghbl).trans (ghcell 3 _ rfl)
        have g_4 := (hwl1.cell (p := ⟨gb, _, none⟩) ghbl).trans (ghcell 4 _ rfl)
        simp only [Nat.add_zero] at g_0 g_1 g_2 g_3 g_4
        clear ghcell ghcl
        clear hel_a4
        have hmt := hide (mxJ_take (dep d) a.items k1 hlt1)
        have hmb : ((mxJ (dep d) (a.items.take k1) : Nat) : Int) ≤ 12 := (by have := hml.out k1; omega)
        have hmx : max ((mxJ (dep d) (a.items.take k1) : Nat) : Int) ((dep d a.items[k1] : Nat) : Int) = ((mxJ (dep d) (a.items.take (k1 + 1)) : Nat) : Int) := by rw [hmt.out]; omega
        have HMX := hide hmx; clear hmx
        go_wp2_with fail
        replace q_a := box_on q_a rfl ((Below.refl (World.heap (wl1)).size (wl1)).alloc (Nat.le_refl _) (.cells #[.int .i64 a.items[k1].kind, .int .i64 a.items[k1].n, .string a.items[k1].t, .slice gA3 a.items[k1].keys.length gc3, .slice gA4 a.items[k1].items.length gc4] 30))
        have q_v := blk_cells (blk_new (wl1) #[.int .i64 a.items[k1].kind, .int .i64 a.items[k1].n, .string a.items[k1].t, .slice gA3 a.items[k1].keys.length gc3, .slice gA4 a.items[k1].items.length gc4] 30)
        have hn1 := (hwl1).alloc (hwl1).size (.cells #[.int .i64 a.items[k1].kind, .int .i64 a.items[k1].n, .string a.items[k1].t, .slice gA3 a.items[k1].keys.length gc3, .slice gA4 a.items[k1].items.length gc4] 30)
        have hc1_0 := (hb1001).alloc (hb1001).size (.cells #[.int .i64 a.items[k1].kind, .int .i64 a.items[k1].n, .string a.items[k1].t, .slice gA3 a.items[k1].keys.length gc3, .slice gA4 a.items[k1].items.length gc4] 30)
        clear g_0 g_1 g_2 g_3 g_4
        go_wp2_with fail
        refine (IH (JsonR.good.nxt hn1 gR0) (hgp.out.2 k1 hlt1) (by omega)).mono ?_; rintro e w1 ⟨rfl, hb1⟩; replace q_a := box_on q_a rfl hb1; replace q_v := box_on q_v rfl hb1; have hw1 := nxt hn1 hb1; have hl0_1 := nxt hc1_0 hb1
        go_wp2_with fail
        go_roundw
        case rel => exact ⟨k1 + 1, hlt1, by go_num, by rw [← HMX.out]; try rfl, trivial, hl0_1⟩
        case measure => simp [intOf]; omega
      · obtain rfl : k1 = a.items.length := by omega
        have hb0 := hml.out a.items.length; rw [List.take_length] at hb0; simp only [List.take_length]
        clear hel_a4
        go_wp2
        go_ret
        exact ⟨by rw [hcs.out]; go_num, hwl1⟩
  · have k4 : (a.kind != 4) = true := by rw [hk]; rfl
    have k5 : (a.kind != 5) = false := by rw [hk]; rfl
    clear hk hk4
    go_enter Try.func53, Try.ntmps53
    go_wp2_with fail
    go_loopw [3, 17] (fun o i wr => ∃ k : Nat, k ≤ a.items.length ∧ i = .int .i64 k ∧ o = .int .i64 ((mxJ (dep d) (a.items.take k) : Nat)) ∧ Hid (True) ∧ Below (World.heap ((w.alloc (.cells #[.int .i64 a.kind, .int .i64 a.n, .string a.t, .slice A_a3 a.keys.length c_a3, .slice A_a4 a.items.length c_a4] 30)))).size ((w.alloc (.cells #[.int .i64 a.kind, .int .i64 a.n, .string a.t, .slice A_a3 a.keys.length c_a3, .slice A_a4 a.items.length c_a4] 30))) wr) (fun _ i _ => a.items.length - (intOf i).toNat)
    case atStart => exact ⟨0, Nat.zero_le _, rfl, rfl, trivial, Below.refl _ _⟩
    case round =>
      obtain ⟨k1, hk1, rfl, rfl, hn1_, hb1001⟩ := hrel
      obtain ⟨wl1, rfl⟩ : ∃ w' : World, w' = wr := ⟨_, rfl⟩
      replace q_a := box_on q_a rfl hb1001
      have hwl1 := nxt hbx hb1001
      by_cases hlt1 : k1 < a.items.length
      · obtain ⟨gb, go, gbk, ges, rfl, ghbl, ghcl, ghcell, gR, ghbk⟩ := hel_a4 k1 hlt1
        have gR0 := gR
        obtain ⟨gv3, gb3, gv4, gb4, _, ghes, ghf, gr3, gr4⟩ := gR.open
        subst ghes
        obtain ⟨gA3, gc3, rfl, ghlc3, ghcm3, ghel3⟩ := gr3.use
        obtain ⟨gA4, gc4, rfl, ghlc4, ghcm4, ghel4⟩ := gr4.use
        have g_0 := (hwl1.cell (p := ⟨gb, _, none⟩) ghbl).trans (ghcell 0 _ rfl)
        have g_1 := (hwl1.cell (p := ⟨gb, _, none⟩) ghbl).trans (ghcell 1 _ rfl)
        have g_2 := (hwl1.cell (p := ⟨gb, _, none⟩) ghbl).trans (ghcell 2 _ rfl)
        have g_3 := (hwl1.cell (p := ⟨gb, _, none⟩) ghbl).trans (ghcell 3 _ rfl)
        have g_4 := (hwl1.cell (p := ⟨gb, _, none⟩) ghbl).trans (ghcell 4 _ rfl)
        simp only [Nat.add_zero] at g_0 g_1 g_2 g_3 g_4
        clear ghcell ghcl
        clear hel_a4
        have hmt := hide (mxJ_take (dep d) a.items k1 hlt1)
        have hmb : ((mxJ (dep d) (a.items.take k1) : Nat) : Int) ≤ 12 := (by have := hml.out k1; omega)
        have hmx : max ((mxJ (dep d) (a.items.take k1) : Nat) : Int) ((dep d a.items[k1] : Nat) : Int) = ((mxJ (dep d) (a.items.take (k1 + 1)) : Nat) : Int) := by rw [hmt.out]; omega
        have HMX := hide hmx; clear hmx
        go_wp2_with fail
        replace q_a := box_on q_a rfl ((Below.refl (World.heap (wl1)).size (wl1)).alloc (Nat.le_refl _) (.cells #[.int .i64 a.items[k1].kind, .int .i64 a.items[k1].n, .string a.items[k1].t, .slice gA3 a.items[k1].keys.length gc3, .slice gA4 a.items[k1].items.length gc4] 30))
        have q_v := blk_cells (blk_new (wl1) #[.int .i64 a.items[k1].kind, .int .i64 a.items[k1].n, .string a.items[k1].t, .slice gA3 a.items[k1].keys.length gc3, .slice gA4 a.items[k1].items.length gc4] 30)
        have hn2 := (hwl1).alloc (hwl1).size (.cells #[.int .i64 a.items[k1].kind, .int .i64 a.items[k1].n, .string a.items[k1].t, .slice gA3 a.items[k1].keys.length gc3, .slice gA4 a.items[k1].items.length gc4] 30)
        have hc2_0 := (hb1001).alloc (hb1001).size (.cells #[.int .i64 a.items[k1].kind, .int .i64 a.items[k1].n, .string a.items[k1].t, .slice gA3 a.items[k1].keys.length gc3, .slice gA4 a.items[k1].items.length gc4] 30)
        clear g_0 g_1 g_2 g_3 g_4
        go_wp2_with fail
        refine (IH (JsonR.good.nxt hn2 gR0) (hgp.out.2 k1 hlt1) (by omega)).mono ?_; rintro e w2 ⟨rfl, hb2⟩; replace q_a := box_on q_a rfl hb2; replace q_v := box_on q_v rfl hb2; have hw2 := nxt hn2 hb2; have hl0_2 := nxt hc2_0 hb2
        go_wp2_with fail
        go_roundw
        case rel => exact ⟨k1 + 1, hlt1, by go_num, by rw [← HMX.out]; try rfl, trivial, hl0_2⟩
        case measure => simp [intOf]; omega
      · obtain rfl : k1 = a.items.length := by omega
        have hb0 := hml.out a.items.length; rw [List.take_length] at hb0; simp only [List.take_length]
        clear hel_a4
        go_wp2
        go_ret
        exact ⟨by rw [hcs.out]; go_num, hwl1⟩
theorem impl_depth : ∀ d, DP 53 d
  | 0 => fun _ hg _ => by cases hg
  | d + 1 => fun H hg hd => depth_step (@impl_depth d) H hg hd
set_option maxHeartbeats 4000000 in
theorem l01Depth_step {w : World} {d : Nat} (IH : DP 52 d) {bs_a : List Nat} {cs_a : List Value} {a : Json} (H_a : JsonR w bs_a cs_a a) (hg : goodJ (d + 1) a = true) (hd : d + 1 ≤ 12) :
    Calls Try.prog 52 #[.agg cs_a.toArray] w (fun e w' => e = .returned (.int .i64 (((dep (d + 1) a : Nat) : Int))) ∧ Below w.heap.size w w') := by
  have H0_a := H_a
  obtain ⟨a_v3, a_b3, a_v4, a_b4, rfl, rfl, hf_a, a_r3, a_r4⟩ := H_a.open
  obtain ⟨A_a3, c_a3, rfl, hlc_a3, hcm_a3, hel_a3⟩ := a_r3.use
  obtain ⟨A_a4, c_a4, rfl, hlc_a4, hcm_a4, hel_a4⟩ := a_r4.use
  have hbx := ((Below.refl w.heap.size w).alloc (Nat.le_refl _) (.cells #[.int .i64 a.kind, .int .i64 a.n, .string a.t, .slice A_a3 a.keys.length c_a3, .slice A_a4 a.items.length c_a4] 30))
  have q_a := blk_cells (blk_new w #[.int .i64 a.kind, .int .i64 a.n, .string a.t, .slice A_a3 a.keys.length c_a3, .slice A_a4 a.items.length c_a4] 30)
  have hgp := hide (good_parts hg); have hpk := part_kind hgp.out.1; clear hg hf_a hel_a3
  have hml := hide (fun k => mxJ_le (dep d) d (a.items.take k) fun x _ => dep_le d x)
  have hcs : Hid (((dep (d + 1) a : Nat) : Int) = (mxJ (dep d) a.items : Nat) + bit (decide ((4 : Int) ≤ a.kind))) := by show _ = _; show ((mxJ (dep d) a.items + _ : Nat) : Int) = _; unfold bit; by_cases h : 4 ≤ a.kind <;> simp [h]
  go_enter Try.func52, Try.ntmps52
  go_wp2_with fail
  go_loopw [3, 4] (fun o i wr => ∃ k : Nat, k ≤ a.items.length ∧ i = .int .i64 k ∧ o = .int .i64 ((mxJ (dep d) (a.items.take k) : Nat)) ∧ Hid (True) ∧ Below (World.heap ((w.alloc (.cells #[.int .i64 a.kind, .int .i64 a.n, .string a.t, .slice A_a3 a.keys.length c_a3, .slice A_a4 a.items.length c_a4] 30)))).size ((w.alloc (.cells #[.int .i64 a.kind, .int .i64 a.n, .string a.t, .slice A_a3 a.keys.length c_a3, .slice A_a4 a.items.length c_a4] 30))) wr) (fun _ i _ => a.items.length - (intOf i).toNat)
  case atStart => exact ⟨0, Nat.zero_le _, rfl, rfl, trivial, Below.refl _ _⟩
  case round =>
    obtain ⟨k1, hk1, rfl, rfl, hn1_, hb1001⟩ := hrel
    obtain ⟨wl1, rfl⟩ : ∃ w' : World, w' = wr := ⟨_, rfl⟩
    replace q_a := box_on q_a rfl hb1001
    have hwl1 := nxt hbx hb1001
    by_cases hlt1 : k1 < a.items.length
    · obtain ⟨gb, go, gbk, ges, rfl, ghbl, ghcl, ghcell, gR, ghbk⟩ := hel_a4 k1 hlt1
      have gR0 := gR
      obtain ⟨gv3, gb3, gv4, gb4, _, ghes, ghf, gr3, gr4⟩ := gR.open
      subst ghes
      obtain ⟨gA3, gc3, rfl, ghlc3, ghcm3, ghel3⟩ := gr3.use
      obtain ⟨gA4, gc4, rfl, ghlc4, ghcm4, ghel4⟩ := gr4.use
      have g_0 := (hwl1.cell (p := ⟨gb, _, none⟩) ghbl).trans (ghcell 0 _ rfl)
      have g_1 := (hwl1.cell (p := ⟨gb, _, none⟩) ghbl).trans (ghcell 1 _ rfl)
      have g_2 := (hwl1.cell (p := ⟨gb, _, none⟩) ghbl).trans (ghcell 2 _ rfl)
      have g_3 := (hwl1.cell (p := ⟨gb, _, none⟩) ghbl).trans (ghcell 3 _ rfl)
      have g_4 := (hwl1.cell (p := ⟨gb, _, none⟩) ghbl).trans (ghcell 4 _ rfl)
      simp only [Nat.add_zero] at g_0 g_1 g_2 g_3 g_4
      clear ghcell ghcl
      clear hel_a4
      have hmt := hide (mxJ_take (dep d) a.items k1 hlt1)
      have hmb : ((mxJ (dep d) (a.items.take k1) : Nat) : Int) ≤ 12 := (by have := hml.out k1; omega)
      have hmx : max ((mxJ (dep d) (a.items.take k1) : Nat) : Int) ((dep d a.items[k1] : Nat) : Int) = ((mxJ (dep d) (a.items.take (k1 + 1)) : Nat) : Int) := by rw [hmt.out]; omega
      have HMX := hide hmx; clear hmx
      go_wp2_with fail
      refine (IH (JsonR.good.nxt hwl1 gR0) (hgp.out.2 k1 hlt1) (by omega)).mono ?_; rintro e w1 ⟨rfl, hb1⟩; replace q_a := box_on q_a rfl hb1; have hw1 := nxt hwl1 hb1; have hl0_1 := nxt hb1001 hb1
      go_wp2_with fail
      go_roundw
      case rel => exact ⟨k1 + 1, hlt1, by go_num, by rw [← HMX.out]; try rfl, trivial, hl0_1⟩
      case measure => simp [intOf]; omega
    · obtain rfl : k1 = a.items.length := by omega
      have hb0 := hml.out a.items.length; rw [List.take_length] at hb0; simp only [List.take_length]
      clear hel_a4
      obtain ⟨bd0, bd1⟩ := bit_bd (decide ((4 : Int) ≤ a.kind))
      go_wp2_with (go_at_call 93; refine (spec_l01Bit _ _).mono ?_; rintro e w9 ⟨rfl, rfl⟩)
      go_ret
      exact ⟨by rw [hcs.out]; rfl, hwl1⟩
theorem spec_l01Depth : ∀ d, DP 52 d
  | 0 => fun _ hg _ => by cases hg
  | d + 1 => fun H hg hd => l01Depth_step (@spec_l01Depth d) H hg hd
end Go.Proofs.Ythglchopajdmhaa
