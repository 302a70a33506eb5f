/- SameJson of both. No statement is proved here; no conditions. Written by a program (gen57.py). -/
import Derived.Test.YthglchopajdmhaaPrint
import Derived.Test.YthglchopajdmhaaJsonT
import Derived.Test.YthglchopajdmhaaSame
namespace Go.Proofs.Ythglchopajdmhaa
open Go.ChangeShapes Go.WideShapes Go.ChangeAt Go.RowKit Go.Deep
set_option maxRecDepth 100000
set_option linter.unusedVariables false
set_option linter.unusedSimpArgs false

open Classical in
noncomputable instance : DecidableEq Json := fun a b => Classical.propDecidable (a = b)
theorem Json.ext_iff {x y : Json} : x = y ↔ x.kind = y.kind ∧ x.n = y.n ∧ x.t = y.t ∧ x.keys = y.keys ∧ x.items = y.items := by
  obtain ⟨a, b, c, d, e⟩ := x; obtain ⟨a', b', c', d', e'⟩ := y
  simp [Json.kind, Json.n, Json.t, Json.keys, Json.items]
theorem decJ {x y : Json} {p : Bool} (h1 : x.kind = y.kind) (h2 : x.n = y.n) (h3 : x.t = y.t) (h : p = (decide (x.keys = y.keys) && decide (x.items = y.items))) : p = decide (x = y) := by
  rw [h, ← Bool.decide_and]; refine decide_eq_decide.2 ?_; rw [Json.ext_iff]; exact ⟨fun h => ⟨h1, h2, h3, h⟩, fun h => h.2.2.2⟩
theorem decN {x y : Json} (h : ¬ (x.kind = y.kind ∧ x.n = y.n ∧ x.t = y.t)) : decide (x = y) = false := by
  rw [decide_eq_false_iff_not, Json.ext_iff]; exact fun h1 => h ⟨h1.1, h1.2.1, h1.2.2.1⟩
set_option maxHeartbeats 2000000 in
theorem slices_EqualS {w : World}  {bs_x : List Nat} {v_x : Value} {x : List ByteArray} (H_x : StringSR w bs_x [v_x] x) {bs_y : List Nat} {v_y : Value} {y : List ByteArray} (H_y : StringSR w bs_y [v_y] y)  :
    Calls Try.prog 96 #[v_x, v_y] w (fun e w' => e = .returned (.bool (decide (x = y))) ∧ Below w.heap.size w w') := by
  have H0_x := H_x
  obtain ⟨A_x, c_x, rfl, hlc_x, hcm_x, hel_x⟩ := H_x.use
  have H0_y := H_y
  obtain ⟨A_y, c_y, rfl, hlc_y, hcm_y, hel_y⟩ := H_y.use
  by_cases hl : ¬ x.length = y.length
  · have hne : ((x.length : Int) != (y.length : Int)) = true := by simp; omega
    clear hel_x hel_y
    go_enter Try.func96, Try.ntmps96
    go_wp2
    go_ret
    exact ⟨ret_bool (by rw [same_len hl]), (Below.refl w.heap.size w)⟩
  have hl := Decidable.not_not.1 hl
  have hne : ((x.length : Int) != (y.length : Int)) = false := by simp; omega
  have HL := hide hl; clear hl
  go_enter Try.func96, Try.ntmps96
  go_wp2_with fail
  clear hne
  go_loopw [13] (fun i wr => ∃ k : Nat, k ≤ x.length ∧ i = .int .i64 k ∧ Hid (∀ j (hj : j < x.length) (hj2 : j < y.length), j < k → x[j] = y[j]) ∧ Below (World.heap (w)).size (w) wr) (fun i _ => x.length - (intOf i).toNat)
  case atStart => exact ⟨0, Nat.zero_le _, rfl, same_zero, Below.refl _ _⟩
  case round =>
    obtain ⟨k1, hk1, rfl, hn1_, hb1001⟩ := hrel
    obtain ⟨wl1, rfl⟩ : ∃ w' : World, w' = wr := ⟨_, rfl⟩
    have hwl1 := nxt (Below.refl w.heap.size w) hb1001
    by_cases hlt1 : k1 < x.length
    · have hk2 : k1 < y.length := by have := HL.out; omega
      obtain ⟨pb, po, pbk, pes, rfl, phbl, phcl, phcell, pR, phbk⟩ := hel_x k1 hlt1
      obtain ⟨_, phes, psz⟩ := pR; subst phes
      have p_0 := Fw.cell ((hwl1.cell (p := ⟨pb, _, none⟩) phbl).trans (phcell 0 _ rfl))
      simp only [Nat.add_zero, Nat.mul_one] at p_0
      clear phcell phcl
      obtain ⟨qb, qo, qbk, qes, rfl, qhbl, qhcl, qhcell, qR, qhbk⟩ := hel_y k1 hk2
      obtain ⟨_, qhes, qsz⟩ := qR; subst qhes
      have q_0 := Fw.cell ((hwl1.cell (p := ⟨qb, _, none⟩) qhbl).trans (qhcell 0 _ rfl))
      simp only [Nat.add_zero, Nat.mul_one] at q_0
      clear qhcell qhcl
      clear hel_x hel_y
      go_wp2_with fail
      refine region_quiet (by kernel_rfl) (by kernel_rfl) ?_
      repeat (go_big_quiet_step (fail))
      refine wpQuiet_nil ?_; intro w1 hb1; have hw1 := nxt hwl1 hb1; have hl0_1 := nxt hb1001 hb1; clear p_0 q_0
      cases hd : (x[k1].toList == y[k1].toList)
      · have hd2 : (x[k1].toList != y[k1].toList) = true := by simpa [bne] using hd
        have hd3 : decide (x[k1] = y[k1]) = false := decide_eq_false (fun h => by rw [h] at hd; simp at hd)
        have HD := hide hd3; clear hd3 hd
        go_wp2_with fail
        go_ret
        exact ⟨ret_bool (by rw [same_not hlt1 hk2 HD.out]), hw1⟩
      have hd2 : (x[k1].toList != y[k1].toList) = false := by simpa [bne] using hd
      have hn2 := hide (same_step hn1_.out hlt1 hk2 (toL_inj (by simpa using hd))); clear hd
      go_wp2_with fail
      go_roundw
      case rel => exact ⟨k1 + 1, hlt1, by go_num, hn2, hl0_1⟩
      case measure => simp [intOf]; omega
    · obtain rfl : k1 = x.length := by omega
      have hr := hide (same_all HL.out hn1_.out)
      go_wp2
      go_ret
      exact ⟨ret_bool (by rw [hr.out]), hwl1⟩
set_option maxHeartbeats 2000000 in
theorem slices_EqualFuncJsonS {w : World} {d : Nat}  {bs_x : List Nat} {v_x : Value} {x : List Json} (H_x : JsonSR w bs_x [v_x] x) {bs_y : List Nat} {v_y : Value} {y : List Json} (H_y : JsonSR w bs_y [v_y] y) (hP : ∀ k (hk : k < x.length), goodJ d x[k] = true) (g : Nat) (eg : ∀ args w, (callFunc g args).run Try.prog w = .ok (.enter g args) w) (hp : ∀ (W : World) (a b : Json) (b1 b2 : List Nat) (cx cy : List Value), Below w.heap.size w W → goodJ d a = true → JsonR W b1 cx a → JsonR W b2 cy b → Calls Try.prog g #[.agg cx.toArray, .agg cy.toArray] W fun e w' => e = .returned (.bool (decide (a = b))) ∧ Below W.heap.size W w') :
    Calls Try.prog 97 #[v_x, v_y, .func (.func g) #[] #[]] w (fun e w' => e = .returned (.bool (decide (x = y))) ∧ Below w.heap.size w w') := by
  have H0_x := H_x
  obtain ⟨A_x, c_x, rfl, hlc_x, hcm_x, hel_x⟩ := H_x.use
  have H0_y := H_y
  obtain ⟨A_y, c_y, rfl, hlc_y, hcm_y, hel_y⟩ := H_y.use
  by_cases hl : ¬ x.length = y.length
  · have hne : ((x.length : Int) != (y.length : Int)) = true := by simp; omega
    clear hel_x hel_y
    go_enter Try.func97, Try.ntmps97
    go_wp2
    go_ret
    exact ⟨ret_bool (by rw [same_len hl]), (Below.refl w.heap.size w)⟩
  have hl := Decidable.not_not.1 hl
  have hne : ((x.length : Int) != (y.length : Int)) = false := by simp; omega
  have HL := hide hl; clear hl
  go_enter Try.func97, Try.ntmps97
  go_wp2_with fail
  clear hne
  go_loopw [17] (fun i wr => ∃ k : Nat, k ≤ x.length ∧ i = .int .i64 k ∧ Hid (∀ j (hj : j < x.length) (hj2 : j < y.length), j < k → x[j] = y[j]) ∧ Below (World.heap (w)).size (w) wr) (fun i _ => x.length - (intOf i).toNat)
  case atStart => exact ⟨0, Nat.zero_le _, rfl, same_zero, Below.refl _ _⟩
  case round =>
    obtain ⟨k1, hk1, rfl, hn1_, hb1001⟩ := hrel
    obtain ⟨wl1, rfl⟩ : ∃ w' : World, w' = wr := ⟨_, rfl⟩
    have hwl1 := nxt (Below.refl w.heap.size w) hb1001
    by_cases hlt1 : k1 < x.length
    · have hk2 : k1 < y.length := by have := HL.out; omega
      obtain ⟨pb, po, pbk, pes, rfl, phbl, phcl, phcell, pR, phbk⟩ := hel_x k1 hlt1
      have pR0 := pR
      obtain ⟨pv3, pb3, pv4, pb4, _, phes, phf, pr3, pr4⟩ := pR.open
      subst phes
      obtain ⟨pA3, pc3, rfl, phlc3, phcm3, phel3⟩ := pr3.use
      obtain ⟨pA4, pc4, rfl, phlc4, phcm4, phel4⟩ := pr4.use
      have p_0 := (hwl1.cell (p := ⟨pb, _, none⟩) phbl).trans (phcell 0 _ rfl)
      have p_1 := (hwl1.cell (p := ⟨pb, _, none⟩) phbl).trans (phcell 1 _ rfl)
      have p_2 := (hwl1.cell (p := ⟨pb, _, none⟩) phbl).trans (phcell 2 _ rfl)
      have p_3 := (hwl1.cell (p := ⟨pb, _, none⟩) phbl).trans (phcell 3 _ rfl)
      have p_4 := (hwl1.cell (p := ⟨pb, _, none⟩) phbl).trans (phcell 4 _ rfl)
      simp only [Nat.add_zero] at p_0 p_1 p_2 p_3 p_4
      clear phcell phcl
      have q_v1 := blk_cells (blk_new (wl1) #[.int .i64 x[k1].kind, .int .i64 x[k1].n, .string x[k1].t, .slice pA3 x[k1].keys.length pc3, .slice pA4 x[k1].items.length pc4] 30)
      have hn1 := (hwl1).alloc (hwl1).size (.cells #[.int .i64 x[k1].kind, .int .i64 x[k1].n, .string x[k1].t, .slice pA3 x[k1].keys.length pc3, .slice pA4 x[k1].items.length pc4] 30)
      have hc1_0 := (hb1001).alloc (hb1001).size (.cells #[.int .i64 x[k1].kind, .int .i64 x[k1].n, .string x[k1].t, .slice pA3 x[k1].keys.length pc3, .slice pA4 x[k1].items.length pc4] 30)
      obtain ⟨qb, qo, qbk, qes, rfl, qhbl, qhcl, qhcell, qR, qhbk⟩ := hel_y k1 hk2
      have qR0 := qR
      obtain ⟨qv3, qb3, qv4, qb4, _, qhes, qhf, qr3, qr4⟩ := qR.open
      subst qhes
      obtain ⟨qA3, qc3, rfl, qhlc3, qhcm3, qhel3⟩ := qr3.use
      obtain ⟨qA4, qc4, rfl, qhlc4, qhcm4, qhel4⟩ := qr4.use
      have q_0 := (hn1.cell (p := ⟨qb, _, none⟩) qhbl).trans (qhcell 0 _ rfl)
      have q_1 := (hn1.cell (p := ⟨qb, _, none⟩) qhbl).trans (qhcell 1 _ rfl)
      have q_2 := (hn1.cell (p := ⟨qb, _, none⟩) qhbl).trans (qhcell 2 _ rfl)
      have q_3 := (hn1.cell (p := ⟨qb, _, none⟩) qhbl).trans (qhcell 3 _ rfl)
      have q_4 := (hn1.cell (p := ⟨qb, _, none⟩) qhbl).trans (qhcell 4 _ rfl)
      simp only [Nat.add_zero] at q_0 q_1 q_2 q_3 q_4
      clear qhcell qhcl
      replace q_v1 := box_on q_v1 rfl ((Below.refl (World.heap (((wl1).alloc (.cells #[.int .i64 x[k1].kind, .int .i64 x[k1].n, .string x[k1].t, .slice pA3 x[k1].keys.length pc3, .slice pA4 x[k1].items.length pc4] 30)))).size (((wl1).alloc (.cells #[.int .i64 x[k1].kind, .int .i64 x[k1].n, .string x[k1].t, .slice pA3 x[k1].keys.length pc3, .slice pA4 x[k1].items.length pc4] 30)))).alloc (Nat.le_refl _) (.cells #[.int .i64 y[k1].kind, .int .i64 y[k1].n, .string y[k1].t, .slice qA3 y[k1].keys.length qc3, .slice qA4 y[k1].items.length qc4] 30))
      have q_v2 := blk_cells (blk_new (((wl1).alloc (.cells #[.int .i64 x[k1].kind, .int .i64 x[k1].n, .string x[k1].t, .slice pA3 x[k1].keys.length pc3, .slice pA4 x[k1].items.length pc4] 30))) #[.int .i64 y[k1].kind, .int .i64 y[k1].n, .string y[k1].t, .slice qA3 y[k1].keys.length qc3, .slice qA4 y[k1].items.length qc4] 30)
      have hn2 := (hn1).alloc (hn1).size (.cells #[.int .i64 y[k1].kind, .int .i64 y[k1].n, .string y[k1].t, .slice qA3 y[k1].keys.length qc3, .slice qA4 y[k1].items.length qc4] 30)
      have hc2_0 := (hc1_0).alloc (hc1_0).size (.cells #[.int .i64 y[k1].kind, .int .i64 y[k1].n, .string y[k1].t, .slice qA3 y[k1].keys.length qc3, .slice qA4 y[k1].items.length qc4] 30)
      have hcall := hp _ x[k1] y[k1] _ _ _ _ hn2 (hP k1 hlt1) (JsonR.good.nxt hn2 pR0) (JsonR.good.nxt hn2 qR0)
      clear hel_x hel_y hp
      go_wp2_with fail
      go_at_fn g
      refine hcall.mono ?_; rintro e w9 ⟨rfl, hb9⟩
      have hw9 := nxt hn2 hb9
      have hl9 := nxt hc2_0 hb9
      cases hd : decide (x[k1] = y[k1])
      · go_wp2_with fail
        go_ret
        exact ⟨ret_bool (by rw [same_not hlt1 hk2 hd]), hw9⟩
      have hn2 := hide (same_step hn1_.out hlt1 hk2 (of_decide_eq_true hd)); clear hd
      go_wp2_with fail
      go_roundw
      case rel => exact ⟨k1 + 1, hlt1, by go_num, hn2, hl9⟩
      case measure => simp [intOf]; omega
    · obtain rfl : k1 = x.length := by omega
      have hr := hide (same_all HL.out hn1_.out)
      clear hp
      go_wp2
      go_ret
      exact ⟨ret_bool (by rw [hr.out]), hwl1⟩
abbrev SJ (d : Nat) : Prop := ∀ {w : World} {b1 b2 : List Nat} {c1 c2 : List Value} {x y : Json} (H1 : JsonR w b1 c1 x) (H2 : JsonR w b2 c2 y) (hg : goodJ d x = true),
    Calls Try.prog 55 #[.agg c1.toArray, .agg c2.toArray] w fun e w' => e = .returned (.bool (decide (x = y))) ∧ Below w.heap.size w w'
set_option maxHeartbeats 4000000 in
theorem same_step_ {w : World} {d : Nat} (IH : SJ d) {bs_x : List Nat} {cs_x : List Value} {x : Json} (H_x : JsonR w bs_x cs_x x) {bs_y : List Nat} {cs_y : List Value} {y : Json} (H_y : JsonR w bs_y cs_y y) (hg : goodJ (d + 1) x = true) :
    Calls Try.prog 55 #[.agg cs_x.toArray, .agg cs_y.toArray] w (fun e w' => e = .returned (.bool (decide (x = y))) ∧ Below w.heap.size w w') := by
  have H0_x := H_x
  obtain ⟨x_v3, x_b3, x_v4, x_b4, rfl, rfl, hf_x, x_r3, x_r4⟩ := H_x.open
  obtain ⟨A_x3, c_x3, rfl, hlc_x3, hcm_x3, hel_x3⟩ := x_r3.use
  obtain ⟨A_x4, c_x4, rfl, hlc_x4, hcm_x4, hel_x4⟩ := x_r4.use
  have H0_y := H_y
  obtain ⟨y_v3, y_b3, y_v4, y_b4, rfl, rfl, hf_y, y_r3, y_r4⟩ := H_y.open
  obtain ⟨A_y3, c_y3, rfl, hlc_y3, hcm_y3, hel_y3⟩ := y_r3.use
  obtain ⟨A_y4, c_y4, rfl, hlc_y4, hcm_y4, hel_y4⟩ := y_r4.use
  have hbx := (((Below.refl w.heap.size w).alloc (Nat.le_refl _) (.cells #[.int .i64 x.kind, .int .i64 x.n, .string x.t, .slice A_x3 x.keys.length c_x3, .slice A_x4 x.items.length c_x4] 30)).alloc (by simp; try omega) (.cells #[.int .i64 y.kind, .int .i64 y.n, .string y.t, .slice A_y3 y.keys.length c_y3, .slice A_y4 y.items.length c_y4] 30))
  obtain ⟨q_x, q_y⟩ := two_at (Below.refl ((w.alloc (.cells #[.int .i64 x.kind, .int .i64 x.n, .string x.t, .slice A_x3 x.keys.length c_x3, .slice A_x4 x.items.length c_x4] 30)).alloc (.cells #[.int .i64 y.kind, .int .i64 y.n, .string y.t, .slice A_y3 y.keys.length c_y3, .slice A_y4 y.items.length c_y4] 30)).heap.size _)
  have hgp := hide (good_parts hg).2; clear hg hf_x hf_y hel_x3 hel_x4 hel_y3 hel_y4
  cases k1 : (x.kind == y.kind)
  · have HR : Hid (decide (x = y) = false) := decN (by intro ⟨h, _, _⟩; rw [h] at k1; simp at k1)
    go_enter Try.func55, Try.ntmps55
    go_wp2_with fail
    go_ret
    exact ⟨ret_bool (by rw [HR.out]), hbx⟩
  have e1 : Hid (x.kind = y.kind) := by show _ = _; simpa using k1
  cases k2 : (x.n == y.n)
  · have HR : Hid (decide (x = y) = false) := decN (by intro ⟨_, h, _⟩; rw [h] at k2; simp at k2)
    go_enter Try.func55, Try.ntmps55
    go_wp2_with fail
    go_ret
    exact ⟨ret_bool (by rw [HR.out]), hbx⟩
  have e2 : Hid (x.n = y.n) := by show _ = _; simpa using k2
  cases k3 : (x.t.toList == y.t.toList)
  · have HR : Hid (decide (x = y) = false) := decN (by intro ⟨_, _, h⟩; rw [h] at k3; simp at k3)
    go_enter Try.func55, Try.ntmps55
    go_wp2_with fail
    go_ret
    exact ⟨ret_bool (by rw [HR.out]), hbx⟩
  have e3 : Hid (x.t = y.t) := by show _ = _; exact toL_inj (by simpa using k3)
  have HC := hide (decJ (p := (decide (x.keys = y.keys) && decide (x.items = y.items))) e1.out e2.out e3.out rfl); clear e1 e2 e3
  go_enter Try.func55, Try.ntmps55
  go_wp2_with fail
  refine (slices_EqualS (StringSR.good.nxt hbx x_r3) (StringSR.good.nxt hbx y_r3)).mono ?_; rintro e w1 ⟨rfl, hb1⟩; replace q_x := box_on q_x rfl hb1; replace q_y := box_on q_y rfl hb1; have hw1 := nxt hbx hb1
  cases k4 : decide (x.keys = y.keys)
  · have HR : Hid (decide (x = y) = false) := by show _ = _; rw [← HC.out, k4]; rfl
    go_wp2_with fail
    go_ret
    exact ⟨ret_bool (by rw [HR.out]), hw1⟩
  have HR : Hid (decide (x = y) = decide (x.items = y.items)) := by show _ = _; rw [← HC.out, k4]; rfl
  go_wp2_with fail
  refine (slices_EqualFuncJsonS (JsonSR.good.nxt hw1 x_r4) (JsonSR.good.nxt hw1 y_r4) hgp.out 55 (enters_of Try.func55 (by kernel_rfl) rfl) (fun W a b b1 b2 cx cy hW hg h1 h2 => IH h1 h2 hg)).mono ?_; rintro e w2 ⟨rfl, hb2⟩; replace q_x := box_on q_x rfl hb2; replace q_y := box_on q_y rfl hb2; have hw2 := nxt hw1 hb2
  go_wp2_with fail
  go_ret
  exact ⟨ret_bool (by rw [HR.out]), hw2⟩
theorem impl_same : ∀ d, SJ d
  | 0 => fun _ _ hg => by cases hg
  | d + 1 => fun H1 H2 hg => same_step_ (@impl_same d) H1 H2 hg
noncomputable def sameJ (a b : Json) : Bool := okJ a && (okJ b && decide (a = b))
set_option maxHeartbeats 2000000 in
theorem impl_SameJson {w : World}  {bs_a : List Nat} {cs_a : List Value} {a : Json} (H_a : JsonR w bs_a cs_a a) {bs_b : List Nat} {cs_b : List Value} {b : Json} (H_b : JsonR w bs_b cs_b b)  :
    Calls Try.prog 21 #[.agg cs_a.toArray, .agg cs_b.toArray] w (fun e w' => e = .returned (.bool (sameJ a b)) ∧ Below w.heap.size w w') := by
  have H0_a := H_a
  obtain ⟨a_v3, a_b3, a_v4, a_b4, rfl, rfl, hf_a, a_r3, a_r4⟩ := H_a.open
  obtain ⟨A_a3, c_a3, rfl, hlc_a3, hcm_a3, hel_a3⟩ := a_r3.use
  obtain ⟨A_a4, c_a4, rfl, hlc_a4, hcm_a4, hel_a4⟩ := a_r4.use
  have H0_b := H_b
  obtain ⟨b_v3, b_b3, b_v4, b_b4, rfl, rfl, hf_b, b_r3, b_r4⟩ := H_b.open
  obtain ⟨A_b3, c_b3, rfl, hlc_b3, hcm_b3, hel_b3⟩ := b_r3.use
  obtain ⟨A_b4, c_b4, rfl, hlc_b4, hcm_b4, hel_b4⟩ := b_r4.use
  have hbx := (((Below.refl w.heap.size w).alloc (Nat.le_refl _) (.cells #[.int .i64 a.kind, .int .i64 a.n, .string a.t, .slice A_a3 a.keys.length c_a3, .slice A_a4 a.items.length c_a4] 30)).alloc (by simp; try omega) (.cells #[.int .i64 b.kind, .int .i64 b.n, .string b.t, .slice A_b3 b.keys.length c_b3, .slice A_b4 b.items.length c_b4] 30))
  obtain ⟨q_a, q_b⟩ := two_at (Below.refl ((w.alloc (.cells #[.int .i64 a.kind, .int .i64 a.n, .string a.t, .slice A_a3 a.keys.length c_a3, .slice A_a4 a.items.length c_a4] 30)).alloc (.cells #[.int .i64 b.kind, .int .i64 b.n, .string b.t, .slice A_b3 b.keys.length c_b3, .slice A_b4 b.items.length c_b4] 30)).heap.size _)
  clear hf_a hel_a3 hel_a4 hf_b hel_b3 hel_b4
  go_enter Try.func21, Try.ntmps21
  go_wp2_with fail
  refine (impl_JsonOK (JsonR.good.nxt hbx H0_a)).mono ?_; rintro e w1 ⟨rfl, hb1⟩; replace q_a := box_on q_a rfl hb1; replace q_b := box_on q_b rfl hb1; have hw1 := nxt hbx hb1
  cases h1 : okJ a
  · have hr : Hid (sameJ a b = false) := by show _ = _; unfold sameJ; rw [h1]; rfl
    go_wp2_with fail
    go_ret
    exact ⟨ret_bool (by rw [hr.out]), hw1⟩
  go_wp2_with fail
  refine (impl_JsonOK (JsonR.good.nxt hw1 H0_b)).mono ?_; rintro e w2 ⟨rfl, hb2⟩; replace q_a := box_on q_a rfl hb2; replace q_b := box_on q_b rfl hb2; have hw2 := nxt hw1 hb2
  cases h2 : okJ b
  · have hr : Hid (sameJ a b = false) := by show _ = _; unfold sameJ; rw [h1, h2]; rfl
    go_wp2_with fail
    go_ret
    exact ⟨ret_bool (by rw [hr.out]), hw2⟩
  have hg := hide (okJ_good h1).1; have hr : Hid (sameJ a b = decide (a = b)) := by show _ = _; unfold sameJ; rw [h1, h2]; rfl
  go_wp2_with fail
  refine (impl_same 12 (JsonR.good.nxt hw2 H0_a) (JsonR.good.nxt hw2 H0_b) hg.out).mono ?_; rintro e w3 ⟨rfl, hb3⟩; replace q_a := box_on q_a rfl hb3; replace q_b := box_on q_b rfl hb3; have hw3 := nxt hw2 hb3
  go_wp2_with fail
  go_ret
  exact ⟨ret_bool (by rw [hr.out]), hw3⟩
theorem prt_dec {d : Nat} {a b : Json} (ga : goodJ d a = true) (gb : goodJ d b = true) : decide (a = b) = (prtL d a == prtL d b) := by
  by_cases h : a = b
  · subst h; simp
  · rw [decide_eq_false h]; symm; rw [beq_eq_false_iff_ne]; exact fun he => h ((prt_eq ga gb).1 he)
theorem same_prt {a b : Json} (h1 : okJ a = true) (h2 : okJ b = true) : ∃ la lb, la = prtL 12 a ∧ lb = prtL 12 b ∧ sameJ a b = (la == lb) :=
  ⟨_, _, rfl, rfl, by unfold sameJ; rw [h1, h2, ← prt_dec (okJ_good h1).1 (okJ_good h2).1]; simp only [Bool.true_and]⟩
theorem print12 {w : World} {bs : List Nat} {cs : List Value} {a : Json} (H : JsonR w bs cs a) (h : okJ a = true) {l : List UInt8} (hl : l = prtL 12 a) :
    Calls Try.prog 54 #[.agg cs.toArray] w fun e w' => e = .returned (.string ⟨l.toArray⟩) ∧ Below w.heap.size w w' := by
  subst hl; exact spec_l01Print 12 H (okJ_good h).1 (okJ_good h).2
set_option maxHeartbeats 4000000 in
theorem spec_SameJson {w : World}  {bs_a : List Nat} {cs_a : List Value} {a : Json} (H_a : JsonR w bs_a cs_a a) {bs_b : List Nat} {cs_b : List Value} {b : Json} (H_b : JsonR w bs_b cs_b b)  :
    Calls Try.prog 20 #[.agg cs_a.toArray, .agg cs_b.toArray] w (fun e w' => e = .returned (.bool (sameJ a b)) ∧ Below w.heap.size w w') := by
  have H0_a := H_a
  obtain ⟨a_v3, a_b3, a_v4, a_b4, rfl, rfl, hf_a, a_r3, a_r4⟩ := H_a.open
  obtain ⟨A_a3, c_a3, rfl, hlc_a3, hcm_a3, hel_a3⟩ := a_r3.use
  obtain ⟨A_a4, c_a4, rfl, hlc_a4, hcm_a4, hel_a4⟩ := a_r4.use
  have H0_b := H_b
  obtain ⟨b_v3, b_b3, b_v4, b_b4, rfl, rfl, hf_b, b_r3, b_r4⟩ := H_b.open
  obtain ⟨A_b3, c_b3, rfl, hlc_b3, hcm_b3, hel_b3⟩ := b_r3.use
  obtain ⟨A_b4, c_b4, rfl, hlc_b4, hcm_b4, hel_b4⟩ := b_r4.use
  have hbx := (((Below.refl w.heap.size w).alloc (Nat.le_refl _) (.cells #[.int .i64 a.kind, .int .i64 a.n, .string a.t, .slice A_a3 a.keys.length c_a3, .slice A_a4 a.items.length c_a4] 30)).alloc (by simp; try omega) (.cells #[.int .i64 b.kind, .int .i64 b.n, .string b.t, .slice A_b3 b.keys.length c_b3, .slice A_b4 b.items.length c_b4] 30))
  obtain ⟨q_a, q_b⟩ := two_at (Below.refl ((w.alloc (.cells #[.int .i64 a.kind, .int .i64 a.n, .string a.t, .slice A_a3 a.keys.length c_a3, .slice A_a4 a.items.length c_a4] 30)).alloc (.cells #[.int .i64 b.kind, .int .i64 b.n, .string b.t, .slice A_b3 b.keys.length c_b3, .slice A_b4 b.items.length c_b4] 30)).heap.size _)
  clear hf_a hel_a3 hel_a4 hf_b hel_b3 hel_b4
  have A1 := hide (fun (i : Fw ((w.alloc (.cells #[.int .i64 a.kind, .int .i64 a.n, .string a.t, .slice A_a3 a.keys.length c_a3, .slice A_a4 a.items.length c_a4] 30)).alloc (.cells #[.int .i64 b.kind, .int .i64 b.n, .string b.t, .slice A_b3 b.keys.length c_b3, .slice A_b4 b.items.length c_b4] 30))) => spec_JsonOK (JsonR.good.nxt (nxt hbx i.h) H0_a)); have A2 := hide (fun (i : Fw ((w.alloc (.cells #[.int .i64 a.kind, .int .i64 a.n, .string a.t, .slice A_a3 a.keys.length c_a3, .slice A_a4 a.items.length c_a4] 30)).alloc (.cells #[.int .i64 b.kind, .int .i64 b.n, .string b.t, .slice A_b3 b.keys.length c_b3, .slice A_b4 b.items.length c_b4] 30))) => spec_JsonOK (JsonR.good.nxt (nxt hbx i.h) H0_b))
  cases h1 : okJ a
  · simp only [h1] at A1
    have hr : Hid (sameJ a b = false) := by show _ = _; unfold sameJ; rw [h1]; rfl
    go_enter Try.func20, Try.ntmps20
    go_wp2_with fail
    have q_aF0 := Fw.cell (box_cell q_a 0 rfl)
    have q_aF1 := Fw.cell (box_cell q_a 1 rfl)
    have q_aF2 := Fw.cell (box_cell q_a 2 rfl)
    have q_aF3 := Fw.cell (box_cell q_a 3 rfl)
    have q_aF4 := Fw.cell (box_cell q_a 4 rfl)
    have q_bF0 := Fw.cell (box_cell q_b 0 rfl)
    have q_bF1 := Fw.cell (box_cell q_b 1 rfl)
    have q_bF2 := Fw.cell (box_cell q_b 2 rfl)
    have q_bF3 := Fw.cell (box_cell q_b 3 rfl)
    have q_bF4 := Fw.cell (box_cell q_b 4 rfl)
    refine region_quiet (by kernel_rfl) (by kernel_rfl) ?_
    repeat (go_big_quiet_step ((go_at_call 12; exact quiet_of (A1.out _))))
    refine wpQuiet_nil ?_; intro w1 hb1; replace q_a := box_on q_a rfl hb1; replace q_b := box_on q_b rfl hb1; have hw1 := nxt hbx hb1; clear q_aF0 q_aF1 q_aF2 q_aF3 q_aF4 q_bF0 q_bF1 q_bF2 q_bF3 q_bF4
    go_wp2_with fail
    go_ret
    exact ⟨ret_bool (by rw [hr.out]), hw1⟩
  cases h2 : okJ b
  · simp only [h1] at A1; simp only [h2] at A2
    have hr : Hid (sameJ a b = false) := by show _ = _; unfold sameJ; rw [h1, h2]; rfl
    go_enter Try.func20, Try.ntmps20
    go_wp2_with fail
    have q_aF0 := Fw.cell (box_cell q_a 0 rfl)
    have q_aF1 := Fw.cell (box_cell q_a 1 rfl)
    have q_aF2 := Fw.cell (box_cell q_a 2 rfl)
    have q_aF3 := Fw.cell (box_cell q_a 3 rfl)
    have q_aF4 := Fw.cell (box_cell q_a 4 rfl)
    have q_bF0 := Fw.cell (box_cell q_b 0 rfl)
    have q_bF1 := Fw.cell (box_cell q_b 1 rfl)
    have q_bF2 := Fw.cell (box_cell q_b 2 rfl)
    have q_bF3 := Fw.cell (box_cell q_b 3 rfl)
    have q_bF4 := Fw.cell (box_cell q_b 4 rfl)
    refine region_quiet (by kernel_rfl) (by kernel_rfl) ?_
    iterate 2 (go_big_quiet_step ((go_at_call 12; exact quiet_of (A1.out _))))
    repeat (go_big_quiet_step ((go_at_call 12; exact quiet_of (A2.out _))))
    refine wpQuiet_nil ?_; intro w2 hb2; replace q_a := box_on q_a rfl hb2; replace q_b := box_on q_b rfl hb2; have hw2 := nxt hbx hb2; clear q_aF0 q_aF1 q_aF2 q_aF3 q_aF4 q_bF0 q_bF1 q_bF2 q_bF3 q_bF4
    go_wp2_with fail
    go_ret
    exact ⟨ret_bool (by rw [hr.out]), hw2⟩
  obtain ⟨la, lb, hla, hlb, hr⟩ := same_prt h1 h2; have HR := hide hr; clear hr
  simp only [h1] at A1; simp only [h2] at A2
  have A3 := hide (fun (i : Fw ((w.alloc (.cells #[.int .i64 a.kind, .int .i64 a.n, .string a.t, .slice A_a3 a.keys.length c_a3, .slice A_a4 a.items.length c_a4] 30)).alloc (.cells #[.int .i64 b.kind, .int .i64 b.n, .string b.t, .slice A_b3 b.keys.length c_b3, .slice A_b4 b.items.length c_b4] 30))) => print12 (JsonR.good.nxt (nxt hbx i.h) H0_a) h1 hla); have A4 := hide (fun (i : Fw ((w.alloc (.cells #[.int .i64 a.kind, .int .i64 a.n, .string a.t, .slice A_a3 a.keys.length c_a3, .slice A_a4 a.items.length c_a4] 30)).alloc (.cells #[.int .i64 b.kind, .int .i64 b.n, .string b.t, .slice A_b3 b.keys.length c_b3, .slice A_b4 b.items.length c_b4] 30))) => print12 (JsonR.good.nxt (nxt hbx i.h) H0_b) h2 hlb); clear hla hlb
  go_enter Try.func20, Try.ntmps20
  go_wp2_with fail
  have q_aF0 := Fw.cell (box_cell q_a 0 rfl)
  have q_aF1 := Fw.cell (box_cell q_a 1 rfl)
  have q_aF2 := Fw.cell (box_cell q_a 2 rfl)
  have q_aF3 := Fw.cell (box_cell q_a 3 rfl)
  have q_aF4 := Fw.cell (box_cell q_a 4 rfl)
  have q_bF0 := Fw.cell (box_cell q_b 0 rfl)
  have q_bF1 := Fw.cell (box_cell q_b 1 rfl)
  have q_bF2 := Fw.cell (box_cell q_b 2 rfl)
  have q_bF3 := Fw.cell (box_cell q_b 3 rfl)
  have q_bF4 := Fw.cell (box_cell q_b 4 rfl)
  refine region_quiet (by kernel_rfl) (by kernel_rfl) ?_
  iterate 2 (go_big_quiet_step ((go_at_call 12; exact quiet_of (A1.out _))))
  iterate 3 (go_big_quiet_step ((go_at_call 12; exact quiet_of (A2.out _))))
  iterate 4 (go_big_quiet_step ((go_at_call 54; exact quiet_of (A3.out _))))
  repeat (go_big_quiet_step ((go_at_call 54; exact quiet_of (A4.out _))))
  refine wpQuiet_nil ?_; intro w3 hb3; replace q_a := box_on q_a rfl hb3; replace q_b := box_on q_b rfl hb3; have hw3 := nxt hbx hb3; clear q_aF0 q_aF1 q_aF2 q_aF3 q_aF4 q_bF0 q_bF1 q_bF2 q_bF3 q_bF4
  go_wp2_with fail
  go_ret
  exact ⟨ret_bool (by rw [HR.out]), hw3⟩
end Go.Proofs.Ythglchopajdmhaa
