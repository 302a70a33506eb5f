/- l01Print. No statement is proved here; no conditions. Written by a program (gen56.py). -/
import Derived.Test.YtdleccpjejdgiaaGreatDoorDigits
import Derived.Test.YtdleccpjejdgiaaGreatDoorJsonS
namespace Go.Proofs.YtdleccpjejdgiaaGreatDoor
open Go.ChangeShapes Go.WideShapes Go.ChangeAt Go.RowKit Go.Deep
set_option maxRecDepth 100000
set_option linter.unusedVariables false
set_option linter.unusedSimpArgs false

def partsL (d : Nat) (a : Json) : List (List UInt8) := if a.kind = 5 then (a.keys.zip a.items).map (fun p => quoteL p.1 ++ 58 :: prtL d p.2) else a.items.map (prtL d)
theorem plain_size {t : ByteArray} (h : plainB t = true) : t.size ≤ 200 := by
  unfold plainB at h; rw [Bool.and_eq_true] at h; have := of_decide_eq_true h.2; omega
theorem keys_plain {ks : List ByteArray} (h : keysOK ks = true) {k : Nat} (hk : k < ks.length) : ks[k].size ≤ 200 := by
  have h1 := upTo_at h hk
  rw [keyStep_at hk, Bool.and_eq_true] at h1
  exact plain_size h1.1
theorem quoteL_len (t : ByteArray) : (quoteL t).length ≤ 2 * t.size + 2 := by
  have := qL_len t.toList
  rw [toL_len] at this
  unfold quoteL; simp; omega
theorem joinC_sum : ∀ l : List (List UInt8), (joinC l).length ≤ (l.map fun x => x.length + 1).sum
  | [] => by simp [joinC]
  | x :: r => by
    have := joinC_sum r
    rw [joinC_cons]
    cases r with
    | nil => simp
    | cons y q => simp at this ⊢; omega
theorem sum_le_mul {α : Type} {f g : α → Nat} {B : Nat} : ∀ l : List α, (∀ x ∈ l, f x ≤ B * g x) → (l.map f).sum ≤ B * (l.map g).sum
  | [], _ => by simp
  | x :: l, h => by
    have h1 := h x (by simp); have h2 := sum_le_mul l fun y hy => h y (by simp [hy])
    simp only [List.map_cons, List.sum_cons, Nat.mul_add]; omega
theorem part_obj {a : Json} (h : partOK a = true) (hk : a.kind = 5) : a.keys.length = a.items.length ∧ keysOK a.keys = true := by
  unfold partOK at h; rw [hk] at h
  simp at h
  exact ⟨by omega, h.2.2.2⟩
theorem part_num {a : Json} (h : partOK a = true) (hk : a.kind = 2) : -1000000000 ≤ a.n ∧ a.n ≤ 1000000000 := by
  unfold partOK at h; rw [hk] at h
  simp at h
  exact inB_iff.1 h.1
theorem part_bool {a : Json} (h : partOK a = true) (hk : a.kind = 1) : a.n = 0 ∨ a.n = 1 := by
  unfold partOK at h; rw [hk] at h
  simp at h
  have := inB_iff.1 h.1; omega
theorem part_text {a : Json} (h : partOK a = true) (hk : a.kind = 3) : a.t.size ≤ 200 := by
  unfold partOK at h; rw [hk] at h
  simp at h
  exact plain_size h.2.1
theorem parts_sum {d : Nat} {a : Json} (hp : partOK a = true) (IH : ∀ x ∈ a.items, (prtL d x).length + 1000 ≤ 2000000000 * cnt d x) : ((partsL d a).map fun x => x.length + 1).sum + 2000000000 ≤ 2000000000 * cnt (d + 1) a := by
  have hc : cnt (d + 1) a = 1 + (a.items.map (cnt d)).sum := rfl
  rw [hc, Nat.mul_add, Nat.mul_one, Nat.add_comm]
  refine Nat.add_le_add_left ?_ _
  unfold partsL
  split
  · rename_i hk
    obtain ⟨hl, hks⟩ := part_obj hp hk
    rw [List.map_map]
    have h1 := sum_le_mul (f := (fun x : List UInt8 => x.length + 1) ∘ fun p : ByteArray × Json => quoteL p.1 ++ 58 :: prtL d p.2) (g := fun p => cnt d p.2) (B := 2000000000) (a.keys.zip a.items) (fun p hp => by
      obtain ⟨p1, p2⟩ := p
      have hz := List.of_mem_zip hp
      have h2 := IH _ hz.2
      obtain ⟨k, hk, he⟩ := List.mem_iff_getElem.1 hz.1
      have h3 := keys_plain hks hk
      rw [he] at h3
      have h4 := quoteL_len p1
      simp only [Function.comp, List.length_append, List.length_cons] at h2 ⊢
      omega)
    refine Nat.le_trans h1 (Nat.le_of_eq ?_)
    rw [show (fun p : ByteArray × Json => cnt d p.2) = cnt d ∘ Prod.snd from rfl, ← List.map_map, List.map_snd_zip (by omega)]
  · rw [List.map_map]
    exact sum_le_mul _ fun x hx => by have := IH x hx; simp only [Function.comp]; omega
theorem prt_list {d : Nat} {a : Json} (h4 : a.kind = 4) : prtL (d + 1) a = 91 :: (joinC (partsL d a) ++ [93]) := by
  unfold prtL partsL; simp [h4]
theorem prt_obj {d : Nat} {a : Json} (h4 : a.kind = 5) : prtL (d + 1) a = 123 :: (joinC (partsL d a) ++ [125]) := by
  unfold prtL partsL; simp [h4]
theorem digI_len {z : Int} (h0 : -1000000000 ≤ z) (h1 : z ≤ 1000000000) : (digI z).length ≤ 1000000002 := by
  unfold digI
  split
  · have := digN_len (-z).toNat; simp; omega
  · have := digN_len z.toNat; omega
theorem prt_len : ∀ (d : Nat) (a : Json), goodJ d a = true → (prtL d a).length + 1000 ≤ 2000000000 * cnt d a
  | 0, a, h => by cases h
  | d + 1, a, h => by
    obtain ⟨hp, hg⟩ := good_parts h
    have hk := part_kind hp
    have hs := parts_sum (d := d) hp fun x hx => prt_len d x (by obtain ⟨k, hk, rfl⟩ := List.mem_iff_getElem.1 hx; exact hg k hk)
    have hj := joinC_sum (partsL d a)
    have hc := cnt_pos (d + 1) a
    by_cases e4 : a.kind = 4
    · rw [prt_list e4]; simp; omega
    by_cases e5 : a.kind = 5
    · rw [prt_obj e5]; simp; omega
    unfold prtL
    split
    · simp; omega
    split
    · split <;> (simp; omega)
    split
    · rename_i e2; have h2 := part_num hp e2; have := digI_len h2.1 h2.2; omega
    split
    · rename_i e3; have := quoteL_len a.t; have := part_text hp e3; omega
    · omega
theorem parts_bd {d : Nat} {a : Json} (h : goodJ (d + 1) a = true) (hc : cnt (d + 1) a ≤ 400) (k : Nat) : (joinC ((partsL d a).take k)).length ≤ 800000000000 := by
  obtain ⟨hp, hg⟩ := good_parts h
  have hs := parts_sum (d := d) hp fun x hx => prt_len d x (by obtain ⟨k, hk, rfl⟩ := List.mem_iff_getElem.1 hx; exact hg k hk)
  have h1 := joinC_sum ((partsL d a).take k)
  have h2 : (((partsL d a).take k).map fun x => x.length + 1).sum ≤ ((partsL d a).map fun x => x.length + 1).sum := by
    have := congrArg (fun l : List (List UInt8) => (l.map fun x => x.length + 1).sum) (List.take_append_drop k (partsL d a))
    simp only [List.map_append, List.sum_append] at this
    omega
  omega
theorem parts_len {d : Nat} {a : Json} (hp : partOK a = true) : (partsL d a).length = a.items.length := by
  unfold partsL
  split
  · rename_i hk; have := (part_obj hp hk).1; simp; omega
  · simp
theorem joinC_take {l : List (List UInt8)} {k : Nat} (hk : k < l.length) : joinC (l.take (k + 1)) = joinC (l.take k) ++ ((if k = 0 then [] else [44]) ++ l[k]) := by
  rw [List.take_add_one, List.getElem?_eq_getElem hk, Option.toList_some, joinC_snoc]
  congr 2
  by_cases h : k = 0
  · subst h; simp
  · rw [if_neg h, if_neg (by intro he; have := congrArg List.length he; simp at this; rcases this with h1 | h1; exact h h1; rw [h1] at hk; simp at hk)]
theorem parts_at4 {d : Nat} {a : Json} (hk : a.kind = 4) {k : Nat} (h : k < a.items.length) (h2 : k < (partsL d a).length) : (partsL d a)[k] = prtL d a.items[k] := by
  simp [partsL, hk]
theorem parts_at5 {d : Nat} {a : Json} (hk : a.kind = 5) {k : Nat} (h : k < a.items.length) (h1 : k < a.keys.length) (h2 : k < (partsL d a).length) : (partsL d a)[k] = quoteL a.keys[k] ++ 58 :: prtL d a.items[k] := by
  simp [partsL, hk]
theorem by_ {s : ByteArray} {x : List UInt8} (h : s = ⟨x.toArray⟩) : s.size = x.length := by subst h; rfl
theorem out4z {s t : ByteArray} {x z : List UInt8} (h : s = ⟨x.toArray⟩) (h2 : t = ⟨z.toArray⟩) : s ++ t = ⟨(x ++ ([] ++ z)).toArray⟩ := by subst h; subst h2; apply ByteArray.ext; simp
theorem out4 {s t : ByteArray} {x z : List UInt8} (h : s = ⟨x.toArray⟩) (h2 : t = ⟨z.toArray⟩) : s ++ ⟨#[44]⟩ ++ t = ⟨(x ++ ([44] ++ z)).toArray⟩ := by subst h; subst h2; apply ByteArray.ext; simp
theorem out5z {s u t : ByteArray} {x y z : List UInt8} (h : s = ⟨x.toArray⟩) (h1 : u = ⟨y.toArray⟩) (h2 : t = ⟨z.toArray⟩) : s ++ (u ++ ⟨#[58]⟩) ++ t = ⟨(x ++ ([] ++ (y ++ 58 :: z))).toArray⟩ := by subst h; subst h1; subst h2; apply ByteArray.ext; simp
theorem out5 {s u t : ByteArray} {x y z : List UInt8} (h : s = ⟨x.toArray⟩) (h1 : u = ⟨y.toArray⟩) (h2 : t = ⟨z.toArray⟩) : s ++ ⟨#[44]⟩ ++ (u ++ ⟨#[58]⟩) ++ t = ⟨(x ++ ([44] ++ (y ++ 58 :: z))).toArray⟩ := by subst h; subst h1; subst h2; apply ByteArray.ext; simp
theorem outE {s : ByteArray} {x : List UInt8} (b : UInt8) (h : s = ⟨x.toArray⟩) : s ++ ⟨#[b]⟩ = ⟨(x ++ [b]).toArray⟩ := by subst h; apply ByteArray.ext; simp
abbrev PD (d : Nat) : Prop := ∀ {w : World} {bs : List Nat} {cs : List Value} {a : Json} (H : JsonR w bs cs a) (hg : goodJ d a = true) (h4 : cnt d a ≤ 400),
    Calls Tryz.prog 12 #[.agg cs.toArray] w fun e w' => e = .returned (.string ⟨(prtL d a).toArray⟩) ∧ Below w.heap.size w w'
set_option maxHeartbeats 4000000 in
theorem l01Print_k0 {w : World} {d : Nat} {bs_a : List Nat} {cs_a : List Value} {a : Json} (H_a : JsonR w bs_a cs_a a) (hk : a.kind = 0) :
    Calls Tryz.prog 12 #[.agg cs_a.toArray] w (fun e w' => e = .returned (.string (⟨(prtL (d + 1) a).toArray⟩)) ∧ Below w.heap.size w w') := by
  have H0_a := H_a
  obtain ⟨a_v3, a_b3, a_v4, a_b4, rfl, rfl, hf_a, a_r3, a_r4⟩ := H_a.open
  obtain ⟨A_a3, c_a3, rfl, hlc_a3, hcm_a3, hel_a3⟩ := a_r3.use
  obtain ⟨A_a4, c_a4, rfl, hlc_a4, hcm_a4, hel_a4⟩ := a_r4.use
  have hbx := ((Below.refl w.heap.size w).alloc (Nat.le_refl _) (.cells #[.int .i64 a.kind, .int .i64 a.n, .string a.t, .slice A_a3 a.keys.length c_a3, .slice A_a4 a.items.length c_a4] 31))
  have q_a := blk_cells (blk_new w #[.int .i64 a.kind, .int .i64 a.n, .string a.t, .slice A_a3 a.keys.length c_a3, .slice A_a4 a.items.length c_a4] 31)
  have c0 : (a.kind == 0) = true := by rw [hk]; rfl
  clear hel_a3 hel_a4 hf_a
  have hr : Hid (prtL (d + 1) a = [110, 117, 108, 108]) := by show _ = _; unfold prtL; simp [hk]
  clear hk
  go_enter Tryz.func12, Tryz.ntmps12
  go_wp2_with fail
  go_ret
  exact ⟨by rw [hr.out]; rfl, hbx⟩
set_option maxHeartbeats 4000000 in
theorem l01Print_k1f {w : World} {d : Nat} {bs_a : List Nat} {cs_a : List Value} {a : Json} (H_a : JsonR w bs_a cs_a a) (hk : a.kind = 1) (hn : a.n = 0) :
    Calls Tryz.prog 12 #[.agg cs_a.toArray] w (fun e w' => e = .returned (.string (⟨(prtL (d + 1) a).toArray⟩)) ∧ Below w.heap.size w w') := by
  have H0_a := H_a
  obtain ⟨a_v3, a_b3, a_v4, a_b4, rfl, rfl, hf_a, a_r3, a_r4⟩ := H_a.open
  obtain ⟨A_a3, c_a3, rfl, hlc_a3, hcm_a3, hel_a3⟩ := a_r3.use
  obtain ⟨A_a4, c_a4, rfl, hlc_a4, hcm_a4, hel_a4⟩ := a_r4.use
  have hbx := ((Below.refl w.heap.size w).alloc (Nat.le_refl _) (.cells #[.int .i64 a.kind, .int .i64 a.n, .string a.t, .slice A_a3 a.keys.length c_a3, .slice A_a4 a.items.length c_a4] 31))
  have q_a := blk_cells (blk_new w #[.int .i64 a.kind, .int .i64 a.n, .string a.t, .slice A_a3 a.keys.length c_a3, .slice A_a4 a.items.length c_a4] 31)
  have c0 : (a.kind == 0) = false := by rw [hk]; rfl
  have c1 : (a.kind == 1) = true := by rw [hk]; rfl
  clear hel_a3 hel_a4 hf_a
  have hr : Hid (prtL (d + 1) a = [102, 97, 108, 115, 101]) := by show _ = _; unfold prtL; simp [hk, hn]
  clear hk
  go_enter Tryz.func12, Tryz.ntmps12
  replace q_a := box_on q_a rfl ((Below.refl (World.heap ((w.alloc (.cells #[.int .i64 a.kind, .int .i64 a.n, .string a.t, .slice A_a3 a.keys.length c_a3, .slice A_a4 a.items.length c_a4] 31)))).size ((w.alloc (.cells #[.int .i64 a.kind, .int .i64 a.n, .string a.t, .slice A_a3 a.keys.length c_a3, .slice A_a4 a.items.length c_a4] 31)))).alloc (Nat.le_refl _) (.cells #[.string ⟨#[102, 97, 108, 115, 101]⟩, .string ⟨#[116, 114, 117, 101]⟩] 9))
  have q_v := blk_cells (blk_new ((w.alloc (.cells #[.int .i64 a.kind, .int .i64 a.n, .string a.t, .slice A_a3 a.keys.length c_a3, .slice A_a4 a.items.length c_a4] 31))) #[.string ⟨#[102, 97, 108, 115, 101]⟩, .string ⟨#[116, 114, 117, 101]⟩] 9)
  have hn1 := (hbx).alloc (hbx).size (.cells #[.string ⟨#[102, 97, 108, 115, 101]⟩, .string ⟨#[116, 114, 117, 101]⟩] 9)
  go_wp2_with fail
  go_ret
  exact ⟨by rw [hr.out]; rfl, (by rw [hn] at hn1; exact hn1)⟩
set_option maxHeartbeats 4000000 in
theorem l01Print_k1t {w : World} {d : Nat} {bs_a : List Nat} {cs_a : List Value} {a : Json} (H_a : JsonR w bs_a cs_a a) (hk : a.kind = 1) (hn : a.n = 1) :
    Calls Tryz.prog 12 #[.agg cs_a.toArray] w (fun e w' => e = .returned (.string (⟨(prtL (d + 1) a).toArray⟩)) ∧ Below w.heap.size w w') := by
  have H0_a := H_a
  obtain ⟨a_v3, a_b3, a_v4, a_b4, rfl, rfl, hf_a, a_r3, a_r4⟩ := H_a.open
  obtain ⟨A_a3, c_a3, rfl, hlc_a3, hcm_a3, hel_a3⟩ := a_r3.use
  obtain ⟨A_a4, c_a4, rfl, hlc_a4, hcm_a4, hel_a4⟩ := a_r4.use
  have hbx := ((Below.refl w.heap.size w).alloc (Nat.le_refl _) (.cells #[.int .i64 a.kind, .int .i64 a.n, .string a.t, .slice A_a3 a.keys.length c_a3, .slice A_a4 a.items.length c_a4] 31))
  have q_a := blk_cells (blk_new w #[.int .i64 a.kind, .int .i64 a.n, .string a.t, .slice A_a3 a.keys.length c_a3, .slice A_a4 a.items.length c_a4] 31)
  have c0 : (a.kind == 0) = false := by rw [hk]; rfl
  have c1 : (a.kind == 1) = true := by rw [hk]; rfl
  clear hel_a3 hel_a4 hf_a
  have hr : Hid (prtL (d + 1) a = [116, 114, 117, 101]) := by show _ = _; unfold prtL; simp [hk, hn]
  clear hk
  go_enter Tryz.func12, Tryz.ntmps12
  replace q_a := box_on q_a rfl ((Below.refl (World.heap ((w.alloc (.cells #[.int .i64 a.kind, .int .i64 a.n, .string a.t, .slice A_a3 a.keys.length c_a3, .slice A_a4 a.items.length c_a4] 31)))).size ((w.alloc (.cells #[.int .i64 a.kind, .int .i64 a.n, .string a.t, .slice A_a3 a.keys.length c_a3, .slice A_a4 a.items.length c_a4] 31)))).alloc (Nat.le_refl _) (.cells #[.string ⟨#[102, 97, 108, 115, 101]⟩, .string ⟨#[116, 114, 117, 101]⟩] 9))
  have q_v := blk_cells (blk_new ((w.alloc (.cells #[.int .i64 a.kind, .int .i64 a.n, .string a.t, .slice A_a3 a.keys.length c_a3, .slice A_a4 a.items.length c_a4] 31))) #[.string ⟨#[102, 97, 108, 115, 101]⟩, .string ⟨#[116, 114, 117, 101]⟩] 9)
  have hn1 := (hbx).alloc (hbx).size (.cells #[.string ⟨#[102, 97, 108, 115, 101]⟩, .string ⟨#[116, 114, 117, 101]⟩] 9)
  go_wp2_with fail
  go_ret
  exact ⟨by rw [hr.out]; rfl, (by rw [hn] at hn1; exact hn1)⟩
set_option maxHeartbeats 4000000 in
theorem l01Print_k2 {w : World} {d : Nat} {bs_a : List Nat} {cs_a : List Value} {a : Json} (H_a : JsonR w bs_a cs_a a) (hk : a.kind = 2) (hn0 : -1000000000 ≤ a.n) (hn1 : a.n ≤ 1000000000) :
    Calls Tryz.prog 12 #[.agg cs_a.toArray] w (fun e w' => e = .returned (.string (⟨(prtL (d + 1) a).toArray⟩)) ∧ Below w.heap.size w w') := by
  have H0_a := H_a
  obtain ⟨a_v3, a_b3, a_v4, a_b4, rfl, rfl, hf_a, a_r3, a_r4⟩ := H_a.open
  obtain ⟨A_a3, c_a3, rfl, hlc_a3, hcm_a3, hel_a3⟩ := a_r3.use
  obtain ⟨A_a4, c_a4, rfl, hlc_a4, hcm_a4, hel_a4⟩ := a_r4.use
  have hbx := ((Below.refl w.heap.size w).alloc (Nat.le_refl _) (.cells #[.int .i64 a.kind, .int .i64 a.n, .string a.t, .slice A_a3 a.keys.length c_a3, .slice A_a4 a.items.length c_a4] 31))
  have q_a := blk_cells (blk_new w #[.int .i64 a.kind, .int .i64 a.n, .string a.t, .slice A_a3 a.keys.length c_a3, .slice A_a4 a.items.length c_a4] 31)
  have c0 : (a.kind == 0) = false := by rw [hk]; rfl
  have c1 : (a.kind == 1) = false := by rw [hk]; rfl
  have c2 : (a.kind == 2) = true := by rw [hk]; rfl
  clear hel_a3 hel_a4 hf_a
  have hr : Hid (prtL (d + 1) a = digI a.n) := by show _ = _; unfold prtL; simp [hk]
  clear hk
  go_enter Tryz.func12, Tryz.ntmps12
  go_wp2_with fail
  refine (spec_l00Digits hn0 hn1).mono ?_; rintro e w1 ⟨rfl, hb1⟩; replace q_a := box_on q_a rfl hb1; have hw1 := nxt hbx hb1
  go_wp2_with fail
  go_ret
  exact ⟨by rw [hr.out]; rfl, hw1⟩
set_option maxHeartbeats 4000000 in
theorem l01Print_k3 {w : World} {d : Nat} {bs_a : List Nat} {cs_a : List Value} {a : Json} (H_a : JsonR w bs_a cs_a a) (hk : a.kind = 3) (ht : a.t.size ≤ 200) :
    Calls Tryz.prog 12 #[.agg cs_a.toArray] w (fun e w' => e = .returned (.string (⟨(prtL (d + 1) a).toArray⟩)) ∧ Below w.heap.size w w') := by
  have H0_a := H_a
  obtain ⟨a_v3, a_b3, a_v4, a_b4, rfl, rfl, hf_a, a_r3, a_r4⟩ := H_a.open
  obtain ⟨A_a3, c_a3, rfl, hlc_a3, hcm_a3, hel_a3⟩ := a_r3.use
  obtain ⟨A_a4, c_a4, rfl, hlc_a4, hcm_a4, hel_a4⟩ := a_r4.use
  have hbx := ((Below.refl w.heap.size w).alloc (Nat.le_refl _) (.cells #[.int .i64 a.kind, .int .i64 a.n, .string a.t, .slice A_a3 a.keys.length c_a3, .slice A_a4 a.items.length c_a4] 31))
  have q_a := blk_cells (blk_new w #[.int .i64 a.kind, .int .i64 a.n, .string a.t, .slice A_a3 a.keys.length c_a3, .slice A_a4 a.items.length c_a4] 31)
  have c0 : (a.kind == 0) = false := by rw [hk]; rfl
  have c1 : (a.kind == 1) = false := by rw [hk]; rfl
  have c2 : (a.kind == 2) = false := by rw [hk]; rfl
  have c3 : (a.kind == 3) = true := by rw [hk]; rfl
  clear hel_a3 hel_a4 hf_a
  have hr : Hid (prtL (d + 1) a = quoteL a.t) := by show _ = _; unfold prtL; simp [hk]
  clear hk
  go_enter Tryz.func12, Tryz.ntmps12
  go_wp2_with fail
  refine (spec_l01Quote a.t _ (by omega)).mono ?_; rintro e w1 ⟨rfl, hb1⟩; replace q_a := box_on q_a rfl hb1; have hw1 := nxt hbx hb1
  go_wp2_with fail
  go_ret
  exact ⟨by rw [hr.out]; rfl, hw1⟩
set_option maxHeartbeats 4000000 in
theorem l01Print_l4 {w : World} {d : Nat} (IH : PD d) {bs_a : List Nat} {cs_a : List Value} {a : Json} (H_a : JsonR w bs_a cs_a a) (hk : a.kind = 4) (hg : goodJ (d + 1) a = true) (h4 : cnt (d + 1) a ≤ 400) :
    Calls Tryz.prog 12 #[.agg cs_a.toArray] w (fun e w' => e = .returned (.string (⟨(prtL (d + 1) a).toArray⟩)) ∧ Below w.heap.size w w') := by
  have H0_a := H_a
  obtain ⟨a_v3, a_b3, a_v4, a_b4, rfl, rfl, hf_a, a_r3, a_r4⟩ := H_a.open
  obtain ⟨A_a3, c_a3, rfl, hlc_a3, hcm_a3, hel_a3⟩ := a_r3.use
  obtain ⟨A_a4, c_a4, rfl, hlc_a4, hcm_a4, hel_a4⟩ := a_r4.use
  have hbx := ((Below.refl w.heap.size w).alloc (Nat.le_refl _) (.cells #[.int .i64 a.kind, .int .i64 a.n, .string a.t, .slice A_a3 a.keys.length c_a3, .slice A_a4 a.items.length c_a4] 31))
  have q_a := blk_cells (blk_new w #[.int .i64 a.kind, .int .i64 a.n, .string a.t, .slice A_a3 a.keys.length c_a3, .slice A_a4 a.items.length c_a4] 31)
  have c0 : (a.kind == 0) = false := by rw [hk]; rfl
  have c1 : (a.kind == 1) = false := by rw [hk]; rfl
  have c2 : (a.kind == 2) = false := by rw [hk]; rfl
  have c3 : (a.kind == 3) = false := by rw [hk]; rfl
  have c5 : (a.kind == 5) = false := by rw [hk]; rfl
  have hpa := (good_parts hg).1; have hgp := hide (good_parts hg); have hci := hide (fun k (hk : k < a.items.length) => cnt_item hk h4); have hbd := hide (fun k => parts_bd hg h4 k); clear hg h4 hf_a hel_a3
  have hpl := hide (parts_len (d := d) hpa)
  have hr : Hid (prtL (d + 1) a = (91 :: joinC ((partsL d a).take a.items.length)) ++ [93]) := by show _ = _; rw [prt_list hk, ← hpl.out, List.take_length]; rfl
  have HK := hide hk; clear hk hpa
  go_enter Tryz.func12, Tryz.ntmps12
  go_wp2_with fail
  go_loopw [4, 5] (fun o i wr => ∃ (k : Nat) (s : ByteArray), k ≤ a.items.length ∧ i = .int .i64 k ∧ o = .string s ∧ Hid (s = ⟨(91 :: joinC ((partsL d a).take k)).toArray⟩) ∧ Below (World.heap ((w.alloc (.cells #[.int .i64 a.kind, .int .i64 a.n, .string a.t, .slice A_a3 a.keys.length c_a3, .slice A_a4 a.items.length c_a4] 31)))).size ((w.alloc (.cells #[.int .i64 a.kind, .int .i64 a.n, .string a.t, .slice A_a3 a.keys.length c_a3, .slice A_a4 a.items.length c_a4] 31))) wr) (fun _ i _ => a.items.length - (intOf i).toNat)
  case atStart => exact ⟨0, _, Nat.zero_le _, rfl, rfl, (by show _ = _; rfl), Below.refl _ _⟩
  case round =>
    obtain ⟨k1, s, hk1, rfl, rfl, hs, hb1001⟩ := hrel; obtain ⟨wl1, rfl⟩ : ∃ w' : World, w' = wr := ⟨_, rfl⟩
    replace q_a := box_on q_a rfl hb1001
    have hwl1 := nxt hbx hb1001
    have hsz : s.size ≤ 800000000001 := by rw [by_ hs.out]; have := hbd.out k1; simp; omega
    by_cases hlt1 : k1 < a.items.length
    · by_cases hj0 : k1 = 0
      · have hj := hide (joinC_take (l := partsL d a) (by rw [hpl.out]; exact hlt1))
        have hd0 : decide (0 < k1) = false := decide_eq_false (by omega)
        have hst : Hid (91 :: joinC ((partsL d a).take (k1 + 1)) = (91 :: joinC ((partsL d a).take k1)) ++ ([] ++ prtL d a.items[k1])) := by show _ = _; rw [hj.out, if_pos hj0, parts_at4 HK.out hlt1]; rfl
        clear hj
        obtain ⟨gb, go, gbk, ges, rfl, ghbl, ghcl, ghcell, gR, ghbk⟩ := hel_a4 k1 hlt1
        have gR0 := gR
        obtain ⟨gv3, gb3, gv4, gb4, _, ghes, ghf, gr3, gr4⟩ := gR.open
        subst ghes
        obtain ⟨gA3, gc3, rfl, ghlc3, ghcm3, ghel3⟩ := gr3.use
        obtain ⟨gA4, gc4, rfl, ghlc4, ghcm4, ghel4⟩ := gr4.use
        have g_0 := (hwl1.cell (p := ⟨gb, _, none⟩) ghbl).trans (ghcell 0 _ rfl)
        have g_1 := (hwl1.cell (p := ⟨gb, _, none⟩) ghbl).trans (ghcell 1 _ rfl)
        have g_2 := (hwl1.cell (p := ⟨gb, _, none⟩) ghbl).trans (ghcell 2 _ rfl)
        have g_3 := (hwl1.cell (p := ⟨gb, _, none⟩) ghbl).trans (ghcell 3 _ rfl)
        have g_4 := (hwl1.cell (p := ⟨gb, _, none⟩) ghbl).trans (ghcell 4 _ rfl)
        simp only [Nat.add_zero] at g_0 g_1 g_2 g_3 g_4
        clear hel_a4
        have hit := hide (hci.out k1 hlt1); have hgi := hide (hgp.out.2 k1 hlt1); have hpb := prt_len d _ hgi.out; have hcb := hit.out.1
        have HPB : Hid ((prtL d a.items[k1]).length ≤ 800000000000) := by show _ ≤ _; omega
        clear hpb hcb
        have HJ0 := hj0; subst hj0; simp only [Nat.zero_mul, Nat.add_zero] at g_0 g_1 g_2 g_3 g_4
        go_wp2_with fail
        refine (IH (JsonR.good.nxt hwl1 gR0) hgi.out hit.out.1).mono ?_; rintro e w1 ⟨rfl, hb1⟩; replace q_a := box_on q_a rfl hb1; have hw1 := nxt hwl1 hb1; have hl0_1 := nxt hb1001 hb1
        generalize hqt : (⟨(prtL d a.items[0]).toArray⟩ : ByteArray) = t; replace hqt := hide hqt.symm
        have hzt : t.size ≤ 800000000000 := by rw [by_ hqt.out]; exact HPB.out
        have b3 : (9223372036854775807 < s.size + t.size) = False := by simp; omega
        go_wp2_with fail
        go_roundw
        case rel => exact ⟨0 + 1, _, by omega, rfl, rfl, (by show _ = _; rw [hst.out]; exact out4z hs.out hqt.out), hl0_1⟩
        case measure => simp [intOf]; omega
      have hj := hide (joinC_take (l := partsL d a) (by rw [hpl.out]; exact hlt1))
      have hd0 : decide (0 < k1) = true := decide_eq_true (by omega); have b0 : (9223372036854775807 < s.size + 1) = False := by simp; omega
      have hst : Hid (91 :: joinC ((partsL d a).take (k1 + 1)) = (91 :: joinC ((partsL d a).take k1)) ++ ([44] ++ prtL d a.items[k1])) := by show _ = _; rw [hj.out, if_neg hj0, parts_at4 HK.out hlt1]; rfl
      clear hj
      obtain ⟨gb, go, gbk, ges, rfl, ghbl, ghcl, ghcell, gR, ghbk⟩ := hel_a4 k1 hlt1
      have gR0 := gR
      obtain ⟨gv3, gb3, gv4, gb4, _, ghes, ghf, gr3, gr4⟩ := gR.open
      subst ghes
      obtain ⟨gA3, gc3, rfl, ghlc3, ghcm3, ghel3⟩ := gr3.use
      obtain ⟨gA4, gc4, rfl, ghlc4, ghcm4, ghel4⟩ := gr4.use
      have g_0 := (hwl1.cell (p := ⟨gb, _, none⟩) ghbl).trans (ghcell 0 _ rfl)
      have g_1 := (hwl1.cell (p := ⟨gb, _, none⟩) ghbl).trans (ghcell 1 _ rfl)
      have g_2 := (hwl1.cell (p := ⟨gb, _, none⟩) ghbl).trans (ghcell 2 _ rfl)
      have g_3 := (hwl1.cell (p := ⟨gb, _, none⟩) ghbl).trans (ghcell 3 _ rfl)
      have g_4 := (hwl1.cell (p := ⟨gb, _, none⟩) ghbl).trans (ghcell 4 _ rfl)
      simp only [Nat.add_zero] at g_0 g_1 g_2 g_3 g_4
      clear hel_a4
      have hit := hide (hci.out k1 hlt1); have hgi := hide (hgp.out.2 k1 hlt1); have hpb := prt_len d _ hgi.out; have hcb := hit.out.1
      have HPB : Hid ((prtL d a.items[k1]).length ≤ 800000000000) := by show _ ≤ _; omega
      clear hpb hcb
      go_wp2_with fail
      refine (IH (JsonR.good.nxt hwl1 gR0) hgi.out hit.out.1).mono ?_; rintro e w2 ⟨rfl, hb2⟩; replace q_a := box_on q_a rfl hb2; have hw2 := nxt hwl1 hb2; have hl0_2 := nxt hb1001 hb2
      generalize hqt : (⟨(prtL d a.items[k1]).toArray⟩ : ByteArray) = t; replace hqt := hide hqt.symm
      have hzt : t.size ≤ 800000000000 := by rw [by_ hqt.out]; exact HPB.out
      have b3 : (9223372036854775807 < s.size + 1 + t.size) = False := by simp; omega
      go_wp2_with fail
      go_roundw
      case rel => exact ⟨k1 + 1, _, by omega, by go_num, rfl, (by show _ = _; rw [hst.out]; exact out4 hs.out hqt.out), hl0_2⟩
      case measure => simp [intOf]; omega
    · obtain rfl : k1 = a.items.length := by omega
      have b9 : (9223372036854775807 < s.size + 1) = False := by simp; omega
      clear hel_a4
      go_wp2
      go_ret
      exact ⟨by rw [hr.out, ← outE 93 hs.out]; rfl, hwl1⟩
set_option maxHeartbeats 4000000 in
theorem l01Print_l5 {w : World} {d : Nat} (IH : PD d) {bs_a : List Nat} {cs_a : List Value} {a : Json} (H_a : JsonR w bs_a cs_a a) (hk : a.kind = 5) (hg : goodJ (d + 1) a = true) (h4 : cnt (d + 1) a ≤ 400) :
    Calls Tryz.prog 12 #[.agg cs_a.toArray] w (fun e w' => e = .returned (.string (⟨(prtL (d + 1) a).toArray⟩)) ∧ Below w.heap.size w w') := by
  have H0_a := H_a
  obtain ⟨a_v3, a_b3, a_v4, a_b4, rfl, rfl, hf_a, a_r3, a_r4⟩ := H_a.open
  obtain ⟨A_a3, c_a3, rfl, hlc_a3, hcm_a3, hel_a3⟩ := a_r3.use
  obtain ⟨A_a4, c_a4, rfl, hlc_a4, hcm_a4, hel_a4⟩ := a_r4.use
  have hbx := ((Below.refl w.heap.size w).alloc (Nat.le_refl _) (.cells #[.int .i64 a.kind, .int .i64 a.n, .string a.t, .slice A_a3 a.keys.length c_a3, .slice A_a4 a.items.length c_a4] 31))
  have q_a := blk_cells (blk_new w #[.int .i64 a.kind, .int .i64 a.n, .string a.t, .slice A_a3 a.keys.length c_a3, .slice A_a4 a.items.length c_a4] 31)
  have c0 : (a.kind == 0) = false := by rw [hk]; rfl
  have c1 : (a.kind == 1) = false := by rw [hk]; rfl
  have c2 : (a.kind == 2) = false := by rw [hk]; rfl
  have c3 : (a.kind == 3) = false := by rw [hk]; rfl
  have c5 : (a.kind == 5) = true := by rw [hk]; rfl
  have hpa := (good_parts hg).1; have hgp := hide (good_parts hg); have hci := hide (fun k (hk : k < a.items.length) => cnt_item hk h4); have hbd := hide (fun k => parts_bd hg h4 k); clear hg h4 hf_a
  have hpl := hide (parts_len (d := d) hpa)
  have hob := part_obj hpa hk; have hkl := hob.1; have hkp := hide (fun k (h : k < a.keys.length) => keys_plain hob.2 h); clear hob
  have HKL := hide hkl; clear hkl
  have hr : Hid (prtL (d + 1) a = (123 :: joinC ((partsL d a).take a.items.length)) ++ [125]) := by show _ = _; rw [prt_obj hk, ← hpl.out, List.take_length]; rfl
  have HK := hide hk; clear hk hpa
  go_enter Tryz.func12, Tryz.ntmps12
  go_wp2_with fail
  go_loopw [4, 5] (fun o i wr => ∃ (k : Nat) (s : ByteArray), k ≤ a.items.length ∧ i = .int .i64 k ∧ o = .string s ∧ Hid (s = ⟨(123 :: joinC ((partsL d a).take k)).toArray⟩) ∧ Below (World.heap ((w.alloc (.cells #[.int .i64 a.kind, .int .i64 a.n, .string a.t, .slice A_a3 a.keys.length c_a3, .slice A_a4 a.items.length c_a4] 31)))).size ((w.alloc (.cells #[.int .i64 a.kind, .int .i64 a.n, .string a.t, .slice A_a3 a.keys.length c_a3, .slice A_a4 a.items.length c_a4] 31))) wr) (fun _ i _ => a.items.length - (intOf i).toNat)
  case atStart => exact ⟨0, _, Nat.zero_le _, rfl, rfl, (by show _ = _; rfl), Below.refl _ _⟩
  case round =>
    obtain ⟨k1, s, hk1, rfl, rfl, hs, hb1001⟩ := hrel; obtain ⟨wl1, rfl⟩ : ∃ w' : World, w' = wr := ⟨_, rfl⟩
    replace q_a := box_on q_a rfl hb1001
    have hwl1 := nxt hbx hb1001
    have hsz : s.size ≤ 800000000001 := by rw [by_ hs.out]; have := hbd.out k1; simp; omega
    by_cases hlt1 : k1 < a.items.length
    · by_cases hj0 : k1 = 0
      · have hj := hide (joinC_take (l := partsL d a) (by rw [hpl.out]; exact hlt1))
        have hd0 : decide (0 < k1) = false := decide_eq_false (by omega)
        have hlk : k1 < a.keys.length := by rw [HKL.out]; exact hlt1
        have hst : Hid (123 :: joinC ((partsL d a).take (k1 + 1)) = (123 :: joinC ((partsL d a).take k1)) ++ ([] ++ (quoteL a.keys[k1] ++ 58 :: prtL d a.items[k1]))) := by show _ = _; rw [hj.out, if_pos hj0, parts_at5 HK.out hlt1 hlk]; rfl
        have hkz := hkp.out k1 hlk
        obtain ⟨pb, po, pbk, pes, rfl, phbl, phcl, phcell, pR, phbk⟩ := hel_a3 k1 hlk
        obtain ⟨_, phes, psz⟩ := pR; subst phes
        have p_0 := (hwl1.cell (p := ⟨pb, _, none⟩) phbl).trans (phcell 0 _ rfl)
        simp only [Nat.add_zero, Nat.mul_one] at p_0
        clear hel_a3
        clear hj
        obtain ⟨gb, go, gbk, ges, rfl, ghbl, ghcl, ghcell, gR, ghbk⟩ := hel_a4 k1 hlt1
        have gR0 := gR
        obtain ⟨gv3, gb3, gv4, gb4, _, ghes, ghf, gr3, gr4⟩ := gR.open
        subst ghes
        obtain ⟨gA3, gc3, rfl, ghlc3, ghcm3, ghel3⟩ := gr3.use
        obtain ⟨gA4, gc4, rfl, ghlc4, ghcm4, ghel4⟩ := gr4.use
        have g_0 := (hwl1.cell (p := ⟨gb, _, none⟩) ghbl).trans (ghcell 0 _ rfl)
        have g_1 := (hwl1.cell (p := ⟨gb, _, none⟩) ghbl).trans (ghcell 1 _ rfl)
        have g_2 := (hwl1.cell (p := ⟨gb, _, none⟩) ghbl).trans (ghcell 2 _ rfl)
        have g_3 := (hwl1.cell (p := ⟨gb, _, none⟩) ghbl).trans (ghcell 3 _ rfl)
        have g_4 := (hwl1.cell (p := ⟨gb, _, none⟩) ghbl).trans (ghcell 4 _ rfl)
        simp only [Nat.add_zero] at g_0 g_1 g_2 g_3 g_4
        clear hel_a4
        have hit := hide (hci.out k1 hlt1); have hgi := hide (hgp.out.2 k1 hlt1); have hpb := prt_len d _ hgi.out; have hcb := hit.out.1
        have HPB : Hid ((prtL d a.items[k1]).length ≤ 800000000000) := by show _ ≤ _; omega
        clear hpb hcb
        have HJ0 := hj0; subst hj0; simp only [Nat.zero_mul, Nat.add_zero] at g_0 g_1 g_2 g_3 g_4 p_0
        go_wp2_with fail
        refine (spec_l01Quote a.keys[0] _ (by omega)).mono ?_; rintro e w1 ⟨rfl, hb1⟩; replace q_a := box_on q_a rfl hb1; have hw1 := nxt hwl1 hb1; have hl0_1 := nxt hb1001 hb1
        generalize hqu : (⟨(quoteL a.keys[0]).toArray⟩ : ByteArray) = u; replace hqu := hide hqu.symm
        have hzu : u.size ≤ 402 := by rw [by_ hqu.out]; have := quoteL_len a.keys[0]; omega
        have b1 : (9223372036854775807 < u.size + 1) = False := by simp; omega
        have b2 : (9223372036854775807 < s.size + (u.size + 1)) = False := by simp; omega
        replace g_0 := cell_onJ g_0 hb1; replace g_1 := cell_onJ g_1 hb1; replace g_2 := cell_onJ g_2 hb1; replace g_3 := cell_onJ g_3 hb1; replace g_4 := cell_onJ g_4 hb1
        clear p_0
        go_wp2_with fail
        refine (IH (JsonR.good.nxt hw1 gR0) hgi.out hit.out.1).mono ?_; rintro e w2 ⟨rfl, hb2⟩; replace q_a := box_on q_a rfl hb2; have hw2 := nxt hw1 hb2; have hl0_2 := nxt hl0_1 hb2
        generalize hqt : (⟨(prtL d a.items[0]).toArray⟩ : ByteArray) = t; replace hqt := hide hqt.symm
        have hzt : t.size ≤ 800000000000 := by rw [by_ hqt.out]; exact HPB.out
        have b3 : (9223372036854775807 < s.size + (u.size + 1) + t.size) = False := by simp; omega
        go_wp2_with fail
        go_roundw
        case rel => exact ⟨0 + 1, _, by omega, rfl, rfl, (by show _ = _; rw [hst.out]; exact out5z hs.out hqu.out hqt.out), hl0_2⟩
        case measure => simp [intOf]; omega
      have hj := hide (joinC_take (l := partsL d a) (by rw [hpl.out]; exact hlt1))
      have hd0 : decide (0 < k1) = true := decide_eq_true (by omega); have b0 : (9223372036854775807 < s.size + 1) = False := by simp; omega
      have hlk : k1 < a.keys.length := by rw [HKL.out]; exact hlt1
      have hst : Hid (123 :: joinC ((partsL d a).take (k1 + 1)) = (123 :: joinC ((partsL d a).take k1)) ++ ([44] ++ (quoteL a.keys[k1] ++ 58 :: prtL d a.items[k1]))) := by show _ = _; rw [hj.out, if_neg hj0, parts_at5 HK.out hlt1 hlk]; rfl
      have hkz := hkp.out k1 hlk
      obtain ⟨pb, po, pbk, pes, rfl, phbl, phcl, phcell, pR, phbk⟩ := hel_a3 k1 hlk
      obtain ⟨_, phes, psz⟩ := pR; subst phes
      have p_0 := (hwl1.cell (p := ⟨pb, _, none⟩) phbl).trans (phcell 0 _ rfl)
      simp only [Nat.add_zero, Nat.mul_one] at p_0
      clear hel_a3
      clear hj
      obtain ⟨gb, go, gbk, ges, rfl, ghbl, ghcl, ghcell, gR, ghbk⟩ := hel_a4 k1 hlt1
      have gR0 := gR
      obtain ⟨gv3, gb3, gv4, gb4, _, ghes, ghf, gr3, gr4⟩ := gR.open
      subst ghes
      obtain ⟨gA3, gc3, rfl, ghlc3, ghcm3, ghel3⟩ := gr3.use
      obtain ⟨gA4, gc4, rfl, ghlc4, ghcm4, ghel4⟩ := gr4.use
      have g_0 := (hwl1.cell (p := ⟨gb, _, none⟩) ghbl).trans (ghcell 0 _ rfl)
      have g_1 := (hwl1.cell (p := ⟨gb, _, none⟩) ghbl).trans (ghcell 1 _ rfl)
      have g_2 := (hwl1.cell (p := ⟨gb, _, none⟩) ghbl).trans (ghcell 2 _ rfl)
      have g_3 := (hwl1.cell (p := ⟨gb, _, none⟩) ghbl).trans (ghcell 3 _ rfl)
      have g_4 := (hwl1.cell (p := ⟨gb, _, none⟩) ghbl).trans (ghcell 4 _ rfl)
      simp only [Nat.add_zero] at g_0 g_1 g_2 g_3 g_4
      clear hel_a4
      have hit := hide (hci.out k1 hlt1); have hgi := hide (hgp.out.2 k1 hlt1); have hpb := prt_len d _ hgi.out; have hcb := hit.out.1
      have HPB : Hid ((prtL d a.items[k1]).length ≤ 800000000000) := by show _ ≤ _; omega
      clear hpb hcb
      go_wp2_with fail
      refine (spec_l01Quote a.keys[k1] _ (by omega)).mono ?_; rintro e w3 ⟨rfl, hb3⟩; replace q_a := box_on q_a rfl hb3; have hw3 := nxt hwl1 hb3; have hl0_3 := nxt hb1001 hb3
      generalize hqu : (⟨(quoteL a.keys[k1]).toArray⟩ : ByteArray) = u; replace hqu := hide hqu.symm
      have hzu : u.size ≤ 402 := by rw [by_ hqu.out]; have := quoteL_len a.keys[k1]; omega
      have b1 : (9223372036854775807 < u.size + 1) = False := by simp; omega
      have b2 : (9223372036854775807 < s.size + 1 + (u.size + 1)) = False := by simp; omega
      replace g_0 := cell_onJ g_0 hb3; replace g_1 := cell_onJ g_1 hb3; replace g_2 := cell_onJ g_2 hb3; replace g_3 := cell_onJ g_3 hb3; replace g_4 := cell_onJ g_4 hb3
      clear p_0
      go_wp2_with fail
      refine (IH (JsonR.good.nxt hw3 gR0) hgi.out hit.out.1).mono ?_; rintro e w4 ⟨rfl, hb4⟩; replace q_a := box_on q_a rfl hb4; have hw4 := nxt hw3 hb4; have hl0_4 := nxt hl0_3 hb4
      generalize hqt : (⟨(prtL d a.items[k1]).toArray⟩ : ByteArray) = t; replace hqt := hide hqt.symm
      have hzt : t.size ≤ 800000000000 := by rw [by_ hqt.out]; exact HPB.out
      have b3 : (9223372036854775807 < s.size + 1 + (u.size + 1) + t.size) = False := by simp; omega
      go_wp2_with fail
      go_roundw
      case rel => exact ⟨k1 + 1, _, by omega, by go_num, rfl, (by show _ = _; rw [hst.out]; exact out5 hs.out hqu.out hqt.out), hl0_4⟩
      case measure => simp [intOf]; omega
    · obtain rfl : k1 = a.items.length := by omega
      have b9 : (9223372036854775807 < s.size + 1) = False := by simp; omega
      clear hel_a4 hel_a3
      go_wp2
      go_ret
      exact ⟨by rw [hr.out, ← outE 125 hs.out]; rfl, hwl1⟩
theorem spec_l01Print_step {d : Nat} (IH : PD d) {w : World} {bs : List Nat} {cs : List Value} {a : Json} (H : JsonR w bs cs a) (hg : goodJ (d + 1) a = true) (h4 : cnt (d + 1) a ≤ 400) :
    Calls Tryz.prog 12 #[.agg cs.toArray] w fun e w' => e = .returned (.string ⟨(prtL (d + 1) a).toArray⟩) ∧ Below w.heap.size w w' := by
  have hp := (good_parts hg).1
  have hk := part_kind hp
  by_cases e0 : a.kind = 0
  · exact l01Print_k0 H e0
  by_cases e1 : a.kind = 1
  · rcases part_bool hp e1 with hn | hn
    · exact l01Print_k1f H e1 hn
    · exact l01Print_k1t H e1 hn
  by_cases e2 : a.kind = 2
  · exact l01Print_k2 H e2 (part_num hp e2).1 (part_num hp e2).2
  by_cases e3 : a.kind = 3
  · exact l01Print_k3 H e3 (part_text hp e3)
  by_cases e4 : a.kind = 4
  · exact l01Print_l4 IH H e4 hg h4
  · exact l01Print_l5 IH H (by omega) hg h4
theorem spec_l01Print : ∀ d, PD d
  | 0 => fun _ hg _ => by cases hg
  | d + 1 => fun H hg h4 => spec_l01Print_step (@spec_l01Print d) H hg h4
end Go.Proofs.YtdleccpjejdgiaaGreatDoor
