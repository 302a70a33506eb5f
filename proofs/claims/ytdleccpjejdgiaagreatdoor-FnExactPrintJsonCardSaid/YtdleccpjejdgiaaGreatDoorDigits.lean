/- Digits. No statement is proved here; no conditions. Written by a program (gen55.py). -/
import Derived.Test.YtdleccpjejdgiaaGreatDoorQuote
import Derived.Test.YtdleccpjejdgiaaGreatDoorPut
namespace Go.Proofs.YtdleccpjejdgiaaGreatDoor
open Go.ChangeShapes Go.WideShapes Go.ChangeAt Go.RowKit Go.Deep
set_option maxRecDepth 100000
set_option linter.unusedVariables false
set_option linter.unusedSimpArgs false

theorem own_lit2 {w : World} {e : TypeId} {n : Nat} {x : Int} (b : UInt8) (hx : x = (b.toNat : Int)) (h : w.heap.size = n) : Own 1 ByR e w.heap.size (w.alloc (.cells #[.int .u8 x] e)) (.slice (some ⟨n, 0, none⟩) 1 1) [b] := by
  subst hx; exact own_lit b h
theorem digN_small {n : Nat} (h : n < 10) : digN n = [dig n] := by unfold digN; rw [dif_pos h]
theorem digN_big {n : Nat} (h : ¬ n < 10) : digN n = digN (n / 10) ++ [dig (n % 10)] := by rw [digN]; rw [dif_neg h]
theorem digN_len (n : Nat) : (digN n).length ≤ n + 1 := by
  induction n using Nat.strongRecOn with
  | _ n ih =>
  by_cases h : n < 10
  · rw [digN_small h]; simp
  · rw [digN_big h, List.length_append]
    have := ih (n / 10) (by omega)
    simp; omega
theorem u8_wrap {x : Int} (h0 : 0 ≤ x) (h1 : x ≤ 255) : IntKind.u8.wrap x = x := by simp [IntKind.wrap, IntKind.bits, IntKind.signed]; omega
abbrev DG (m : Nat) : Prop := ∀ {z : Int} {w : World} (h0 : 0 ≤ z) (hm : z ≤ m) (h1 : z ≤ 1000000000), Calls Tryz.prog 20 #[.int .i64 z] w fun e w' => e = .returned (.string ⟨(digN z.toNat).toArray⟩) ∧ Below w.heap.size w w'
set_option maxHeartbeats 4000000 in
theorem digits_small {z : Int} {w : World} (h0 : 0 ≤ z) (h1 : z < 10) : Calls Tryz.prog 20 #[.int .i64 z] w fun e w' => e = .returned (.string ⟨(digN z.toNat).toArray⟩) ∧ Below w.heap.size w w' := by
  have c1 : (z == -9223372036854775808) = false := by rw [beq_eq_false_iff_ne]; omega
  have c2 : decide (z < 0) = false := decide_eq_false (by omega)
  have c3 : decide (z < 10) = true := decide_eq_true h1
  have hdz : Hid (digN z.toNat = [dig z.toNat]) := digN_small (by omega)
  have hdx : 48 + z = ((dig z.toNat).toNat : Int) := by rw [dig_nat (by omega)]; omega
  have hO := hide (own_lit2 (w := w) (e := 5) (dig z.toNat) hdx rfl)
  have hcv := conv_bytes hO.out (by simp)
  have hu := u8_wrap (x := 48 + z) (by omega) (by omega)
  have HDX := hide hdx; clear hdx
  go_enter Tryz.func20, Tryz.ntmps20
  go_wp2_with (refine wpList_conv rfl _ 53 _ rfl _ _ rfl hcv ?_)
  go_ret
  exact ⟨by rw [hdz.out]; rfl, (Below.refl w.heap.size w).alloc (Nat.le_refl _) _⟩
set_option maxHeartbeats 8000000 in
theorem digits_big {m : Nat} (IH : DG m) {z : Int} {w : World} (h0 : 10 ≤ z) (hm : z ≤ (m + 1 : Nat)) (h1 : z ≤ 1000000000) : Calls Tryz.prog 20 #[.int .i64 z] w fun e w' => e = .returned (.string ⟨(digN z.toNat).toArray⟩) ∧ Below w.heap.size w w' := by
  have c1 : (z == -9223372036854775808) = false := by rw [beq_eq_false_iff_ne]; omega
  have c2 : decide (z < 0) = false := decide_eq_false (by omega)
  have c3 : decide (z < 10) = false := decide_eq_false (by omega)
  have hq : z.tdiv 10 = z / 10 := Int.tdiv_eq_ediv_of_nonneg (by omega)
  have hr : z.tmod 10 = z % 10 := Int.tmod_eq_emod_of_nonneg (by omega)
  have hqb : 0 ≤ z.tdiv 10 ∧ z.tdiv 10 ≤ 1000000000 := by rw [hq]; omega
  have hqm : z.tdiv 10 ≤ (m : Int) := by rw [hq]; omega
  have hrb : 0 ≤ z.tmod 10 ∧ z.tmod 10 ≤ 9 := by rw [hr]; omega
  have hdz : Hid (digN z.toNat = digN (z.tdiv 10).toNat ++ [dig (z.tmod 10).toNat]) := by show _ = _; rw [digN_big (by omega), hq, hr, show (z / 10).toNat = z.toNat / 10 by omega, show (z % 10).toNat = z.toNat % 10 by omega]
  have hdx : Hid (48 + z.tmod 10 = ((dig (z.tmod 10).toNat).toNat : Int)) := by show _ = _; rw [dig_nat (by omega)]; omega
  have hu := u8_wrap (x := 48 + z.tmod 10) (by omega) (by omega)
  have hwq : IntKind.i64.wrap (z.tdiv 10) = z.tdiv 10 := by simp [IntKind.wrap, IntKind.bits, IntKind.signed]; omega
  have hw48 : IntKind.i64.wrap (48 + z.tmod 10) = 48 + z.tmod 10 := by simp [IntKind.wrap, IntKind.bits, IntKind.signed]; omega
  have hlen : (9223372036854775807 < (digN (z.tdiv 10).toNat).length + 1) = False := by have := digN_len (z.tdiv 10).toNat; simp; omega
  have hba := hide (bytes_add (digN (z.tdiv 10).toNat) [dig (z.tmod 10).toNat])
  have HR2 := hide hr; clear hq hr
  go_enter Tryz.func20, Tryz.ntmps20
  go_wp2_with fail
  refine wp_region_tail (fun _ => True) 10 (by kernel_rfl) (by decide) (show _ from True.intro) (fun hHeld => ?_)
  refine wpT_take (i := 0) rfl (by kernel_rfl) (fun _ _ _ h => h) (Or.inl ⟨by rfl, fun w hSw => by (try dsimp only at hSw); first | (go_simp; done) | (go_simp; with_reducible rfl)⟩) (by assumption) ?_
  (try simp only [Act.put, List.setIfInBounds_toArray, List.set_cons_zero, List.set_cons_succ])
  refine wpT_take (i := 1) rfl (by kernel_rfl) (fun _ _ _ h => h) (Or.inl ⟨by rfl, fun w hSw => by (try dsimp only at hSw); first | (go_simp; done) | (go_simp; with_reducible rfl)⟩) (by assumption) ?_
  (try simp only [Act.put, List.setIfInBounds_toArray, List.set_cons_zero, List.set_cons_succ])
  refine wpT_take (i := 3) rfl (by kernel_rfl) (fun _ _ _ h => h) (Or.inl ⟨by rfl, fun w hSw => by (try dsimp only at hSw); first | (go_simp; done) | (go_simp; with_reducible rfl)⟩) (by assumption) ?_
  (try simp only [Act.put, List.setIfInBounds_toArray, List.set_cons_zero, List.set_cons_succ])
  refine wpT_take (i := 4) rfl (by kernel_rfl) (fun _ _ _ h => h) (Or.inl ⟨by rfl, fun w hSw => by (try dsimp only at hSw); first | (go_simp; done) | (go_simp; with_reducible rfl)⟩) (by assumption) ?_
  (try simp only [Act.put, List.setIfInBounds_toArray, List.set_cons_zero, List.set_cons_succ])
  refine wpT_take (i := 5) rfl (by kernel_rfl) (fun _ _ _ h => h) (Or.inl ⟨by rfl, fun w hSw => by (try dsimp only at hSw); first | (go_simp; done) | (go_simp; with_reducible rfl)⟩) (by assumption) ?_
  (try simp only [Act.put, List.setIfInBounds_toArray, List.set_cons_zero, List.set_cons_succ])
  refine wpT_take (i := 6) rfl (by kernel_rfl) (fun _ _ _ h => h) (Or.inl ⟨by rfl, fun w hSw => by (try dsimp only at hSw); first | (go_simp; done) | (go_simp; with_reducible rfl)⟩) (by assumption) ?_
  (try simp only [Act.put, List.setIfInBounds_toArray, List.set_cons_zero, List.set_cons_succ])
  have hw0 : Below w.heap.size w (World.drew w) := (Below.refl _ _).drew
  refine wpT_two (i := 2) (j := 7) rfl rfl (by kernel_rfl) (fun K hK => ?_) (fun K hK => ?_)
  · have hz := True.intro
    go_simp; (try simp only [hwq, hw48, hu]); go_at_call 20; (try simp only [hwq, hw48, hu]); refine (IH hqb.1 hqm hqb.2).mono ?_; rintro e w1 ⟨rfl, hb1⟩; have hw1 := hw0.trans (hb1.mono (hw0).size)
    clear hHeld; refine hK.out _ _ (show _ from True.intro) (fun hHeld => ?_); clear hK K
    (try simp only [Act.put, List.setIfInBounds_toArray, List.set_cons_zero, List.set_cons_succ])
    refine wpT_one (i := 7) rfl (by kernel_rfl) (fun K hK => ?_)
    have hO := hide (own_lit2 (w := w1) (n := w1.heap.size) (e := 5) (dig (z.tmod 10).toNat) hdx.out rfl)
    go_simp; (try simp only [hwq, hw48, hu])
    clear hHeld; refine hK.out _ (w1.alloc (.cells #[.int .u8 (48 + z.tmod 10)] 5)) (show _ from True.intro) (fun hHeld => ?_); clear hK K
    (try simp only [Act.put, List.setIfInBounds_toArray, List.set_cons_zero, List.set_cons_succ])
    have hcv := conv_bytes hO.out (by simp)
    refine wpT_one (i := 8) rfl (by kernel_rfl) (fun K hK => ?_)
    go_simp; (try (rw [hcv]; go_simp))
    clear hHeld; refine hK.out _ _ (show _ from True.intro) (fun hHeld => ?_); clear hK K
    (try simp only [Act.put, List.setIfInBounds_toArray, List.set_cons_zero, List.set_cons_succ])
    refine wpT_take (i := 9) rfl (by kernel_rfl) (fun _ _ _ h => h) (Or.inl ⟨by rfl, fun w hSw => by (try dsimp only at hSw); first | (go_simp; done) | (go_simp; with_reducible rfl)⟩) (by assumption) ?_
    (try simp only [Act.put, List.setIfInBounds_toArray, List.set_cons_zero, List.set_cons_succ])
    refine wpT_done (by kernel_rfl) ?_
    simp only [List.drop_succ_cons, List.drop_zero]
    clear hHeld
    go_wp2_with fail
    go_ret
    exact ⟨by rw [hdz.out, ← hba.out]; first | rfl | (rw [HR2.out]; rfl), (hw1.alloc hw1.size _)⟩
  · have hz := True.intro
    have hO := hide (own_lit2 (w := (World.drew w)) (n := w.heap.size) (e := 5) (dig (z.tmod 10).toNat) hdx.out rfl)
    go_simp; (try simp only [hwq, hw48, hu])
    clear hHeld; refine hK.out _ ((World.drew w).alloc (.cells #[.int .u8 (48 + z.tmod 10)] 5)) (show _ from True.intro) (fun hHeld => ?_); clear hK K
    (try simp only [Act.put, List.setIfInBounds_toArray, List.set_cons_zero, List.set_cons_succ])
    have hwa := hw0.alloc (Nat.le_refl _) (.cells #[.int .u8 (48 + z.tmod 10)] 5)
    refine wpT_two (i := 2) (j := 8) rfl rfl (by kernel_rfl) (fun K hK => ?_) (fun K hK => ?_)
    · have hz := True.intro
      go_simp; (try simp only [hwq, hw48, hu]); go_at_call 20; (try simp only [hwq, hw48, hu]); refine (IH hqb.1 hqm hqb.2).mono ?_; rintro e w1 ⟨rfl, hb1⟩; have hw1 := hwa.trans (hb1.mono (hwa).size)
      clear hHeld; refine hK.out _ _ (show _ from True.intro) (fun hHeld => ?_); clear hK K
      (try simp only [Act.put, List.setIfInBounds_toArray, List.set_cons_zero, List.set_cons_succ])
      have hcv := conv_bytes (hO.out.below ByR.good hb1) (by simp)
      refine wpT_one (i := 8) rfl (by kernel_rfl) (fun K hK => ?_)
      go_simp; (try (rw [hcv]; go_simp))
      clear hHeld; refine hK.out _ _ (show _ from True.intro) (fun hHeld => ?_); clear hK K
      (try simp only [Act.put, List.setIfInBounds_toArray, List.set_cons_zero, List.set_cons_succ])
      refine wpT_take (i := 9) rfl (by kernel_rfl) (fun _ _ _ h => h) (Or.inl ⟨by rfl, fun w hSw => by (try dsimp only at hSw); first | (go_simp; done) | (go_simp; with_reducible rfl)⟩) (by assumption) ?_
      (try simp only [Act.put, List.setIfInBounds_toArray, List.set_cons_zero, List.set_cons_succ])
      refine wpT_done (by kernel_rfl) ?_
      simp only [List.drop_succ_cons, List.drop_zero]
      clear hHeld
      go_wp2_with fail
      go_ret
      exact ⟨by rw [hdz.out, ← hba.out]; first | rfl | (rw [HR2.out]; rfl), hw1⟩
    · have hcv := conv_bytes (show Own 1 ByR 5 (World.drew w).heap.size ((w.alloc (.cells #[.int .u8 (48 + z.tmod 10)] 5)).drew) (.slice (some ⟨w.heap.size, 0, none⟩) 1 1) [dig (z.tmod 10).toNat] from hO.out) (by simp)
      go_simp; (try (rw [hcv]; go_simp))
      clear hHeld; refine hK.out _ _ (show _ from True.intro) (fun hHeld => ?_); clear hK K
      (try simp only [Act.put, List.setIfInBounds_toArray, List.set_cons_zero, List.set_cons_succ])
      refine wpT_one (i := 2) rfl (by kernel_rfl) (fun K hK => ?_)
      go_simp; (try simp only [hwq, hw48, hu]); go_at_call 20; (try simp only [hwq, hw48, hu]); refine (IH hqb.1 hqm hqb.2).mono ?_; rintro e w1 ⟨rfl, hb1⟩; have hw1 := hwa.trans (hb1.mono (hwa).size)
      clear hHeld; refine hK.out _ _ (show _ from True.intro) (fun hHeld => ?_); clear hK K
      (try simp only [Act.put, List.setIfInBounds_toArray, List.set_cons_zero, List.set_cons_succ])
      refine wpT_take (i := 9) rfl (by kernel_rfl) (fun _ _ _ h => h) (Or.inl ⟨by rfl, fun w hSw => by (try dsimp only at hSw); first | (go_simp; done) | (go_simp; with_reducible rfl)⟩) (by assumption) ?_
      (try simp only [Act.put, List.setIfInBounds_toArray, List.set_cons_zero, List.set_cons_succ])
      refine wpT_done (by kernel_rfl) ?_
      simp only [List.drop_succ_cons, List.drop_zero]
      clear hHeld
      go_wp2_with fail
      go_ret
      exact ⟨by rw [hdz.out, ← hba.out]; first | rfl | (rw [HR2.out]; rfl), hw1⟩
theorem digN_step {m : Nat} (IH : DG m) {z : Int} {w : World} (h0 : 0 ≤ z) (hm : z ≤ (m + 1 : Nat)) (h1 : z ≤ 1000000000) : Calls Tryz.prog 20 #[.int .i64 z] w fun e w' => e = .returned (.string ⟨(digN z.toNat).toArray⟩) ∧ Below w.heap.size w w' := by
  by_cases h : z < 10
  · exact digits_small h0 h
  · exact digits_big IH (by omega) hm h1
theorem spec_digN : ∀ m, DG m
  | 0 => fun h0 hm _ => digits_small h0 (by omega)
  | m + 1 => digN_step (spec_digN m)
set_option maxHeartbeats 4000000 in
theorem spec_l00Digits {z : Int} {w : World} (h0 : -1000000000 ≤ z) (h1 : z ≤ 1000000000) : Calls Tryz.prog 20 #[.int .i64 z] w fun e w' => e = .returned (.string ⟨(digI z).toArray⟩) ∧ Below w.heap.size w w' := by
  by_cases hz : z < 0
  · have hc := spec_digN 1000000000 (z := -z) (w := w) (by omega) (by omega) (by omega)
    have HC := hide hc; clear hc
    have hlen : (9223372036854775807 < 1 + (digN (-z).toNat).length) = False := by have := digN_len (-z).toNat; simp; omega
    have c1 : (z == -9223372036854775808) = false := by rw [beq_eq_false_iff_ne]; omega
    have c2 : decide (z < 0) = true := decide_eq_true hz
    have hr : Hid ((⟨#[45]⟩ : ByteArray) ++ ⟨(digN (-z).toNat).toArray⟩ = ⟨(digI z).toArray⟩) := by show _ = _; unfold digI; rw [if_pos hz]; exact bytes_add [45] _
    go_enter Tryz.func20, Tryz.ntmps20
    go_wp2_with fail
    refine HC.out.mono ?_; rintro e w1 ⟨rfl, hb1⟩
    go_wp2_with fail
    go_ret
    exact ⟨by rw [← hr.out]; rfl, hb1⟩
  · have hr : digI z = digN z.toNat := by unfold digI; rw [if_neg hz]
    rw [hr]
    exact spec_digN 1000000000 (by omega) (by omega) (by omega)
end Go.Proofs.YtdleccpjejdgiaaGreatDoor
