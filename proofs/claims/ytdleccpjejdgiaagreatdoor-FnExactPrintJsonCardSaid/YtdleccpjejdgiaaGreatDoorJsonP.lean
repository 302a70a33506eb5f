/- What is right of a value but for its items. No statement is proved here; no conditions. Written by a program (gen34.py). -/
import Derived.Test.YtdleccpjejdgiaaGreatDoorJson
import Derived.Test.YtdleccpjejdgiaaGreatDoorTables
namespace Go.Proofs.YtdleccpjejdgiaaGreatDoor
open Go.ChangeShapes Go.WideShapes Go.ChangeAt Go.RowKit Go.Deep
set_option maxRecDepth 100000
set_option linter.unusedVariables false
set_option linter.unusedSimpArgs false

def keyStep (ks : List ByteArray) (i : Nat) : Bool := plainB (ks.getD i default) && (decide (i = 0) || Op.bytesLess (ks.getD (i - 1) default).toList (ks.getD i default).toList)
def keysOK (ks : List ByteArray) : Bool := upTo (keyStep ks) ks.length
def partOK (a : Json) : Bool :=
  cond (a.kind == 0) ((a.n == 0) && (a.t.toList.isEmpty && (((a.keys.length : Int) == 0) && ((a.items.length : Int) == 0))))
  (cond (a.kind == 1) (inB a.n 0 1 && (a.t.toList.isEmpty && (((a.keys.length : Int) == 0) && ((a.items.length : Int) == 0))))
  (cond (a.kind == 2) (inB a.n (-1000000000) 1000000000 && (a.t.toList.isEmpty && (((a.keys.length : Int) == 0) && ((a.items.length : Int) == 0))))
  (cond (a.kind == 3) ((a.n == 0) && (plainB a.t && (((a.keys.length : Int) == 0) && ((a.items.length : Int) == 0))))
  (cond (a.kind == 4) ((a.n == 0) && (a.t.toList.isEmpty && ((a.keys.length : Int) == 0)))
  (cond (a.kind == 5) ((a.n == 0) && (a.t.toList.isEmpty && (((a.keys.length : Int) == (a.items.length : Int)) && keysOK a.keys))) false)))))
theorem keyStep_at {ks : List ByteArray} {k : Nat} (h : k < ks.length) : keyStep ks k = (plainB ks[k] && (decide (k = 0) || Op.bytesLess (ks.getD (k - 1) default).toList ks[k].toList)) := by unfold keyStep; rw [get_at _ k h]
set_option maxHeartbeats 4000000 in
theorem impl_areKeys {w : World}  {bs_l : List Nat} {v_l : Value} {l : List ByteArray} (H_l : StringSR w bs_l [v_l] l)  :
    Calls Tryz.prog 40 #[v_l] w (fun e w' => e = .returned (.bool (keysOK l)) ∧ Below w.heap.size w w') := by
  have H0_l := H_l
  obtain ⟨A_l, c_l, rfl, hlc_l, hcm_l, hel_l⟩ := H_l.use
  go_enter Tryz.func40, Tryz.ntmps40
  go_wp2_with fail
  go_loopw [7] (fun i wr => ∃ k : Nat, k ≤ l.length ∧ i = .int .i64 k ∧ Hid (upTo (keyStep l) k = true) ∧ Below (World.heap (w)).size (w) wr) (fun i _ => l.length - (intOf i).toNat)
  case atStart => exact ⟨0, Nat.zero_le _, rfl, upTo_zero _, Below.refl _ _⟩
  case round =>
    obtain ⟨k1, hk1, rfl, hn1_, hb1001⟩ := hrel
    obtain ⟨wl1, rfl⟩ : ∃ w' : World, w' = wr := ⟨_, rfl⟩
    have hwl1 := nxt (Below.refl w.heap.size w) hb1001
    by_cases hlt1 : k1 < l.length
    · have hks := hide (keyStep_at hlt1)
      obtain ⟨gb, go, gbk, ges, rfl, ghbl, ghcl, ghcell, gR, ghbk⟩ := hel_l k1 hlt1
      obtain ⟨_, ghes, gsz⟩ := gR; subst ghes
      have g_0 := (hwl1.cell (p := ⟨gb, _, none⟩) ghbl).trans (ghcell 0 _ rfl)
      simp only [Nat.add_zero, Nat.mul_one] at g_0
      go_wp2_with fail
      refine (impl_isPlain _ _ gsz).mono ?_; rintro e w9 ⟨rfl, rfl⟩
      cases h5 : plainB l[k1]
      · have hr : Hid (keysOK l = false) := by show _ = _; exact upTo_bad hlt1 (hks.out.trans (by rw [h5]; rfl))
        clear h5 hel_l
        go_wp2_with fail
        go_ret
        exact ⟨ret_bool (by rw [hr.out]), hwl1⟩
      by_cases hj0 : k1 = 0
      · have hz : decide (k1 = 0) = true := decide_eq_true hj0; have hd0 : decide (0 < k1) = false := decide_eq_false (by omega)
        have hn2 : Hid (upTo (keyStep l) (k1 + 1) = true) := by show _ = _; rw [upTo_succ, hn1_.out, hks.out, h5, hz]; rfl
        clear hz hel_l hd0; subst hj0; simp only [Nat.zero_mul, Nat.add_zero] at g_0
        go_wp2_with fail
        go_roundw
        case rel => exact ⟨1, by omega, rfl, hn2, hb1001⟩
        case measure => simp [intOf]; omega
      have hz : decide (k1 = 0) = false := decide_eq_false hj0; have hd0 : decide (0 < k1) = true := decide_eq_true (by omega)
      have hjm : k1 - 1 < l.length := (by omega); have hj1 : 1 ≤ k1 := (by omega)
      have hpr : l.getD (k1 - 1) default = l[k1 - 1] := get_at _ _ hjm
      obtain ⟨sb, so, sbk, ses, shA, shbl, shcl, shcell, sR, shbk⟩ := hel_l (k1 - 1) hjm
      cases shA; obtain ⟨_, shes, ssz⟩ := sR; subst shes
      have s_0 := (hwl1.cell (p := ⟨gb, _, none⟩) shbl).trans (shcell 0 _ rfl); simp only [Nat.add_zero, Nat.mul_one] at s_0; clear hel_l shcell
      cases h7 : Op.bytesLess l[k1 - 1].toList l[k1].toList
      · have hr : Hid (keysOK l = false) := by show _ = _; exact upTo_bad hlt1 (hks.out.trans (by rw [h5, hz, hpr, h7]; rfl))
        have h8 : (!Op.bytesLess l[k1 - 1].toList l[k1].toList) = true := by rw [h7]; rfl
        clear h5 hz hpr
        go_wp2_with fail
        go_ret
        exact ⟨ret_bool (by rw [hr.out]), hwl1⟩
      have hn2 : Hid (upTo (keyStep l) (k1 + 1) = true) := by show _ = _; rw [upTo_succ, hn1_.out, hks.out, h5, hz, hpr, h7]; rfl
      have h8 : (!Op.bytesLess l[k1 - 1].toList l[k1].toList) = false := by rw [h7]; rfl
      clear h5 hz hpr hj0
      go_wp2_with fail
      go_roundw
      case rel => exact ⟨k1 + 1, hlt1, by go_num, hn2, hb1001⟩
      case measure => simp [intOf]; omega
    · obtain rfl : k1 = l.length := by omega
      have hr : Hid (keysOK l = true) := hn1_.out; clear hel_l
      go_wp2
      go_ret
      exact ⟨ret_bool (by rw [hr.out]), hwl1⟩
set_option maxHeartbeats 16000000 in
theorem impl_partOK {w : World}  {bs_a : List Nat} {cs_a : List Value} {a : Json} (H_a : JsonR w bs_a cs_a a)  :
    Calls Tryz.prog 28 #[.agg cs_a.toArray] w (fun e w' => e = .returned (.bool (partOK a)) ∧ Below w.heap.size w w') := by
  have H0_a := H_a
  obtain ⟨a_v3, a_b3, a_v4, a_b4, rfl, rfl, hf_a, a_r3, a_r4⟩ := H_a.open
  obtain ⟨A_a3, c_a3, rfl, hlc_a3, hcm_a3, hel_a3⟩ := a_r3.use
  obtain ⟨A_a4, c_a4, rfl, hlc_a4, hcm_a4, hel_a4⟩ := a_r4.use
  have hbx := ((Below.refl w.heap.size w).alloc (Nat.le_refl _) (.cells #[.int .i64 a.kind, .int .i64 a.n, .string a.t, .slice A_a3 a.keys.length c_a3, .slice A_a4 a.items.length c_a4] 31))
  have q_a := blk_cells (blk_new w #[.int .i64 a.kind, .int .i64 a.n, .string a.t, .slice A_a3 a.keys.length c_a3, .slice A_a4 a.items.length c_a4] 31)
  have hsz : a.t.size ≤ 9223372036854775807 := hf_a.2.2; clear hf_a hel_a3 hel_a4
  by_cases e0 : a.kind = 0
  · have k0 : (a.kind == 0) = true := by rw [e0]; rfl
    clear e0
    cases h0 : (a.n == 0)
    · have hr : Hid (partOK a = false) := by show _ = _; unfold partOK; rw [k0, h0]; rfl
      go_enter Tryz.func28, Tryz.ntmps28
      go_wp2_with fail
      go_ret
      exact ⟨ret_bool (by rw [hr.out]), hbx⟩
    cases h1 : (a.t.toList.isEmpty)
    · have hr : Hid (partOK a = false) := by show _ = _; unfold partOK; rw [k0, h0, h1]; rfl
      go_enter Tryz.func28, Tryz.ntmps28
      go_wp2_with fail
      go_ret
      exact ⟨ret_bool (by rw [hr.out]), hbx⟩
    cases h2 : ((a.keys.length : Int) == 0)
    · have hr : Hid (partOK a = false) := by show _ = _; unfold partOK; rw [k0, h0, h1, h2]; rfl
      go_enter Tryz.func28, Tryz.ntmps28
      go_wp2_with fail
      go_ret
      exact ⟨ret_bool (by rw [hr.out]), hbx⟩
    cases h3 : ((a.items.length : Int) == 0)
    · have hr : Hid (partOK a = false) := by show _ = _; unfold partOK; rw [k0, h0, h1, h2, h3]; rfl
      go_enter Tryz.func28, Tryz.ntmps28
      go_wp2_with fail
      go_ret
      exact ⟨ret_bool (by rw [hr.out]), hbx⟩
    have hr : Hid (partOK a = true) := by show _ = _; unfold partOK; rw [k0, h0, h1, h2, h3]; rfl
    go_enter Tryz.func28, Tryz.ntmps28
    go_wp2_with fail
    go_ret
    exact ⟨ret_bool (by rw [hr.out]), hbx⟩
  have k0 : (a.kind == 0) = false := by simpa using e0
  clear e0
  by_cases e1 : a.kind = 1
  · have k1 : (a.kind == 1) = true := by rw [e1]; rfl
    clear e1
    cases h0 : (inB a.n 0 1)
    · have hr : Hid (partOK a = false) := by show _ = _; unfold partOK; rw [k0, k1, h0]; rfl
      go_enter Tryz.func28, Tryz.ntmps28
      go_wp2_with fail
      refine (impl_within _ _ _ _).mono ?_; rintro e w1 ⟨rfl, rfl⟩
      go_wp2_with fail
      go_ret
      exact ⟨ret_bool (by rw [hr.out]), hbx⟩
    cases h1 : (a.t.toList.isEmpty)
    · have hr : Hid (partOK a = false) := by show _ = _; unfold partOK; rw [k0, k1, h0, h1]; rfl
      go_enter Tryz.func28, Tryz.ntmps28
      go_wp2_with fail
      refine (impl_within _ _ _ _).mono ?_; rintro e w1 ⟨rfl, rfl⟩
      go_wp2_with fail
      go_ret
      exact ⟨ret_bool (by rw [hr.out]), hbx⟩
    cases h2 : ((a.keys.length : Int) == 0)
    · have hr : Hid (partOK a = false) := by show _ = _; unfold partOK; rw [k0, k1, h0, h1, h2]; rfl
      go_enter Tryz.func28, Tryz.ntmps28
      go_wp2_with fail
      refine (impl_within _ _ _ _).mono ?_; rintro e w1 ⟨rfl, rfl⟩
      go_wp2_with fail
      go_ret
      exact ⟨ret_bool (by rw [hr.out]), hbx⟩
    cases h3 : ((a.items.length : Int) == 0)
    · have hr : Hid (partOK a = false) := by show _ = _; unfold partOK; rw [k0, k1, h0, h1, h2, h3]; rfl
      go_enter Tryz.func28, Tryz.ntmps28
      go_wp2_with fail
      refine (impl_within _ _ _ _).mono ?_; rintro e w1 ⟨rfl, rfl⟩
      go_wp2_with fail
      go_ret
      exact ⟨ret_bool (by rw [hr.out]), hbx⟩
    have hr : Hid (partOK a = true) := by show _ = _; unfold partOK; rw [k0, k1, h0, h1, h2, h3]; rfl
    go_enter Tryz.func28, Tryz.ntmps28
    go_wp2_with fail
    refine (impl_within _ _ _ _).mono ?_; rintro e w1 ⟨rfl, rfl⟩
    go_wp2_with fail
    go_ret
    exact ⟨ret_bool (by rw [hr.out]), hbx⟩
  have k1 : (a.kind == 1) = false := by simpa using e1
  clear e1
  by_cases e2 : a.kind = 2
  · have k2 : (a.kind == 2) = true := by rw [e2]; rfl
    clear e2
    cases h0 : (inB a.n (-1000000000) 1000000000)
    · have hr : Hid (partOK a = false) := by show _ = _; unfold partOK; rw [k0, k1, k2, h0]; rfl
      go_enter Tryz.func28, Tryz.ntmps28
      go_wp2_with fail
      refine (impl_isNumber _ _).mono ?_; rintro e w1 ⟨rfl, rfl⟩
      go_wp2_with fail
      go_ret
      exact ⟨ret_bool (by rw [hr.out]), hbx⟩
    cases h1 : (a.t.toList.isEmpty)
    · have hr : Hid (partOK a = false) := by show _ = _; unfold partOK; rw [k0, k1, k2, h0, h1]; rfl
      go_enter Tryz.func28, Tryz.ntmps28
      go_wp2_with fail
      refine (impl_isNumber _ _).mono ?_; rintro e w1 ⟨rfl, rfl⟩
      go_wp2_with fail
      go_ret
      exact ⟨ret_bool (by rw [hr.out]), hbx⟩
    cases h2 : ((a.keys.length : Int) == 0)
    · have hr : Hid (partOK a = false) := by show _ = _; unfold partOK; rw [k0, k1, k2, h0, h1, h2]; rfl
      go_enter Tryz.func28, Tryz.ntmps28
      go_wp2_with fail
      refine (impl_isNumber _ _).mono ?_; rintro e w1 ⟨rfl, rfl⟩
      go_wp2_with fail
      go_ret
      exact ⟨ret_bool (by rw [hr.out]), hbx⟩
    cases h3 : ((a.items.length : Int) == 0)
    · have hr : Hid (partOK a = false) := by show _ = _; unfold partOK; rw [k0, k1, k2, h0, h1, h2, h3]; rfl
      go_enter Tryz.func28, Tryz.ntmps28
      go_wp2_with fail
      refine (impl_isNumber _ _).mono ?_; rintro e w1 ⟨rfl, rfl⟩
      go_wp2_with fail
      go_ret
      exact ⟨ret_bool (by rw [hr.out]), hbx⟩
    have hr : Hid (partOK a = true) := by show _ = _; unfold partOK; rw [k0, k1, k2, h0, h1, h2, h3]; rfl
    go_enter Tryz.func28, Tryz.ntmps28
    go_wp2_with fail
    refine (impl_isNumber _ _).mono ?_; rintro e w1 ⟨rfl, rfl⟩
    go_wp2_with fail
    go_ret
    exact ⟨ret_bool (by rw [hr.out]), hbx⟩
  have k2 : (a.kind == 2) = false := by simpa using e2
  clear e2
  by_cases e3 : a.kind = 3
  · have k3 : (a.kind == 3) = true := by rw [e3]; rfl
    clear e3
    cases h0 : (a.n == 0)
    · have hr : Hid (partOK a = false) := by show _ = _; unfold partOK; rw [k0, k1, k2, k3, h0]; rfl
      go_enter Tryz.func28, Tryz.ntmps28
      go_wp2_with fail
      go_ret
      exact ⟨ret_bool (by rw [hr.out]), hbx⟩
    cases h1 : (plainB a.t)
    · have hr : Hid (partOK a = false) := by show _ = _; unfold partOK; rw [k0, k1, k2, k3, h0, h1]; rfl
      go_enter Tryz.func28, Tryz.ntmps28
      go_wp2_with fail
      refine (impl_isPlain _ _ hsz).mono ?_; rintro e w1 ⟨rfl, rfl⟩
      go_wp2_with fail
      go_ret
      exact ⟨ret_bool (by rw [hr.out]), hbx⟩
    cases h2 : ((a.keys.length : Int) == 0)
    · have hr : Hid (partOK a = false) := by show _ = _; unfold partOK; rw [k0, k1, k2, k3, h0, h1, h2]; rfl
      go_enter Tryz.func28, Tryz.ntmps28
      go_wp2_with fail
      refine (impl_isPlain _ _ hsz).mono ?_; rintro e w1 ⟨rfl, rfl⟩
      go_wp2_with fail
      go_ret
      exact ⟨ret_bool (by rw [hr.out]), hbx⟩
    cases h3 : ((a.items.length : Int) == 0)
    · have hr : Hid (partOK a = false) := by show _ = _; unfold partOK; rw [k0, k1, k2, k3, h0, h1, h2, h3]; rfl
      go_enter Tryz.func28, Tryz.ntmps28
      go_wp2_with fail
      refine (impl_isPlain _ _ hsz).mono ?_; rintro e w1 ⟨rfl, rfl⟩
      go_wp2_with fail
      go_ret
      exact ⟨ret_bool (by rw [hr.out]), hbx⟩
    have hr : Hid (partOK a = true) := by show _ = _; unfold partOK; rw [k0, k1, k2, k3, h0, h1, h2, h3]; rfl
    go_enter Tryz.func28, Tryz.ntmps28
    go_wp2_with fail
    refine (impl_isPlain _ _ hsz).mono ?_; rintro e w1 ⟨rfl, rfl⟩
    go_wp2_with fail
    go_ret
    exact ⟨ret_bool (by rw [hr.out]), hbx⟩
  have k3 : (a.kind == 3) = false := by simpa using e3
  clear e3
  by_cases e4 : a.kind = 4
  · have k4 : (a.kind == 4) = true := by rw [e4]; rfl
    clear e4
    cases h0 : (a.n == 0)
    · have hr : Hid (partOK a = false) := by show _ = _; unfold partOK; rw [k0, k1, k2, k3, k4, h0]; rfl
      go_enter Tryz.func28, Tryz.ntmps28
      go_wp2_with fail
      go_ret
      exact ⟨ret_bool (by rw [hr.out]), hbx⟩
    cases h1 : (a.t.toList.isEmpty)
    · have hr : Hid (partOK a = false) := by show _ = _; unfold partOK; rw [k0, k1, k2, k3, k4, h0, h1]; rfl
      go_enter Tryz.func28, Tryz.ntmps28
      go_wp2_with fail
      go_ret
      exact ⟨ret_bool (by rw [hr.out]), hbx⟩
    cases h2 : ((a.keys.length : Int) == 0)
    · have hr : Hid (partOK a = false) := by show _ = _; unfold partOK; rw [k0, k1, k2, k3, k4, h0, h1, h2]; rfl
      go_enter Tryz.func28, Tryz.ntmps28
      go_wp2_with fail
      go_ret
      exact ⟨ret_bool (by rw [hr.out]), hbx⟩
    have hr : Hid (partOK a = true) := by show _ = _; unfold partOK; rw [k0, k1, k2, k3, k4, h0, h1, h2]; rfl
    go_enter Tryz.func28, Tryz.ntmps28
    go_wp2_with fail
    go_ret
    exact ⟨ret_bool (by rw [hr.out]), hbx⟩
  have k4 : (a.kind == 4) = false := by simpa using e4
  clear e4
  by_cases e5 : a.kind = 5
  · have k5 : (a.kind == 5) = true := by rw [e5]; rfl
    clear e5
    cases h0 : (a.n == 0)
    · have hr : Hid (partOK a = false) := by show _ = _; unfold partOK; rw [k0, k1, k2, k3, k4, k5, h0]; rfl
      go_enter Tryz.func28, Tryz.ntmps28
      go_wp2_with fail
      go_ret
      exact ⟨ret_bool (by rw [hr.out]), hbx⟩
    cases h1 : (a.t.toList.isEmpty)
    · have hr : Hid (partOK a = false) := by show _ = _; unfold partOK; rw [k0, k1, k2, k3, k4, k5, h0, h1]; rfl
      go_enter Tryz.func28, Tryz.ntmps28
      go_wp2_with fail
      go_ret
      exact ⟨ret_bool (by rw [hr.out]), hbx⟩
    cases h2 : ((a.keys.length : Int) == (a.items.length : Int))
    · have hr : Hid (partOK a = false) := by show _ = _; unfold partOK; rw [k0, k1, k2, k3, k4, k5, h0, h1, h2]; rfl
      go_enter Tryz.func28, Tryz.ntmps28
      go_wp2_with fail
      go_ret
      exact ⟨ret_bool (by rw [hr.out]), hbx⟩
    cases h3 : (keysOK a.keys)
    · have hr : Hid (partOK a = false) := by show _ = _; unfold partOK; rw [k0, k1, k2, k3, k4, k5, h0, h1, h2, h3]; rfl
      go_enter Tryz.func28, Tryz.ntmps28
      go_wp2_with fail
      refine (impl_areKeys (StringSR.good.nxt hbx a_r3)).mono ?_; rintro e w1 ⟨rfl, hb1⟩; replace q_a := box_on q_a rfl hb1; have hw1 := nxt hbx hb1
      go_wp2_with fail
      go_ret
      exact ⟨ret_bool (by rw [hr.out]), hw1⟩
    have hr : Hid (partOK a = true) := by show _ = _; unfold partOK; rw [k0, k1, k2, k3, k4, k5, h0, h1, h2, h3]; rfl
    go_enter Tryz.func28, Tryz.ntmps28
    go_wp2_with fail
    refine (impl_areKeys (StringSR.good.nxt hbx a_r3)).mono ?_; rintro e w1 ⟨rfl, hb1⟩; replace q_a := box_on q_a rfl hb1; have hw1 := nxt hbx hb1
    go_wp2_with fail
    go_ret
    exact ⟨ret_bool (by rw [hr.out]), hw1⟩
  have k5 : (a.kind == 5) = false := by simpa using e5
  clear e5
  have hr : Hid (partOK a = false) := by show _ = _; unfold partOK; rw [k0, k1, k2, k3, k4, k5]; rfl
  go_enter Tryz.func28, Tryz.ntmps28
  go_wp2_with fail
  go_ret
  exact ⟨ret_bool (by rw [hr.out]), hbx⟩
end Go.Proofs.YtdleccpjejdgiaaGreatDoor
