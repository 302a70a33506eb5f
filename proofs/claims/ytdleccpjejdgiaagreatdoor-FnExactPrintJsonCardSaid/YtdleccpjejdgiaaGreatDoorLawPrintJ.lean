/-
  The texts PrintI6, PrintT, LawsPj, LawPrintJson as one: no condition but those that each names. Put together by a program (merge.py).
-/
import Derived.Test.YtdleccpjejdgiaaGreatDoorPrintJ1
import Derived.Test.YtdleccpjejdgiaaGreatDoorPrintJ2
import Derived.Test.YtdleccpjejdgiaaGreatDoorJsonT
import Derived.Test.YtdleccpjejdgiaaGreatDoorBox
import Derived.Test.YtdleccpjejdgiaaGreatDoorSz
import Derived.Test.YtdleccpjejdgiaaGreatDoorTo
import Derived.Test.YtdleccpjejdgiaaGreatDoorEq
import Derived.Deep.RegionHeld3
import Derived.Test.YtdleccpjejdgiaaGreatDoorCards
import Derived.Test.YtdleccpjejdgiaaGreatDoorTie
import Derived.SevenTiedAt
import Derived.LaidMore
import Derived.Lay
import Derived.MakeChecks
import Derived.OpenShut
import Derived.Stop.Joined
import Derived.Lib.LaidTab
-- PrintI6
namespace Go.Proofs.YtdleccpjejdgiaaGreatDoor
open Go.ChangeShapes Go.WideShapes Go.ChangeAt Go.RowKit Go.Deep
set_option maxRecDepth 100000
set_option linter.unusedVariables false
set_option linter.unusedSimpArgs false

theorem impl_print_step {d : Nat} (IH : PRD d) : PRD (d + 1) := fun {w bs cs a} hT H hg h4 => by
  have hp := (good_parts hg).1
  have hk := part_kind hp
  by_cases e0 : a.kind = 0
  · exact print_k0 IH hT H e0 hg h4
  by_cases e1 : a.kind = 1
  · rcases part_bool hp e1 with hn | hn
    · exact print_k1f IH hT H e1 hg h4 hn
    · exact print_k1t IH hT H e1 hg h4 hn
  by_cases e2 : a.kind = 2
  · exact print_k2 IH hT H e2 hg h4
  by_cases e3 : a.kind = 3
  · exact print_k3 IH hT H e3 hg h4
  by_cases e4 : a.kind = 4
  · exact print_k4 IH hT H e4 hg h4
  · exact print_k5 IH hT H (by omega) hg h4
theorem impl_print : ∀ d, PRD d
  | 0 => fun _ _ hg _ => by cases hg
  | d + 1 => impl_print_step (impl_print d)
end Go.Proofs.YtdleccpjejdgiaaGreatDoor

-- PrintT
namespace Go.Proofs.YtdleccpjejdgiaaGreatDoor
open Go.ChangeShapes Go.WideShapes Go.ChangeAt Go.RowKit Go.Deep
set_option maxRecDepth 100000
set_option linter.unusedVariables false
set_option linter.unusedSimpArgs false

def printAns (a : Json) : ByteArray × Int := cond (okJ a) (⟨(prtL 12 a).toArray⟩, 0) (⟨#[]⟩, 1)
set_option maxHeartbeats 2000000 in
theorem impl_PrintJson {w : World} (hT : PT w) {bs_a : List Nat} {cs_a : List Value} {a : Json} (H_a : JsonR w bs_a cs_a a)  :
    Calls Tryz.prog 7 #[.agg cs_a.toArray] w (fun e w' => e = .returned (.tuple #[.string (printAns a).1, .int .i64 (printAns a).2]) ∧ Below w.heap.size w w') := by
  have H0_a := H_a
  obtain ⟨a_v3, a_b3, a_v4, a_b4, rfl, rfl, hf_a, a_r3, a_r4⟩ := H_a.open
  obtain ⟨A_a3, c_a3, rfl, hlc_a3, hcm_a3, hel_a3⟩ := a_r3.use
  obtain ⟨A_a4, c_a4, rfl, hlc_a4, hcm_a4, hel_a4⟩ := a_r4.use
  have hbx := ((Below.refl w.heap.size w).alloc (Nat.le_refl _) (.cells #[.int .i64 a.kind, .int .i64 a.n, .string a.t, .slice A_a3 a.keys.length c_a3, .slice A_a4 a.items.length c_a4] 31))
  have q_a := blk_cells (blk_new w #[.int .i64 a.kind, .int .i64 a.n, .string a.t, .slice A_a3 a.keys.length c_a3, .slice A_a4 a.items.length c_a4] 31)
  clear hf_a hel_a3 hel_a4
  go_enter Tryz.func7, Tryz.ntmps7
  go_wp2_with fail
  refine (impl_JsonOK (JsonR.good.nxt hbx H0_a)).mono ?_; rintro e w1 ⟨rfl, hb1⟩; replace q_a := box_on q_a rfl hb1; have hw1 := nxt hbx hb1
  cases h1 : okJ a
  · have hr : Hid (printAns a = (⟨#[]⟩, 1)) := by show _ = _; unfold printAns; rw [h1]; rfl
    clear h1
    go_wp2_with fail
    go_ret2
    exact ⟨by rw [hr.out]; rfl, hw1⟩
  have hg := okJ_good h1
  have hr : Hid (printAns a = (⟨(prtL 12 a).toArray⟩, 0)) := by show _ = _; unfold printAns; rw [h1]; rfl
  clear h1
  have HG := hide hg; clear hg
  go_wp2_with fail
  refine (impl_print 12 (hT.below hw1) (JsonR.good.nxt hw1 H0_a) HG.out.1 HG.out.2).mono ?_; rintro e w2 ⟨rfl, hb2⟩; replace q_a := box_on q_a rfl hb2; have hw2 := nxt hw1 hb2
  go_wp2_with fail
  go_ret2
  exact ⟨by rw [hr.out]; rfl, hw2⟩
set_option maxHeartbeats 2000000 in
theorem spec_PrintJson {w : World}  {bs_a : List Nat} {cs_a : List Value} {a : Json} (H_a : JsonR w bs_a cs_a a)  :
    Calls Tryz.prog 5 #[.agg cs_a.toArray] w (fun e w' => e = .returned (.tuple #[.string (printAns a).1, .int .i64 (printAns a).2]) ∧ Below w.heap.size w w') := by
  have H0_a := H_a
  obtain ⟨a_v3, a_b3, a_v4, a_b4, rfl, rfl, hf_a, a_r3, a_r4⟩ := H_a.open
  obtain ⟨A_a3, c_a3, rfl, hlc_a3, hcm_a3, hel_a3⟩ := a_r3.use
  obtain ⟨A_a4, c_a4, rfl, hlc_a4, hcm_a4, hel_a4⟩ := a_r4.use
  have hbx := ((Below.refl w.heap.size w).alloc (Nat.le_refl _) (.cells #[.int .i64 a.kind, .int .i64 a.n, .string a.t, .slice A_a3 a.keys.length c_a3, .slice A_a4 a.items.length c_a4] 31))
  have q_a := blk_cells (blk_new w #[.int .i64 a.kind, .int .i64 a.n, .string a.t, .slice A_a3 a.keys.length c_a3, .slice A_a4 a.items.length c_a4] 31)
  clear hf_a hel_a3 hel_a4
  go_enter Tryz.func5, Tryz.ntmps5
  go_wp2_with fail
  refine (spec_JsonOK (JsonR.good.nxt hbx H0_a)).mono ?_; rintro e w1 ⟨rfl, hb1⟩; replace q_a := box_on q_a rfl hb1; have hw1 := nxt hbx hb1
  cases h1 : okJ a
  · have hr : Hid (printAns a = (⟨#[]⟩, 1)) := by show _ = _; unfold printAns; rw [h1]; rfl
    clear h1
    go_wp2_with fail
    go_ret2
    exact ⟨by rw [hr.out]; rfl, hw1⟩
  have hg := okJ_good h1
  have hr : Hid (printAns a = (⟨(prtL 12 a).toArray⟩, 0)) := by show _ = _; unfold printAns; rw [h1]; rfl
  clear h1
  have HG := hide hg; clear hg
  go_wp2_with fail
  refine (spec_l01Print 12 (JsonR.good.nxt hw1 H0_a) HG.out.1 HG.out.2).mono ?_; rintro e w2 ⟨rfl, hb2⟩; replace q_a := box_on q_a rfl hb2; have hw2 := nxt hw1 hb2
  go_wp2_with fail
  go_ret2
  exact ⟨by rw [hr.out]; rfl, hw2⟩
end Go.Proofs.YtdleccpjejdgiaaGreatDoor

-- LawsPj
namespace Go.Proofs.YtdleccpjejdgiaaGreatDoor
open Go.ChangeShapes Go.WideShapes Go.ChangeAt Go.RowKit Go.Deep
set_option maxRecDepth 100000
set_option linter.unusedVariables false
set_option linter.unusedSimpArgs false

set_option maxHeartbeats 4000000 in
theorem lawPrintJson {W : World} {bs0 : List Nat} {cs0 : List Value} {a0 : Json} (h0 : JsonR W bs0 cs0 a0) (hT : PT W) :
    Calls Tryz.prog 3 #[.agg cs0.toArray] W fun e w' => e = .returned (.bool true) ∧ Below W.heap.size W w' := by
  have H0 := h0
  obtain ⟨p0v3, p0b3, p0v4, p0b4, rfl, rfl, hf0, p0r3, p0r4⟩ := h0.open
  clear p0r3
  clear p0r4
  go_enter Tryz.func3, Tryz.ntmps3
  go_wp2_with fail
  by_cases n0 : (1048576 : Int) - (Json.bulk a0 : Int) < 0
  · refine (szJson ((Below.refl W.heap.size W).alloc (Nat.le_refl _) (.cells #[.int .i64 a0.kind, .int .i64 a0.n, .string a0.t, p0v3, p0v4] 25)) H0 (by omega) (by omega)).mono ?_; rw [clip_neg (by omega)]; rintro e w' ⟨rfl, hb'⟩
    go_wp2_with fail
    go_ret
    exact ⟨rfl, nxt ((Below.refl W.heap.size W).alloc (Nat.le_refl _) (.cells #[.int .i64 a0.kind, .int .i64 a0.n, .string a0.t, p0v3, p0v4] 25)) hb'⟩
  refine (szJson ((Below.refl W.heap.size W).alloc (Nat.le_refl _) (.cells #[.int .i64 a0.kind, .int .i64 a0.n, .string a0.t, p0v3, p0v4] 25)) H0 (by omega) (by omega)).mono ?_; rw [clip_pos (by omega)]; rintro e w1 ⟨rfl, hb1⟩; have st1 := nxt' ((Below.refl W.heap.size W).alloc (Nat.le_refl _) (.cells #[.int .i64 a0.kind, .int .i64 a0.n, .string a0.t, p0v3, p0v4] 25)) hb1; have q0 := box_at hb1; have hw_w1 := nxt (Below.refl W.heap.size W) st1
  have k0 : Json.bulk a0 ≤ 1048576 := by omega
  obtain ⟨ok, co, hok⟩ : ∃ ok co, printAns a0 = (ok, co) := ⟨_, _, rfl⟩
  have HO := hide hok
  have qq2 : (co != co) = false := by simp
  clear hok
  go_wp2_with fail
  refine (toJson hw_w1 H0 k0).mono ?_; rintro e w2 ⟨cs_s0, bs_s0, rfl, r_s0, f_s0, hb2⟩; have q0 := box_on q0 rfl hb2; have hw_w2 := nxt hw_w1 hb2; have r_s0_2 := r_s0; obtain ⟨s0v3, s0b3, s0v4, s0b4, rfl, rfl, _, s0r3, s0r4⟩ := r_s0.open; obtain ⟨s0A3, s0c3, rfl, _, _, _⟩ := s0r3.use; obtain ⟨s0A4, s0c4, rfl, _, _, _⟩ := s0r4.use
  go_wp2_with fail
  refine (spec_PrintJson r_s0_2).mono ?_; rw [HO.out]; rintro e w3 ⟨rfl, hb3⟩; have q0 := box_on q0 rfl hb3; have r_s0_2 := JsonR.good.nxt hb3 r_s0_2; have hw_w3 := nxt hw_w2 hb3
  clear r_s0_2
  go_wp2_with fail
  refine (toJson hw_w3 H0 k0).mono ?_; rintro e w4 ⟨cs_x0, bs_x0, rfl, r_x0, f_x0, hb4⟩; have q0 := box_on q0 rfl hb4; have hw_w4 := nxt hw_w3 hb4; have r_x0_4 := r_x0; obtain ⟨x0v3, x0b3, x0v4, x0b4, rfl, rfl, _, x0r3, x0r4⟩ := r_x0.open; obtain ⟨x0A3, x0c3, rfl, _, _, _⟩ := x0r3.use; obtain ⟨x0A4, x0c4, rfl, _, _, _⟩ := x0r4.use
  have q0p := box_on q0 rfl ((Below.refl w4.heap.size w4).alloc (Nat.le_refl _) (.cells #[.int .i64 a0.kind, .int .i64 a0.n, .string a0.t, .slice x0A3 a0.keys.length x0c3, .slice x0A4 a0.items.length x0c4] 31))
  go_wp2_with fail
  refine (impl_PrintJson (hT.below (hw_w4.alloc (hw_w4.size) (.cells #[.int .i64 a0.kind, .int .i64 a0.n, .string a0.t, .slice x0A3 a0.keys.length x0c3, .slice x0A4 a0.items.length x0c4] 31))) (JsonR.good.nxt ((Below.refl w4.heap.size w4).alloc (Nat.le_refl _) (.cells #[.int .i64 a0.kind, .int .i64 a0.n, .string a0.t, .slice x0A3 a0.keys.length x0c3, .slice x0A4 a0.items.length x0c4] 31)) r_x0_4)).mono ?_; rw [HO.out]; rintro e w5 ⟨rfl, hb5⟩; have st5 := nxt' ((Below.refl w4.heap.size w4).alloc (Nat.le_refl _) (.cells #[.int .i64 a0.kind, .int .i64 a0.n, .string a0.t, .slice x0A3 a0.keys.length x0c3, .slice x0A4 a0.items.length x0c4] 31)) hb5; have q0 := box_on q0 rfl st5; have q1 := box_at hb5; have r_x0_4 := JsonR.good.nxt st5 r_x0_4; have hw_w5 := nxt hw_w4 st5
  go_wp2_with fail
  go_region_held3 (fun w' => (w'.cell? ⟨W.heap.size, 0, none⟩ = some (.int .i64 a0.kind) ∧ w'.cell? ⟨W.heap.size, 1, none⟩ = some (.int .i64 a0.n) ∧ w'.cell? ⟨W.heap.size, 2, none⟩ = some (.string a0.t) ∧ w'.cell? ⟨W.heap.size, 3, none⟩ = some (p0v3) ∧ w'.cell? ⟨W.heap.size, 4, none⟩ = some (p0v4)) ∧ (w'.cell? ⟨w4.heap.size, 0, none⟩ = some (.int .i64 a0.kind) ∧ w'.cell? ⟨w4.heap.size, 1, none⟩ = some (.int .i64 a0.n) ∧ w'.cell? ⟨w4.heap.size, 2, none⟩ = some (.string a0.t) ∧ w'.cell? ⟨w4.heap.size, 3, none⟩ = some (.slice x0A3 a0.keys.length x0c3) ∧ w'.cell? ⟨w4.heap.size, 4, none⟩ = some (.slice x0A4 a0.items.length x0c4))) (exact ⟨⟨q0 0, q0 1, q0 2, q0 3, q0 4⟩, ⟨q1 0, q1 1, q1 2, q1 3, q1 4⟩⟩)
    (first | (go_at_call 6; (with_reducible refine (toJson hw_w5.drew H0 k0).mono ?_); rintro e w6 ⟨cs_y0, bs_y0, rfl, r_y0, f_y0, hb6⟩; have hd6 := nxt (Below.refl _ _).drew hb6; have q0 := box_on q0 rfl hd6; have q1 := box_on q1 rfl hd6; have r_x0_4 := JsonR.good.nxt hd6 r_x0_4; have hw_w6 := nxt hw_w5 hd6; have r_y0_6 := r_y0; obtain ⟨y0v3, y0b3, y0v4, y0b4, rfl, rfl, _, y0r3, y0r4⟩ := r_y0.open; obtain ⟨y0A3, y0c3, rfl, _, _, _⟩ := y0r3.use; obtain ⟨y0A4, y0c4, rfl, _, _, _⟩ := y0r4.use) | (go_at_call 8; (with_reducible refine (eqJson (Below.refl _ _) r_x0_4 r_y0_6).mono ?_); rintro e w7 ⟨rfl, hb7⟩; have q0 := box_on q0 rfl hb7; have q1 := box_on q1 rfl hb7; have r_x0_4 := JsonR.good.nxt hb7 r_x0_4; have r_y0_6 := JsonR.good.nxt hb7 r_y0_6; have hw_w7 := nxt hw_w6 hb7))
  clear r_y0_6
  go_wp2_with fail
  go_ret
  exact ⟨rfl, hw_w7⟩
end Go.Proofs.YtdleccpjejdgiaaGreatDoor

-- LawPrintJson
namespace Go.Proofs.YtdleccpjejdgiaaGreatDoor.fnExactPrintJson
open Go.ChangeShapes Go.WideShapes Go.ChangeAt Go.RowKit Go.Deep
set_option linter.unusedVariables false

theorem own : ownKnob Tryz.prog.godebug = none := by kernel_rfl
theorem laidOut : laidOutB Tryz.prog = true := by kernel_rfl
theorem params : Tryz.f3.params.toList = [25] := by kernel_rfl
theorem readable : ∀ t ∈ Tryz.f3.params.toList, Tryz.prog.readableRec t = true ∧ t < Tryz.prog.types.size := by
  rw [params]
  intro t ht
  simp only [List.mem_cons, List.not_mem_nil, or_false] at ht
  subst ht
  exact ⟨by kernel_rfl, of_decide_eq_true (by kernel_rfl)⟩
def laid3 : List (String × DataW Unit) := Rows.fnExactPrintJsonRow.laid
theorem tab_global : (Tryz.prog.globalNamed "internal/strconv.uint64pow10").isSome = true := by kernel_rfl
theorem tab_type : ((Tryz.prog.globalNamed "internal/strconv.uint64pow10").bind fun g => (Tryz.prog.globals[g]?).bind fun x => (Tryz.prog.underlying x.type).bind fun u => match u with | .array n e => some (n, Tryz.prog.underlying e, Tryz.prog.cellsOf e, Tryz.prog.cellsOf x.type) | _ => none) = some (20, some (.int .u64), 1, 20) := by kernel_rfl
/-- What the condition gives: the table of the powers of ten. -/
theorem of_laid {W : World} (h : laidMetH Tryz.prog laid3 W) : PT W := by
  rw [MakeChecks.laidMetH_plain _ _ _ (by kernel_rfl)] at h
  obtain ⟨ps, ⟨g0, t0, cs0, f0, p0, q0, _, _, _, _, ⟨g1, t1, cs1, f1, p1, q1, _, _, _, _, ⟨g, t, cs, fu, p, q, hg, ht, hv, hd, _, _⟩, _⟩, _⟩, _⟩ := h
  have hty := tab_type
  rw [hg] at hty
  obtain ⟨x, hx, rfl⟩ := Option.map_eq_some_iff.1 ht
  simp only [Option.bind_some, hx] at hty
  cases hu : Tryz.prog.underlying x.type with
  | none => rw [hu] at hty; cases hty
  | some u =>
    rw [hu] at hty
    simp only [Option.bind_some] at hty
    obtain ⟨n, e, rfl⟩ : ∃ n e, u = .array n e := by
      cases u
      case array n e => exact ⟨n, e, rfl⟩
      all_goals (exact nomatch hty)
    simp only [Option.some.injEq, Prod.mk.injEq] at hty
    obtain ⟨rfl, he, hce, hct⟩ := hty
    have hc := Lib.cells_of_tab (k := .u64) (zs := Lib.pow10Tab) hu he hce hct hd
    unfold PT Lib.TabIs
    rw [hv, ← hc]

set_option maxRecDepth 100000 in
theorem lifted (os : Os) (started : os.Started) (H : Type) (enc : TypeId × Value → H) :
    ReturnsInHanded {} Tryz.checked os 3 .any (fun w args => (Rows.fnExactPrintJsonSpec.pre enc Tryz.prog Tryz.f3 [] false w args ∧ laidMetH Tryz.prog laid3 w) ∧ sizedMet enc Tryz.prog Tryz.f3 (OpenSpec.ofChange Rows.fnExactPrintJsonSpec) false w args)
      (Rows.fnExactPrintJsonSpec.post enc Tryz.prog Tryz.f3 false true false false) := by
  refine returnsInHanded_of_change_and (C := Tryz.checked) (X := fun w _ => laidMetH Tryz.prog laid3 w) (fun _ _ _ hh h => h.of_heap hh) own started (by kernel_rfl) Tryz.func3
    (ChangeSpec.witness_shaped (enc := enc) (C := Tryz.checked) (os := os) (X := fun w _ => laidMetH Tryz.prog laid3 w) false (World.laidAll Tryz.prog os laid3) #[.agg #[.int .i64 0, .int .i64 0, .string ⟨#[]⟩, .slice none 0 0, .slice none 0 0]] 8 (World.laidAll_os _ _ _)
      (World.shaped_of_ZipB (by kernel_rfl) (by kernel_rfl)) (by kernel_rfl) (by kernel_rfl) (by kernel_rfl)
      (by rw [MakeChecks.laidMetH_plain _ _ _ (by kernel_rfl)]; exact laidMet_laidAll _ (by kernel_rfl) (by kernel_rfl))) ?_
  intro W base args ds gs before hval0 hW _ _ hL _
  have hval : ∀ (j : Nat) t v, Tryz.f3.params[j]? = some t → args[j]? = some v → Value.okWide Tryz.prog W .any base t v := hval0
  have hW' := hW
  obtain ⟨p, q, hA0, hV, rfl, hfz, hnd⟩ := hW
  have hA : DataW.TrodAll enc Tryz.prog W 0 (fun _ => true) true Tryz.f3.params.toList args.toList ds p := hA0
  obtain ⟨rfl, rfl⟩ := trodVars_none hV
  simp only [List.append_nil] at hW'
  have hA1 := hA
  rw [params] at hA1
  obtain ⟨v0, vs0, d0, ds0, p0, q0, hargs, rfl, rfl, h0, r0⟩ := trodAll_cons hA1
  obtain ⟨rfl, rfl, rfl⟩ := trodAll_nil r0
  obtain rfl : args = #[v0] := by cases args; simp_all
  obtain ⟨cs0, a0, bs0, rfl, R0⟩ := arg_struct Tryz.underlying25 JsonR.opens (hval 0 25 v0 rfl rfl) h0
  refine (lawPrintJson R0 (of_laid hL)).mono fun e W' ⟨he, hb⟩ => ?_
  subst he
  exact ⟨_, rfl, law_post (tb := 4) laidOut readable rfl hW' hA rfl rfl rfl (by kernel_rfl) Tryz.underlying4 hb⟩

theorem over : Rows.fnExactPrintJsonRow.holds Tryz.pinned (OpenSpec.ofChange Rows.fnExactPrintJsonSpec) :=
  OpenClaim.holds_of_wide 3 Tryz.f3 rfl rfl rfl rfl rfl rfl rfl ⟨rfl, rfl, rfl, rfl, rfl⟩ rfl rfl rfl rfl rfl (by kernel_rfl) Tryz.func3 (by kernel_rfl)
    (of_decide_eq_true (by kernel_rfl)) (by unfold Func.isWrapper; first | (rw [if_pos (by decide +kernel)]; kernel_rfl) | (rw [if_neg (by decide +kernel)]; exact ⟨rfl, rfl⟩))
    (fun os started H enc _ => lifted os started H enc)

theorem proved : Rows.FnExactPrintJsonCardSaid :=
  Claim7.holds_tied_plain_at .later [] [.data, .data, .data] true (true, "9c3c28cf2a40c4355c84eecb748eb9dcc1889102e4890ac552266eeaf10b8673") true
    over (fun _ h => by cases h) (by kernel_rfl) (fun _ h => by cases h) fnExactPrintJson_row_tie rfl ⟨rfl, rfl⟩ (by kernel_rfl) rfl
    (fun f fn hf hfn => by
      obtain rfl : f = 3 := Option.some.inj ((show Tryz.prog.funcNamed Rows.fnExactPrintJsonRow.func = some 3 by kernel_rfl).symm.trans hf) |>.symm
      obtain rfl : fn = Tryz.f3 := (Option.some.inj (Tryz.func3.symm.trans hfn)).symm
      exact ⟨by kernel_rfl, fun j t ht => by
        have hm : t ∈ [25] := by rw [← params]; exact Array.mem_toList_iff.2 (Array.mem_of_getElem? ht)
        have hall : ([25].all fun u => !Tryz.prog.wantsStandIn u) = true := by kernel_rfl
        exact (show Tryz.prog.wantsStandIn t = false by simpa using List.all_eq_true.1 hall t hm)⟩)
    (by kernel_rfl)
#print axioms proved
end Go.Proofs.YtdleccpjejdgiaaGreatDoor.fnExactPrintJson
