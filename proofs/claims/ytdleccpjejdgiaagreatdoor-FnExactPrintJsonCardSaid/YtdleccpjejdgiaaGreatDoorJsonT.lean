/- JsonOK, JsonNodes, JsonDepth. No statement is proved here; no conditions. Written by a program (gen41.py). -/
import Derived.Test.YtdleccpjejdgiaaGreatDoorJsonS
import Derived.Test.YtdleccpjejdgiaaGreatDoorJsonN
namespace Go.Proofs.YtdleccpjejdgiaaGreatDoor
open Go.ChangeShapes Go.WideShapes Go.ChangeAt Go.RowKit Go.Deep
set_option maxRecDepth 100000
set_option linter.unusedVariables false
set_option linter.unusedSimpArgs false

def nodeAns (a : Json) : Int × Int := cond (okJ a) (((cnt 12 a : Nat) : Int), 0) (0, 1)
def depAns (a : Json) : Int × Int := cond (okJ a) (((dep 12 a : Nat) : Int), 0) (0, 1)
theorem okJ_good {a : Json} (h : okJ a = true) : goodJ 12 a = true ∧ cnt 12 a ≤ 400 := by
  unfold okJ fitsJ at h; rw [Bool.and_eq_true] at h; exact ⟨h.1, by have := of_decide_eq_true h.2; omega⟩
theorem SP12 {w : World} {bs : List Nat} {cs : List Value} {a : Json} (H : JsonR w bs cs a) : Calls Tryz.prog 19 #[.agg cs.toArray, .int .i64 12] w fun e w' => (∃ z : Int, e = .returned (.tuple #[.int .i64 z, .bool (okJ a)]) ∧ (okJ a = true → z = cnt 12 a)) ∧ Below w.heap.size w w' :=
  (spec_l01OK 12 H (dv := 12) rfl (by decide)).mono fun e w' ⟨⟨z, h1, h2, _, _⟩, hb⟩ => ⟨⟨z, h1, h2⟩, hb⟩
theorem spec_JsonOK {w : World} {bs : List Nat} {cs : List Value} {a : Json} (H : JsonR w bs cs a) :
    Calls Tryz.prog 11 #[.agg cs.toArray] w fun e w' => e = .returned (.bool (okJ a)) ∧ Below w.heap.size w w' := by
  have H0 := H
  obtain ⟨v3, b3, v4, b4, rfl, rfl, hf, r3, r4⟩ := H.open
  obtain ⟨A3, c3, rfl, _, _, _⟩ := r3.use; obtain ⟨A4, c4, rfl, _, _, _⟩ := r4.use
  have hbx := (Below.refl w.heap.size w).alloc (Nat.le_refl _) (.cells #[.int .i64 a.kind, .int .i64 a.n, .string a.t, .slice A3 a.keys.length c3, .slice A4 a.items.length c4] 31)
  go_enter Tryz.func11, Tryz.ntmps11
  go_wp2_with fail
  refine (SP12 (JsonR.good.nxt hbx H0)).mono ?_; rintro e w1 ⟨⟨z, rfl, _⟩, hb1⟩; have hw1 := nxt hbx hb1
  go_wp2_with fail
  go_ret
  exact ⟨rfl, hw1⟩
end Go.Proofs.YtdleccpjejdgiaaGreatDoor
