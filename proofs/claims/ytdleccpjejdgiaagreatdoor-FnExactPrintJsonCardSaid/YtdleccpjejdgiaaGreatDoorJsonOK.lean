/- JsonOK of both. No statement is proved here; no conditions. Written by a program (gen35.py). -/
import Derived.Test.YtdleccpjejdgiaaGreatDoorJsonP
import Derived.Test.YtdleccpjejdgiaaGreatDoorResult
import Derived.Test.YtdleccpjejdgiaaGreatDoorUpd
import Derived.Test.YtdleccpjejdgiaaGreatDoorBox
namespace Go.Proofs.YtdleccpjejdgiaaGreatDoor
open Go.ChangeShapes Go.WideShapes Go.ChangeAt Go.RowKit Go.Deep
set_option maxRecDepth 100000
set_option linter.unusedVariables false
set_option linter.unusedSimpArgs false

def goodJ : Nat → Json → Bool
  | 0, _ => false
  | d + 1, j => partOK j && j.items.all (goodJ d)
def cnt : Nat → Json → Nat
  | 0, _ => 1
  | d + 1, j => 1 + (j.items.map (cnt d)).sum
def fitsJ (d : Nat) (j : Json) (r : Int) : Bool := goodJ d j && decide ((cnt d j : Int) ≤ r)
def okJ (j : Json) : Bool := fitsJ 12 j 400
theorem cnt_pos (d : Nat) (j : Json) : 1 ≤ cnt d j := by cases d <;> simp [cnt]
theorem psum_mono {α : Type} (f : α → Nat) (xs : List α) (k : Nat) : psum f xs k ≤ (xs.map f).sum := psum_le f xs k
def RPost (d : Nat) (j : Json) (r : Int) (m : Nat) (w : World) (e : Ending) (w' : World) : Prop := e = .returned (.bool (fitsJ d j r)) ∧ ∃ z', w'.heap[m]? = some (.cells #[.int .i64 z'] 3 (0, 0)) ∧ Upd [m] w w' ∧ (fitsJ d j r = true → z' = r - cnt d j)
theorem cell_onJ {w w1 : World} {a : Addr} {v : Value} (h : w.cell? a = some v) (hb : Below w.heap.size w w1) : w1.cell? a = some v := (hb.cell (World.block_lt_of_cell? w a h)).trans h
theorem Upd.alloc {bs : List Nat} {w w1 : World} (h : Upd bs w w1) (o : Obj) : Upd bs w (w1.alloc o) := h.call ((Below.refl _ _).alloc (Nat.le_refl _) o)
theorem updB {w W0 wr : World} {m : Nat} (h0 : Below w.heap.size w W0) (hu : Upd [m] W0 wr) (hm : w.heap.size ≤ m) : Below w.heap.size w wr :=
  h0.trans (hu.below _ h0.size fun b hb => by simp at hb; omega)
def allFit (gd : Json → Bool) (ct : Json → Nat) (xs : List Json) (r : Int) : Bool := xs.all gd && decide (((xs.map ct).sum : Int) ≤ r)
def oneFit (gd : Json → Bool) (ct : Json → Nat) (x : Json) (r : Int) : Bool := gd x && decide ((ct x : Int) ≤ r)
theorem allFit_no {gd : Json → Bool} {ct : Json → Nat} {xs : List Json} {r : Int} {k : Nat} (hk : k < xs.length) (h : oneFit gd ct xs[k] (r - psum ct xs k) = false) : allFit gd ct xs r = false := by
  unfold allFit; unfold oneFit at h
  cases hg : gd xs[k]
  · rw [all_false hk hg]; rfl
  · rw [hg, Bool.true_and] at h
    have h := of_decide_eq_false h
    have h1 := psum_succ ct xs k hk; have h2 := psum_le ct xs (k + 1)
    rw [decide_eq_false (by omega)]; simp
theorem allFit_yes {gd : Json → Bool} {ct : Json → Nat} {xs : List Json} {r : Int} (h : ∀ j (hj : j < xs.length), j < xs.length → gd xs[j] = true) (hs : (psum ct xs xs.length : Int) ≤ r) : allFit gd ct xs r = true := by
  unfold allFit; rw [all_true h, decide_eq_true (by rw [psum_all] at hs; exact hs)]; rfl
theorem fitsJ_succ (d : Nat) (j : Json) (r : Int) : fitsJ (d + 1) j r = (partOK j && allFit (goodJ d) (cnt d) j.items (r - 1)) := by
  unfold fitsJ allFit
  show ((partOK j && j.items.all (goodJ d)) && decide (((1 + (j.items.map (cnt d)).sum : Nat) : Int) ≤ r)) = _
  rw [Bool.and_assoc]; congr 2; apply decide_eq_decide.2; omega
set_option maxHeartbeats 4000000 in
theorem slices_IndexFuncJ {w0 w : World} {bs : List Nat} {v : Value} {xs : List Json} (H : JsonSR w0 bs [v] xs) (hb : Below w0.heap.size w0 w) {m : Nat} {r : Int} (hm : w0.heap.size ≤ m) (q : w.heap[m]? = some (.cells #[.int .i64 r] 3 (0, 0))) (h0 : 0 ≤ r) (h1 : r ≤ 400)
    (g : Nat) (lb : Array Value) (eg : ∀ args w, (callFunc g args).run Tryz.prog w = .ok (.enter g args) w) (gd : Json → Bool) (ct : Json → Nat)
    (hF : ∀ k (hk : k < xs.length) z W es bk, Upd [m] w W → JsonR w0 bk es xs[k] → W.heap[m]? = some (.cells #[.int .i64 z] 3 (0, 0)) → 0 ≤ z → z ≤ 400 → Calls Tryz.prog g (#[.agg es.toArray] ++ lb) W fun e W' => e = .returned (.bool (!oneFit gd ct xs[k] z)) ∧ ∃ z', W'.heap[m]? = some (.cells #[.int .i64 z'] 3 (0, 0)) ∧ Upd [m] W W' ∧ (oneFit gd ct xs[k] z = true → z' = z - ct xs[k])) :
    Calls Tryz.prog 41 #[v, .func (.func g) #[] lb] w fun e w' => ∃ i : Int, e = .returned (.int .i64 i) ∧ decide (0 ≤ i) = (!allFit gd ct xs r) ∧ ∃ z', w'.heap[m]? = some (.cells #[.int .i64 z'] 3 (0, 0)) ∧ Upd [m] w w' ∧ (allFit gd ct xs r = true → z' = r - (xs.map ct).sum) := by
  obtain ⟨A, c, rfl, hlc, hcm, hel⟩ := H.use
  have HF := hide hF; clear hF
  go_enter Tryz.func41, Tryz.ntmps41
  go_wp2_with fail
  go_loopw [8] (fun i wr => ∃ k : Nat, k ≤ xs.length ∧ i = .int .i64 k ∧ Hid (∀ j (hj : j < xs.length), j < k → gd xs[j] = true) ∧ Hid ((psum ct xs k : Int) ≤ r) ∧ Hid (wr.heap[m]? = some (.cells #[.int .i64 (r - psum ct xs k)] 3 (0, 0))) ∧ Upd [m] w wr) (fun i _ => xs.length - (intOf i).toNat)
  case atStart => exact ⟨0, Nat.zero_le _, rfl, all_zero, by show ((psum ct xs 0 : Nat) : Int) ≤ r; rw [psum_zero]; omega, by show _ = _; rw [psum_zero]; simpa using q, Upd.refl _ _⟩
  case round =>
    obtain ⟨k, hk, rfl, hn, hS, hQ, hU⟩ := hrel
    obtain ⟨wl, rfl⟩ : ∃ w' : World, w' = wr := ⟨_, rfl⟩
    by_cases hlt : k < xs.length
    · obtain ⟨b, o, bk, es, rfl, hbl, hcl, hcell, hR, hbk⟩ := hel k hlt
      have hcall := HF.out k hlt (r - psum ct xs k) wl es bk hU hR hQ.out (by have := hS.out; omega) (by have := hS.out; omega)
      have hwl := updB hb hU hm
      obtain ⟨v3, b3, v4, b4, _, hes, hf, r3, r4⟩ := hR.open; subst hes
      obtain ⟨A3, c3, rfl, _, _, _⟩ := r3.use; obtain ⟨A4, c4, rfl, _, _, _⟩ := r4.use
      have c_0 := (hwl.cell (p := ⟨b, _, none⟩) hbl).trans (hcell 0 _ rfl)
      have c_1 := (hwl.cell (p := ⟨b, _, none⟩) hbl).trans (hcell 1 _ rfl)
      have c_2 := (hwl.cell (p := ⟨b, _, none⟩) hbl).trans (hcell 2 _ rfl)
      have c_3 := (hwl.cell (p := ⟨b, _, none⟩) hbl).trans (hcell 3 _ rfl)
      have c_4 := (hwl.cell (p := ⟨b, _, none⟩) hbl).trans (hcell 4 _ rfl)
      simp only [Nat.add_zero] at c_0 c_1 c_2 c_3 c_4
      clear hcell hel hcl
      cases hq : oneFit gd ct xs[k] (r - psum ct xs k)
      · rw [hq] at hcall
        have hr := hide (allFit_no hlt hq)
        clear hq
        go_wp2_with (go_at_fn g; refine hcall.mono ?_; rintro e w1 ⟨rfl, z', hz, hu, _⟩)
        go_ret
        exact ⟨_, rfl, by rw [hr.out]; simp, z', hz, hU.trans hu (fun _ h => h), fun h => by rw [hr.out] at h; cases h⟩
      · rw [hq] at hcall
        have hps := psum_succ ct xs k hlt
        have hq1 : gd xs[k] = true ∧ (ct xs[k] : Int) ≤ r - psum ct xs k := by unfold oneFit at hq; rw [Bool.and_eq_true] at hq; exact ⟨hq.1, of_decide_eq_true hq.2⟩
        have hn2 := hide (all_step (p := gd) hlt hn.out hq1.1)
        have hS2 : Hid ((psum ct xs (k + 1) : Int) ≤ r) := by show _ ≤ _; omega
        have hps := hide hps
        clear hq hq1
        go_wp2_with (go_at_fn g; refine hcall.mono ?_; rintro e w1 ⟨rfl, z', hz, hu, hzq⟩; have hzz := hide (hzq rfl); clear hzq)
        go_roundw
        case rel => exact ⟨k + 1, hlt, by go_num, hn2, hS2, by show _ = _; rw [hps.out, hz, hzz.out, Int.natCast_add, Int.sub_sub], hU.trans hu (fun _ h => h)⟩
        case measure => simp [intOf]; omega
    · obtain rfl : k = xs.length := by omega
      have hr := hide (allFit_yes hn.out hS.out)
      clear hel
      go_wp2
      go_ret
      exact ⟨-1, rfl, by rw [hr.out]; rfl, _, hQ.out, hU, fun _ => by rw [psum_all]⟩
theorem slices_ContainsFuncJ {w0 w : World} {bs : List Nat} {v : Value} {xs : List Json} (H : JsonSR w0 bs [v] xs) (hb : Below w0.heap.size w0 w) {m : Nat} {r : Int} (hm : w0.heap.size ≤ m) (q : w.heap[m]? = some (.cells #[.int .i64 r] 3 (0, 0))) (h0 : 0 ≤ r) (h1 : r ≤ 400)
    (g : Nat) (lb : Array Value) (eg : ∀ args w, (callFunc g args).run Tryz.prog w = .ok (.enter g args) w) (gd : Json → Bool) (ct : Json → Nat)
    (hF : ∀ k (hk : k < xs.length) z W es bk, Upd [m] w W → JsonR w0 bk es xs[k] → W.heap[m]? = some (.cells #[.int .i64 z] 3 (0, 0)) → 0 ≤ z → z ≤ 400 → Calls Tryz.prog g (#[.agg es.toArray] ++ lb) W fun e W' => e = .returned (.bool (!oneFit gd ct xs[k] z)) ∧ ∃ z', W'.heap[m]? = some (.cells #[.int .i64 z'] 3 (0, 0)) ∧ Upd [m] W W' ∧ (oneFit gd ct xs[k] z = true → z' = z - ct xs[k])) :
    Calls Tryz.prog 29 #[v, .func (.func g) #[] lb] w fun e w' => e = .returned (.bool (!allFit gd ct xs r)) ∧ ∃ z', w'.heap[m]? = some (.cells #[.int .i64 z'] 3 (0, 0)) ∧ Upd [m] w w' ∧ (allFit gd ct xs r = true → z' = r - (xs.map ct).sum) := by
  have HC := hide (slices_IndexFuncJ H hb hm q h0 h1 g lb eg gd ct hF)
  obtain ⟨A, c, rfl, _, _, _⟩ := H.use
  clear hF
  go_enter Tryz.func29, Tryz.ntmps29
  go_wp2_with fail
  refine HC.out.mono ?_; rintro e w1 ⟨i, rfl, hi, hz⟩
  have HI := hide hi; clear hi
  go_wp2_with fail
  go_ret
  exact ⟨by rw [← HI.out]; rfl, hz⟩
abbrev RI (d : Nat) : Prop := ∀ {w0 w : World} {bs : List Nat} {cs : List Value} {a : Json} (H : JsonR w0 bs cs a) (hb : Below w0.heap.size w0 w) {m : Nat} {r dv : Int} (hm : w0.heap.size ≤ m) (q : w.heap[m]? = some (.cells #[.int .i64 r] 3 (0, 0))) (h0 : 0 ≤ r) (h1 : r ≤ 400) (hd : dv = 12 - d) (hd2 : d ≤ 12),
    Calls Tryz.prog 22 #[.agg cs.toArray, .int .i64 dv, .pointer (some ⟨m, 0, none⟩)] w (RPost d a r m w)
theorem clo_rightIn {d : Nat} (IH : RI d) {w0 w : World} {bs : List Nat} {cs : List Value} {a : Json} (H : JsonR w0 bs cs a) (hb : Below w0.heap.size w0 w) {m bd br : Nat} {r dv : Int} (hm : w0.heap.size ≤ m) (q : w.heap[m]? = some (.cells #[.int .i64 r] 3 (0, 0))) (h0 : 0 ≤ r) (h1 : r ≤ 400) (hd : dv + 1 = 12 - d) (hd0 : 0 ≤ dv) (hd2 : d ≤ 12)
    (qd : w.cell? ⟨bd, 0, none⟩ = some (.int .i64 dv)) (qr : w.cell? ⟨br, 0, none⟩ = some (.pointer (some ⟨m, 0, none⟩))) :
    Calls Tryz.prog 30 #[.agg cs.toArray, .pointer (some ⟨bd, 0, none⟩), .pointer (some ⟨br, 0, none⟩)] w fun e W' => e = .returned (.bool (!fitsJ d a r)) ∧ ∃ z', W'.heap[m]? = some (.cells #[.int .i64 z'] 3 (0, 0)) ∧ Upd [m] w W' ∧ (fitsJ d a r = true → z' = r - cnt d a) := by
  have H0 := H
  obtain ⟨v3, b3, v4, b4, rfl, rfl, hf, r3, r4⟩ := H.open
  obtain ⟨A3, c3, rfl, _, _, _⟩ := r3.use; obtain ⟨A4, c4, rfl, _, _, _⟩ := r4.use
  have hbx := hb.alloc hb.size (.cells #[.int .i64 a.kind, .int .i64 a.n, .string a.t, .slice A3 a.keys.length c3, .slice A4 a.items.length c4] 31)
  have hU : Upd [m] w (w.alloc (.cells #[.int .i64 a.kind, .int .i64 a.n, .string a.t, .slice A3 a.keys.length c3, .slice A4 a.items.length c4] 31)) := (Upd.refl _ _).alloc _
  have q1 := blk_old q (.cells #[.int .i64 a.kind, .int .i64 a.n, .string a.t, .slice A3 a.keys.length c3, .slice A4 a.items.length c4] 31)
  have qd1 := cell_onJ qd ((Below.refl _ _).alloc (Nat.le_refl _) (.cells #[.int .i64 a.kind, .int .i64 a.n, .string a.t, .slice A3 a.keys.length c3, .slice A4 a.items.length c4] 31))
  have qr1 := cell_onJ qr ((Below.refl _ _).alloc (Nat.le_refl _) (.cells #[.int .i64 a.kind, .int .i64 a.n, .string a.t, .slice A3 a.keys.length c3, .slice A4 a.items.length c4] 31))
  clear qd qr q
  have hv : dv ≤ 12 := by omega
  have HC := hide (fun dv' (h : dv' = 12 - (d : Int)) => IH (dv := dv') H0 hbx hm q1 h0 h1 h hd2); have HD := hide hd; clear hd
  go_enter Tryz.func30, Tryz.ntmps30
  go_wp2_with fail
  refine (HC.out _ (by have := HD.out; omega)).mono ?_; rintro e w1 ⟨rfl, z', hz, hu, hzz⟩
  have HZ := hide hzz; clear hzz
  go_wp2_with fail
  go_ret
  exact ⟨rfl, z', hz, hU.trans hu (fun _ h => h), HZ.out⟩
set_option maxHeartbeats 8000000 in
theorem rightIn_step {d : Nat} (IH : ∀ d', d = d' + 1 → RI d') : RI d := by
  intro w0 w bs cs a H hb m r dv hm q h0 h1 hd hd2
  have H0 := H; have hdx := hide hd; clear hd
  obtain ⟨v3, b3, v4, b4, rfl, rfl, hf, r3, r4⟩ := H.open
  have r40 := r4
  obtain ⟨A3, c3, rfl, _, _, _⟩ := r3.use; obtain ⟨A4, c4, rfl, _, _, _⟩ := r4.use
  have hm1 := lt_of_cells q
  have hbx := ((hb.alloc hb.size (.cells #[.int .i64 a.kind, .int .i64 a.n, .string a.t, .slice A3 a.keys.length c3, .slice A4 a.items.length c4] 31) ).alloc (by have := hb.size; simp; omega) (.cells #[.int .i64 dv] 3)).alloc (by have := hb.size; simp; omega) (.cells #[.pointer (some ⟨m, 0, none⟩)] 49)
  obtain ⟨q_a, q_d, q_r⟩ := three_at (Below.refl (((w.alloc (.cells #[.int .i64 a.kind, .int .i64 a.n, .string a.t, .slice A3 a.keys.length c3, .slice A4 a.items.length c4] 31) ).alloc (.cells #[.int .i64 dv] 3)).alloc (.cells #[.pointer (some ⟨m, 0, none⟩)] 49)).heap.size _)
  have q1 : (World.heap (((w.alloc (.cells #[.int .i64 a.kind, .int .i64 a.n, .string a.t, .slice A3 a.keys.length c3, .slice A4 a.items.length c4] 31) ).alloc (.cells #[.int .i64 dv] 3)).alloc (.cells #[.pointer (some ⟨m, 0, none⟩)] 49)))[m]? = some (.cells #[.int .i64 r] 3 (0, 0)) := blk_old (blk_old (blk_old q _) _) _
  have hU : Upd [m] w (((w.alloc (.cells #[.int .i64 a.kind, .int .i64 a.n, .string a.t, .slice A3 a.keys.length c3, .slice A4 a.items.length c4] 31) ).alloc (.cells #[.int .i64 dv] 3)).alloc (.cells #[.pointer (some ⟨m, 0, none⟩)] 49)) := (((Upd.refl _ _).alloc _).alloc _).alloc _
  have na : w.heap.size ∉ [m] := by simp; omega
  have nd : w.heap.size + 1 ∉ [m] := by simp; omega
  have nr : w.heap.size + 1 + 1 ∉ [m] := by simp; omega
  have qm : (((w.alloc (.cells #[.int .i64 a.kind, .int .i64 a.n, .string a.t, .slice A3 a.keys.length c3, .slice A4 a.items.length c4] 31) ).alloc (.cells #[.int .i64 dv] 3)).alloc (.cells #[.pointer (some ⟨m, 0, none⟩)] 49)).cell? ⟨m, 0, none⟩ = some (.int .i64 r) := blk_cells q1 0
  have qf := blk_free q1
  have hU2 : Upd [m] (((w.alloc (.cells #[.int .i64 a.kind, .int .i64 a.n, .string a.t, .slice A3 a.keys.length c3, .slice A4 a.items.length c4] 31) ).alloc (.cells #[.int .i64 dv] 3)).alloc (.cells #[.pointer (some ⟨m, 0, none⟩)] 49)) (World.setCell (((w.alloc (.cells #[.int .i64 a.kind, .int .i64 a.n, .string a.t, .slice A3 a.keys.length c3, .slice A4 a.items.length c4] 31) ).alloc (.cells #[.int .i64 dv] 3)).alloc (.cells #[.pointer (some ⟨m, 0, none⟩)] 49)) ⟨m, 0, none⟩ (.int .i64 (r - 1))) := (Upd.refl _ _).set (p := ⟨m, 0, none⟩) (by simp) rfl _
  have q2 : (World.heap (World.setCell (((w.alloc (.cells #[.int .i64 a.kind, .int .i64 a.n, .string a.t, .slice A3 a.keys.length c3, .slice A4 a.items.length c4] 31) ).alloc (.cells #[.int .i64 dv] 3)).alloc (.cells #[.pointer (some ⟨m, 0, none⟩)] 49)) ⟨m, 0, none⟩ (.int .i64 (r - 1))))[m]? = some (.cells #[.int .i64 (r - 1)] 3 (0, 0)) := blk_set q1 0 _
  have hbx2 := hbx.setCell (p := ⟨m, 0, none⟩) hm (.int .i64 (r - 1))
  replace q_a := box_upd q_a rfl hU2 na
  have q_d0 := q_d; have q_r0 := q_r
  have q_d2 := box_upd q_d rfl hU2 nd
  have q_r2 := box_upd q_r rfl hU2 nr
  have qm2 : (World.setCell (((w.alloc (.cells #[.int .i64 a.kind, .int .i64 a.n, .string a.t, .slice A3 a.keys.length c3, .slice A4 a.items.length c4] 31) ).alloc (.cells #[.int .i64 dv] 3)).alloc (.cells #[.pointer (some ⟨m, 0, none⟩)] 49)) ⟨m, 0, none⟩ (.int .i64 (r - 1))).cell? ⟨m, 0, none⟩ = some (.int .i64 (r - 1)) := blk_cells q2 0
  have hUU := hide (hU.trans hU2 (fun _ h => h))
  have nopos := cnt_pos d a
  by_cases hr0 : r - 1 < 0
  · have hs : Hid (fitsJ d a r = false) := by show _ = _; unfold fitsJ; rw [decide_eq_false (by omega : ¬ ((cnt d a : Int) ≤ r))]; simp
    have hdr : decide (r - 1 < 0) = true := decide_eq_true hr0
    clear nopos
    go_enter Tryz.func22, Tryz.ntmps22
    go_wp2_with fail
    go_ret
    exact ⟨by rw [hs.out] <;> rfl, _, q2, hUU.out, fun h => by rw [hs.out] at h; cases h⟩
  have hdr : decide (r - 1 < 0) = false := decide_eq_false hr0
  cases d with
  | zero =>
    have hs : Hid (fitsJ 0 a r = false) := rfl
    have hdd : decide ((12 : Int) ≤ dv) = true := decide_eq_true (by have := hdx.out; omega)
    clear nopos
    go_enter Tryz.func22, Tryz.ntmps22
    go_wp2_with fail
    go_ret
    exact ⟨by rw [hs.out] <;> rfl, _, q2, hUU.out, fun h => by rw [hs.out] at h; cases h⟩
  | succ d =>
    have IH : RI d := @IH d rfl
    have hdd : decide ((12 : Int) ≤ dv) = false := decide_eq_false (by have := hdx.out; omega)
    have hsu := hide (fitsJ_succ d a r)
    have hdv : dv + 1 = 12 - (d : Int) := by have := hdx.out; omega
    have hd0 : 0 ≤ dv := by have := hdx.out; omega
    have HDV := hide hdv; clear hdv nopos
    cases hp : partOK a
    · have hs : Hid (fitsJ (d + 1) a r = false) := by show _ = _; rw [hsu.out, hp]; rfl
      have hcall := impl_partOK (JsonR.good.nxt hbx2 H0); rw [hp] at hcall; clear hp
      go_enter Tryz.func22, Tryz.ntmps22
      go_wp2_with fail
      refine hcall.mono ?_; rintro e w1 ⟨rfl, hb1⟩
      go_wp2_with fail
      go_ret
      exact ⟨by rw [hs.out] <;> rfl, _, blk_on q2 hb1, hUU.out.call hb1, fun h => by rw [hs.out] at h; cases h⟩
    · have hs : Hid (fitsJ (d + 1) a r = allFit (goodJ d) (cnt d) a.items (r - 1)) := by show _ = _; rw [hsu.out, hp]; rfl
      have hcall := impl_partOK (JsonR.good.nxt hbx2 H0); rw [hp] at hcall; clear hp
      go_enter Tryz.func22, Tryz.ntmps22
      go_wp2_with fail
      refine hcall.mono ?_; rintro e w1 ⟨rfl, hb1⟩; replace q_a := box_on q_a rfl hb1; have q_d1 := box_on q_d2 rfl hb1; have q_r1 := box_on q_r2 rfl hb1; have q3 := blk_on q2 hb1; have hbw := updB hbx2 (Upd.of hb1) hm
      have HC := hide (slices_ContainsFuncJ r40 hbw hm q3 (by omega) (by omega) 30 #[.pointer (some ⟨w.heap.size + 1, 0, none⟩), .pointer (some ⟨w.heap.size + 1 + 1, 0, none⟩)] (enters_of Tryz.func30 (by kernel_rfl) rfl) (goodJ d) (cnt d)
        (fun k hk z W es bk hW hR hq hz0 hz1 => clo_rightIn IH hR (updB hbw hW hm) hm hq hz0 hz1 HDV.out hd0 (by omega) (box_upd q_d1 rfl hW nd 0) (box_upd q_r1 rfl hW nr 0)))
      go_wp2_with fail
      refine HC.out.mono ?_; rintro e w2 ⟨rfl, z', hz, hu, hzz⟩
      have HZ := hide hzz; clear hzz HC
      go_wp2_with fail
      go_ret
      exact ⟨by rw [hs.out]; simp, z', hz, (hUU.out.call hb1).trans hu (fun _ h => h), fun h => by rw [hs.out] at h; rw [HZ.out h]; show _ = r - ((1 + (a.items.map (cnt d)).sum : Nat) : Int); omega⟩
theorem impl_rightIn : ∀ d, RI d
  | 0 => rightIn_step fun _ h => by cases h
  | d + 1 => rightIn_step fun d' h => by injection h with h; subst h; exact impl_rightIn d
theorem impl_JsonOK {w : World} {bs : List Nat} {cs : List Value} {a : Json} (H : JsonR w bs cs a) :
    Calls Tryz.prog 15 #[.agg cs.toArray] w fun e w' => e = .returned (.bool (okJ a)) ∧ Below w.heap.size w w' := by
  have H0 := H
  obtain ⟨v3, b3, v4, b4, rfl, rfl, hf, r3, r4⟩ := H.open
  obtain ⟨A3, c3, rfl, _, _, _⟩ := r3.use; obtain ⟨A4, c4, rfl, _, _, _⟩ := r4.use
  have hbx := (Below.refl w.heap.size w).alloc (Nat.le_refl _) (.cells #[.int .i64 a.kind, .int .i64 a.n, .string a.t, .slice A3 a.keys.length c3, .slice A4 a.items.length c4] 31)
  have q1 : (World.heap ((w.alloc (.cells #[.int .i64 a.kind, .int .i64 a.n, .string a.t, .slice A3 a.keys.length c3, .slice A4 a.items.length c4] 31)).alloc (.cells #[.int .i64 400] 3)))[w.heap.size + 1]? = some (.cells #[.int .i64 400] 3 (0, 0)) := by simpa using blk_new (w.alloc (.cells #[.int .i64 a.kind, .int .i64 a.n, .string a.t, .slice A3 a.keys.length c3, .slice A4 a.items.length c4] 31)) #[.int .i64 400] 3
  have HC := hide (impl_rightIn 12 (dv := 0) (JsonR.good.nxt hbx H0) ((Below.refl _ _).alloc (Nat.le_refl _) (.cells #[.int .i64 400] 3)) (m := w.heap.size + 1) (by simp) q1 (by decide) (by decide) (by decide) (by decide))
  clear q1
  go_enter Tryz.func15, Tryz.ntmps15
  go_wp2_with fail
  refine HC.out.mono ?_; rintro e w2 ⟨rfl, z', hz, hu, _⟩
  clear HC
  go_wp2_with fail
  go_ret
  exact ⟨rfl, (hbx.alloc (by simp; try omega) _).trans (hu.below _ (by simp; omega) (fun b hb => by simp at hb; omega))⟩
end Go.Proofs.YtdleccpjejdgiaaGreatDoor
