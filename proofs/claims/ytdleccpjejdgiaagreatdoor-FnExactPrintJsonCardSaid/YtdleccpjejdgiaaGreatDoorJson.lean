/- Values, which hold values. No statement is proved here; no conditions. Written by a program (gen33.py). -/
import Derived.Test.YtdleccpjejdgiaaGreatDoorTypes
import Derived.Test.YtdleccpjejdgiaaGreatDoorSz
import Derived.Test.YtdleccpjejdgiaaGreatDoorTo
import Derived.Test.YtdleccpjejdgiaaGreatDoorEq
namespace Go.Proofs.YtdleccpjejdgiaaGreatDoor
open Go.ChangeShapes Go.WideShapes Go.ChangeAt Go.RowKit Go.Deep
set_option maxRecDepth 100000
set_option linter.unusedVariables false
set_option linter.unusedSimpArgs false

inductive Json where
  | mk (kind n : Int) (t : ByteArray) (keys : List ByteArray) (items : List Json)
instance : Inhabited Json := ⟨⟨0, 0, ⟨#[]⟩, [], []⟩⟩
def Json.kind : Json → Int | ⟨k, _, _, _, _⟩ => k
def Json.n : Json → Int | ⟨_, n, _, _, _⟩ => n
def Json.t : Json → ByteArray | ⟨_, _, t, _, _⟩ => t
def Json.keys : Json → List ByteArray | ⟨_, _, _, k, _⟩ => k
def Json.items : Json → List Json | ⟨_, _, _, _, i⟩ => i
def Json.fine (a : Json) : Prop := (Lit.int .i64 a.kind).wf = true ∧ (Lit.int .i64 a.n).wf = true ∧ a.t.size ≤ 9223372036854775807
mutual
def Json.bulk : Json → Nat
  | ⟨_, _, t, ks, its⟩ => t.size + StringS.bulk ks + Json.bulks its
def Json.bulks : List Json → Nat
  | [] => 0
  | x :: l => 1 + x.bulk + Json.bulks l
end
abbrev JsonS.bulk (xs : List Json) : Nat := bulkL Json.bulk xs
theorem Json.bulks_eq : ∀ l : List Json, Json.bulks l = JsonS.bulk l
  | [] => rfl
  | x :: l => by
    show 1 + x.bulk + Json.bulks l = bulkL Json.bulk (x :: l)
    rw [Json.bulks_eq l]; unfold JsonS.bulk bulkL; simp; omega
theorem Json.bulk_eq : ∀ a : Json, a.bulk = a.t.size + StringS.bulk a.keys + JsonS.bulk a.items
  | ⟨k, n, t, ks, its⟩ => by show Json.bulk _ = t.size + StringS.bulk ks + JsonS.bulk its; rw [← Json.bulks_eq]; rfl
/-- A value reads: n bounds how deep it lies. -/
def JR : Nat → Rd Json
  | 0 => fun _ _ _ _ => False
  | n + 1 => fun w bs cs a => ∃ v3 b3 v4 b4, bs = b3 ++ b4 ∧ cs = [.int .i64 a.kind, .int .i64 a.n, .string a.t, v3, v4] ∧ a.fine ∧ StringSR w b3 [v3] a.keys ∧ SlR 5 (JR n) w b4 [v4] a.items
theorem JR.good : ∀ n, Good (JR n)
  | 0 => ⟨fun h => h.elim, fun h _ => h⟩
  | n + 1 => {
    lt := by
      rintro w bs cs a ⟨v3, b3, v4, b4, rfl, rfl, hf, h3, h4⟩ b hb
      simp only [List.mem_append] at hb
      rcases hb with hb | hb
      · exact StringSR.good.lt h3 b hb
      · exact (SlR.good (JR.good n)).lt h4 b hb
    keep := by
      rintro w w' bs cs a ⟨v3, b3, v4, b4, rfl, rfl, hf, h3, h4⟩ hh
      exact ⟨v3, _, v4, _, rfl, rfl, hf, StringSR.good.keep h3 fun b hb => hh b (by simp [hb]), (SlR.good (JR.good n)).keep h4 fun b hb => hh b (by simp [hb])⟩ }
theorem SlR.imp {α : Type} {size : Nat} {R Q : Rd α} {w : World} {bs : List Nat} {cs : List Value} {xs : List α} (h : SlR size R w bs cs xs) (hi : ∀ k (hk : k < xs.length) bk es, R w bk es xs[k] → Q w bk es xs[k]) : SlR size Q w bs cs xs := by
  obtain ⟨A, c, hv, h1, h2, h3⟩ := h
  refine ⟨A, c, hv, h1, h2, ?_⟩
  rcases h3 with h3 | ⟨b, o, bss, hA, hb, hl, hbs, hel⟩
  · exact .inl h3
  · refine .inr ⟨b, o, bss, hA, hb, hl, hbs, fun k x bk hx hbk => ?_⟩
    obtain ⟨es, he, hc, hr⟩ := hel k x bk hx hbk
    have hk : k < xs.length := (List.getElem?_eq_some_iff.1 hx).1
    have hx' : xs[k] = x := (List.getElem?_eq_some_iff.1 hx).2
    subst hx'
    exact ⟨es, he, hc, hi k hk bk es hr⟩
theorem JR.up : ∀ {n : Nat} {w : World} {bs : List Nat} {cs : List Value} {a : Json}, JR n w bs cs a → JR (n + 1) w bs cs a
  | 0, _, _, _, _, h => h.elim
  | n + 1, w, bs, cs, a, ⟨v3, b3, v4, b4, hbs, hcs, hf, h3, h4⟩ => ⟨v3, b3, v4, b4, hbs, hcs, hf, h3, SlR.imp (Q := JR (n + 1)) h4 fun k hk bk es h => JR.up h⟩
theorem JR.mono {n m : Nat} (hnm : n ≤ m) {w : World} {bs : List Nat} {cs : List Value} {a : Json} (h : JR n w bs cs a) : JR m w bs cs a := by
  induction hnm with
  | refl => exact h
  | step _ ih => exact ih.up
/-- A value reads, however deep. -/
def JsonR : Rd Json := fun w bs cs a => ∃ n, JR n w bs cs a
theorem JsonR.good : Good JsonR := ⟨fun ⟨n, h⟩ => (JR.good n).lt h, fun ⟨n, h⟩ hh => ⟨n, (JR.good n).keep h hh⟩⟩
abbrev JsonSR : Rd (List Json) := SlR 5 JsonR
theorem JsonSR.good : Good JsonSR := SlR.good JsonR.good
theorem upto_all {P : Nat → Nat → Prop} (hm : ∀ k n m, n ≤ m → P k n → P k m) : ∀ (len : Nat), (∀ k, k < len → ∃ n, P k n) → ∃ N, ∀ k, k < len → P k N
  | 0, _ => ⟨0, fun k hk => absurd hk (Nat.not_lt_zero k)⟩
  | len + 1, h => by
    obtain ⟨N, hN⟩ := upto_all hm len fun k hk => h k (by omega)
    obtain ⟨M, hM⟩ := h len (by omega)
    refine ⟨N + M, fun k hk => ?_⟩
    by_cases hkl : k = len
    · subst hkl; exact hm _ _ _ (by omega) hM
    · exact hm _ _ _ (by omega) (hN k (by omega))
/-- A row of values: one bound for all. -/
theorem JsonSR.flat {w : World} {bs : List Nat} {cs : List Value} {xs : List Json} (h : JsonSR w bs cs xs) : ∃ n, SlR 5 (JR n) w bs cs xs := by
  obtain ⟨A, c, hv, h1, h2, h3⟩ := h
  rcases h3 with h3 | ⟨b, o, bss, hA, hb, hl, hbs, hel⟩
  · exact ⟨0, A, c, hv, h1, h2, .inl h3⟩
  · have hex : ∀ k, k < xs.length → ∃ n, ∀ x bk, xs[k]? = some x → bss[k]? = some bk → ∃ es, es.length = 5 ∧ (∀ j u, es[j]? = some u → w.cell? ⟨b, o + k * 5 + j, none⟩ = some u) ∧ JR n w bk es x := by
      intro k hk
      obtain ⟨es, he, hc, n, hr⟩ := hel k xs[k] bss[k] (List.getElem?_eq_getElem hk) (List.getElem?_eq_getElem (by omega))
      refine ⟨n, fun x bk hx hbk => ?_⟩
      rw [List.getElem?_eq_getElem hk] at hx; injection hx with hx; subst hx
      rw [List.getElem?_eq_getElem (by omega)] at hbk; injection hbk with hbk; subst hbk
      exact ⟨es, he, hc, hr⟩
    obtain ⟨N, hN⟩ := upto_all (fun k n m hnm h x bk hx hbk => by obtain ⟨es, he, hc, hr⟩ := h x bk hx hbk; exact ⟨es, he, hc, hr.mono hnm⟩) xs.length hex
    refine ⟨N, A, c, hv, h1, h2, .inr ⟨b, o, bss, hA, hb, hl, hbs, fun k x bk hx hbk => hN k ?_ x bk hx hbk⟩⟩
    exact (List.getElem?_eq_some_iff.1 hx).1
theorem JsonSR.of {n : Nat} {w : World} {bs : List Nat} {cs : List Value} {xs : List Json} (h : SlR 5 (JR n) w bs cs xs) : JsonSR w bs cs xs := SlR.imp (Q := JsonR) h fun _ _ _ _ h => ⟨n, h⟩
theorem JsonR.open {w : World} {bs : List Nat} {cs : List Value} {a : Json} (h : JsonR w bs cs a) : ∃ v3 b3 v4 b4, bs = b3 ++ b4 ∧ cs = [.int .i64 a.kind, .int .i64 a.n, .string a.t, v3, v4] ∧ a.fine ∧ StringSR w b3 [v3] a.keys ∧ JsonSR w b4 [v4] a.items := by
  obtain ⟨n, h⟩ := h
  cases n with
  | zero => exact h.elim
  | succ n => obtain ⟨v3, b3, v4, b4, hbs, hcs, hf, h3, h4⟩ := h; exact ⟨v3, b3, v4, b4, hbs, hcs, hf, h3, JsonSR.of h4⟩
theorem JsonR.shut {w : World} {b3 b4 : List Nat} {v3 v4 : Value} {a : Json} (hf : a.fine) (h3 : StringSR w b3 [v3] a.keys) (h4 : JsonSR w b4 [v4] a.items) : JsonR w (b3 ++ b4) [.int .i64 a.kind, .int .i64 a.n, .string a.t, v3, v4] a := by
  obtain ⟨n, h4⟩ := h4.flat
  exact ⟨n + 1, v3, b3, v4, b4, rfl, rfl, hf, h3, h4⟩
theorem opens_slice_below {H : Type} {enc : TypeId × Value → H} {P : Program} {w : World} {base : Nat} {spare : Nat → Bool} {held : Bool} {α : Type} [Inhabited α] {R : Rd α} {t e : TypeId} {size : Nat} (ht : P.underlying t = some (.slice e)) (hC : P.cellsOf e = size) (hpos : 0 < size)
    {N : Nat} (he : ∀ k, k ≤ N → ∀ cs x, DataW.trod enc P w base spare held k e cs = some x → ∃ (a : α) (bs : List Nat), R w bs cs a) : ∀ m, m ≤ N → ∀ cs x, DataW.trod enc P w base spare held m t cs = some x → ∃ (a : List α) (bs : List Nat), SlR size R w bs cs a := by
  intro m hm cs x h
  rcases DataW.trod_slice ht h with ⟨rfl, _⟩ | ⟨a, len, cap, elems, rest, n', hn, rfl, _, _, hlc, hcm, hlen, hi, _, _⟩
  · exact ⟨[], [], none, 0, rfl, by simp, by simp [maxLen], .inl ⟨rfl, rfl⟩⟩
  · have hel : ∀ i, i < len → ∃ y : α × List Nat × List Value, y.2.2.length = size ∧ (∀ j, j < size → w.cell? ((a.add (i * size)).add j) = y.2.2[j]?) ∧ R w y.2.1 y.2.2 y.1 := by
      intro i hlt
      have h1 := hi i hlt
      rw [hC, List.getElem?_eq_getElem (by omega)] at h1
      obtain ⟨es, hc, ht'⟩ := Option.bind_eq_some_iff.1 h1
      obtain ⟨_, hl, hat⟩ := World.cells?_some hc
      obtain ⟨x, bs, hr⟩ := he n' (by omega) _ _ ht'
      exact ⟨(x, bs, es), hl, fun j hj => hat j hj, hr⟩
    obtain ⟨f, hf⟩ := choose_lt hel
    rcases Nat.eq_zero_or_pos len with rfl | hlen
    · exact ⟨[], [], some a, cap, rfl, by simp, hcm, .inl ⟨rfl, rfl⟩⟩
    · have h00 := (hf 0 hlen).2.1 0 hpos
      have hsp : w.cell? a = (f 0).2.2[0]? := by
        have : (a.add (0 * size)).add 0 = a := by simp [Addr.add]
        rw [this] at h00; exact h00
      rw [List.getElem?_eq_getElem (by rw [(hf 0 hlen).1]; exact hpos)] at hsp
      have hblt := World.block_lt_of_cell? w a hsp
      obtain ⟨b, o, sp⟩ := a
      obtain rfl : sp = none := by
        cases sp with
        | none => rfl
        | some s => simp only [World.cell?] at hsp; split at hsp <;> simp at hsp
      refine ⟨(List.range len).map fun i => (f i).1, b :: ((List.range len).map fun i => (f i).2.1).flatten, some ⟨b, o, none⟩, cap, by simp, by simpa using hlc, hcm,
        .inr ⟨b, o, (List.range len).map fun i => (f i).2.1, rfl, hblt, by simp, rfl, fun k x bk hx hbk => ?_⟩⟩
      have hk : k < len := by
        rcases Nat.lt_or_ge k len with h' | h'
        · exact h'
        · rw [List.getElem?_eq_none (by simpa using h')] at hx; cases hx
      simp only [List.getElem?_map, List.getElem?_range hk, Option.map_some, Option.some.injEq] at hx hbk
      subst hx; subst hbk
      obtain ⟨h1, h2, h3⟩ := hf k hk
      refine ⟨(f k).2.2, h1, fun j u hu => ?_, h3⟩
      have hj : j < size := by
        rcases Nat.lt_or_ge j size with h' | h'
        · exact h'
        · rw [List.getElem?_eq_none (by omega)] at hu; cases hu
      have := h2 j hj
      rw [add_form, add_form, hu] at this
      exact this
theorem JsonR.opens {H : Type} {enc : TypeId × Value → H} {w : World} {base : Nat} {spare : Nat → Bool} {held : Bool} : Opens enc Tryz.prog w base spare held 25 JsonR := by
  intro n
  induction n using Nat.strongRecOn with
  | _ n ih =>
  intro cs x h
  obtain ⟨hl, m, hnm, hf⟩ := open_fields Tryz.underlying25 (by kernel_rfl) (by kernel_rfl) h
  match cs, hl with
  | [c0, c1, c2, c3, c4], _ =>
    obtain ⟨y0, hy0⟩ := hf 0 _ c0 rfl rfl
    obtain ⟨a0, e0, _, w0⟩ := DataW.trod_int Tryz.underlying3 hy0
    obtain rfl : c0 = .int .i64 a0 := by simpa using e0
    obtain ⟨y1, hy1⟩ := hf 1 _ c1 rfl rfl
    obtain ⟨a1, e1, _, w1⟩ := DataW.trod_int Tryz.underlying3 hy1
    obtain rfl : c1 = .int .i64 a1 := by simpa using e1
    obtain ⟨y2, hy2⟩ := hf 2 _ c2 rfl rfl
    obtain ⟨a2, e2, _, w2⟩ := DataW.trod_string Tryz.underlying9 hy2
    obtain rfl : c2 = .string a2 := by simpa using e2
    unfold maxLen at w2
    obtain ⟨y3, hy3⟩ := hf 3 _ c3 rfl rfl
    obtain ⟨a3, b3, r3⟩ := StringSR.opens _ _ _ hy3
    obtain ⟨y4, hy4⟩ := hf 4 _ c4 rfl rfl
    have hs := opens_slice_below (size := 5) (R := JsonR) Tryz.underlying23 (e := 25) (by kernel_rfl) (by decide) (N := m) (fun k hk cs x hx => ih k (by omega) cs x hx) m (Nat.le_refl _) _ _ hy4
    obtain ⟨a4, b4, r4⟩ := hs
    exact ⟨⟨a0, a1, a2, a3, a4⟩, _, JsonR.shut (a := ⟨a0, a1, a2, a3, a4⟩) ⟨w0, w1, by show a2.size ≤ _; omega⟩ r3 r4⟩
abbrev SzIH (n : Nat) : Prop := ∀ {w0 w : World} (hb : Below w0.heap.size w0 w) {bs : List Nat} {cs : List Value} {a : Json} (ha : (JR n) w0 bs cs a) {left : Int} (h0 : 0 ≤ left) (h1 : left ≤ 1048576), Calls Tryz.prog 4 #[.agg cs.toArray, .int .i64 left] w fun e w' => e = .returned (.int .i64 (clip (left - Json.bulk a))) ∧ Below w.heap.size w w'

theorem szJsonS {n : Nat} (szJson : SzIH n) {w0 w : World} (hb : Below w0.heap.size w0 w) {bs : List Nat} {v : Value} {xs : List Json} (ha : (SlR 5 (JR n)) w0 bs [v] xs) {left : Int} (h0 : 0 ≤ left) (h1 : left ≤ 1048576) :
    Calls Tryz.prog 10 #[v, .int .i64 left] w fun e w' => e = .returned (.int .i64 (clip (left - JsonS.bulk xs))) ∧ Below w.heap.size w w' := by
  obtain ⟨A, c, rfl, hlc, hcm, hel⟩ := ha.use
  by_cases hneg : left - xs.length < 0
  · have hfin : Hid (clip (left - JsonS.bulk xs) = -1) := clip_neg (by unfold JsonS.bulk bulkL; omega)
    go_enter Tryz.func10, Tryz.ntmps10
    go_wp2
    go_ret
    exact ⟨by rw [hfin.out]; rfl, Below.refl _ _⟩
  · go_enter Tryz.func10, Tryz.ntmps10
    go_wp2
    go_loopw [1, 5] (fun l i wr => ∃ k : Nat, k ≤ xs.length ∧ i = .int .i64 k ∧ psum Json.bulk xs k ≤ left - xs.length ∧ l = .int .i64 (left - xs.length - psum Json.bulk xs k) ∧ Below w.heap.size w wr) (fun _ i _ => xs.length - (intOf i).toNat)
    case atStart => exact ⟨0, Nat.zero_le _, rfl, by rw [psum_zero]; omega, by rw [psum_zero]; go_num, Below.refl _ _⟩
    case round =>
      obtain ⟨k, hk, rfl, hs, rfl, hbr⟩ := hrel
      by_cases hlt : k < xs.length
      · obtain ⟨b, o, bk, es, rfl, hbl, hcl, hcell, hR, hbk⟩ := hel k hlt
        have hR0 := hR
        obtain ⟨v3, b3, v4, b4, hbk', hes, _, r3, r4⟩ := JsonR.open ⟨n, hR⟩
        subst hes
        obtain ⟨A3, c3, rfl, _, _, _⟩ := r3.use
        obtain ⟨A4, c4, rfl, _, _, _⟩ := r4.use
        have c_0 := ((nxt hb hbr).cell (p := ⟨b, _, none⟩) hbl).trans (hcell 0 _ rfl)
        have c_1 := ((nxt hb hbr).cell (p := ⟨b, _, none⟩) hbl).trans (hcell 1 _ rfl)
        have c_2 := ((nxt hb hbr).cell (p := ⟨b, _, none⟩) hbl).trans (hcell 2 _ rfl)
        have c_3 := ((nxt hb hbr).cell (p := ⟨b, _, none⟩) hbl).trans (hcell 3 _ rfl)
        have c_4 := ((nxt hb hbr).cell (p := ⟨b, _, none⟩) hbl).trans (hcell 4 _ rfl)
        simp only [Nat.add_zero] at c_0 c_1 c_2 c_3 c_4
        clear hcell hel hcl
        have hp := psum_succ Json.bulk xs k hlt
        have hp2 := psum_le Json.bulk xs (k + 1)
        by_cases hneg2 : left - xs.length - psum Json.bulk xs k - Json.bulk xs[k] < 0
        · have H1 := hide (clip_neg hneg2)
          have H2 : Hid (clip (left - JsonS.bulk xs) = -1) := clip_neg (by unfold JsonS.bulk bulkL; omega)
          clear hp hp2
          go_wp2_with (go_at_call 4; refine (szJson (nxt hb hbr) hR0 (by omega) (by omega)).mono ?_; rw [H1.out]; rintro e w1 ⟨rfl, hb1⟩)
          go_ret
          exact ⟨by rw [H2.out]; rfl, nxt hbr hb1⟩
        · have H1 := hide (clip_pos (Int.not_lt.1 hneg2))
          have hnn : 0 ≤ left - xs.length - psum Json.bulk xs k - Json.bulk xs[k] := by omega
          have H := hide hp
          clear hp hp2
          go_wp2_with (go_at_call 4; refine (szJson (nxt hb hbr) hR0 (by omega) (by omega)).mono ?_; rw [H1.out]; rintro e w1 ⟨rfl, hb1⟩)
          go_roundw
          case rel => exact ⟨k + 1, hlt, by go_num, by rw [H.out]; omega, by rw [H.out]; go_num, nxt hbr hb1⟩
          case measure => simp [intOf]; omega
      · obtain rfl : k = xs.length := by omega
        rw [psum_all] at hs ⊢
        have H2 : Hid (clip (left - JsonS.bulk xs) = left - xs.length - (xs.map Json.bulk).sum) := by show _ = _; unfold JsonS.bulk bulkL; rw [clip_pos (by omega)]; omega
        go_wp2
        go_ret
        exact ⟨by rw [H2.out]; rfl, hbr⟩

theorem szJson_step {n : Nat} (IH : SzIH n) : SzIH (n + 1) := by
  intro w0 w hb bs cs a ha left h0 h1
  obtain ⟨v3, b3, v4, b4, rfl, rfl, hf, r3, r4⟩ := ha
  have hs_t : a.t.size ≤ 9223372036854775807 := hf.2.2
  clear hf
  obtain ⟨A3, c3, rfl, _, _, _⟩ := r3.use
  obtain ⟨A4, c4, rfl, _, _, _⟩ := r4.use
  by_cases n1 : left - (a.t.size : Int) < 0
  · have hr : Hid (clip (left - Json.bulk a) = -1) := clip_neg (by rw [Json.bulk_eq]; omega)
    go_enter Tryz.func4, Tryz.ntmps4
    go_wp2
    go_ret
    exact ⟨by rw [hr.out]; rfl, ((Below.refl _ _).alloc (Nat.le_refl _) _)⟩
  by_cases n2 : left - (a.t.size : Int) - (StringS.bulk a.keys : Int) < 0
  · have hr : Hid (clip (left - Json.bulk a) = -1) := clip_neg (by rw [Json.bulk_eq]; omega)
    go_enter Tryz.func4, Tryz.ntmps4
    go_wp2_with (first | (go_at_call 9; refine (szStringS (hb.alloc hb.size _) r3 (by omega) (by omega)).mono ?_; rw [clip_neg (by omega)]; rintro e w3 ⟨rfl, hb3⟩; have q3 := box_at hb3))
    go_ret
    exact ⟨by rw [hr.out]; rfl, (nxt ((Below.refl _ _).alloc (Nat.le_refl _) _) hb3)⟩
  by_cases n3 : left - (a.t.size : Int) - (StringS.bulk a.keys : Int) - (JsonS.bulk a.items : Int) < 0
  · have hr : Hid (clip (left - Json.bulk a) = -1) := clip_neg (by rw [Json.bulk_eq]; omega)
    go_enter Tryz.func4, Tryz.ntmps4
    go_wp2_with (first | (go_at_call 9; refine (szStringS (hb.alloc hb.size _) r3 (by omega) (by omega)).mono ?_; rw [clip_pos (by omega)]; rintro e w3 ⟨rfl, hb3⟩; have q3 := box_at hb3) | (go_at_call 10; refine (szJsonS (IH) (nxt (hb.alloc hb.size _) hb3) r4 (by omega) (by omega)).mono ?_; rw [clip_neg (by omega)]; rintro e w4 ⟨rfl, hb4⟩))
    go_ret
    exact ⟨by rw [hr.out]; rfl, (nxt (nxt ((Below.refl _ _).alloc (Nat.le_refl _) _) hb3) hb4)⟩
  have hr : Hid (clip (left - Json.bulk a) = left - (a.t.size : Int) - (StringS.bulk a.keys : Int) - (JsonS.bulk a.items : Int)) := by show _ = _; rw [clip_pos (by rw [Json.bulk_eq]; omega)]; rw [Json.bulk_eq]; omega
  go_enter Tryz.func4, Tryz.ntmps4
  go_wp2_with (first | (go_at_call 9; refine (szStringS (hb.alloc hb.size _) r3 (by omega) (by omega)).mono ?_; rw [clip_pos (by omega)]; rintro e w3 ⟨rfl, hb3⟩; have q3 := box_at hb3) | (go_at_call 10; refine (szJsonS (IH) (nxt (hb.alloc hb.size _) hb3) r4 (by omega) (by omega)).mono ?_; rw [clip_pos (by omega)]; rintro e w4 ⟨rfl, hb4⟩; have q4 := box_on q3 rfl hb4))
  go_ret
  exact ⟨by rw [hr.out]; rfl, (nxt (nxt ((Below.refl _ _).alloc (Nat.le_refl _) _) hb3) hb4)⟩

theorem szJsonN : ∀ n, SzIH n
  | 0 => fun _ {_ _ _} ha => ha.elim
  | n + 1 => szJson_step (szJsonN n)
theorem szJson {w0 w : World} (hb : Below w0.heap.size w0 w) {bs : List Nat} {cs : List Value} {a : Json} (ha : JsonR w0 bs cs a) {left : Int} (h0 : 0 ≤ left) (h1 : left ≤ 1048576) :
    Calls Tryz.prog 4 #[.agg cs.toArray, .int .i64 left] w fun e w' => e = .returned (.int .i64 (clip (left - Json.bulk a))) ∧ Below w.heap.size w w' := by
  obtain ⟨n, ha⟩ := ha; exact szJsonN n hb ha h0 h1
theorem JsonS.info : (Tryz.prog.info? 31).map (fun i => (i.zero, i.size, i.bytes)) = some (some (.agg #[.int .i64 0, .int .i64 0, .string ⟨#[]⟩, .slice none 0 0, .slice none 0 0]), 5, 80) := by kernel_rfl

abbrev ToIH (n : Nat) : Prop := ∀ {w0 w : World} (hb : Below w0.heap.size w0 w) {bs : List Nat} {cs : List Value} {a : Json} (ha : (JR n) w0 bs cs a) (hbk : Json.bulk a ≤ 1048576), Calls Tryz.prog 6 #[.agg cs.toArray] w (ToP (JR n) w a)

theorem toJsonS {n : Nat} (toJson : ToIH n) {w0 w : World} (hb : Below w0.heap.size w0 w) {bs : List Nat} {v : Value} {xs : List Json} (ha : (SlR 5 (JR n)) w0 bs [v] xs) (hbk : JsonS.bulk xs ≤ 1048576) :
    Calls Tryz.prog 14 #[v] w (ToS (SlR 5 (JR n)) w xs) := by
  obtain ⟨A, c, rfl, hlc, hcm, hel⟩ := ha.use
  have hn : xs.length ≤ 1048576 := by unfold JsonS.bulk bulkL at hbk; omega
  have hbe : ∀ k (hk : k < xs.length), Json.bulk xs[k] ≤ 1048576 := fun k hk => by
    have h1 := psum_succ Json.bulk xs k hk
    have h2 := psum_le Json.bulk xs (k + 1)
    unfold JsonS.bulk bulkL at hbk; omega
  obtain ⟨cur0, hcs, hmk⟩ := make_row (P := Tryz.prog) (t := 29) Tryz.underlying29 JsonS.info xs.length (by omega) (by omega)
  have hB0 := hide (Bld.start (R := (JR n)) (e := 31) w xs hcs)
  clear hcs hbk
  go_enter Tryz.func14, Tryz.ntmps14
  go_wp2
  go_loopw [4] (fun i wr => ∃ k : Nat, k ≤ xs.length ∧ i = .int .i64 k ∧ Hid (Bld 5 (JR n) 31 wr w.heap.size xs k) ∧ Below w.heap.size w wr) (fun i _ => xs.length - (intOf i).toNat)
  case atStart => exact ⟨0, Nat.zero_le _, rfl, hB0, (Below.refl _ _).alloc (Nat.le_refl _) _⟩
  case round =>
    clear hmk hB0
    obtain ⟨k, hk, rfl, hB, hbr⟩ := hrel
    by_cases hlt : k < xs.length
    · obtain ⟨b, o, bk, es, rfl, hbl, hcl, hcell, hR, _⟩ := hel k hlt
      have hR0 := hR
      obtain ⟨v3, b3, v4, b4, hbk', hes, _, r3, r4⟩ := JsonR.open ⟨n, hR⟩
      subst hes
      obtain ⟨A3, c3, rfl, _, _, _⟩ := r3.use
      obtain ⟨A4, c4, rfl, _, _, _⟩ := r4.use
      have c_0 := ((nxt hb hbr).cell (p := ⟨b, _, none⟩) hbl).trans (hcell 0 _ rfl)
      have c_1 := ((nxt hb hbr).cell (p := ⟨b, _, none⟩) hbl).trans (hcell 1 _ rfl)
      have c_2 := ((nxt hb hbr).cell (p := ⟨b, _, none⟩) hbl).trans (hcell 2 _ rfl)
      have c_3 := ((nxt hb hbr).cell (p := ⟨b, _, none⟩) hbl).trans (hcell 3 _ rfl)
      have c_4 := ((nxt hb hbr).cell (p := ⟨b, _, none⟩) hbl).trans (hcell 4 _ rfl)
      simp only [Nat.add_zero] at c_0 c_1 c_2 c_3 c_4
      clear hcell hel hcl
      go_wp2_with (go_at_call 6; refine (toJson (nxt hb hbr) hR0 (hbe k hlt)).mono ?_; rintro e w1 ⟨cs1, bs1, rfl, hR1, hF1, hb1⟩; have hR2 := hide hR1; obtain ⟨z3, y3, z4, y4, hbs1, hcs1, _, t3, t4⟩ := JsonR.open ⟨n, hR1⟩; subst hcs1; obtain ⟨D3, d3, rfl, _, _, _⟩ := t3.use; obtain ⟨D4, d4, rfl, _, _, _⟩ := t4.use; have hco := hB.out.cells hb1 hlt; obtain ⟨u0, s_0⟩ := hco.1 0 (by omega); obtain ⟨u1, s_1⟩ := hco.1 1 (by omega); obtain ⟨u2, s_2⟩ := hco.1 2 (by omega); obtain ⟨u3, s_3⟩ := hco.1 3 (by omega); obtain ⟨u4, s_4⟩ := hco.1 4 (by omega); simp only [Nat.add_zero] at s_0 s_1 s_2 s_3 s_4; have fz := hco.2; clear hco)
      go_roundw
      case rel => exact ⟨k + 1, hlt, by go_num, hide (by have h := hB.out.step (JR.good n) hb1 hlt hR2.out rfl hF1; rw [setMany_5] at h; exact h), ((((((nxt hbr hb1).setCell (Nat.le_refl _) _).setCell (Nat.le_refl _) _).setCell (Nat.le_refl _) _).setCell (Nat.le_refl _) _).setCell (Nat.le_refl _) _)⟩
      case measure => simp [intOf]; omega
    · obtain rfl : k = xs.length := by omega
      have hd := hide (hB.out.done (by omega))
      go_wp2
      go_ret
      obtain ⟨bs', h1, h2⟩ := hd.out
      exact ⟨_, bs', rfl, h1, h2, hbr⟩

theorem toJson_step {n : Nat} (IH : ToIH n) : ToIH (n + 1) := by
  intro w0 w hb bs cs a ha hbk
  obtain ⟨v3, b3, v4, b4, rfl, rfl, hf, r3, r4⟩ := ha
  have hf0 := hf
  obtain ⟨A3, c3, rfl, _, _, _⟩ := r3.use
  have k3 : StringS.bulk a.keys ≤ 1048576 := by rw [Json.bulk_eq] at hbk; omega
  obtain ⟨A4, c4, rfl, _, _, _⟩ := r4.use
  have k4 : JsonS.bulk a.items ≤ 1048576 := by rw [Json.bulk_eq] at hbk; omega
  clear hf hbk
  go_enter Tryz.func6, Tryz.ntmps6
  go_wp2_with (first | (go_at_call 13; refine (toStringS (((hb.alloc hb.size _).alloc (by have := hb.size; simp; omega) _).alloc (by have := hb.size; simp; omega) _) r3 k3).mono ?_; rintro e W3 ⟨x3, e3, rfl, s3, f3, hb3⟩; obtain ⟨D3, d3, rfl, _, _, _⟩ := s3.use; have B3 : Hid (W3.heap[w.heap.size]? = some (.cells #[.int .i64 a.kind, .int .i64 a.n, .string a.t, .slice A3 a.keys.length c3, .slice A4 a.items.length c4] 25 (0, 0))) := blk_on (blk_old (blk_old (blk_new _ _ _) _) _) hb3; have R3 : Hid (W3.heap[(w.heap.size + 1)]? = some (.cells #[.int .i64 0, .int .i64 0, .string ⟨#[]⟩, .slice none 0 0, .slice none 0 0] 31 (0, 0))) := blk_on (blk_old (by simpa using blk_new (w.alloc _) _ _) _) hb3; have O3 : Hid (W3.heap[(w.heap.size + 1 + 1)]? = some (.cells #[.int .i64 a.kind, .int .i64 a.n, .string a.t, .slice none 0 0, .slice none 0 0] 31 (0, 0))) := blk_on (by simpa using blk_new ((w.alloc _).alloc _) _ _) hb3; have pc3 := blk_cells B3.out; have qc3 := blk_cells R3.out; have qf3 := blk_free R3.out; have oc3 := blk_cells O3.out; have of3 := blk_free O3.out) | (go_at_call 14; refine (toJsonS (IH) ((nxt (((hb.alloc hb.size _).alloc (by have := hb.size; simp; omega) _).alloc (by have := hb.size; simp; omega) _) hb3).setCell (p := ⟨(w.heap.size + 1 + 1), 3, none⟩) (by have := hb.size; simp; omega) _) r4 k4).mono ?_; rintro e W4 ⟨x4, e4, rfl, s4, f4, hb4⟩; obtain ⟨D4, d4, rfl, _, _, _⟩ := s4.use; have B4 : Hid (W4.heap[w.heap.size]? = some (.cells #[.int .i64 a.kind, .int .i64 a.n, .string a.t, .slice A3 a.keys.length c3, .slice A4 a.items.length c4] 25 (0, 0))) := blk_on ((blk_far (p := ⟨(w.heap.size + 1 + 1), 3, none⟩) (by simp; try omega) _).trans (B3.out)) hb4; have R4 : Hid (W4.heap[(w.heap.size + 1)]? = some (.cells #[.int .i64 0, .int .i64 0, .string ⟨#[]⟩, .slice none 0 0, .slice none 0 0] 31 (0, 0))) := blk_on ((blk_far (p := ⟨(w.heap.size + 1 + 1), 3, none⟩) (by simp; try omega) _).trans (R3.out)) hb4; have O4 : Hid (W4.heap[(w.heap.size + 1 + 1)]? = some (.cells #[.int .i64 a.kind, .int .i64 a.n, .string a.t, .slice D3 a.keys.length d3, .slice none 0 0] 31 (0, 0))) := blk_on (blk_set (O3.out) 3 _) hb4; have pc4 := blk_cells B4.out; have qc4 := blk_cells R4.out; have qf4 := blk_free R4.out; have oc4 := blk_cells O4.out; have of4 := blk_free O4.out; clear pc3 qc3 qf3 oc3 of3))
  have z3 := hb3.size
  simp at z3
  have z4 := hb4.size
  simp [World.setCell] at z4
  have fin : _ = some (Obj.cells #[.int .i64 a.kind, .int .i64 a.n, .string a.t, .slice D3 a.keys.length d3, .slice D4 a.items.length d4] 31 (0, 0)) := blk_set (blk_set (blk_set (blk_set (blk_set ((blk_far (p := ⟨(w.heap.size + 1 + 1), 4, none⟩) (by simp; try omega) (.slice D4 a.items.length d4)).trans (R4.out)) 0 (.int .i64 a.kind)) 1 (.int .i64 a.n)) 2 (.string a.t)) 3 (.slice D3 a.keys.length d3)) 4 (.slice D4 a.items.length d4)
  have fc := blk_cells fin
  have a3 := (((((((((Away.refl (w.heap.size + 3) W3).set (p := ⟨(w.heap.size + 1 + 1), 3, none⟩) (by simp) (.slice D3 a.keys.length d3)).call hb4).set (p := ⟨(w.heap.size + 1 + 1), 4, none⟩) (by simp) (.slice D4 a.items.length d4)).set (p := ⟨w.heap.size + 1, 0, none⟩) (by simp) (.int .i64 a.kind)).set (p := ⟨w.heap.size + 1, 1, none⟩) (by simp) (.int .i64 a.n)).set (p := ⟨w.heap.size + 1, 2, none⟩) (by simp) (.string a.t)).set (p := ⟨w.heap.size + 1, 3, none⟩) (by simp) (.slice D3 a.keys.length d3)).set (p := ⟨w.heap.size + 1, 4, none⟩) (by simp) (.slice D4 a.items.length d4))
  have a4 := (((((((Away.refl (w.heap.size + 3) W4).set (p := ⟨(w.heap.size + 1 + 1), 4, none⟩) (by simp) (.slice D4 a.items.length d4)).set (p := ⟨w.heap.size + 1, 0, none⟩) (by simp) (.int .i64 a.kind)).set (p := ⟨w.heap.size + 1, 1, none⟩) (by simp) (.int .i64 a.n)).set (p := ⟨w.heap.size + 1, 2, none⟩) (by simp) (.string a.t)).set (p := ⟨w.heap.size + 1, 3, none⟩) (by simp) (.slice D3 a.keys.length d3)).set (p := ⟨w.heap.size + 1, 4, none⟩) (by simp) (.slice D4 a.items.length d4))
  refine bodyPost_ret (v := .agg #[.int .i64 a.kind, .int .i64 a.n, .string a.t, .slice D3 a.keys.length d3, .slice D4 a.items.length d4]) (by simp [results, Tryz.results6, go_sem, fc]) rfl ⟨[.int .i64 a.kind, .int .i64 a.n, .string a.t, .slice D3 a.keys.length d3, .slice D4 a.items.length d4], _, rfl, ⟨_, e3, _, e4, rfl, rfl, hf0, a3.rd StringSR.good s3 f3 (by simp; try omega), a4.rd (SlR.good (JR.good n)) s4 f4 (by simp; try omega)⟩, ?_, (((((((nxt' ((nxt' ((((Below.refl w.heap.size w).alloc (Nat.le_refl _) _).alloc (by simp) _).alloc (by simp; omega) _) hb3).setCell (p := ⟨(w.heap.size + 1 + 1), 3, none⟩) (by simp; try omega) _) hb4).setCell (p := ⟨(w.heap.size + 1 + 1), 4, none⟩) (by simp; try omega) _).setCell (p := ⟨w.heap.size + 1, 0, none⟩) (by simp) _).setCell (p := ⟨w.heap.size + 1, 1, none⟩) (by simp) _).setCell (p := ⟨w.heap.size + 1, 2, none⟩) (by simp) _).setCell (p := ⟨w.heap.size + 1, 3, none⟩) (by simp) _).setCell (p := ⟨w.heap.size + 1, 4, none⟩) (by simp) _)⟩
  exact (Fr.append (mid := W3.heap.size) ((a3.fr f3 (by simp; try omega))) (((a4.fr f4 (by simp; try omega))).mono (by simp [World.setCell])) (by have := hb3.size; simp at this ⊢; omega) (fun b hm => f3.lt b hm)).mono (by simp; try omega)

theorem toJsonN : ∀ n, ToIH n
  | 0 => fun _ {_ _ _} ha => ha.elim
  | n + 1 => toJson_step (toJsonN n)
theorem toJson {w0 w : World} (hb : Below w0.heap.size w0 w) {bs : List Nat} {cs : List Value} {a : Json} (ha : JsonR w0 bs cs a) (hbk : Json.bulk a ≤ 1048576) :
    Calls Tryz.prog 6 #[.agg cs.toArray] w (ToP JsonR w a) := by
  obtain ⟨n, ha⟩ := ha; exact (toJsonN n hb ha hbk).mono fun e w' ⟨cs, bs, he, hR, hf, hb⟩ => ⟨cs, bs, he, ⟨n, hR⟩, hf, hb⟩
abbrev EqIH (n : Nat) : Prop := ∀ {w0 w : World} (hb : Below w0.heap.size w0 w) {b1 b2 : List Nat} {c1 c2 : List Value} {a : Json} (h1 : (JR n) w0 b1 c1 a) (h2 : (JR n) w0 b2 c2 a), Calls Tryz.prog 8 #[.agg c1.toArray, .agg c2.toArray] w fun e w' => e = .returned (.bool true) ∧ Below w.heap.size w w'

theorem eqJsonS {n : Nat} (eqJson : EqIH n) {w0 w : World} (hb : Below w0.heap.size w0 w) {b1 b2 : List Nat} {v1 v2 : Value} {xs : List Json} (h1 : (SlR 5 (JR n)) w0 b1 [v1] xs) (h2 : (SlR 5 (JR n)) w0 b2 [v2] xs) :
    Calls Tryz.prog 18 #[v1, v2] w fun e w' => e = .returned (.bool true) ∧ Below w.heap.size w w' := by
  obtain ⟨A, c, rfl, hlc, hcm, hel⟩ := h1.use
  obtain ⟨A', c', rfl, hlc', hcm', hel'⟩ := h2.use
  go_enter Tryz.func18, Tryz.ntmps18
  go_wp2
  go_loopw [5] (fun i wr => ∃ k : Nat, k ≤ xs.length ∧ i = .int .i64 k ∧ Below w.heap.size w wr) (fun i _ => xs.length - (intOf i).toNat)
  case atStart => exact ⟨0, Nat.zero_le _, rfl, Below.refl _ _⟩
  case round =>
    obtain ⟨k, hk, rfl, hbr⟩ := hrel
    by_cases hlt : k < xs.length
    · obtain ⟨b, o, bk, es, rfl, hbl, hcl, hcell, hR, _⟩ := hel k hlt
      obtain ⟨b', o', bk', es', rfl, hbl', hcl', hcell', hR', _⟩ := hel' k hlt
      have hbw := nxt hb hbr
      have Hx := hR
      obtain ⟨vx3, bx3, vx4, bx4, hbsx, hesx, _, rx3, rx4⟩ := JsonR.open ⟨n, hR⟩
      subst hesx
      obtain ⟨Ax3, cx3, rfl, _, _, _⟩ := rx3.use
      obtain ⟨Ax4, cx4, rfl, _, _, _⟩ := rx4.use
      have Hy := hR'
      obtain ⟨vy3, by3, vy4, by4, hbsy, hesy, _, ry3, ry4⟩ := JsonR.open ⟨n, hR'⟩
      subst hesy
      obtain ⟨Ay3, cy3, rfl, _, _, _⟩ := ry3.use
      obtain ⟨Ay4, cy4, rfl, _, _, _⟩ := ry4.use
      have cx_0 := Fw.cell ((hbw.cell (p := ⟨b, _, none⟩) hbl).trans (hcell 0 _ rfl))
      have cx_1 := Fw.cell ((hbw.cell (p := ⟨b, _, none⟩) hbl).trans (hcell 1 _ rfl))
      have cx_2 := Fw.cell ((hbw.cell (p := ⟨b, _, none⟩) hbl).trans (hcell 2 _ rfl))
      have cx_3 := Fw.cell ((hbw.cell (p := ⟨b, _, none⟩) hbl).trans (hcell 3 _ rfl))
      have cx_4 := Fw.cell ((hbw.cell (p := ⟨b, _, none⟩) hbl).trans (hcell 4 _ rfl))
      have cy_0 := Fw.cell ((hbw.cell (p := ⟨b', _, none⟩) hbl').trans (hcell' 0 _ rfl))
      have cy_1 := Fw.cell ((hbw.cell (p := ⟨b', _, none⟩) hbl').trans (hcell' 1 _ rfl))
      have cy_2 := Fw.cell ((hbw.cell (p := ⟨b', _, none⟩) hbl').trans (hcell' 2 _ rfl))
      have cy_3 := Fw.cell ((hbw.cell (p := ⟨b', _, none⟩) hbl').trans (hcell' 3 _ rfl))
      have cy_4 := Fw.cell ((hbw.cell (p := ⟨b', _, none⟩) hbl').trans (hcell' 4 _ rfl))
      simp only [Nat.add_zero] at cx_0 cx_1 cx_2 cx_3 cx_4 cy_0 cy_1 cy_2 cy_3 cy_4
      clear hcell hel hcl hcell' hel' hcl'
      go_wp2_with fail
      refine region_quiet (by kernel_rfl) (by kernel_rfl) ?_
      repeat (go_big_quiet_step ((go_at_call 8; exact quiet_of (eqJson (hbw.trans (Below.mono (Fw.h _) hbw.size)) Hx Hy))))
      refine wpQuiet_nil ?_; intro w1 hb1; clear cx_0 cx_1 cx_2 cx_3 cx_4 cy_0 cy_1 cy_2 cy_3 cy_4
      go_wp2_with fail
      go_roundw
      case rel => exact ⟨k + 1, hlt, by go_num, nxt hbr hb1⟩
      case measure => simp [intOf]; omega
    · obtain rfl : k = xs.length := by omega
      go_wp2
      go_ret
      exact ⟨rfl, hbr⟩

theorem eqJson_step {n : Nat} (IH : EqIH n) : EqIH (n + 1) := by
  intro w0 w hb b1 b2 c1 c2 a h1 h2
  obtain ⟨vx3, bx3, vx4, bx4, rfl, rfl, fx, rx3, rx4⟩ := h1
  obtain ⟨vy3, by3, vy4, by4, rfl, rfl, fy, ry3, ry4⟩ := h2
  clear fx fy
  obtain ⟨Ax3, cx3, rfl, _, _, _⟩ := rx3.use
  obtain ⟨Ay3, cy3, rfl, _, _, _⟩ := ry3.use
  obtain ⟨Ax4, cx4, rfl, _, _, _⟩ := rx4.use
  obtain ⟨Ay4, cy4, rfl, _, _, _⟩ := ry4.use
  have hl : ∀ (o1 o2 : Obj), Below w.heap.size w ((w.alloc o1).alloc o2) := fun o1 o2 => ((Below.refl _ _).alloc (Nat.le_refl _) _).alloc (by simp) _
  go_enter Tryz.func8, Tryz.ntmps8
  go_wp2_with (first | (go_at_call 17; refine (eqStringS ((hb.alloc hb.size _).alloc (by have := hb.size; simp; omega) _) rx3 ry3).mono ?_; rintro e w4 ⟨rfl, hb4⟩; obtain ⟨q4, p4⟩ := two_at hb4) | (go_at_call 18; refine (eqJsonS (IH) (nxt ((hb.alloc hb.size _).alloc (by have := hb.size; simp; omega) _) hb4) rx4 ry4).mono ?_; rintro e w5 ⟨rfl, hb5⟩; have q5 := box_on q4 rfl hb5; have p5 := box_on p4 rfl hb5))
  go_ret
  exact ⟨rfl, (nxt' (nxt' (hl _ _) hb4) hb5 (by have := hb4.size; simp at this; omega))⟩

theorem eqJsonN : ∀ n, EqIH n
  | 0 => fun _ {_ _ _ _ _} h1 => h1.elim
  | n + 1 => eqJson_step (eqJsonN n)
theorem eqJson {w0 w : World} (hb : Below w0.heap.size w0 w) {b1 b2 : List Nat} {c1 c2 : List Value} {a : Json} (h1 : JsonR w0 b1 c1 a) (h2 : JsonR w0 b2 c2 a) :
    Calls Tryz.prog 8 #[.agg c1.toArray, .agg c2.toArray] w fun e w' => e = .returned (.bool true) ∧ Below w.heap.size w w' := by
  obtain ⟨n, h1⟩ := h1; obtain ⟨m, h2⟩ := h2; exact eqJsonN (n + m) hb (h1.mono (by omega)) (h2.mono (by omega))
end Go.Proofs.YtdleccpjejdgiaaGreatDoor
