/- From the form's own reading of arguments to lists and numbers; and the frame that every law of this claim shares. No statement is proved here; no conditions. -/
import Derived.Test.YtdleccpjejdgiaaGreatDoorBase
namespace Go.Proofs.YtdleccpjejdgiaaGreatDoor
open Go.ChangeShapes Go.WideShapes Go.ChangeAt Go.RowKit Go.Deep

section
variable {H : Type} {enc : TypeId × Value → H} {P : Program} {w : World} {base : Nat} {spare : Nat → Bool} {held : Bool}

/-- Whatever reads at a type reads as a datum of R. -/
def Opens (enc : TypeId × Value → H) (P : Program) (w : World) (base : Nat) (spare : Nat → Bool) (held : Bool) (t : TypeId) {α : Type} (R : Rd α) : Prop :=
  ∀ n cs x, DataW.trod enc P w base spare held n t cs = some x → ∃ (a : α) (bs : List Nat), R w bs cs a

theorem opens_int {t : TypeId} (ht : P.underlying t = some (.int .i64)) : Opens enc P w base spare held t IntR := by
  intro n cs x h
  obtain ⟨m, rfl, _, hw⟩ := DataW.trod_int ht h
  exact ⟨m, [], rfl, rfl, hw⟩

theorem opens_string {t : TypeId} (ht : P.underlying t = some .string) : Opens enc P w base spare held t StrR := by
  intro n cs x h
  obtain ⟨s, rfl, _, hw⟩ := DataW.trod_string ht h
  exact ⟨s, [], rfl, rfl, by unfold maxLen at hw; omega⟩

theorem add_form {b o : Nat} (n : Nat) : (⟨b, o, none⟩ : Addr).add n = ⟨b, o + n, none⟩ := by
  unfold Addr.add; split <;> simp_all

theorem opens_slice {α : Type} [Inhabited α] {R : Rd α} {t e : TypeId} {size : Nat} (ht : P.underlying t = some (.slice e)) (hC : P.cellsOf e = size) (hpos : 0 < size)
    (he : Opens enc P w base spare held e R) : Opens enc P w base spare held t (SlR size R) := by
  intro n cs x h
  rcases open_slice ht h with ⟨rfl, _⟩ | ⟨a, len, cap, m, n', D, Pl, rfl, _, hlc, hcm, hm, _, hi⟩
  · exact ⟨[], [], none, 0, rfl, by simp, by simp [maxLen], .inl ⟨rfl, rfl⟩⟩
  · have hml : len ≤ m := by rw [hm]; split <;> omega
    have hel : ∀ i, i < len → ∃ y : α × List Nat × List Value, y.2.2.length = size ∧ (∀ j, j < size → w.cell? ((a.add (i * size)).add j) = y.2.2[j]?) ∧ R w y.2.1 y.2.2 y.1 := by
      intro i hlt
      obtain ⟨es, hc, ht'⟩ := hi i (by omega)
      rw [hC] at hc
      obtain ⟨_, hl, hat⟩ := World.cells?_some hc
      obtain ⟨x, bs, hr⟩ := he _ _ _ ht'
      exact ⟨(x, bs, es), hl, fun j hj => hat j hj, hr⟩
    obtain ⟨f, hf⟩ := choose_lt hel
    rcases Nat.eq_zero_or_pos len with rfl | hlen
    · exact ⟨[], [], some a, cap, rfl, by simp, hcm, .inl ⟨rfl, rfl⟩⟩
    · have h00 := (hf 0 hlen).2.1 0 hpos
      have hsp : w.cell? a = (f 0).2.2[0]? := by
        have : (a.add (0 * size)).add 0 = a := by simp [Addr.add]
        rw [this] at h00; exact h00
      rw [List.getElem?_eq_getElem (by rw [(hf 0 hlen).1]; exact hpos)] at hsp
      have hblt := World.block_lt_of_cell? w a hsp
      obtain ⟨b, o, sp⟩ := a
      obtain rfl : sp = none := by
        cases sp with
        | none => rfl
        | some s => simp only [World.cell?] at hsp; split at hsp <;> simp at hsp
      refine ⟨(List.range len).map fun i => (f i).1, b :: ((List.range len).map fun i => (f i).2.1).flatten, some ⟨b, o, none⟩, cap, by simp, by simpa using hlc, hcm,
        .inr ⟨b, o, (List.range len).map fun i => (f i).2.1, rfl, hblt, by simp, rfl, fun k x bk hx hbk => ?_⟩⟩
      have hk : k < len := by
        rcases Nat.lt_or_ge k len with h' | h'
        · exact h'
        · rw [List.getElem?_eq_none (by simpa using h')] at hx; cases hx
      simp only [List.getElem?_map, List.getElem?_range hk, Option.map_some, Option.some.injEq] at hx hbk
      subst hx; subst hbk
      obtain ⟨h1, h2, h3⟩ := hf k hk
      refine ⟨(f k).2.2, h1, fun j u hu => ?_, h3⟩
      have hj : j < size := by
        rcases Nat.lt_or_ge j size with h' | h'
        · exact h'
        · rw [List.getElem?_eq_none (by omega)] at hu; cases hu
      have := h2 j hj
      rw [add_form, add_form, hu] at this
      exact this

/-- A struct each of whose fields is one cell: field i's cell reads at field i's type. -/
theorem open_fields {t : TypeId} {fs : Array Field} {fuel : Nat} {cs : List Value} {x : DataW H × List MemPlace} (ht : P.underlying t = some (.struct fs)) (hone : oneCellFields P fs = true) (hC : P.cellsOf t = fs.size)
    (h : DataW.trod enc P w base spare held fuel t cs = some x) :
    cs.length = fs.size ∧ ∃ n, fuel = n + 1 ∧ ∀ (i : Nat) (f : Field) (c : Value), fs[i]? = some f → cs[i]? = some c → ∃ y, DataW.trod enc P w base spare held n f.type [c] = some y := by
  obtain ⟨xs, n, hn, _, hl, hxl, hf⟩ := DataW.trod_struct ht h
  refine ⟨by omega, n, hn, fun i f c hi hc => ?_⟩
  obtain ⟨ho, hk⟩ := hone_of hone i f hi
  have h1 := hf i f hi
  rw [ho, hk] at h1
  have hil : i < cs.length := by
    rcases Nat.lt_or_ge i cs.length with h' | h'
    · exact h'
    · rw [List.getElem?_eq_none h'] at hc; cases hc
  rw [List.drop_eq_getElem_cons hil] at h1
  rw [List.getElem?_eq_getElem hil] at hc
  injection hc with hc
  rw [hc] at h1
  have hix : i < xs.length := by rw [hxl]; exact (Array.getElem?_eq_some_iff.1 hi).1
  rw [List.getElem?_eq_getElem hix] at h1
  exact ⟨xs[i], h1⟩

theorem arg_struct {α : Type} {R : Rd α} {r : Reach} {b0 : Nat} {t : TypeId} {fs : Array Field} {v : Value} {d : DataW H} {p : List MemPlace} (ht : P.underlying t = some (.struct fs)) (ho : Opens enc P w base spare held t R)
    (hv : Value.okWide P w r b0 t v) (h : DataW.Trod enc P w base spare held t v d p) : ∃ (cs : List Value) (a : α) (bs : List Nat), v = .agg cs.toArray ∧ R w bs cs a := by
  obtain ⟨cs, rfl, _⟩ := okWide_struct ht hv
  obtain ⟨n, hn⟩ := h
  obtain ⟨a, bs, hr⟩ := ho _ _ _ hn
  exact ⟨cs.toList, a, bs, by simp, hr⟩
theorem arg_slice {α : Type} {R : Rd α} {r : Reach} {b0 : Nat} {t e : TypeId} {v : Value} {d : DataW H} {p : List MemPlace} (ht : P.underlying t = some (.slice e)) (ho : Opens enc P w base spare held t R)
    (hv : Value.okWide P w r b0 t v) (h : DataW.Trod enc P w base spare held t v d p) : ∃ (a : α) (bs : List Nat), R w bs [v] a := by
  obtain ⟨A, n, c, rfl⟩ := okWide_slice ht hv
  obtain ⟨n, hn⟩ := h
  obtain ⟨a, bs, hr⟩ := ho _ _ _ hn
  exact ⟨a, bs, hr⟩
theorem arg_int {r : Reach} {b0 : Nat} {t : TypeId} {v : Value} {d : DataW H} {p : List MemPlace} (ht : P.underlying t = some (.int .i64))
    (hv : Value.okWide P w r b0 t v) (h : DataW.Trod enc P w base spare held t v d p) : ∃ n, v = .int .i64 n ∧ (Lit.int .i64 n).wf = true := by
  obtain ⟨x, rfl, _, _, wx⟩ := open_int ht hv h
  exact ⟨x, rfl, wx⟩
theorem arg_string {r : Reach} {b0 : Nat} {t : TypeId} {v : Value} {d : DataW H} {p : List MemPlace} (ht : P.underlying t = some .string)
    (hv : Value.okWide P w r b0 t v) (h : DataW.Trod enc P w base spare held t v d p) : ∃ s : ByteArray, v = .string s ∧ s.size ≤ 9223372036854775807 := by
  obtain ⟨s, rfl, _, _, hs⟩ := Go.ChangeMaps.open_string ht hv h
  exact ⟨s, rfl, by unfold maxLen at hs; omega⟩
end

/-! ### The frame of a law -/
section
variable {H : Type} {enc : TypeId × Value → H} {P : Program}
theorem trodAll_stays (hl : laidOutB P = true) {W W' : World} {sp : Nat → Bool} (hb : Below W.heap.size W W') : ∀ {ts : List TypeId} {vs : List Value} {ds : List (DataW H)} {ps : List MemPlace},
    (∀ t ∈ ts, P.readableRec t = true ∧ t < P.types.size) → DataW.TrodAll enc P W 0 (fun _ => true) true ts vs ds ps → (∀ x ∈ ps, x.block < W.heap.size) → (∀ x ∈ ps, sp x.block = true) →
    DataW.TrodAll enc P W' 0 sp true ts vs ds ps
  | [], _, _, _, _, h, _, _ => by
    obtain ⟨rfl, rfl, rfl⟩ := trodAll_nil h
    exact trodAll_mk0
  | t :: ts, _, _, _, ht, h, hlt, hsp => by
    obtain ⟨v, vs, d, ds, p, q, rfl, rfl, rfl, h1, h2⟩ := trodAll_cons h
    have hr := ht t (by simp)
    refine trodAll_cons_mk (WideElems.Trod_stays hl hr.1 hr.2 h1 (fun x hx => hb.same (hlt x (by simp [hx]))) (fun x hx => hsp x (by simp [hx]))) ?_
    exact trodAll_stays hl hb (fun t' h' => ht t' (by simp [h'])) h2 (fun x hx => hlt x (by simp [hx])) (fun x hx => hsp x (by simp [hx]))

/-- The row's step of a law: it returned true, and what was there is as it was. -/
theorem law_post {f : Func} {s : ChangeSpec} {W W' : World} {args : Array Value} {ds : List (DataW H)} {before : List MemPlace} {tb : TypeId}
    (hl : laidOutB P = true) (hts : ∀ t ∈ f.params.toList, P.readableRec t = true ∧ t < P.types.size) (hvs : s.vars = [])
    (hW : DataW.Whole enc P f.params.toList s.vars false W args.toList ds [] before) (hA : DataW.TrodAll enc P W 0 (fun _ => true) true f.params.toList args.toList ds before)
    (hres : (s.fn H (ds ++ [])).results = [.lit (.bool true)]) (hargs : (s.fn H (ds ++ [])).args = ds) (hvars : (s.fn H (ds ++ [])).vars = [])
    (hrt : f.resultTypes = #[tb]) (htb : P.underlying tb = some .bool) (hb : Below W.heap.size W W') :
    s.post enc P f false true false false W args (.bool true) W' := by
  have hlt : ∀ p ∈ before, p.block < W.heap.size := fun p hp => hW.lt p hp
  have hold : ∀ p ∈ before, (fun b => decide (b < W.heap.size)) p.block = true := fun p hp => by simpa using hlt p hp
  have hR : ∀ (b : Nat) (sp : Nat → Bool) (hd : Bool), DataW.TrodAll enc P W' b sp hd f.resultTypes.toList ((Value.bool true).resultList f.resultTypes.size) (s.fn H (ds ++ [])).results [] := by
    intro b sp hd
    rw [hres, hrt]
    exact trodAll_cons_mk (shut_bool htb _) trodAll_mk0
  have hAr : ∀ sp : Nat → Bool, (∀ p ∈ before, sp p.block = true) → DataW.TrodAll enc P W' 0 sp true f.params.toList args.toList (s.fn H (ds ++ [])).args before := by
    intro sp hs
    rw [hargs]
    exact trodAll_stays hl hb hts hA hlt hs
  have hV : ∀ sp : Nat → Bool, DataW.TrodVars enc P W' sp s.vars (s.fn H (ds ++ [])).vars [] := by
    intro sp
    rw [hvs, hvars]
    rfl
  refine ⟨ds, [], before, [], before, [], hW, hR _ _ _, hAr _ hold, hV _, World.keptBut_mono (fun p hp => ⟨hp, ?_⟩) (hb.frame (· ∈ before)), fun _ => ?_⟩
  · exact Or.inr (Or.inl hp)
  · obtain ⟨_, _, _, _, _, hz, hn⟩ := hW
    refine ⟨ok_one hrt rfl (okWide_bool_mk htb _), _, _, ([] ++ before) ++ [], ⟨[] ++ before, [], trodAll_append (hAr _ (fun _ _ => rfl)) (hR _ _ _), hV _, rfl, ?_, ?_⟩, ?_⟩
    · intro b off hp
      have hin : MemPlace.cell b off ∈ before := by simpa using hp
      rw [hb.frozen (hlt _ hin)]
      exact hz b off hin
    · intro ha
      have := hn ha
      simpa using this
    · intro p hp _
      simpa using hp
end
end Go.Proofs.YtdleccpjejdgiaaGreatDoor
