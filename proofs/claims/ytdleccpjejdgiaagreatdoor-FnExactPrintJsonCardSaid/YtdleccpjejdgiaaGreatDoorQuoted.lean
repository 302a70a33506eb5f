/- strings.NewReplacer at two quotes, and what it replaces. No statement is proved here; no conditions. -/
import Derived.Test.YtdleccpjejdgiaaGreatDoorRepl
namespace Go.Proofs.YtdleccpjejdgiaaGreatDoor
open Go.ChangeShapes Go.WideShapes Go.ChangeAt Go.RowKit Go.Deep
set_option maxRecDepth 100000
set_option linter.unusedVariables false
set_option linter.unusedSimpArgs false
def oldnew : List ByteArray := [⟨#[34]⟩, ⟨#[92, 34]⟩, ⟨#[92]⟩, ⟨#[92, 92]⟩]
theorem Gr.sm1 {α : Type} {R : Rd α} {size : Nat} {e : TypeId} {lo : Nat} {w : World} {v : Value} {bss : List (List Nat)} {xs : List α} (h : Gr size R e lo w v bss xs) (hx : 0 < xs.length) : ∃ g c, v = .slice (some ⟨g, 0, none⟩) xs.length c := by
  obtain ⟨css, _, _, ⟨_, ho⟩, _⟩ := h
  rcases ho with ⟨rfl, h0⟩ | ⟨g, cap, cur, rfl, _⟩
  · omega
  · exact ⟨_, _, rfl⟩
set_option maxHeartbeats 4000000 in
theorem new_Replacer {w : World} {b : Nat} (h : ∀ k x, oldnew[k]? = some x → w.cell? ⟨b, k, none⟩ = some (.string x)) :
    Calls Tryz.prog 31 #[.slice (some ⟨b, 0, none⟩) 4 4] w fun e w' => ∃ p g c, e = .returned (.pointer (some ⟨p, 0, none⟩)) ∧ w'.heap[p]? = some (.cells #[.int .u32 0, .int .i32 0, .int .u32 0, .nilIface, .slice (some ⟨g, 0, none⟩) 4 c] 84 (0, 0)) ∧ (∀ k x, oldnew[k]? = some x → w'.cell? ⟨g, k, none⟩ = some (.string x)) ∧ w.heap.size ≤ p ∧ g ≠ p ∧ Below w.heap.size w w' := by
  obtain ⟨i9, ii9, iz9, is9, iby9⟩ := info_parts StringS.info
  have hS : SlR 1 StrR w [b] [.slice (some ⟨b, 0, none⟩) 4 4] oldnew := ⟨_, 4, rfl, by decide, by decide, .inr ⟨b, 0, [[], [], [], []], rfl, World.block_lt_of_cell? _ _ (h 0 _ rfl), rfl, rfl, fun k x bk hx hbk => by
    have hk : bk = [] := by
      have := List.mem_of_getElem? hbk
      simpa using this
    subst hk
    refine ⟨[.string x], rfl, fun j u hu => ?_, rfl, rfl, ?_⟩
    · match j, hu with
      | 0, hu => simp only [List.getElem?_cons_zero, Option.some.injEq] at hu; subst hu; simpa using h k x hx
      | j + 1, hu => simp at hu
    · have := List.mem_of_getElem? hx
      simp [oldnew] at this
      rcases this with rfl | rfl | rfl | rfl <;> decide⟩⟩
  go_enter Tryz.func31, Tryz.ntmps31
  go_wp2_with (at_builtin; refine wpList_append_sl StrR.good rfl _ _ 22 rfl Tryz.underlying22 ii9 iz9 is9 iby9 rfl (by decide) (v := .slice none 0 0) rfl (Gr.nil _ w.heap.size w) hS rfl (fun _ _ _ _ h => by obtain ⟨_, rfl, _⟩ := h; intro u hu; simp at hu; subst hu; rfl) (fun b hb hv => by cases hv) (by decide) (by decide) (Nat.le_refl _) ?_; intro v' w1 bss2 hA; obtain ⟨g, c, hv⟩ := hA.gr.sm1 (by decide); subst hv)
  have hb1 := hA.below w.heap.size w (Below.refl _ _) (Nat.le_refl _)
  have hgl := (hA.gr.blk g rfl).2
  obtain ⟨bs, r, _⟩ := hA.gr.done
  obtain ⟨A, c', hv, _, _, hel⟩ := r.use
  have hA' : A = some ⟨g, 0, none⟩ := by injection hv with h1 _ _; exact h1.symm
  subst hA'
  go_ret
  refine ⟨w1.heap.size, g, c, rfl, blk_new w1 _ _, fun k x hx => ?_, hb1.size, by omega, hb1.alloc hb1.size _⟩
  have hk := idx_lt hx
  obtain ⟨b0, o0, bk0, es0, h0, _, _, hc0, ⟨_, rfl, _⟩, _⟩ := hel k hk
  cases h0
  have hx2 : oldnew[k] = x := by rw [List.getElem?_eq_getElem hk] at hx; exact Option.some.inj hx
  have := cell_al (hc0 0 _ rfl) (.cells #[.int .u32 0, .int .i32 0, .int .u32 0, .nilIface, .slice (some ⟨g, 0, none⟩) oldnew.length c] 84)
  simpa [hx2] using this
theorem Tabl.upd {lo q k : Nat} {w w' : World} (h : Tabl lo q k w) (hk : ∀ b, lo ≤ b → b < w.heap.size → w'.heap[b]? = w.heap[b]?) : Tabl lo q k w' := by
  obtain ⟨tab, v, hq, hts, htn, ht6, hO, hvq, hlq, h1, h2⟩ := h
  have key : ∀ {a b c : Nat} {u : Value}, lo ≤ b → w.cell? ⟨b, c, none⟩ = some u → w'.cell? ⟨b, c, none⟩ = some u := fun hb hc => (World.cell?_of_block (w := w) (hk _ hb (World.block_lt_of_cell? _ _ hc))).trans hc
  refine ⟨tab, v, (hk q hlq (lt_of_cells hq)).trans hq, hts, htn, ht6, hO.keepS fun b hb => hk b (hO.blk b hb).1 (hO.blk b hb).2, hvq, hlq, fun h => ?_, fun h => ?_⟩
  · obtain ⟨b, c, p1, p2, p3, p4, p5, p6⟩ := h1 h; exact ⟨b, c, p1, p2, p3, p4, key (a := 0) p1 p5, key (a := 0) p1 p6⟩
  · obtain ⟨b, c, p1, p2, p3, p4, p5, p6⟩ := h2 h; exact ⟨b, c, p1, p2, p3, p4, key (a := 0) p1 p5, key (a := 0) p1 p6⟩
set_option maxHeartbeats 4000000 in
theorem replacer_buildOnce {w : World} {p g c : Nat} (hp : w.heap[p]? = some (.cells #[.int .u32 0, .int .i32 1, .int .u32 0, .nilIface, .slice (some ⟨g, 0, none⟩) 4 c] 84 (0, 0))) (hg : ∀ k x, oldnew[k]? = some x → w.cell? ⟨g, k, none⟩ = some (.string x)) :
    Calls Tryz.prog 43 #[.pointer (some ⟨p, 0, none⟩)] w fun e w' => e = .returned (.tuple #[]) ∧ ∃ q, w'.heap[p]? = some (.cells #[.int .u32 0, .int .i32 1, .int .u32 0, .iface 113 (.pointer (some ⟨q, 0, none⟩)), .slice none 0 0] 84 (0, 0)) ∧ Tabl w.heap.size q 2 w' ∧ Upd [p] w w' := by
  have hpl := lt_of_cells hp
  go_enter Tryz.func43, Tryz.ntmps43
  go_wp2_with (go_at_call 49; refine (replacer_build hp (hg 0 _ rfl) (hg 1 _ rfl) (hg 2 _ rfl) (hg 3 _ rfl)).mono ?_; rintro e w1 ⟨q, rfl, HT, hb⟩; have hp1 := blk_on hp hb; have c1 := blk_cells hp1; have f1 := blk_free hp1)
  have hfin : _ = some (Obj.cells #[.int .u32 0, .int .i32 1, .int .u32 0, .iface 113 (.pointer (some ⟨q, 0, none⟩)), .slice none 0 0] 84 (0, 0)) := blk_set (blk_set hp1 3 (.iface 113 (.pointer (some ⟨q, 0, none⟩)))) 4 (.slice none 0 0)
  go_end0
  exact ⟨rfl, q, hfin, HT.upd fun b h1 h2 => (blk_far (p := ⟨p, 4, none⟩) (show b ≠ p by omega) _).trans (blk_far (p := ⟨p, 3, none⟩) (show b ≠ p by omega) _), ((Upd.of hb).set (p := ⟨p, 3, none⟩) (by simp) rfl _).set (p := ⟨p, 4, none⟩) (by simp) rfl _⟩
set_option maxHeartbeats 4000000 in
theorem replacer_Replace {w : World} {p g c : Nat} (hp : w.heap[p]? = some (.cells #[.int .u32 0, .int .i32 0, .int .u32 0, .nilIface, .slice (some ⟨g, 0, none⟩) 4 c] 84 (0, 0))) (hg : ∀ k x, oldnew[k]? = some x → w.cell? ⟨g, k, none⟩ = some (.string x)) (hgp : g ≠ p) (t : ByteArray) (ht : t.size ≤ 200) :
    Calls Tryz.prog 32 #[.pointer (some ⟨p, 0, none⟩), .string t] w fun e w' => e = .returned (.string ⟨(qL t.toList).toArray⟩) ∧ Upd [p] w w' := by
  have hp1 := blk_set hp 1 (.int .i32 1)
  have hc := blk_cells hp; have hf := blk_free hp
  have hdo := once_Do_first p 0 43 #[.pointer (some ⟨p, 0, none⟩)] (fun w' => ∃ q, w'.heap[p]? = some (.cells #[.int .u32 0, .int .i32 1, .int .u32 0, .iface 113 (.pointer (some ⟨q, 0, none⟩)), .slice none 0 0] 84 (0, 0)) ∧ Tabl w.heap.size q 2 w' ∧ Upd [p] w w') w (hc 0) (hc 1) (hf 1) (enters_of Tryz.func43 (by kernel_rfl) rfl)
    (by
      have hs : (World.heap (w.setCell ⟨p, 1, none⟩ (.int .i32 1))).size = w.heap.size := by simp [World.setCell]
      refine (replacer_buildOnce (w := w.setCell ⟨p, 1, none⟩ (.int .i32 1)) hp1 (fun k x hx => (World.cell?_setCell_other _ _ _ _ (fun h => hgp (congrArg Addr.block h).symm)).trans (hg k x hx))).mono fun e w' h => ?_
      obtain ⟨he, q, h1, h2, h3⟩ := h
      rw [hs] at h2
      exact ⟨he, ⟨q, h1, h2, ((Upd.refl [p] w).set (p := ⟨p, 1, none⟩) (by simp) rfl (.int .i32 1)).trans h3 (fun b hb => hb)⟩, blk_cells h1 0, blk_cells h1 1, blk_free h1 0, blk_free h1 1⟩)
  have hpl := lt_of_cells hp; have HDO := hide hdo; clear hdo
  have hmf : ∀ (fn : Fn) (first cap : Array Value) (w : World), (Instr.makeFunc fn first cap).run Tryz.prog w = .ok (.func fn first cap) w := fun _ _ _ _ => rfl
  -- 283: how many types the dump has (off the walk's own print)
  have hm : ∀ (q : Nat) (w : World), (method 283 113 (.pointer (some ⟨q, 0, none⟩)) "Replace").run Tryz.prog w = .ok (119, .pointer (some ⟨q, 0, none⟩)) w := fun _ _ => by kernel_rfl
  go_enter Tryz.func32, Tryz.ntmps32
  go_wp2_with (first | (go_at_call 119; refine (byteRep_Replace (HT.upd (w' := World.drew ((w2.setCell ⟨p, 0, none⟩ (.int .u32 1)).setCell ⟨p, 1, none⟩ (.int .i32 0))) (fun b hb1 hb2 => (blk_far (p := ⟨p, 1, none⟩) (show b ≠ p by omega) _).trans (blk_far (p := ⟨p, 0, none⟩) (show b ≠ p by omega) _))).tab t ht).mono ?_; rintro e w3 ⟨rfl, hb3⟩) | (go_at_call 42; refine HDO.out.mono ?_; rintro e w1 ⟨rfl, w2, ⟨q, h1, HT, hU⟩, rfl⟩; have h2 := blk_set (blk_set h1 0 (.int .u32 1)) 1 (.int .i32 0); have c2 := blk_cells h2))
  go_ret
  exact ⟨rfl, (((hU.set (p := ⟨p, 0, none⟩) (by simp) rfl _).set (p := ⟨p, 1, none⟩) (by simp) rfl _).trans (Upd.of (Below.refl _ _).drew) (fun b hb => hb)).call hb3⟩
theorem impl_quoted {w : World} (t : ByteArray) (ht : t.size ≤ 200) :
    Calls Tryz.prog 23 #[.string t] w fun e w' => e = .returned (.string ⟨(quoteL t).toArray⟩) ∧ Below w.heap.size w w' := by
  have hq : Hid ((⟨#[34]⟩ : ByteArray) ++ ⟨(qL t.toList).toArray⟩ ++ ⟨#[34]⟩ = ⟨(quoteL t).toArray⟩) := by show _ = _; unfold quoteL; apply ByteArray.ext; simp
  have hql : (qL t.toList).length ≤ 400 := by have := qL_len t.toList; rw [toL_len] at this; omega
  have b1 : (9223372036854775807 < 1 + (qL t.toList).length) = False := by simp; omega
  have b2 : (9223372036854775807 < 1 + (qL t.toList).length + 1) = False := by simp; omega
  clear hql
  go_enter Tryz.func23, Tryz.ntmps23
  have e1 := (Below.refl w.heap.size w).alloc (Nat.le_refl _) (.cells #[.string ⟨#[34]⟩, .string ⟨#[92, 34]⟩, .string ⟨#[92]⟩, .string ⟨#[92, 92]⟩] 9)
  have hb0 := blk_cells (blk_new w #[.string ⟨#[34]⟩, .string ⟨#[92, 34]⟩, .string ⟨#[92]⟩, .string ⟨#[92, 92]⟩] 9)
  have hn := hide (new_Replacer (b := w.heap.size) (fun k x hx => (hb0 k).trans (by
    match k, hx with
    | 0, hx => simp only [oldnew, List.getElem?_cons_zero, Option.some.injEq] at hx; subst hx; rfl
    | 1, hx => simp only [oldnew, List.getElem?_cons_succ, List.getElem?_cons_zero, Option.some.injEq] at hx; subst hx; rfl
    | 2, hx => simp only [oldnew, List.getElem?_cons_succ, List.getElem?_cons_zero, Option.some.injEq] at hx; subst hx; rfl
    | 3, hx => simp only [oldnew, List.getElem?_cons_succ, List.getElem?_cons_zero, Option.some.injEq] at hx; subst hx; rfl
    | k + 4, hx => simp [oldnew] at hx)))
  clear hb0
  go_wp2_with (first | (go_at_call 32; refine (replacer_Replace hp hg hgp t ht).mono ?_; rintro e w3 ⟨rfl, hU⟩) | (go_at_call 31; refine hn.out.mono ?_; rintro e w2 ⟨p, g, c, rfl, hp, hg, hle, hgp, hb⟩))
  go_ret
  have hle2 : w.heap.size ≤ p := by simp at hle; omega
  have hb2 := nxt e1 hb
  exact ⟨by rw [← hq.out]; rfl, hb2.trans (hU.below w.heap.size hb2.size (fun b hb => by simp at hb; omega))⟩
end Go.Proofs.YtdleccpjejdgiaaGreatDoor
