/- strings.(*Replacer).build at single bytes of which some grow. No statement is proved here; no conditions. Written by a program (gen70.py). -/
import Derived.Test.YtdleccpjejdgiaaGreatDoorOnce
import Derived.Test.YtdleccpjejdgiaaGreatDoorOwns
import Derived.Test.YtdleccpjejdgiaaGreatDoorApp
import Derived.Test.YtdleccpjejdgiaaGreatDoorTo
import Derived.Laws.Tables
import Derived.Laws.Cover3
namespace Go.Proofs.YtdleccpjejdgiaaGreatDoor
open Go.ChangeShapes Go.WideShapes Go.ChangeAt Go.RowKit Go.Deep
set_option maxRecDepth 100000
set_option linter.unusedVariables false
set_option linter.unusedSimpArgs false
theorem eql_nil {P : Program} (w : World) (t e : TypeId) (a : Option Addr) (l c : Nat) (h : P.underlying t = some (.slice e)) : (binOp .eql t (.slice a l c) (.slice none 0 0)).run P w = .ok (.bool a.isNone) w := by
  simp [binOp, run_equal_slice_nil w t e a l c h]
theorem below_setRow {B g : Nat} {w w' : World} (h : Below B w w') (hg : B ≤ g) (cs : Array Value) : Below B w (w'.setRow g cs) :=
  ⟨h.os, h.tape, h.output, by rw [setRow_size]; exact h.size, fun k hk => (setRow_other w' g k cs (by omega)).trans (h.block k hk)⟩
theorem zero_tab {v : Value} : (Tryz.zeroCells112.toList.set 256 v).length = 257 ∧ (∀ j, j < 256 → (Tryz.zeroCells112.toList.set 256 v)[j]? = some (.slice none 0 0)) ∧ (Tryz.zeroCells112.toList.set 256 v)[256]? = some v := by
  have hz : Tryz.zeroCells112 = Array.replicate 257 (.slice none 0 0) := by kernel_rfl
  rw [hz, Array.toList_replicate]
  refine ⟨by rw [List.length_set, List.length_replicate], fun j hj => ?_, ?_⟩
  · rw [List.getElem?_set_ne (by omega), List.getElem?_replicate, if_pos (by omega)]
  · rw [List.getElem?_set_self (by rw [List.length_replicate]; decide)]
/-- The table that build lays: round k of the loop that fills it. -/
def Tabl (lo q : Nat) (k : Nat) (w : World) : Prop := ∃ (tab : Array Value) (v : Value), w.heap[q]? = some (.cells tab 112 (0, 0)) ∧ tab.size = 257 ∧
  (∀ j, j < 256 → ¬ (j = 92 ∧ 1 ≤ k) → ¬ (j = 34 ∧ 2 ≤ k) → tab[j]? = some (.slice none 0 0)) ∧ tab[256]? = some v ∧ Own 1 StrR 9 lo w v ([⟨#[92]⟩, ⟨#[34]⟩].take k) ∧ v.ownBlock ≠ some q ∧ lo ≤ q ∧
  (1 ≤ k → ∃ b c, lo ≤ b ∧ b ≠ q ∧ v.ownBlock ≠ some b ∧ tab[92]? = some (.slice (some ⟨b, 0, none⟩) 2 c) ∧ w.cell? ⟨b, 0, none⟩ = some (.int .u8 92) ∧ w.cell? ⟨b, 1, none⟩ = some (.int .u8 92)) ∧
  (2 ≤ k → ∃ b c, lo ≤ b ∧ b ≠ q ∧ v.ownBlock ≠ some b ∧ tab[34]? = some (.slice (some ⟨b, 0, none⟩) 2 c) ∧ w.cell? ⟨b, 0, none⟩ = some (.int .u8 92) ∧ w.cell? ⟨b, 1, none⟩ = some (.int .u8 34))
theorem bytes_two {w : World} {s : ByteArray} {cap : Nat} {e : TypeId} {fr : Nat × Nat} {n j : Nat} (hn : w.heap.size = n) (hj : j < s.data.size) : (w.alloc (.cells (bytesRow s cap) e fr)).cell? ⟨n, j, none⟩ = some (.int .u8 (s.data[j].toNat : Int)) := by
  subst hn
  have h : (w.alloc (.cells (bytesRow s cap) e fr)).heap[w.heap.size]? = some (.cells (bytesRow s cap) e fr) := by show (w.heap.push _)[w.heap.size]? = _; exact Array.getElem?_push_size
  unfold World.cell?
  rw [h]
  exact bytesRow_at s cap j hj
theorem Own.keepS {e : TypeId} {lo : Nat} {w w' : World} {v : Value} {xs : List ByteArray} (h : Own 1 StrR e lo w v xs) (hk : ∀ b, v.ownBlock = some b → w'.heap[b]? = w.heap[b]?) : Own 1 StrR e lo w' v xs := by
  obtain ⟨bss, h, hf⟩ := h
  have hn : bss.flatten = [] := h.bss_nil (fun _ _ _ _ h => h.1)
  exact ⟨bss, h.keep StrR.good hk (fun b hb => by rw [hn] at hb; cases hb), by rw [hn]; exact Fr.nil _ _⟩
theorem Own.blk {α : Type} {R : Rd α} {size : Nat} {e : TypeId} {lo : Nat} {w : World} {v : Value} {xs : List α} (h : Own size R e lo w v xs) : ∀ k, v.ownBlock = some k → lo ≤ k ∧ k < w.heap.size := by obtain ⟨bss, h, _⟩ := h; exact h.blk
theorem tabl_next {lo q o k cap : Nat} {w7 : World} {tab row : Array Value} {v' : Value} {e : TypeId} {fr : Nat × Nat} (hk : (k = 0 ∧ o = 92) ∨ (k = 1 ∧ o = 34))
    (hq7 : w7.heap[q]? = some (.cells tab 112 (0, 0))) (hts : tab.size = 257) (htn : ∀ j, j < 256 → ¬ (j = 92 ∧ 1 ≤ k) → ¬ (j = 34 ∧ 2 ≤ k) → tab[j]? = some (.slice none 0 0))
    (hO7 : Own 1 StrR 9 lo w7 v' ([⟨#[92]⟩, ⟨#[34]⟩].take (k + 1))) (hvq : v'.ownBlock ≠ some q) (hlq : lo ≤ q) (hlo : lo ≤ w7.heap.size)
    (hb1 : 1 ≤ k → ∃ b c, lo ≤ b ∧ b ≠ q ∧ v'.ownBlock ≠ some b ∧ tab[92]? = some (.slice (some ⟨b, 0, none⟩) 2 c) ∧ w7.cell? ⟨b, 0, none⟩ = some (.int .u8 92) ∧ w7.cell? ⟨b, 1, none⟩ = some (.int .u8 92))
    (hr0 : row[0]? = some (.int .u8 92)) (hr1 : row[1]? = some (.int .u8 (o : Int))) :
    Tabl lo q (k + 1) (((w7.setCell ⟨q, 256, none⟩ v').drew.alloc (.cells row e fr)).setCell ⟨q, o, none⟩ (.slice (some ⟨w7.heap.size, 0, none⟩) 2 cap)) := by
  have ho : o < 256 := by omega
  have hql := lt_of_cells hq7
  have hs : (World.heap (w7.setCell ⟨q, 256, none⟩ v').drew).size = w7.heap.size := by show (World.heap (w7.setCell ⟨q, 256, none⟩ v')).size = _; simp [World.setCell]
  have hB := ((Below.refl (World.heap (w7.setCell ⟨q, 256, none⟩ v')).size (w7.setCell ⟨q, 256, none⟩ v')).drew).alloc (Nat.le_refl _) (.cells row e fr)
  have hq8 := blk_set hq7 256 v'
  have hq9 := blk_on hq8 hB
  have hq10 := blk_set hq9 o (.slice (some ⟨w7.heap.size, 0, none⟩) 2 cap)
  have hne : ∀ b, b ≠ q → b < w7.heap.size → (World.heap (((w7.setCell ⟨q, 256, none⟩ v').drew.alloc (.cells row e fr)).setCell ⟨q, o, none⟩ (.slice (some ⟨w7.heap.size, 0, none⟩) 2 cap)))[b]? = w7.heap[b]? := fun b h1 h2 =>
    (blk_far (p := ⟨q, o, none⟩) h1 _).trans ((hB.block b (by rw [show (World.heap (w7.setCell ⟨q, 256, none⟩ v')).size = w7.heap.size from hs]; exact h2)).trans (blk_far (p := ⟨q, 256, none⟩) h1 _))
  have hnew : (World.heap (((w7.setCell ⟨q, 256, none⟩ v').drew.alloc (.cells row e fr)).setCell ⟨q, o, none⟩ (.slice (some ⟨w7.heap.size, 0, none⟩) 2 cap)))[w7.heap.size]? = some (.cells row e fr) := by
    rw [blk_far (p := ⟨q, o, none⟩) (show w7.heap.size ≠ q by omega)]
    rw [← hs]; exact Array.getElem?_push_size
  have hcn : ∀ j, (World.cell? (((w7.setCell ⟨q, 256, none⟩ v').drew.alloc (.cells row e fr)).setCell ⟨q, o, none⟩ (.slice (some ⟨w7.heap.size, 0, none⟩) 2 cap)) ⟨w7.heap.size, j, none⟩) = row[j]? := fun j => by unfold World.cell?; rw [hnew]; rfl
  have hblk := hO7.blk
  have hvn : v'.ownBlock ≠ some w7.heap.size := fun h => by have := (hblk _ h).2; omega
  have hto : ∀ j, j < 256 → j ≠ o → ((tab.setIfInBounds 256 v').setIfInBounds o (.slice (some ⟨w7.heap.size, 0, none⟩) 2 cap))[j]? = tab[j]? := fun j h1 h2 => by
    rw [Array.getElem?_setIfInBounds_ne (by omega), Array.getElem?_setIfInBounds_ne (by omega)]
  have htt : ((tab.setIfInBounds 256 v').setIfInBounds o (.slice (some ⟨w7.heap.size, 0, none⟩) 2 cap))[o]? = some (.slice (some ⟨w7.heap.size, 0, none⟩) 2 cap) := Array.getElem?_setIfInBounds_self_of_lt (by simp; omega)
  refine ⟨_, v', hq10, by simpa using hts, fun j hj h1 h2 => ?_, ?_, hO7.keepS fun b hb => hne b (fun h => hvq (h ▸ hb)) (hblk b hb).2, hvq, hlq, fun _ => ?_, fun h2 => ?_⟩
  · have hjo : j ≠ o := by rintro rfl; rcases hk with ⟨rfl, rfl⟩ | ⟨rfl, rfl⟩; (exact h1 ⟨rfl, by omega⟩); exact h2 ⟨rfl, by omega⟩
    rw [hto j hj hjo]
    exact htn j hj (fun h => h1 ⟨h.1, by omega⟩) (fun h => h2 ⟨h.1, by omega⟩)
  · rw [Array.getElem?_setIfInBounds_ne (by omega)]; exact Array.getElem?_setIfInBounds_self_of_lt (by omega)
  · rcases hk with ⟨rfl, rfl⟩ | ⟨rfl, rfl⟩
    · exact ⟨w7.heap.size, cap, hlo, by omega, hvn, htt, (hcn 0).trans hr0, (hcn 1).trans hr1⟩
    · obtain ⟨b, c, p1, p2, p3, p4, p5, p6⟩ := hb1 (by omega)
      have hbl := World.block_lt_of_cell? _ _ p5
      exact ⟨b, c, p1, p2, p3, by rw [hto 92 (by omega) (by omega)]; exact p4, (World.cell?_of_block (w := w7) (hne b p2 hbl)).trans p5, (World.cell?_of_block (w := w7) (hne b p2 hbl)).trans p6⟩
  · rcases hk with ⟨rfl, rfl⟩ | ⟨rfl, rfl⟩
    · omega
    · exact ⟨w7.heap.size, cap, hlo, by omega, hvn, htt, (hcn 0).trans hr0, (hcn 1).trans hr1⟩
set_option maxHeartbeats 16000000 in
theorem replacer_build {w : World} {p g c : Nat} {d s u v : Value} (hp : w.heap[p]? = some (.cells #[d, s, u, v, .slice (some ⟨g, 0, none⟩) 4 c] 84 (0, 0)))
    (g0 : w.cell? ⟨g, 0, none⟩ = some (.string ⟨#[34]⟩)) (g1 : w.cell? ⟨g, 1, none⟩ = some (.string ⟨#[92, 34]⟩)) (g2 : w.cell? ⟨g, 2, none⟩ = some (.string ⟨#[92]⟩)) (g3 : w.cell? ⟨g, 3, none⟩ = some (.string ⟨#[92, 92]⟩)) :
    Calls Tryz.prog 49 #[.pointer (some ⟨p, 0, none⟩)] w fun e w' => ∃ q, e = .returned (.iface 113 (.pointer (some ⟨q, 0, none⟩))) ∧ Tabl w.heap.size q 2 w' ∧ Below w.heap.size w w' := by
  have p4 : w.cell? ⟨p, 4, none⟩ = some (.slice (some ⟨g, 0, none⟩) 4 c) := blk_cells hp 4
  go_enter Tryz.func49, Tryz.ntmps49
  go_wp2_with fail
  go_loopw [4, 5] (fun a i wr => ∃ (k : Nat) (b : Bool) (z : Int), k ≤ 2 ∧ a = .bool b ∧ i = .int .i64 z ∧ wr = w ∧ b = (k == 0) ∧ z = 2 * (k : Int)) (fun _ i _ => 4 - (intOf i).toNat)
  case atStart => exact ⟨0, _, _, by omega, rfl, rfl, rfl, rfl, rfl⟩
  case round =>
    obtain ⟨k, b, z, hk, rfl, rfl, rfl, hb, hz⟩ := hrel
    have hk : k = 0 ∨ k = 1 ∨ k = 2 := by omega
    rcases hk with rfl | rfl | rfl
    · obtain rfl : b = true := hb
      obtain rfl : z = 0 := by simpa using hz
      clear hz
      go_wp2_with fail
      go_roundw
      case rel => exact ⟨1, false, 2, by omega, by simp, by simp, trivial, rfl, rfl⟩
      case measure => simp [intOf]
    · obtain rfl : b = false := hb
      obtain rfl : z = 2 := by simpa using hz
      clear hz
      go_wp2_with fail
      go_roundw
      case rel => exact ⟨2, false, 4, by omega, by simp, by simp, trivial, rfl, rfl⟩
      case measure => simp [intOf]
    · obtain rfl : b = false := hb
      obtain rfl : z = 4 := by simpa using hz
      clear hz
      obtain ⟨w0, rfl⟩ : ∃ w' : World, w' = wr := ⟨_, rfl⟩
      obtain ⟨i9, ii9, iz9, is9, iby9⟩ := info_parts StringS.info
      have hms := run_makeSlice (P := Tryz.prog) w0 22 9 i9 (.string ⟨#[]⟩) Tryz.underlying22 ii9 iz9 .i64 .i64 0 2 (by decide) (by decide) (by rw [is9]; decide) (by rw [iby9]; decide) (by decide)
      rw [is9] at hms
      have e1 := (Below.refl w0.heap.size w0).alloc (Nat.le_refl _) (.cells (madeCells #[.string ⟨#[]⟩] 2) 9)
      have e2 := e1.alloc (by simp) (.cells Tryz.zeroCells112 112)
      have hq0 : (World.heap ((w0.alloc (.cells (madeCells #[.string ⟨#[]⟩] 2) 9)).alloc (.cells Tryz.zeroCells112 112)))[w0.heap.size + 1]? = some (.cells Tryz.zeroCells112 112 (0, 0)) := by simpa using blk_new (w0.alloc (.cells (madeCells #[.string ⟨#[]⟩] 2) 9)) Tryz.zeroCells112 112
      have hzt := zero_tab (v := .slice (some ⟨w0.heap.size, 0, none⟩) 0 2)
      have hst := run_storeCells_from (P := Tryz.prog) (w0.heap.size + 1) 112 (Tryz.zeroCells112.toList.set 256 (.slice (some ⟨w0.heap.size, 0, none⟩) 0 2)) 0 _ _ hq0 (by rw [hzt.1, show Tryz.zeroCells112.size = 257 by kernel_rfl]) (fun x hx => by
        obtain ⟨j, hj, rfl⟩ := List.getElem_of_mem hx
        rw [hzt.1] at hj
        rcases Nat.lt_or_ge j 256 with h | h
        · have := hzt.2.1 j h; rw [List.getElem?_eq_getElem (by rw [hzt.1]; exact hj)] at this; rw [Option.some.inj this]; rfl
        · obtain rfl : j = 256 := by omega
          have := hzt.2.2; rw [List.getElem?_eq_getElem (by rw [hzt.1]; exact hj)] at this; rw [Option.some.inj this]; rfl)
      rw [List.take_zero, List.nil_append] at hst
      have hT : Tabl w0.heap.size (w0.heap.size + 1) 0 (((w0.alloc (.cells (madeCells #[.string ⟨#[]⟩] 2) 9)).alloc (.cells Tryz.zeroCells112 112)).setRow (w0.heap.size + 1) (Tryz.zeroCells112.toList.set 256 (.slice (some ⟨w0.heap.size, 0, none⟩) 0 2)).toArray) := by
        refine ⟨_, .slice (some ⟨w0.heap.size, 0, none⟩) 0 2, setRow_heap _ _ _ _ _ _ hq0, by rw [List.size_toArray]; exact hzt.1, fun j hj _ _ => by rw [List.getElem?_toArray]; exact hzt.2.1 j hj, by rw [List.getElem?_toArray]; exact hzt.2.2, ?_, by simp [Value.ownBlock], by omega, fun h => by omega, fun h => by omega⟩
        have h0 : Own 1 StrR 9 w0.heap.size (w0.alloc (.cells (madeCells #[.string ⟨#[]⟩] 2) 9)) (.slice (some ⟨w0.heap.size, 0, none⟩) 0 2) [] := ⟨[], Gr.made w0 _ 2 (Nat.le_refl _) (by simp [maxLen]) (by simp [madeCells]), Fr.nil _ _⟩
        exact h0.below StrR.good (below_setRow ((Below.refl _ _).alloc (Nat.le_refl _) _) (by simp) _)
      have e3 := below_setRow e2 (g := w0.heap.size + 1) (by omega) (Tryz.zeroCells112.toList.set 256 (.slice (some ⟨w0.heap.size, 0, none⟩) 0 2)).toArray
      have HT := hide hT; have HE := hide e3; clear hT e3 hzt
      go_wp2_with fail
      generalize (((w0.alloc (.cells (madeCells #[.string ⟨#[]⟩] 2) 9)).alloc (.cells Tryz.zeroCells112 112)).setRow (w0.heap.size + 1) (Tryz.zeroCells112.toList.set 256 (.slice (some ⟨w0.heap.size, 0, none⟩) 0 2)).toArray) = w5 at HT HE ⊢
      clear hst hq0 e2 e1 hms
      go_loopw [12] (fun i w6 => ∃ k : Nat, k ≤ 2 ∧ i = .int .i64 (2 - 2 * (k : Int)) ∧ Hid (Tabl w0.heap.size (w0.heap.size + 1) k w6) ∧ Hid (Below w0.heap.size w0 w6)) (fun i _ => (intOf i + 2).toNat)
      case atStart => exact ⟨0, by omega, rfl, HT, HE⟩
      case round =>
        clear HT HE
        obtain ⟨k, hk, rfl, HT, HE⟩ := hrel; obtain ⟨w6, rfl⟩ : ∃ w' : World, w' = wr := ⟨_, rfl⟩
        have h0 := cell_on g0 HE.out; have h1 := cell_on g1 HE.out; have h2 := cell_on g2 HE.out; have h3 := cell_on g3 HE.out
        have hk : k = 0 ∨ k = 1 ∨ k = 2 := by omega
        rcases hk with rfl | rfl | rfl
        · obtain ⟨tab, v, hq, hts, htn, ht6, hO, hvq, hlq, hb1, hb2⟩ := HT.out
          have hO : Own 1 StrR 9 w0.heap.size w6 v ([] : List ByteArray) := hO
          obtain ⟨A, cA, hvf, _, _⟩ := hO.form; simp only [List.length_nil, List.length_cons] at hvf; subst hvf
          have heq : (binOp .eql 53 (.slice none 0 0) (.slice none 0 0)).run Tryz.prog w6 = .ok (.bool true) w6 := eql_nil w6 _ 5 none 0 0 Tryz.underlying53
          have hbt : ∀ h, ((⟨#[92]⟩ : ByteArray)[0]'h).toNat = 92 := fun _ => rfl
          have c_o : w6.cell? ⟨w0.heap.size + 1, 92, none⟩ = some (.slice none 0 0) := (blk_cells hq 92).trans (htn 92 (by omega) (by omega) (by omega))
          have c_v : w6.cell? ⟨w0.heap.size + 1, 256, none⟩ = some (.slice A 0 cA) := (blk_cells hq 256).trans ht6
          have qf := blk_free hq; have HO := hide hO; have HQ := hide hq; have HV := hide hvq; have HB := hide (And.intro hb1 hb2); have HTN := hide htn; clear hO hq hvq hb1 hb2 htn ht6
          have hsz6 := HE.out.size; have hqlt := lt_of_cells HQ.out
          have hcv : (convert 53 9 (.slice (some ⟨w6.heap.size, 0, none⟩) 1 1)).run Tryz.prog (w6.alloc (.cells #[.int .u8 92] 5)) = .ok (.string ⟨#[92]⟩) (w6.alloc (.cells #[.int .u8 92] 5)) := run_convert_bytes_back (P := Tryz.prog) (w6.alloc (.cells #[.int .u8 92] 5)) 53 9 5 ⟨w6.heap.size, 0, none⟩ 1 [92] Tryz.underlying53 Tryz.underlying5 Tryz.underlying9 (fun j hj => by obtain rfl : j = 0 := (by simpa using hj); exact blk_cells (blk_new w6 #[.int .u8 92] 5) 0)
          have hal := (Below.refl w6.heap.size w6).alloc (Nat.le_refl _) (.cells #[.int .u8 92] 5)
          go_wp2_with (at_builtin; refine wpList_append_own StrR.good rfl _ _ 22 rfl Tryz.underlying22 ii9 iz9 is9 iby9 rfl (by decide) rfl HO.out hal (bk := []) (cy := [.string ⟨#[92]⟩]) (y := ⟨#[92]⟩) ⟨rfl, rfl, by decide⟩ (Fr.nil _ _) (c := 1) (by go_simp) rfl (fun u hu => by simp at hu; subst hu; rfl) (by simp) (by simp) hsz6 ?_; intro v' w7 hO7 hB7 hs7 hold hown; obtain ⟨A7, n7, cA7, hv7⟩ : ∃ A n c, v' = .slice A n c := (by obtain ⟨A, c, h, _⟩ := hO7.form; exact ⟨A, _, c, h⟩); subst hv7; have hq7 := (hold (w0.heap.size + 1) (by simp; omega) HV.out).trans (blk_on HQ.out hal); have qc7 := blk_cells hq7; have qf7 := blk_free hq7; have d_v : w7.cell? ⟨w0.heap.size + 1, 256, none⟩ = some (.slice A 0 cA) := (qc7 256).trans ((blk_cells HQ.out 256).symm.trans c_v); have hcs := run_bytes_of_string (P := Tryz.prog) (w7.setCell ⟨w0.heap.size + 1, 256, none⟩ (.slice A7 n7 cA7)) 9 53 5 ⟨#[92, 92]⟩ Tryz.underlying9 Tryz.underlying53 Tryz.underlying5; obtain ⟨row, hrow⟩ : ∃ row, bytesRow ⟨#[92, 92]⟩ (grownCap (w7.setCell ⟨w0.heap.size + 1, 256, none⟩ (.slice A7 n7 cA7)) (ByteArray.size ⟨#[92, 92]⟩) 0 5) = row := ⟨_, rfl⟩; have hr0 : row[0]? = some (.int .u8 92) := (by rw [← hrow]; exact bytesRow_at _ _ 0 (by decide)); have hr1 : row[1]? = some (.int .u8 ((92 : Nat) : Int)) := (by rw [← hrow]; exact bytesRow_at _ _ 1 (by decide)); rw [hrow] at hcs; generalize grownCap (w7.setCell ⟨w0.heap.size + 1, 256, none⟩ (.slice A7 n7 cA7)) (ByteArray.size ⟨#[92, 92]⟩) 0 5 = cap at hcs; clear hrow; have hq9 := blk_on (blk_set hq7 256 (.slice A7 n7 cA7)) ((Below.refl (World.heap (w7.setCell ⟨w0.heap.size + 1, 256, none⟩ (.slice A7 n7 cA7))).size (w7.setCell ⟨w0.heap.size + 1, 256, none⟩ (.slice A7 n7 cA7))).alloc (Nat.le_refl _) (.cells row 5 (row.size, row.size + 1))); have c9 := (blk_cells hq9 92).trans ((Array.getElem?_setIfInBounds_ne (by omega)).trans ((blk_cells HQ.out 92).symm.trans c_o)); have f9 := blk_free hq9)
          have hvq7 : (Value.slice A7 n7 cA7).ownBlock ≠ some (w0.heap.size + 1) := fun h => by rcases hown with e | ⟨b, e, hb⟩; (exact HV.out (e ▸ h)); rw [e] at h; injection h with h; subst h; simp at hb; omega
          have hlo7 : w0.heap.size ≤ w7.heap.size := by simp at hs7; omega
          have hb7 : 1 ≤ 0 → ∃ b c, w0.heap.size ≤ b ∧ b ≠ w0.heap.size + 1 ∧ (Value.slice A7 n7 cA7).ownBlock ≠ some b ∧ tab[92]? = some (.slice (some ⟨b, 0, none⟩) 2 c) ∧ w7.cell? ⟨b, 0, none⟩ = some (.int .u8 92) ∧ w7.cell? ⟨b, 1, none⟩ = some (.int .u8 92) := fun h => by omega
          have HT2 := hide (tabl_next (cap := cap) (e := 5) (fr := (row.size, row.size + 1)) (k := 0) (o := 92) (Or.inl ⟨rfl, rfl⟩) hq7 hts HTN.out hO7 hvq7 hlq hlo7 hb7 hr0 hr1)
          have HE2 := hide (((((hB7 _ _ (HE.out.alloc hsz6 _) (Nat.le_refl _)).setCell (p := ⟨w0.heap.size + 1, 256, none⟩) (by simp) (.slice A7 n7 cA7)).drew).alloc (by show _ ≤ (World.heap (w7.setCell ⟨w0.heap.size + 1, 256, none⟩ (.slice A7 n7 cA7))).size; simp [World.setCell]; omega) (.cells row 5 (row.size, row.size + 1))).setCell (p := ⟨w0.heap.size + 1, 92, none⟩) (by simp) (.slice (some ⟨w7.heap.size, 0, none⟩) 2 cap))
          clear hb7 hvq7 hown hold hB7 hr0 hr1 hO7 h0 h1 h2 h3
          go_wp2_with fail
          go_roundw
          case rel => exact ⟨1, by omega, by simp, HT2, HE2⟩
          case measure => simp [intOf]
        · obtain ⟨tab, v, hq, hts, htn, ht6, hO, hvq, hlq, hb1, hb2⟩ := HT.out
          have hO : Own 1 StrR 9 w0.heap.size w6 v ([⟨#[92]⟩] : List ByteArray) := hO
          obtain ⟨A, cA, hvf, _, _⟩ := hO.form; simp only [List.length_nil, List.length_cons] at hvf; subst hvf
          have heq : (binOp .eql 53 (.slice none 0 0) (.slice none 0 0)).run Tryz.prog w6 = .ok (.bool true) w6 := eql_nil w6 _ 5 none 0 0 Tryz.underlying53
          have hbt : ∀ h, ((⟨#[34]⟩ : ByteArray)[0]'h).toNat = 34 := fun _ => rfl
          have c_o : w6.cell? ⟨w0.heap.size + 1, 34, none⟩ = some (.slice none 0 0) := (blk_cells hq 34).trans (htn 34 (by omega) (by omega) (by omega))
          have c_v : w6.cell? ⟨w0.heap.size + 1, 256, none⟩ = some (.slice A 1 cA) := (blk_cells hq 256).trans ht6
          have qf := blk_free hq; have HO := hide hO; have HQ := hide hq; have HV := hide hvq; have HB := hide (And.intro hb1 hb2); have HTN := hide htn; clear hO hq hvq hb1 hb2 htn ht6
          have hsz6 := HE.out.size; have hqlt := lt_of_cells HQ.out
          have hcv : (convert 53 9 (.slice (some ⟨w6.heap.size, 0, none⟩) 1 1)).run Tryz.prog (w6.alloc (.cells #[.int .u8 34] 5)) = .ok (.string ⟨#[34]⟩) (w6.alloc (.cells #[.int .u8 34] 5)) := run_convert_bytes_back (P := Tryz.prog) (w6.alloc (.cells #[.int .u8 34] 5)) 53 9 5 ⟨w6.heap.size, 0, none⟩ 1 [34] Tryz.underlying53 Tryz.underlying5 Tryz.underlying9 (fun j hj => by obtain rfl : j = 0 := (by simpa using hj); exact blk_cells (blk_new w6 #[.int .u8 34] 5) 0)
          have hal := (Below.refl w6.heap.size w6).alloc (Nat.le_refl _) (.cells #[.int .u8 34] 5)
          go_wp2_with (at_builtin; refine wpList_append_own StrR.good rfl _ _ 22 rfl Tryz.underlying22 ii9 iz9 is9 iby9 rfl (by decide) rfl HO.out hal (bk := []) (cy := [.string ⟨#[34]⟩]) (y := ⟨#[34]⟩) ⟨rfl, rfl, by decide⟩ (Fr.nil _ _) (c := 1) (by go_simp) rfl (fun u hu => by simp at hu; subst hu; rfl) (by simp) (by simp) hsz6 ?_; intro v' w7 hO7 hB7 hs7 hold hown; obtain ⟨A7, n7, cA7, hv7⟩ : ∃ A n c, v' = .slice A n c := (by obtain ⟨A, c, h, _⟩ := hO7.form; exact ⟨A, _, c, h⟩); subst hv7; have hq7 := (hold (w0.heap.size + 1) (by simp; omega) HV.out).trans (blk_on HQ.out hal); have qc7 := blk_cells hq7; have qf7 := blk_free hq7; have d_v : w7.cell? ⟨w0.heap.size + 1, 256, none⟩ = some (.slice A 1 cA) := (qc7 256).trans ((blk_cells HQ.out 256).symm.trans c_v); have hcs := run_bytes_of_string (P := Tryz.prog) (w7.setCell ⟨w0.heap.size + 1, 256, none⟩ (.slice A7 n7 cA7)) 9 53 5 ⟨#[92, 34]⟩ Tryz.underlying9 Tryz.underlying53 Tryz.underlying5; obtain ⟨row, hrow⟩ : ∃ row, bytesRow ⟨#[92, 34]⟩ (grownCap (w7.setCell ⟨w0.heap.size + 1, 256, none⟩ (.slice A7 n7 cA7)) (ByteArray.size ⟨#[92, 34]⟩) 0 5) = row := ⟨_, rfl⟩; have hr0 : row[0]? = some (.int .u8 92) := (by rw [← hrow]; exact bytesRow_at _ _ 0 (by decide)); have hr1 : row[1]? = some (.int .u8 ((34 : Nat) : Int)) := (by rw [← hrow]; exact bytesRow_at _ _ 1 (by decide)); rw [hrow] at hcs; generalize grownCap (w7.setCell ⟨w0.heap.size + 1, 256, none⟩ (.slice A7 n7 cA7)) (ByteArray.size ⟨#[92, 34]⟩) 0 5 = cap at hcs; clear hrow; have hq9 := blk_on (blk_set hq7 256 (.slice A7 n7 cA7)) ((Below.refl (World.heap (w7.setCell ⟨w0.heap.size + 1, 256, none⟩ (.slice A7 n7 cA7))).size (w7.setCell ⟨w0.heap.size + 1, 256, none⟩ (.slice A7 n7 cA7))).alloc (Nat.le_refl _) (.cells row 5 (row.size, row.size + 1))); have c9 := (blk_cells hq9 34).trans ((Array.getElem?_setIfInBounds_ne (by omega)).trans ((blk_cells HQ.out 34).symm.trans c_o)); have f9 := blk_free hq9)
          have hvq7 : (Value.slice A7 n7 cA7).ownBlock ≠ some (w0.heap.size + 1) := fun h => by rcases hown with e | ⟨b, e, hb⟩; (exact HV.out (e ▸ h)); rw [e] at h; injection h with h; subst h; simp at hb; omega
          have hlo7 : w0.heap.size ≤ w7.heap.size := by simp at hs7; omega
          have hb7 : 1 ≤ 1 → ∃ b c, w0.heap.size ≤ b ∧ b ≠ w0.heap.size + 1 ∧ (Value.slice A7 n7 cA7).ownBlock ≠ some b ∧ tab[92]? = some (.slice (some ⟨b, 0, none⟩) 2 c) ∧ w7.cell? ⟨b, 0, none⟩ = some (.int .u8 92) ∧ w7.cell? ⟨b, 1, none⟩ = some (.int .u8 92) := fun _ => by
            obtain ⟨b, c, p1, p2, p3, p4, p5, p6⟩ := HB.out.1 (Nat.le_refl _)
            have hbl : b < w6.heap.size := World.block_lt_of_cell? _ _ p5
            have hk7 := (hold b (by simp; omega) p3).trans (hal.block b hbl)
            refine ⟨b, c, p1, p2, fun h => ?_, p4, (World.cell?_of_block (w := w6) hk7).trans p5, (World.cell?_of_block (w := w6) hk7).trans p6⟩
            rcases hown with e | ⟨b2, e, hb⟩
            · exact p3 (e ▸ h)
            · rw [e] at h; injection h with h; subst h; simp at hb; omega
          have HT2 := hide (tabl_next (cap := cap) (e := 5) (fr := (row.size, row.size + 1)) (k := 1) (o := 34) (Or.inr ⟨rfl, rfl⟩) hq7 hts HTN.out hO7 hvq7 hlq hlo7 hb7 hr0 hr1)
          have HE2 := hide (((((hB7 _ _ (HE.out.alloc hsz6 _) (Nat.le_refl _)).setCell (p := ⟨w0.heap.size + 1, 256, none⟩) (by simp) (.slice A7 n7 cA7)).drew).alloc (by show _ ≤ (World.heap (w7.setCell ⟨w0.heap.size + 1, 256, none⟩ (.slice A7 n7 cA7))).size; simp [World.setCell]; omega) (.cells row 5 (row.size, row.size + 1))).setCell (p := ⟨w0.heap.size + 1, 34, none⟩) (by simp) (.slice (some ⟨w7.heap.size, 0, none⟩) 2 cap))
          clear hb7 hvq7 hown hold hB7 hr0 hr1 hO7 h0 h1 h2 h3
          go_wp2_with fail
          go_roundw
          case rel => exact ⟨2, by omega, by simp, HT2, HE2⟩
          case measure => simp [intOf]
        · go_wp2_with fail
          go_ret
          exact ⟨_, rfl, HT.out, HE.out⟩
end Go.Proofs.YtdleccpjejdgiaaGreatDoor
