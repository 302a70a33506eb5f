/- The texts of marks. No statement is proved here; no conditions. -/
import Derived.Test.YtfkpllkgganejaaUpd
import Derived.Laws.IdiomStrings
namespace Go.Proofs.Ytfkpllkgganejaa
open Go.ChangeShapes Go.WideShapes Go.ChangeAt Go.RowKit Go.Deep
set_option maxRecDepth 100000
set_option linter.unusedVariables false

def digs (n : Nat) : List UInt8 := if h : n = 0 then [] else digs (n / 10) ++ [UInt8.ofNat (48 + n % 10)]
termination_by n
decreasing_by omega
theorem digs_zero : digs 0 = [] := by rw [digs]; simp
theorem digs_pos {n : Nat} (h : n ≠ 0) : digs n = digs (n / 10) ++ [UInt8.ofNat (48 + n % 10)] := by rw [digs, dif_neg h]
theorem digs_len (n : Nat) : (digs n).length ≤ n := by
  induction n using Nat.strongRecOn with
  | ind n ih =>
    by_cases h : n = 0
    · subst h; rw [digs_zero]; simp
    · rw [digs_pos h, List.length_append]
      have := ih (n / 10) (by omega)
      simp; omega
def mText (k : Int) : ByteArray := ⟨(109 :: digs k.toNat).toArray⟩
theorem mText_size {k : Int} (h0 : 0 ≤ k) (h : k ≤ 4398046511104) : (mText k).size ≤ 9223372036854775807 := by
  have := digs_len k.toNat
  unfold mText
  simp [ByteArray.size]; omega

theorem one_more (b : UInt8) (s : ByteArray) : ((⟨#[b]⟩ : ByteArray) ++ s).data.toList = b :: s.data.toList := by rw [ByteArray.data_append, Array.toList_append]; rfl
theorem one_size (b : UInt8) (s : ByteArray) : ((⟨#[b]⟩ : ByteArray) ++ s).size = s.size + 1 := by rw [ByteArray.size_append]; show 1 + s.size = s.size + 1; omega
theorem conv_byte (wr : World) (m : Nat) : (convert 93 9 (.slice (some ⟨wr.heap.size, 0, none⟩) 1 1)).run Try.prog (wr.alloc (.cells #[.int .u8 (48 + (m : Int) % 10)] 5)) = .ok (.string ⟨#[UInt8.ofNat (48 + m % 10)]⟩) (wr.alloc (.cells #[.int .u8 (48 + (m : Int) % 10)] 5)) := by
  refine run_convert_bytes_back (P := Try.prog) _ 93 9 5 ⟨wr.heap.size, 0, none⟩ 1 [UInt8.ofNat (48 + m % 10)] Try.underlying93 Try.underlying5 Try.underlying9 (fun j hj => ?_)
  have hj0 : j = 0 := by simp at hj; omega
  subst hj0
  rw [add_form, blk_cells (blk_new wr _ _)]
  have h1 : (UInt8.ofNat (48 + m % 10)).toNat = 48 + m % 10 := by rw [UInt8.toNat_ofNat']; omega
  simp only [List.getElem_cons_zero, h1]
  have h2 : ((48 + m % 10 : Nat) : Int) = 48 + (m : Int) % 10 := by omega
  rw [h2]; rfl
theorem markText_loop {w : World} (n : Nat) (hn : 0 < n) (hm : n ≤ 4398046511104) :
    Calls Try.prog 61 #[.int .i64 n] w fun e w' => e = .returned (.string (mText n)) ∧ Below w.heap.size w w' := by
  go_enter Try.func61, Try.ntmps61
  go_wp2
  go_loopw [0, 3] (fun k o wr => ∃ (m : Nat) (s : ByteArray), k = .int .i64 m ∧ o = .string s ∧ Hid (digs m ++ s.data.toList = digs n) ∧ s.size + m ≤ n ∧ Below w.heap.size w wr) (fun k _ _ => (intOf k).toNat)
  case atStart => exact ⟨n, ⟨#[]⟩, rfl, rfl, by show _ = _; simp, by simp [ByteArray.size], Below.refl _ _⟩
  case round =>
    obtain ⟨m, s, rfl, rfl, hd, hs, hbr⟩ := hrel
    by_cases hlt : 0 < m
    · have hb1 : 0 ≤ (m : Int) % 10 := by omega
      have hb2 : (m : Int) % 10 < 10 := by omega
      have hcv := conv_byte wr m
      go_wp2
      go_roundw
      case rel =>
        refine ⟨m / 10, ⟨#[48 + UInt8.ofNat (m % 10)]⟩ ++ s, by rw [show ((m : Int) / 10) = ((m / 10 : Nat) : Int) by omega], rfl, ?_, ?_, hbr.alloc hbr.size _⟩
        · show _ = _
          rw [← hd.out, digs_pos (by omega : m ≠ 0), one_more, UInt8.ofNat_add]; simp
        · rw [one_size]; have : m / 10 < m := Nat.div_lt_self hlt (by omega); omega
      case measure => simp [intOf]; omega
    · obtain rfl : m = 0 := by omega
      go_wp2
      go_ret
      refine ⟨?_, hbr⟩
      have hfin : (⟨#[109]⟩ : ByteArray) ++ s = mText n := by
        apply ByteArray.ext
        apply Array.ext'
        rw [one_more]
        have h1 := hd.out
        rw [digs_zero, List.nil_append] at h1
        rw [h1]; simp [mText]
      rw [hfin]; rfl
theorem markText {w : World} {k : Int} (h0 : 0 < k) (h1 : k ≤ 4398046511104) :
    Calls Try.prog 61 #[.int .i64 k] w fun e w' => e = .returned (.string (mText k)) ∧ Below w.heap.size w w' := by
  obtain ⟨n, rfl⟩ : ∃ n : Nat, k = n := ⟨k.toNat, by omega⟩
  exact markText_loop n (by omega) (by omega)
end Go.Proofs.Ytfkpllkgganejaa
