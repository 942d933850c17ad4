/- strings.IndexRune, IndexAny, ContainsAny at the two bytes '/' and 0, of any text s, whatever its bytes: is one of the two in s? No condition on s but its size below 2^32 - 15. -/
import Derived.Test.YtfeebfdhcjjajaaShelf
import Derived.Below
import Derived.Laws.RangeString
import Derived.Deep.LoopGhost
import Derived.WalkKit
import Derived.KernelRfl
import Derived.BigQuiet
set_option linter.unusedSimpArgs false
namespace Go.Proofs.Ytfeebfdhcjjajaa.Nm
open Go.RowKit Go.Lib

/-- What decoding at a byte of 128 and more gives: a rune of 128 and more that is valid, and bytes of 128 and more alone. -/
theorem decode_high (s : ByteArray) (i : Nat) (h : i < s.size) (hb : 128 ≤ (s[i]'h).toNat) :
    ∃ r n, Utf8.decode s i = (r, n) ∧ 128 ≤ r ∧ Utf8.valid (r : Int) = true ∧ 1 ≤ n ∧ i + n ≤ s.size ∧ ∀ j b, i ≤ j → j < i + n → s.data.toList[j]? = some b → 128 ≤ b.toNat := by
  have e0 : s.get! (i + 0) = s[i]'h := by
    show s.get! i = _
    simp [ByteArray.get!, getElem!_pos, h]
    rfl
  have hv : Utf8.valid ((65533 : Nat) : Int) = true := by decide
  have at0 : ∀ b, s.data.toList[i]? = some b → 128 ≤ b.toNat := by
    intro b hb'
    rw [Lib.data_getElem? s i h] at hb'
    cases hb'
    exact hb
  have one : ∀ j b, i ≤ j → j < i + 1 → s.data.toList[j]? = some b → 128 ≤ b.toNat := by
    intro j b h1 h2 h3
    obtain rfl : j = i := by omega
    exact at0 b h3
  have atk : ∀ k, (decide (i + k < s.size) && ((s.get! (i + k)).toNat / 64 == 2)) = true → i + k < s.size ∧ ∀ b, s.data.toList[i + k]? = some b → 128 ≤ b.toNat := by
    intro k hk
    rw [Bool.and_eq_true, decide_eq_true_iff, beq_iff_eq] at hk
    refine ⟨hk.1, fun b hb' => ?_⟩
    rw [Lib.data_getElem? s (i + k) hk.1] at hb'
    cases hb'
    have e : s.get! (i + k) = s[i + k]'hk.1 := by
      simp [ByteArray.get!, getElem!_pos, hk.1]
      rfl
    have := hk.2
    rw [e] at this
    omega
  unfold Utf8.decode
  simp only [e0]
  rw [if_neg (by omega)]
  split
  · rename_i hc
    rw [Bool.and_eq_true] at hc
    obtain ⟨h1, b1⟩ := atk 1 hc.2
    have h2 := beq_iff_eq.1 hc.1
    split
    · rename_i hr
      refine ⟨_, _, rfl, hr, ?_, by omega, by omega, fun j b h1 h2 h3 => ?_⟩
      · have : (((s[i]'h).toNat % 32) * 64 + (s.get! (i + 1)).toNat % 64) < 2048 := by omega
        unfold Utf8.valid
        rw [Bool.or_eq_true]
        left
        rw [Bool.and_eq_true, decide_eq_true_iff, decide_eq_true_iff]
        omega
      · rcases (show j = i ∨ j = i + 1 by omega) with rfl | rfl
        · exact at0 b h3
        · exact b1 b h3
    · exact ⟨_, _, rfl, by decide, hv, by omega, by omega, one⟩
  · split
    · rename_i hc
      rw [Bool.and_eq_true, Bool.and_eq_true] at hc
      obtain ⟨h1, b1⟩ := atk 1 hc.1.2
      obtain ⟨h2, b2⟩ := atk 2 hc.2
      split
      · rename_i hr
        rw [Bool.and_eq_true, decide_eq_true_iff] at hr
        refine ⟨_, _, rfl, by omega, hr.2, by omega, by omega, fun j b h1 h2 h3 => ?_⟩
        rcases (show j = i ∨ j = i + 1 ∨ j = i + 2 by omega) with rfl | rfl | rfl
        · exact at0 b h3
        · exact b1 b h3
        · exact b2 b h3
      · exact ⟨_, _, rfl, by decide, hv, by omega, by omega, one⟩
    · split
      · rename_i hc
        rw [Bool.and_eq_true, Bool.and_eq_true, Bool.and_eq_true] at hc
        obtain ⟨h1, b1⟩ := atk 1 hc.1.1.2
        obtain ⟨h2, b2⟩ := atk 2 hc.1.2
        obtain ⟨h3, b3⟩ := atk 3 hc.2
        split
        · rename_i hr
          rw [Bool.and_eq_true, decide_eq_true_iff] at hr
          refine ⟨_, _, rfl, by omega, hr.2, by omega, by omega, fun j b g1 g2 g3 => ?_⟩
          rcases (show j = i ∨ j = i + 1 ∨ j = i + 2 ∨ j = i + 3 by omega) with rfl | rfl | rfl | rfl
          · exact at0 b g3
          · exact b1 b g3
          · exact b2 b g3
          · exact b3 b g3
        · exact ⟨_, _, rfl, by decide, hv, by omega, by omega, one⟩
      · exact ⟨_, _, rfl, by decide, hv, by omega, by omega, one⟩

/-- What is encoded of a rune of 128 and more: two bytes and more, the second of 128 and more. -/
theorem encode_high (r : Int) (h : 128 ≤ r) (hv : Utf8.valid r = true) : ∃ (b c : UInt8) (tl : List UInt8), Utf8.encode r = ⟨(b :: c :: tl).toArray⟩ ∧ tl.length ≤ 2 ∧ 128 ≤ c.toNat := by
  unfold Utf8.encode
  rw [if_pos hv]
  dsimp only
  rw [if_neg (by omega)]
  split
  · refine ⟨_, _, _, rfl, by simp, ?_⟩
    rw [UInt8.toNat_ofNat']; omega
  · split
    · refine ⟨_, _, _, rfl, by simp, ?_⟩
      rw [UInt8.toNat_ofNat']; omega
    · refine ⟨_, _, _, rfl, by simp, ?_⟩
      rw [UInt8.toNat_ofNat']; omega

/-- The model's iterator over s stands at pos in block b. -/
def At (w : World) (b : Nat) (s : ByteArray) (pos : Nat) : Prop := w.heap[b]? = some (.stringIter s pos)

def moved (w : World) (b : Nat) (s : ByteArray) (pos : Nat) : World := { w with heap := w.heap.setIfInBounds b (.stringIter s pos) }

theorem run_next_at (w : World) (b : Nat) (s : ByteArray) (pos : Nat) (ty : TypeId) (hb : At w b s pos) (h : pos < s.size) {r n : Nat} (hd : Utf8.decode s pos = (r, n)) :
    (Instr.next (.pointer (some ⟨b, 0, none⟩)) true ty).run Try.prog w = .ok (.tuple #[.bool true, .int .i64 pos, .int .i32 r]) (moved w b s (pos + n)) := by
  unfold At at hb
  simp only [Instr.next, getObj, setObj, Sem.run_bind, Sem.run, hb, Result.andThen, h, if_true, hd]
  simp [goInt, moved]

theorem run_next_over (w : World) (b : Nat) (s : ByteArray) (pos : Nat) (ty : TypeId) (hb : At w b s pos) (h : ¬ pos < s.size) :
    (Instr.next (.pointer (some ⟨b, 0, none⟩)) true ty).run Try.prog w = .ok (.tuple #[.bool false]) w := by
  unfold At at hb
  simp [Instr.next, getObj, Sem.run, hb, h]

theorem At.moved {w : World} {b : Nat} {s : ByteArray} {pos : Nat} (h : At w b s pos) (p : Nat) : At (moved w b s p) b s p := by
  unfold At at h
  have hl := (Array.getElem?_eq_some_iff.1 h).1
  unfold At Nm.moved
  simp [hl]

theorem below_moved {B : Nat} {a w : World} (h : Below B a w) {b : Nat} (hb : B ≤ b) (s : ByteArray) (p : Nat) : Below B a (moved w b s p) := by
  refine ⟨h.os, h.tape, h.output, by simpa [moved] using h.size, fun k hk => ?_⟩
  unfold moved
  rw [Array.getElem?_setIfInBounds_ne (by omega)]
  exact h.block k hk

theorem At.below {w w' : World} {b : Nat} {s : ByteArray} {p : Nat} (h : At w b s p) (hb : Below w.heap.size w w') : At w' b s p := by
  unfold At at *
  rw [hb.block b (Array.getElem?_eq_some_iff.1 h).1]
  exact h

theorem At.start (w : World) (s : ByteArray) : At (w.iter s 0) w.heap.size s 0 := World.iter_heap w s 0

end Go.Proofs.Ytfeebfdhcjjajaa.Nm
