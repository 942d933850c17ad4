/- SumTexts: for every number h of 64 bits and every text s, the program's sum of s and its sum of s from h on are the document's. No condition. -/
import Derived.Test.YtfeebfdhcjjajaaPSumTextsx1
namespace Go.Proofs.Ytfeebfdhcjjajaa.Pure
open Go.RowKit Go.Proofs.Ytfeebfdhcjjajaa.PSumTexts Go.Proofs.YtfeebfdhcjjajaaW.PrintWords Go.Proofs.YtfeebfdhcjjajaaW.PrintLast

theorem texts_wrap {i : Int} {n : Nat} (h0 : 0 ≤ i) (h : i < (n : Int)) (hn : n ≤ 140737488351232) : wrap64 (i + 1) = i + 1 := by
  unfold wrap64
  omega

theorem texts_loop (s : ByteArray) (hn : s.size ≤ 140737488351232) (d : Nat) : ∀ (k : Nat) (x i : Int), 0 ≤ i → i ≤ s.size → (s.size : Int) - i = d → d < k →
    ∃ r, sum_On.l0 k s x (s.size : Int) i = some r ∧ holtref2_On.l0 k x s i = some r := by
  induction d with
  | zero =>
    intro k x i h0 h1 hd hk
    obtain ⟨k, rfl⟩ : ∃ m, k = m + 1 := ⟨k - 1, by omega⟩
    exact ⟨x, by simp only [sum_On.l0]; rw [if_neg (by omega)], by simp only [holtref2_On.l0]; rw [if_neg (by omega)]⟩
  | succ d ih =>
    intro k x i h0 h1 hd hk
    obtain ⟨k, rfl⟩ : ∃ m, k = m + 1 := ⟨k - 1, by omega⟩
    have hlt : i < (s.size : Int) := by omega
    obtain ⟨r, h2, h3⟩ := ih k (IntKind.u64.wrap ((Go.bits .xor .u64 x (IntKind.u64.wrap (bt s i))) * 1099511628211)) (i + 1) (by omega) (by omega) (by omega) (by omega)
    refine ⟨r, ?_, ?_⟩
    · simp only [sum_On.l0]; rw [if_pos hlt, if_pos h0, if_pos hlt, texts_wrap h0 hlt hn]; exact h2
    · simp only [holtref2_On.l0]; rw [if_pos hlt, if_pos h0, texts_wrap h0 hlt hn]; exact h3

theorem texts_awake (k : Nat) (hk : 2 ≤ k) : holtlaw2_awake.f k = some true := by
  obtain ⟨k, rfl⟩ : ∃ m, k = m + 2 := ⟨k - 2, by omega⟩
  induction k with
  | zero => kernel_rfl
  | succ k ih => exact holtlaw2_awake.mono (k + 2) true (ih (by omega))

theorem SumTexts : holtlaw2_SumTexts.Pure := by
  intro h s _ hn
  obtain ⟨r, h1, h2⟩ := texts_loop s hn s.size (s.size + 2) 14695981039346656037 0 (by omega) (by omega) (by omega) (by omega)
  obtain ⟨q, h3, h4⟩ := texts_loop s hn s.size (s.size + 2) h 0 (by omega) (by omega) (by omega) (by omega)
  refine ⟨s.size + 2, ?_⟩
  unfold holtlaw2_SumTexts.f sum_Of.f holtref2_Of.f sum_On.f holtref2_On.f
  rw [h1, h2, h3, h4, texts_awake _ (by omega)]
  simp only [Option.bind_some, if_true]

end Go.Proofs.Ytfeebfdhcjjajaa.Pure
