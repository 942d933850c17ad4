/- SumJoins: for all texts s and t, the sum over both is the sum of t from the sum of s on. No condition. -/
import Derived.Test.YtfeebfdhcjjajaaPSumJoinsx1
namespace Go.Proofs.Ytfeebfdhcjjajaa.Pure
open Go.RowKit Go.Proofs.Ytfeebfdhcjjajaa.PSumJoins Go.Proofs.YtfeebfdhcjjajaaW.PrintWords Go.Proofs.YtfeebfdhcjjajaaW.PrintLast

theorem joins_wrap {i : Int} {n : Nat} (h0 : 0 ≤ i) (h : i < (n : Int)) (hn : n ≤ 281474976702464) : wrap64 (i + 1) = i + 1 := by
  unfold wrap64
  omega

theorem joins_bt_left (s t : ByteArray) (i : Int) (h0 : 0 ≤ i) (h : i < (s.size : Int)) : bt (s ++ t) i = bt s i := by
  have h1 : i.toNat < s.size := by omega
  have h2 : i.toNat < (s ++ t).size := by rw [ByteArray.size_append]; omega
  unfold bt
  rw [dif_pos h1, dif_pos h2, ByteArray.getElem_append_left h1]

theorem joins_bt_right (s t : ByteArray) (i : Int) (h0 : 0 ≤ i) (h : i < (t.size : Int)) : bt (s ++ t) (s.size + i) = bt t i := by
  have h1 : i.toNat < t.size := by omega
  have h2 : ((s.size : Int) + i).toNat < (s ++ t).size := by rw [ByteArray.size_append]; omega
  unfold bt
  rw [dif_pos h1, dif_pos h2, ByteArray.getElem_append_right (by omega)]
  have e : ((s.size : Int) + i).toNat - s.size = i.toNat := by omega
  simp only [e]

theorem joins_tail (s t : ByteArray) (hs : s.size ≤ 140737488351232) (ht : t.size ≤ 140737488351232) (d : Nat) : ∀ (k : Nat) (x i : Int), 0 ≤ i → i ≤ t.size → (t.size : Int) - i = d → d < k →
    ∃ r, sum_On.l0 k t x (t.size : Int) i = some r ∧ sum_On.l0 k (s ++ t) x ((s ++ t).size : Int) (s.size + i) = some r := by
  have hst : (s ++ t).size = s.size + t.size := ByteArray.size_append
  induction d with
  | zero =>
    intro k x i h0 h1 hd hk
    obtain ⟨k, rfl⟩ : ∃ m, k = m + 1 := ⟨k - 1, by omega⟩
    exact ⟨x, by simp only [sum_On.l0]; rw [if_neg (by omega)], by simp only [sum_On.l0]; rw [if_neg (by omega)]⟩
  | succ d ih =>
    intro k x i h0 h1 hd hk
    obtain ⟨k, rfl⟩ : ∃ m, k = m + 1 := ⟨k - 1, by omega⟩
    have hlt : i < (t.size : Int) := by omega
    have hlt2 : (s.size : Int) + i < ((s ++ t).size : Int) := by omega
    obtain ⟨r, h2, h3⟩ := ih k (IntKind.u64.wrap ((Go.bits .xor .u64 x (IntKind.u64.wrap (bt t i))) * 1099511628211)) (i + 1) (by omega) (by omega) (by omega) (by omega)
    refine ⟨r, ?_, ?_⟩
    · simp only [sum_On.l0]; rw [if_pos hlt, if_pos h0, if_pos hlt, joins_wrap h0 hlt (by omega)]; exact h2
    · simp only [sum_On.l0]; rw [if_pos hlt2, if_pos (by omega), if_pos hlt2, joins_wrap (by omega) hlt2 (by omega), joins_bt_right s t i h0 hlt, Int.add_assoc]; exact h3

theorem joins_head (s t : ByteArray) (hs : s.size ≤ 140737488351232) (ht : t.size ≤ 140737488351232) (d : Nat) : ∀ (k : Nat) (x i : Int), 0 ≤ i → i ≤ s.size → (s.size : Int) - i = d → d < k →
    ∃ r, sum_On.l0 k s x (s.size : Int) i = some r ∧ sum_On.l0 (k + t.size + 1) (s ++ t) x ((s ++ t).size : Int) i = sum_On.l0 (k - d + t.size + 1) (s ++ t) r ((s ++ t).size : Int) s.size := by
  have hst : (s ++ t).size = s.size + t.size := ByteArray.size_append
  induction d with
  | zero =>
    intro k x i h0 h1 hd hk
    obtain ⟨k, rfl⟩ : ∃ m, k = m + 1 := ⟨k - 1, by omega⟩
    obtain rfl : i = (s.size : Int) := by omega
    exact ⟨x, by simp only [sum_On.l0]; rw [if_neg (by omega)], rfl⟩
  | succ d ih =>
    intro k x i h0 h1 hd hk
    obtain ⟨k, rfl⟩ : ∃ m, k = m + 1 := ⟨k - 1, by omega⟩
    have hlt : i < (s.size : Int) := by omega
    have hlt2 : i < ((s ++ t).size : Int) := by omega
    obtain ⟨r, h2, h3⟩ := ih k (IntKind.u64.wrap ((Go.bits .xor .u64 x (IntKind.u64.wrap (bt s i))) * 1099511628211)) (i + 1) (by omega) (by omega) (by omega) (by omega)
    refine ⟨r, ?_, ?_⟩
    · simp only [sum_On.l0]; rw [if_pos hlt, if_pos h0, if_pos hlt, joins_wrap h0 hlt (by omega)]; exact h2
    · rw [show k + 1 + t.size + 1 = (k + t.size + 1) + 1 from by omega]
      rw [show k + 1 - (d + 1) + t.size + 1 = k - d + t.size + 1 from by omega, ← h3]
      conv => lhs; unfold sum_On.l0
      rw [if_pos hlt2, if_pos (by omega), if_pos hlt2, joins_wrap (by omega) hlt2 (by omega), joins_bt_left s t i h0 hlt]

theorem joins_awake (k : Nat) (hk : 2 ≤ k) : holtlaw2_awake.f k = some true := by
  obtain ⟨k, rfl⟩ : ∃ m, k = m + 2 := ⟨k - 2, by omega⟩
  induction k with
  | zero => kernel_rfl
  | succ k ih => exact holtlaw2_awake.mono (k + 2) true (ih (by omega))

theorem joins_up {s : ByteArray} {x r : Int} {j : Nat} : ∀ k, sum_On.f j x s = some r → j ≤ k → sum_On.f k x s = some r := by
  intro k h hk
  obtain ⟨n, rfl⟩ : ∃ n, k = j + n := ⟨k - j, by omega⟩
  clear hk
  induction n with
  | zero => exact h
  | succ n ih => exact sum_On.mono x s (j + n) r ih

theorem SumJoins : holtlaw2_SumJoins.Pure := by
  intro s t hs ht
  have hst : (s ++ t).size = s.size + t.size := ByteArray.size_append
  obtain ⟨r, h1, h2⟩ := joins_head s t hs ht s.size (s.size + 1) 14695981039346656037 0 (by omega) (by omega) (by omega) (by omega)
  obtain ⟨q, h3, h4⟩ := joins_tail s t hs ht t.size (t.size + 2) r 0 (by omega) (by omega) (by omega) (by omega)
  rw [show s.size + 1 - s.size + t.size + 1 = t.size + 2 from by omega] at h2
  rw [Int.add_zero] at h4
  rw [h4] at h2
  have e1 : sum_On.f (s.size + t.size + 2) 14695981039346656037 (s ++ t) = some q := joins_up (j := s.size + 1 + t.size + 1) _ h2 (by omega)
  have e2 : sum_On.f (s.size + t.size + 2) 14695981039346656037 s = some r := joins_up (j := s.size + 1) _ h1 (by omega)
  have e3 : sum_On.f (s.size + t.size + 2) r t = some q := joins_up (j := t.size + 2) _ h3 (by omega)
  refine ⟨s.size + t.size + 2, ?_⟩
  unfold holtlaw2_SumJoins.f sum_Of.f
  rw [if_pos (by omega), e1, e2]
  simp only [Option.bind_some]
  rw [e3, joins_awake _ (by omega)]
  simp only [Option.bind_some, if_true]

end Go.Proofs.Ytfeebfdhcjjajaa.Pure
