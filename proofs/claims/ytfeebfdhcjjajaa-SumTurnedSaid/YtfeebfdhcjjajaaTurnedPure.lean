/- SumTurned, the plain law: for every text s, if one byte of s is turned by a number from 1 to 255, the sum is another one. No condition. (A round of the sum is one-to-one in the sum so far, and in the byte: the factor is odd.) -/
import Derived.Test.YtfeebfdhcjjajaaTurnedWalk
import Derived.Lib.Strings
namespace Go.Proofs.Ytfeebfdhcjjajaa.Turned
open Go.RowKit Go.Proofs.Ytfeebfdhcjjajaa.PSumJoins Go.Proofs.YtfeebfdhcjjajaaW.PrintWords Go.Proofs.YtfeebfdhcjjajaaW.PrintLast

def rnd (h : BitVec 64) (b : UInt8) : BitVec 64 := (h ^^^ BitVec.ofNat 64 b.toNat) * 1099511628211#64

theorem mul_inj (x y : BitVec 64) (h : x * 1099511628211#64 = y * 1099511628211#64) : x = y := by
  have e : 1099511628211#64 * 14886173955864302971#64 = 1#64 := by decide
  have g : (x * 1099511628211#64) * 14886173955864302971#64 = (y * 1099511628211#64) * 14886173955864302971#64 := by rw [h]
  rw [BitVec.mul_assoc, BitVec.mul_assoc, e, BitVec.mul_one, BitVec.mul_one] at g
  exact g

theorem xor_left_inj (x y z : BitVec 64) (h : x ^^^ z = y ^^^ z) : x = y := by
  have g : (x ^^^ z) ^^^ z = (y ^^^ z) ^^^ z := by rw [h]
  rw [BitVec.xor_assoc, BitVec.xor_assoc, BitVec.xor_self, BitVec.xor_zero, BitVec.xor_zero] at g
  exact g

theorem rnd_sum (x y : BitVec 64) (b : UInt8) (h : rnd x b = rnd y b) : x = y := xor_left_inj x y _ (mul_inj _ _ h)

theorem rnd_byte (x : BitVec 64) (b c : UInt8) (h : rnd x b = rnd x c) : b = c := by
  have g := mul_inj _ _ h
  rw [BitVec.xor_comm x, BitVec.xor_comm x] at g
  have g2 := xor_left_inj _ _ _ g
  have g3 : (BitVec.ofNat 64 b.toNat).toNat = (BitVec.ofNat 64 c.toNat).toNat := by rw [g2]
  rw [BitVec.toNat_ofNat, BitVec.toNat_ofNat] at g3
  have hb := b.toNat_lt
  have hc := c.toNat_lt
  apply UInt8.toNat_inj.1
  omega

theorem fold_inj (l : List UInt8) : ∀ x y : BitVec 64, l.foldl rnd x = l.foldl rnd y → x = y := by
  induction l with
  | nil => exact fun x y h => h
  | cons b l ih => exact fun x y h => rnd_sum x y b (ih _ _ h)

/-- One byte turned: another sum. -/
theorem fold_turned (x : BitVec 64) (p q : List UInt8) (b c : UInt8) (h : b ≠ c) : (p ++ b :: q).foldl rnd x ≠ (p ++ c :: q).foldl rnd x := by
  intro e
  rw [List.foldl_append, List.foldl_append, List.foldl_cons, List.foldl_cons] at e
  exact h (rnd_byte _ b c (fold_inj q _ _ e))

theorem wrap_u64 (n : Int) : IntKind.u64.wrap n = n % 18446744073709551616 := by simp [IntKind.wrap, IntKind.bits, IntKind.signed]

theorem round_eq (h : BitVec 64) (b : UInt8) : IntKind.u64.wrap ((Go.bits .xor .u64 (h.toNat : Int) (IntKind.u64.wrap (b.toNat : Int))) * 1099511628211) = ((rnd h b).toNat : Int) := by
  have hb := b.toNat_lt
  have e1 : IntKind.u64.wrap (b.toNat : Int) = (b.toNat : Int) := by rw [wrap_u64]; omega
  have e2 : Go.bits .xor .u64 (h.toNat : Int) (b.toNat : Int) = ((h ^^^ BitVec.ofNat 64 b.toNat).toNat : Int) := by
    show IntKind.u64.wrap ((BitVec.ofInt 64 (h.toNat : Int) ^^^ BitVec.ofInt 64 (b.toNat : Int)).toNat : Int) = _
    rw [BitVec.ofInt_natCast, BitVec.ofInt_natCast, BitVec.ofNat_toNat, BitVec.setWidth_eq, wrap_u64]
    have := (h ^^^ BitVec.ofNat 64 b.toNat).isLt
    omega
  rw [e1, e2, wrap_u64]
  unfold rnd
  rw [BitVec.toNat_mul]
  have e3 : (1099511628211#64).toNat = 1099511628211 := by decide
  rw [e3, Int.natCast_emod, Int.natCast_mul]
  rfl

theorem on_fold (s : ByteArray) (hn : s.size ≤ 281474976702464) (d : Nat) : ∀ (k i : Nat) (h : BitVec 64), i + d = s.size → d < k →
    sum_On.l0 k s (h.toNat : Int) (s.size : Int) (i : Int) = some (((s.data.toList.drop i).foldl rnd h).toNat : Int) := by
  induction d with
  | zero =>
    intro k i h hd hk
    obtain ⟨k, rfl⟩ : ∃ m, k = m + 1 := ⟨k - 1, by omega⟩
    simp only [sum_On.l0]
    rw [if_neg (by omega), List.drop_of_length_le (by rw [Array.length_toList]; show s.size ≤ i; omega)]
    rfl
  | succ d ih =>
    intro k i h hd hk
    obtain ⟨k, rfl⟩ : ∃ m, k = m + 1 := ⟨k - 1, by omega⟩
    have hi : i < s.size := by omega
    have hlt : (i : Int) < (s.size : Int) := by omega
    have hb : bt s (i : Int) = ((s[i]'hi).toNat : Int) := by
      unfold bt
      rw [dif_pos (show (i : Int).toNat < s.size by omega)]
      rfl
    have hw : wrap64 ((i : Int) + 1) = ((i + 1 : Nat) : Int) := by unfold wrap64; omega
    simp only [sum_On.l0]
    rw [if_pos hlt, if_pos (by omega), if_pos hlt, hb, round_eq, hw, ih k (i + 1) _ (by omega) (by omega)]
    have hdrop : s.data.toList.drop i = s[i]'hi :: s.data.toList.drop (i + 1) := by
      rw [List.drop_eq_getElem_cons (by rw [Array.length_toList]; exact hi)]
      rfl
    rw [hdrop, List.foldl_cons]

theorem of_fold (s : ByteArray) (hn : s.size ≤ 281474976702464) (k : Nat) (hk : s.size < k) : sum_Of.f k s = some ((s.data.toList.foldl rnd 14695981039346656037#64).toNat : Int) := by
  have h := on_fold s hn s.size k 0 14695981039346656037#64 (by omega) hk
  unfold sum_Of.f sum_On.f
  have e : ((14695981039346656037#64).toNat : Int) = 14695981039346656037 := by decide
  rw [e, List.drop_zero] at h
  have h' : sum_On.l0 k s 14695981039346656037 (s.size : Int) 0 = some ((s.data.toList.foldl rnd 14695981039346656037#64).toNat : Int) := h
  rw [h']
  rfl

theorem turned_awake (k : Nat) (hk : 2 ≤ k) : holtlaw2_awake.f k = some true := by
  obtain ⟨k, rfl⟩ : ∃ m, k = m + 2 := ⟨k - 2, by omega⟩
  induction k with
  | zero => kernel_rfl
  | succ k ih => exact holtlaw2_awake.mono (k + 2) true (ih (by omega))

/-- A byte and a number from 1 to 255: another byte. -/
theorem xor_other (b : UInt8) (x : Nat) (h0 : 0 < x) (h1 : x < 256) : UInt8.ofNat (Go.bits .xor .u8 (b.toNat : Int) (x : Int)).toNat ≠ b := by
  have hb := b.toNat_lt
  have e : Go.bits .xor .u8 (b.toNat : Int) (x : Int) = ((b.toNat ^^^ x : Nat) : Int) := by
    show IntKind.u8.wrap ((BitVec.ofInt 8 (b.toNat : Int) ^^^ BitVec.ofInt 8 (x : Int)).toNat : Int) = _
    rw [BitVec.ofInt_natCast, BitVec.ofInt_natCast, BitVec.toNat_xor, BitVec.toNat_ofNat, BitVec.toNat_ofNat, Nat.mod_eq_of_lt (show b.toNat < 2 ^ 8 by omega), Nat.mod_eq_of_lt (show x < 2 ^ 8 by omega), IntKind.wrap_u8]
    have : b.toNat ^^^ x < 2 ^ 8 := Nat.xor_lt_two_pow (by omega) (by omega)
    omega
  rw [e, Int.toNat_natCast]
  intro h
  have h2 : (UInt8.ofNat (b.toNat ^^^ x)).toNat = b.toNat := by rw [h]
  rw [UInt8.toNat_ofNat', Nat.mod_eq_of_lt (Nat.xor_lt_two_pow (by omega) (by omega))] at h2
  have h3 : b.toNat ^^^ (b.toNat ^^^ x) = b.toNat ^^^ b.toNat := by rw [h2]
  rw [← Nat.xor_assoc, Nat.xor_self, Nat.zero_xor] at h3
  omega

theorem turned_data_append (a b : ByteArray) : (a ++ b).data.toList = a.data.toList ++ b.data.toList := by
  rw [ByteArray.data_append, Array.toList_append]

theorem SumTurned : holtlaw2_SumTurned.Pure := by
  intro s at' by' hs _ _
  refine ⟨s.size + 2, ?_⟩
  unfold holtlaw2_SumTurned.f
  rw [turned_awake _ (by omega)]
  simp only [Option.bind_some, if_true]
  by_cases h0 : s.toList = []
  · rw [if_pos h0]
  have hn : s.size ≠ 0 := by
    intro h
    apply h0
    rw [Lib.toList_data]
    exact List.eq_nil_of_length_eq_zero (by rw [Array.length_toList]; exact h)
  rw [if_neg h0]
  have e1 : IntKind.u64.wrap ((s.size : Int)) = (s.size : Int) := by rw [wrap_u64]; omega
  have hU : 0 ≤ IntKind.u64.wrap at' := by rw [wrap_u64]; omega
  rw [e1, if_neg (by omega), Int.tmod_eq_emod_of_nonneg hU]
  generalize IntKind.u64.wrap at' = U at hU
  have hi0 : 0 ≤ U % (s.size : Int) := Int.emod_nonneg _ (by omega)
  have hi1 : U % (s.size : Int) < (s.size : Int) := Int.emod_lt_of_pos _ (by omega)
  obtain ⟨i, hi⟩ : ∃ i : Nat, U % (s.size : Int) = (i : Int) := ⟨(U % (s.size : Int)).toNat, by omega⟩
  rw [hi] at hi0 hi1 ⊢
  have hw : wrap64 (i : Int) = (i : Int) := by unfold wrap64; omega
  have hw1 : wrap64 ((i : Int) + 1) = ((i + 1 : Nat) : Int) := by unfold wrap64; omega
  rw [hw, hw1, if_pos hi0, if_pos (by omega), if_pos hi1]
  have hV : 0 ≤ IntKind.u64.wrap by' := by rw [wrap_u64]; omega
  rw [Int.tmod_eq_emod_of_nonneg hV]
  have hx : IntKind.u64.wrap (1 + IntKind.u64.wrap by' % 255) % 256 = ((1 + (IntKind.u64.wrap by' % 255).toNat : Nat) : Int) := by rw [wrap_u64 (1 + _)]; omega
  rw [hx]
  have hx0 : 0 < 1 + (IntKind.u64.wrap by' % 255).toNat := by omega
  have hx1 : 1 + (IntKind.u64.wrap by' % 255).toNat < 256 := by omega
  generalize 1 + (IntKind.u64.wrap by' % 255).toNat = x at hx0 hx1
  have hil : i < s.size := by omega
  have hb : bt s (i : Int) = ((s[i]'hil).toNat : Int) := by
    unfold bt
    rw [dif_pos (show (i : Int).toNat < s.size by omega)]
    rfl
  rw [hb]
  have hother := xor_other (s[i]'hil) x hx0 hx1
  generalize hc : Go.bits .xor .u8 ((s[i]'hil).toNat : Int) (x : Int) = c at hother
  have z1 : (strOfNums [c]).size = 1 := strOfNums_size [c]
  rw [ByteArray.size_extract, z1]
  simp only [Int.toNat_natCast]
  rw [if_pos (by omega), if_pos (by omega), if_pos (by omega), if_pos (by rw [ByteArray.size_append, ByteArray.size_extract, ByteArray.size_extract, z1]; omega)]
  have z2 : (s.extract 0 i ++ strOfNums [c] ++ s.extract (i + 1) s.size).size = s.size := by
    rw [ByteArray.size_append, ByteArray.size_append, ByteArray.size_extract, ByteArray.size_extract, z1]; omega
  rw [of_fold s (by omega) _ (by omega), of_fold (s.extract 0 i ++ strOfNums [c] ++ s.extract (i + 1) s.size) (by omega) _ (by omega)]
  simp only [Option.bind_some, Option.some.injEq, bne_iff_ne, ne_eq, Int.natCast_inj, BitVec.toNat_inj]
  rw [turned_data_append, turned_data_append, Lib.extract_data, Lib.extract_data, strOfNums_data]
  have hlen : s.data.toList.length = s.size := by rw [Array.length_toList]; rfl
  have d1 : s.data.toList = s.data.toList.take i ++ (s[i]'hil) :: s.data.toList.drop (i + 1) := by
    have := (List.take_append_drop i s.data.toList).symm
    rw [List.drop_eq_getElem_cons (by rw [hlen]; exact hil)] at this
    exact this
  have d2 : List.take (i - 0) (List.drop 0 s.data.toList) ++ List.map (fun n : Int => UInt8.ofNat n.toNat) [c] ++ List.take (s.size - (i + 1)) (List.drop (i + 1) s.data.toList) = s.data.toList.take i ++ UInt8.ofNat c.toNat :: s.data.toList.drop (i + 1) := by
    rw [List.drop_zero, Nat.sub_zero, List.take_of_length_le (i := s.size - (i + 1)) (by rw [List.length_drop, hlen]; exact Nat.le_refl _)]
    simp
  rw [d2]
  have := fold_turned 14695981039346656037#64 (s.data.toList.take i) (s.data.toList.drop (i + 1)) (s[i]'hil) (UInt8.ofNat c.toNat) (fun h => hother h.symm)
  rw [← d1] at this
  exact this

end Go.Proofs.Ytfeebfdhcjjajaa.Turned
