/- name.Check and the reference's Check, walked: both return chk s, for every text s; and what holtlaw14.awake returns. No condition but the size that a text can have. -/
import Derived.Test.YtfeebfdhcjjajaaNmWalk
import Derived.Test.YtfeebfdhcjjajaaPNameChecksx1
set_option linter.unusedVariables false
set_option linter.unusedSimpArgs false
namespace Go.Proofs.Ytfeebfdhcjjajaa.Nm
open Go.RowKit Go.Lib Go.Proofs.Ytfeebfdhcjjajaa.PNameChecks Go.Proofs.YtfeebfdhcjjajaaW.PrintWords Go.Proofs.YtfeebfdhcjjajaaW.PrintLast Go.Proofs.YtfeebfdhcjjajaaW.PrintMore

theorem indexAny_all (s : ByteArray) (hs : s.size ≤ 281474976710656) (h32 : s.size ≤ 32) (w : World) :
    Calls Try.prog 20 #[.string s, .string ⟨#[47, 0]⟩] w fun e w' => e = .returned (.int .i64 (Lib.indexAny s.data.toList [47, 0])) ∧ Below w.heap.size w w' := by
  by_cases h8 : s.size ≤ 8
  · exact any_short s h8 w
  · have h116 : (Try.prog.info? 39).map (fun i => (i.zero, i.size)) = some (some (.agg (Array.replicate 256 (.bool false))), 256) := by kernel_rfl
    refine (Try.strings_IndexAny_long (zero_of_info h116).1 s ⟨#[47, 0]⟩ w (by show 2 ≤ 2; omega) (by omega) (by omega) (by show 2 < 4294967281; omega) ?_).mono fun e w' ⟨h1, h2⟩ => ⟨h1, ?_⟩
    · intro j b hb
      have : b = 47 ∨ b = 0 := by
        have := List.mem_of_getElem? hb
        simpa using this
      rcases this with rfl | rfl <;> decide
    · rw [h2]
      exact ((Below.refl _ _).alloc (Nat.le_refl _) _).alloc (by simp) _

def bad (s : ByteArray) : Bool := Lib.containsAny s.data.toList [47, 0]

theorem contains_any (s : ByteArray) (hs : s.size ≤ 281474976710656) (h32 : s.size ≤ 32) (w : World) :
    Calls Try.prog 19 #[.string s, .string ⟨#[47, 0]⟩] w fun e w' => e = .returned (.bool (bad s)) ∧ Below w.heap.size w w' := by
  have c := indexAny_all s hs h32
  unfold bad Lib.containsAny
  go_enter Try.func19, Try.ntmps19
  go_wp2_with (go_at_call 20; refine (c _).mono ?_; rintro e w' ⟨rfl, hw⟩)
  go_ret
  exact ⟨rfl, hw⟩

def spB (s : ByteArray) : Bool := s.toList == [46] || s.toList == [46, 46] || s.toList == [46, 115, 110, 97, 112, 115, 104, 111, 116]
def chk (s : ByteArray) : Int := if s.toList = [] ∨ spB s = true then 5 else if 32 < s.size then 9 else if bad s = true then 5 else 0

theorem sp_name (s : ByteArray) : name_Special.f s = some (spB s) := by
  unfold name_Special.f spB
  by_cases h1 : s.toList = [46]
  · rw [if_pos h1, h1]; rfl
  rw [if_neg h1]
  by_cases h2 : s.toList = [46, 46]
  · rw [if_pos h2, h2]; rfl
  rw [if_neg h2]
  by_cases h3 : s.toList = [46, 115, 110, 97, 112, 115, 104, 111, 116]
  · rw [if_pos h3, h3]; rfl
  rw [if_neg h3]
  simp [h1, h2, h3]
theorem sp_ref (s : ByteArray) : holtref14_Special.f s = some (spB s) := by
  unfold holtref14_Special.f spB
  by_cases h1 : s.toList = [46]
  · rw [if_pos h1, h1]; rfl
  rw [if_neg h1]
  by_cases h2 : s.toList = [46, 46]
  · rw [if_pos h2, h2]; rfl
  rw [if_neg h2]
  simp [h1, h2]

theorem special_name (s : ByteArray) (w : World) : Calls Try.prog 15 #[.string s] w fun e w' => e = .returned (.bool (spB s)) ∧ Below w.heap.size w w' :=
  (name_Special.calls s _ w (sp_name s)).mono fun _ _ ⟨h1, h2⟩ => ⟨h1, h2.below⟩
theorem special_ref (s : ByteArray) (w : World) : Calls Try.prog 16 #[.string s] w fun e w' => e = .returned (.bool (spB s)) ∧ Below w.heap.size w w' :=
  (holtref14_Special.calls s _ w (sp_ref s)).mono fun _ _ ⟨h1, h2⟩ => ⟨h1, h2.below⟩

set_option maxHeartbeats 1000000 in
theorem check_name (s : ByteArray) (hs : s.size ≤ 281474976710656) (w : World) : Calls Try.prog 13 #[.string s] w fun e w' => e = .returned (.int .i64 (chk s)) ∧ Below w.heap.size w w' := by
  by_cases h0 : s.toList = []
  · have hc : chk s = 5 := by unfold chk; rw [if_pos (.inl h0)]
    have h0a : (s.toList == ([] : List UInt8)) = true := by rw [h0]; rfl
    have h0b : s.toList.isEmpty = true := by rw [h0]; rfl
    rw [hc]
    clear hc
    have H0 := Lib.hid h0
    clear h0
    go_enter Try.func13, Try.ntmps13
    go_wp2
    go_ret
    exact ⟨rfl, Below.refl _ _⟩
  · have h0a : (s.toList == ([] : List UInt8)) = false := beq_eq_false_iff_ne.2 h0
    have h0b : s.toList.isEmpty = false := by cases h : s.toList with | nil => exact absurd h h0 | cons _ _ => rfl
    have csp := special_name s
    by_cases hsp : spB s = true
    · have hc : chk s = 5 := by unfold chk; rw [if_pos (.inr hsp)]
      rw [hc]
      rw [hsp] at csp
      clear hc h0
      have Csp := Lib.hid csp
      clear csp
      go_enter Try.func13, Try.ntmps13
      go_wp2_with (go_at_call 15; refine (Csp.out _).mono ?_; rintro e w' ⟨rfl, hw⟩)
      go_ret
      exact ⟨rfl, hw⟩
    · have hsp' : spB s = false := by simpa using hsp
      rw [hsp'] at csp
      have Csp := Lib.hid csp
      clear csp
      by_cases h32 : 32 < s.size
      · have hc : chk s = 9 := by unfold chk; rw [if_neg (by simp [h0, hsp]), if_pos h32]
        rw [hc]
        clear hc h0
        have h32z : (32 : Int) < (s.size : Int) := by omega
        go_enter Try.func13, Try.ntmps13
        go_wp2_with (go_at_call 15; refine (Csp.out _).mono ?_; rintro e w' ⟨rfl, hw⟩)
        go_ret
        exact ⟨rfl, hw⟩
      · have h32z : (s.size : Int) ≤ 32 := by omega
        have hcb : chk s = if bad s = true then 5 else 0 := by unfold chk; rw [if_neg (by simp [h0, hsp]), if_neg h32]
        rw [hcb]
        clear hcb h0
        have cc := contains_any s hs (by omega)
        cases hbad : bad s with
        | true =>
          rw [hbad] at cc
          have Cc := Lib.hid cc
          clear cc hbad
          rw [if_pos rfl]
          go_enter Try.func13, Try.ntmps13
          go_wp2_with (first | (go_at_call 15; refine (Csp.out _).mono ?_; rintro e w' ⟨rfl, hw⟩) | (go_at_call 19; refine (Cc.out _).mono ?_; rintro e w'' ⟨rfl, hw2⟩))
          go_ret
          exact ⟨rfl, hw.trans (hw2.mono hw.size)⟩
        | false =>
          rw [hbad] at cc
          have Cc := Lib.hid cc
          clear cc hbad
          rw [if_neg (by decide)]
          go_enter Try.func13, Try.ntmps13
          go_wp2_with (first | (go_at_call 15; refine (Csp.out _).mono ?_; rintro e w' ⟨rfl, hw⟩) | (go_at_call 19; refine (Cc.out _).mono ?_; rintro e w'' ⟨rfl, hw2⟩))
          go_ret
          exact ⟨rfl, hw.trans (hw2.mono hw.size)⟩

theorem ref_loop (s : ByteArray) (hs : s.size ≤ 281474976710656) (d : Nat) : ∀ (k i : Nat), i + d = s.size → d < k → Lib.NoAny s.data.toList [47, 0] i →
    holtref14_Check.l0 k s (i : Int) = some (if bad s = true then 5 else 0) := by
  induction d with
  | zero =>
    intro k i hd hk hno
    obtain ⟨k, rfl⟩ : ∃ m, k = m + 1 := ⟨k - 1, by omega⟩
    have hb : bad s = false := by
      unfold bad Lib.containsAny
      rw [Lib.indexAny_none (by rw [← Lib.size_eq, ← show i = s.size by omega]; exact hno)]
      rfl
    simp only [holtref14_Check.l0]
    rw [if_neg (by omega), hb]
    rfl
  | succ d ih =>
    intro k i hd hk hno
    obtain ⟨k, rfl⟩ : ∃ m, k = m + 1 := ⟨k - 1, by omega⟩
    have hi : i < s.size := by omega
    have hbt : bt s (i : Int) = ((s[i]'hi).toNat : Int) := by
      unfold bt
      rw [dif_pos (show (i : Int).toNat < s.size by omega)]
      rfl
    have hl : s.data.toList[i]? = some (s[i]'hi) := Lib.data_getElem? s i hi
    simp only [holtref14_Check.l0]
    rw [if_pos (by omega), if_pos (by omega), hbt]
    generalize hx : s[i]'hi = x at hl
    by_cases h47 : x = 47
    · have hb : bad s = true := by
        unfold bad Lib.containsAny
        rw [Lib.indexAny_hit hno hl (by rw [h47]; rfl)]
        simp
      rw [if_pos (by rw [h47]; rfl), hb]
      rfl
    · by_cases h00 : x = 0
      · have hb : bad s = true := by
          unfold bad Lib.containsAny
          rw [Lib.indexAny_hit hno hl (by rw [h00]; rfl)]
          simp
        rw [if_neg (by rw [h00]; decide), if_pos (by rw [h00]; rfl), hb]
        rfl
      · have n47 : x.toNat ≠ 47 := fun h => h47 (UInt8.toNat_inj.1 h)
        have n0 : x.toNat ≠ 0 := fun h => h00 (UInt8.toNat_inj.1 h)
        have hw : wrap64 ((i : Int) + 1) = ((i + 1 : Nat) : Int) := by unfold wrap64; omega
        rw [if_neg (by omega), if_neg (by omega), hw]
        exact ih k (i + 1) (by omega) (by omega) (hno.succ hl (by simp [List.contains_cons, h47, h00]))

theorem ref_check (s : ByteArray) (hs : s.size ≤ 281474976710656) : holtref14_Check.f (s.size + 3) s = some (chk s) := by
  have hj : ∀ b, holtref14_Check.j0 (s.size + 3) s b = some (if b = true then 5 else if 32 < s.size then 9 else if bad s = true then 5 else 0) := by
    intro b
    simp only [holtref14_Check.j0]
    cases b with
    | true => rfl
    | false =>
      simp only [Bool.false_eq_true, if_false]
      by_cases h32 : 32 < s.size
      · rw [if_pos (show (s.size : Int) > 32 by omega), if_pos h32]
      · rw [if_neg (show ¬ (s.size : Int) > 32 by omega), if_neg h32]
        exact ref_loop s hs s.size (s.size + 2) 0 (by omega) (by omega) (Lib.NoAny.zero _ _)
  unfold holtref14_Check.f
  by_cases h0 : s.toList = []
  · have hc : chk s = 5 := by unfold chk; rw [if_pos (.inl h0)]
    rw [if_pos h0, hj, hc]
    rfl
  · rw [if_neg h0, sp_ref, Option.bind_some, hj]
    by_cases hsp : spB s = true
    · have hc : chk s = 5 := by unfold chk; rw [if_pos (.inr hsp)]
      rw [if_pos hsp, hc]
    · have hc : chk s = if 32 < s.size then 9 else if bad s = true then 5 else 0 := by unfold chk; rw [if_neg (by simp [h0, hsp])]
      rw [if_neg hsp, hc]

theorem check_ref (s : ByteArray) (hs : s.size ≤ 281474976710656) (w : World) : Calls Try.prog 14 #[.string s] w fun e w' => e = .returned (.int .i64 (chk s)) ∧ Below w.heap.size w w' :=
  (holtref14_Check.calls _ s _ w (ref_check s hs)).mono fun _ _ ⟨h1, h2⟩ => ⟨h1, h2.below⟩

set_option maxHeartbeats 1000000 in
theorem awake_any (w : World) : Calls Try.prog 17 #[] w fun e w' => e = .returned (.bool true) ∧ Below w.heap.size w w' := by
  have c1 : ∀ w, Calls Try.prog 13 #[.string ⟨#[97]⟩] w fun e w' => e = .returned (.int .i64 0) ∧ Below w.heap.size w w' := by
    intro w
    have := check_name ⟨#[97]⟩ (by decide) w
    rw [show chk ⟨#[97]⟩ = 0 by decide +kernel] at this
    exact this
  have c2 : ∀ w, Calls Try.prog 13 #[.string ⟨#[46, 46]⟩] w fun e w' => e = .returned (.int .i64 5) ∧ Below w.heap.size w w' := by
    intro w
    have := check_name ⟨#[46, 46]⟩ (by decide) w
    rw [show chk ⟨#[46, 46]⟩ = 5 by decide +kernel] at this
    exact this
  have c3 : ∀ w, Calls Try.prog 15 #[.string ⟨#[46, 115, 110, 97, 112, 115, 104, 111, 116]⟩] w fun e w' => e = .returned (.bool true) ∧ Below w.heap.size w w' := by
    intro w
    have := special_name ⟨#[46, 115, 110, 97, 112, 115, 104, 111, 116]⟩ w
    rw [show spB ⟨#[46, 115, 110, 97, 112, 115, 104, 111, 116]⟩ = true by decide +kernel] at this
    exact this
  have c4 : ∀ w, Calls Try.prog 18 #[.int .i64 0] w fun e w' => e = .returned (.int .i64 0) ∧ Below w.heap.size w w' := by
    intro w
    exact (holtlaw0_Num.calls 0 0 w rfl).mono fun _ _ ⟨h1, h2⟩ => ⟨h1, h2.below⟩
  have C1 := Lib.hid c1; have C2 := Lib.hid c2; have C3 := Lib.hid c3; have C4 := Lib.hid c4
  clear c1 c2 c3 c4
  go_enter Try.func17, Try.ntmps17
  go_wp2_with fail
  refine (C1.out _).mono ?_
  rintro e w1 ⟨rfl, h1⟩
  go_wp2_with fail
  refine (C2.out _).mono ?_
  rintro e w2 ⟨rfl, h2⟩
  go_wp2_with fail
  refine (C3.out _).mono ?_
  rintro e w3 ⟨rfl, h3⟩
  go_wp2_with fail
  refine (C4.out _).mono ?_
  rintro e w4 ⟨rfl, h4⟩
  go_wp2_with fail
  go_ret
  exact ⟨rfl, ((h1.trans (h2.mono h1.size)).trans (h3.mono (Nat.le_trans h1.size h2.size))).trans (h4.mono (Nat.le_trans (Nat.le_trans h1.size h2.size) h3.size))⟩

end Go.Proofs.Ytfeebfdhcjjajaa.Nm
