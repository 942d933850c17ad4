/- strings.IndexRune, IndexAny, ContainsAny at the two bytes '/' and 0, walked: ContainsAny tells whether one of the two stands in s, for every text s shorter than 4294967281 bytes. -/
import Derived.Test.YtfeebfdhcjjajaaNmRune
import Derived.Laws.Runes
import Derived.Lib.Hide
import Derived.Outline
import Derived.WalkSpells
set_option linter.unusedVariables false
set_option linter.unusedSimpArgs false
namespace Go.Proofs.Ytfeebfdhcjjajaa.Nm
open Go.RowKit Go.Lib

theorem valid_lt (r : Int) (h : Utf8.valid r = true) : r ≤ 1114111 := by
  unfold Utf8.valid at h
  simp at h
  omega


set_option maxHeartbeats 4000000 in
set_option maxRecDepth 1000000 in
theorem rune_err (w : World) : Calls Try.prog 21 #[.string ⟨#[47, 0]⟩, .int .i32 65533] w fun e w' => e = .returned (.int .i64 (-1)) ∧ Below w.heap.size w w' := by
  have n0 := fun ty => run_next_at (w.iter ⟨#[47, 0]⟩ 0) w.heap.size ⟨#[47, 0]⟩ 0 ty (World.iter_heap _ _ _) (by decide) (r := 47) (n := 1) (by decide +kernel)
  have m0 : At (moved (w.iter ⟨#[47, 0]⟩ 0) w.heap.size ⟨#[47, 0]⟩ (0 + 1)) w.heap.size ⟨#[47, 0]⟩ 1 := At.moved (World.iter_heap _ _ _) 1
  have n1 := fun ty => run_next_at (moved (w.iter ⟨#[47, 0]⟩ 0) w.heap.size ⟨#[47, 0]⟩ (0 + 1)) w.heap.size ⟨#[47, 0]⟩ 1 ty m0 (by decide) (r := 0) (n := 1) (by decide +kernel)
  have m1 : At (moved (moved (w.iter ⟨#[47, 0]⟩ 0) w.heap.size ⟨#[47, 0]⟩ (0 + 1)) w.heap.size ⟨#[47, 0]⟩ (1 + 1)) w.heap.size ⟨#[47, 0]⟩ 2 := At.moved m0 2
  have n2 := fun ty => run_next_over (moved (moved (w.iter ⟨#[47, 0]⟩ 0) w.heap.size ⟨#[47, 0]⟩ (0 + 1)) w.heap.size ⟨#[47, 0]⟩ (1 + 1)) w.heap.size ⟨#[47, 0]⟩ 2 ty m1 (by decide)
  have hb : Below w.heap.size w (moved (moved (w.iter ⟨#[47, 0]⟩ 0) w.heap.size ⟨#[47, 0]⟩ (0 + 1)) w.heap.size ⟨#[47, 0]⟩ (1 + 1)) :=
    below_moved (below_moved ((Below.refl _ _).alloc (Nat.le_refl _) _) (Nat.le_refl _) _ _) (Nat.le_refl _) _ _
  clear m0 m1
  generalize hw2 : moved (moved (w.iter ⟨#[47, 0]⟩ 0) w.heap.size ⟨#[47, 0]⟩ (0 + 1)) w.heap.size ⟨#[47, 0]⟩ (1 + 1) = w2 at n1 n2 hb
  clear hw2
  generalize hw1 : moved (w.iter ⟨#[47, 0]⟩ 0) w.heap.size ⟨#[47, 0]⟩ (0 + 1) = w1 at n0 n1
  clear hw1
  have Hb := Lib.hid hb
  clear hb
  go_enter Try.func21, Try.ntmps21
  go_wp2
  refine wp_loop_rounds 3 ?_
  rw [rounds_succ]
  go_wp2
  rw [rounds_succ]
  go_wp2
  rw [rounds_succ]
  go_wp2
  go_ret
  exact ⟨rfl, Hb.out⟩

set_option maxHeartbeats 4000000 in
set_option maxRecDepth 1000000 in
theorem rune_high (r : Int) (h : 128 ≤ r) (hv : Utf8.valid r = true) (h3 : r ≠ 65533) (w : World) :
    Calls Try.prog 21 #[.string ⟨#[47, 0]⟩, .int .i32 r] w fun e w' => e = .returned (.int .i64 (-1)) ∧ Below w.heap.size w w' := by
  have hl := valid_lt r hv
  have hne : (r == 65533) = false := beq_eq_false_iff_ne.2 h3
  obtain ⟨b, c, tl, he, htl, hc⟩ := encode_high r h hv
  have hvr : Lib.validRune r = true := by rw [← hv]; exact (validRune_eq r).symm
  cases tl with
  | nil =>
    have c0 : (((((⟨#[47, 0]⟩ : ByteArray)[1]'(by decide)).toNat : Int)) != ((((⟨#[b, c]⟩ : ByteArray)[1]'(by show 1 < 2; omega)).toNat : Int))) = true := by
      rw [bne_iff_ne]
      show ((0 : Nat) : Int) ≠ (c.toNat : Int)
      omega
    go_enter Try.func21, Try.ntmps21
    go_wp2_with (go_at_call 26; refine (Try.utf8_ValidRune _ _).mono ?_; rintro e w' ⟨rfl, hw⟩; rw [hw])
    go_step3
    go_wp2
    refine wp_loop_rounds 1 ?_
    rw [rounds_succ]
    go_wp2
    go_step3
    go_wp2
    go_quiet (fail)
    go_wp2
    have ib : ∀ w, Calls Try.prog 25 #[.string ((⟨#[47, 0]⟩ : ByteArray).extract 2 2), .int .u8 c.toNat] w fun e w' => e = .returned (.int .i64 (-1)) ∧ w' = w := by
      intro w
      refine (Try.strings_IndexByte _ _ w).mono ?_
      rintro e w' ⟨rfl, hw⟩
      exact ⟨rfl, hw⟩
    have hb0 : ∀ n, Below w.heap.size w (w.drewN n) := fun n => ⟨rfl, rfl, rfl, Nat.le_refl _, fun _ _ => rfl⟩
    have hb1 := Lib.hid (hb0 nq)
    clear hb0
    generalize w.drewN nq = wz at hb1 ⊢
    go_quiet ((go_at_call 25; exact Calls.quiet_of_same (ib _)))
    go_wp2
    go_simp
    go_ret
    exact ⟨rfl, hb1.out.trans ⟨rfl, rfl, rfl, Nat.le_refl _, fun _ _ => rfl⟩⟩
  | cons d tl =>
    have hb2 : (tl.length : Int) ≤ 1 := by
      have : tl.length + 1 ≤ 2 := htl
      omega
    have hw2 : wrap64 ((tl.length : Int) + 1 + 1) = (tl.length : Int) + 2 := by unfold wrap64; omega
    have hw3 : ¬ ((tl.length : Int) + 2 < 2) := by omega
    clear htl
    go_enter Try.func21, Try.ntmps21
    go_wp2_with (go_at_call 26; refine (Try.utf8_ValidRune _ _).mono ?_; rintro e w' ⟨rfl, hw⟩; rw [hw])
    go_step3
    go_wp2
    refine wp_loop_rounds 1 ?_
    rw [rounds_succ]
    go_wp2
    try rw [Exit.noGoto_ret]
    go_ret
    exact ⟨rfl, Below.refl _ _⟩

/-- IndexRune at the two bytes, any rune of 128 and more that decoding gives. -/
theorem rune_any (r : Int) (h : 128 ≤ r) (hv : Utf8.valid r = true) (w : World) :
    Calls Try.prog 21 #[.string ⟨#[47, 0]⟩, .int .i32 r] w fun e w' => e = .returned (.int .i64 (-1)) ∧ Below w.heap.size w w' := by
  by_cases h3 : r = 65533
  · subst h3
    exact rune_err w
  · exact rune_high r h hv h3 w

/-- Where the iterator stands behind a round. -/
structure Place (w wx : World) (s : ByteArray) (i : Nat) : Prop where
  at_ : At wx w.heap.size s i
  below : Below w.heap.size w wx
  no : Lib.NoAny s.data.toList [47, 0] i

set_option maxHeartbeats 4000000 in
set_option maxRecDepth 1000000 in
theorem any_short (s : ByteArray) (h8 : s.size ≤ 8) (w : World) :
    Calls Try.prog 20 #[.string s, .string ⟨#[47, 0]⟩] w fun e w' => e = .returned (.int .i64 (Lib.indexAny s.data.toList [47, 0])) ∧ Below w.heap.size w w' := by
  have h8z : decide ((8 : Int) < (s.size : Int)) = false := decide_eq_false (by omega)
  have start : Place w (w.iter s 0) s 0 := ⟨At.start w s, (Below.refl _ _).alloc (Nat.le_refl _) _, Lib.NoAny.zero _ _⟩
  have Start := Lib.hid start
  clear start
  go_enter Try.func20, Try.ntmps20
  go_wp2_with (go_at_call 22; refine (Try.strings_shouldUseASCIISet _ _).mono ?_; rintro e w' ⟨rfl, hw⟩; rw [hw, h8z])
  go_loopg [9, 10] s.size (fun g _ _ wx => ∃ i : Nat, i + g = s.size ∧ Place w wx s i)
  case atStart => exact ⟨0, by omega, Start.out⟩
  case round =>
    obtain ⟨i, hig, hp⟩ := hrel
    have HP := Lib.hid hp
    clear Start
    by_cases hi : i < s.size
    · obtain ⟨x, hx⟩ : ∃ x : UInt8, s[i]'hi = x := ⟨_, rfl⟩
      by_cases hx128 : x.toNat < 128
      · have hxl : s.data.toList[i]? = some x := by rw [← hx]; exact Lib.data_getElem? s i hi
        have Hx := Lib.hid hxl
        have hdec : Utf8.decode s i = (x.toNat, 1) := by have := decode_ascii s i hi (by rw [hx]; exact hx128); rw [hx] at this; exact this
        have hnx := fun ty => run_next_at wr w.heap.size s i ty hp.at_ hi hdec
        have hp1 : At (moved wr w.heap.size s (i + 1)) w.heap.size s (i + 1) := hp.at_.moved _
        have hb1 : Below w.heap.size w (moved wr w.heap.size s (i + 1)) := below_moved hp.below (Nat.le_refl _) _ _
        have HP1 := Lib.hid hp1
        have HB1 := Lib.hid hb1
        clear hp1 hb1 hxl hx hp hdec
        generalize moved wr w.heap.size s (i + 1) = w1 at hnx HP1 HB1
        have hcon := Lib.contains_iff_indexByte [47, 0] x
        have hback : ((x.toNat : Int)).toNat.toUInt8 = x := by simp
        cases hin : ([47, 0] : List UInt8).contains x
        · rw [hin] at hcon
          have hlt : ¬ ((0 : Int) ≤ Lib.indexByte [47, 0] x) := of_decide_eq_false hcon.symm
          clear hcon
          have Hin := Lib.hid hin
          clear hin
          go_wp2_with (go_at_call 21; refine (Try.strings_IndexRune_ascii _ _ _ (by omega) (by omega)).mono ?_; rintro e w' ⟨rfl, hw⟩; rw [hw, hback])
          go_roundg (s.size - (i + 1))
          case measure => omega
          case rel => exact ⟨i + 1, by omega, ⟨HP1.out, HB1.out, HP.out.no.succ Hx.out Hin.out⟩⟩
        · rw [hin] at hcon
          have hge : (0 : Int) ≤ Lib.indexByte [47, 0] x := of_decide_eq_true hcon.symm
          clear hcon
          have Hin := Lib.hid hin
          clear hin
          go_wp2_with (go_at_call 21; refine (Try.strings_IndexRune_ascii _ _ _ (by omega) (by omega)).mono ?_; rintro e w' ⟨rfl, hw⟩; rw [hw, hback])
          go_ret
          exact ⟨by rw [Lib.indexAny_hit HP.out.no Hx.out Hin.out]; rfl, HB1.out⟩
      · obtain ⟨r, n, hdec, hr, hv, hn1, hn2, hbs⟩ := decode_high s i hi (by rw [hx]; omega)
        have hnx := fun ty => run_next_at wr w.heap.size s i ty hp.at_ hi hdec
        have hp1 : At (moved wr w.heap.size s (i + n)) w.heap.size s (i + n) := hp.at_.moved _
        have hb1 : Below w.heap.size w (moved wr w.heap.size s (i + n)) := below_moved hp.below (Nat.le_refl _) _ _
        have hno : Lib.NoAny s.data.toList [47, 0] (i + n) := by
          intro j b hj hjb
          by_cases hji : j < i
          · exact hp.no j b hji hjb
          · have := hbs j b (by omega) hj hjb
            have e1 : b ≠ 47 := by intro e; rw [e] at this; revert this; decide
            have e2 : b ≠ 0 := by intro e; rw [e] at this; revert this; decide
            simp [List.contains_cons, e1, e2]
        have HP1 := Lib.hid hp1
        have HB1 := Lib.hid hb1
        have HN := Lib.hid hno
        have HV := Lib.hid hv
        clear hp1 hb1 hx hp hdec hno hbs hv
        generalize moved wr w.heap.size s (i + n) = w1 at hnx HP1 HB1
        go_wp2_with (go_at_call 21; refine (rune_any _ (by omega) HV.out _).mono ?_; rintro e w' ⟨rfl, hw⟩)
        go_roundg (s.size - (i + n))
        case measure => omega
        case rel => exact ⟨i + n, by omega, ⟨HP1.out.below hw, HB1.out.trans (hw.mono HB1.out.size), HN.out⟩⟩
    · have hie : i = s.size := by omega
      have hnx := fun ty => run_next_over wr w.heap.size s i ty hp.at_ hi
      clear hp
      go_wp2
      go_ret
      exact ⟨by rw [Lib.indexAny_none (by rw [← Lib.size_eq, ← hie]; exact HP.out.no)]; rfl, HP.out.below⟩

end Go.Proofs.Ytfeebfdhcjjajaa.Nm
