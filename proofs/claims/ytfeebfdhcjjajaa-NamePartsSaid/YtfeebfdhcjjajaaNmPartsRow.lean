/- NameParts: for all texts s and t the law returns true, and both read as before: of s, a letter and t together, Check tells by Special, the length, and whether / or a byte 0 stands in s or t. No condition. -/
import Derived.Test.YtfeebfdhcjjajaaRows
import Derived.Test.YtfeebfdhcjjajaaNmCheck
import Derived.WalkKit
import Derived.ProofKit
import Derived.OpenShut
import Derived.ShutString
import Derived.ChangeOld
import Derived.Below
import Derived.SizedLaws
import Derived.Outline
set_option linter.unusedVariables false
set_option linter.unusedSimpArgs false
namespace Go.Proofs.Ytfeebfdhcjjajaa.nameParts
open Go.ChangeShapes Go.WideShapes Go.ChangeAt Go.RowKit
open Go.ChangeMaps (open_string shut_string)
open Go.Proofs.Ytfeebfdhcjjajaa.Nm

def bto (l : List UInt8) : Bool := l.any fun b => b == 47 || b == 0

theorem any_cons (b : UInt8) (l : List UInt8) : Lib.indexAny (b :: l) [47, 0] = if ([47, 0] : List UInt8).contains b then 0 else if Lib.indexAny l [47, 0] == -1 then -1 else Lib.indexAny l [47, 0] + 1 := rfl

theorem any_eq (l : List UInt8) : decide (0 ≤ Lib.indexAny l [47, 0]) = bto l := by
  induction l with
  | nil => rfl
  | cons b l ih =>
    unfold bto at ih ⊢
    rw [List.any_cons, ← ih, any_cons]
    have hg := Lib.indexAny_ge [47, 0] l
    by_cases hb : (b == 47 || b == 0) = true
    · rw [if_pos (by simpa [List.contains_cons] using hb), hb]
      rfl
    · rw [if_neg (by simpa [List.contains_cons] using hb)]
      have hb' : (b == 47 || b == 0) = false := by simpa using hb
      rw [hb', Bool.false_or]
      by_cases h1 : Lib.indexAny l [47, 0] = -1
      · rw [if_pos (by simp [h1]), h1]
      · rw [if_neg (by simpa using h1)]
        congr 1
        apply propext
        omega

theorem bad_bto (s : ByteArray) : bad s = bto s.data.toList := any_eq _

theorem bto_snoc (l : List UInt8) (i : Nat) (h : i < l.length) : bto (l.take (i + 1)) = (bto (l.take i) || (l[i] == 47 || l[i] == 0)) := by
  unfold bto
  rw [List.take_succ_eq_append_getElem h, List.any_append]
  simp

theorem data_append (a b : ByteArray) : (a ++ b).data.toList = a.data.toList ++ b.data.toList := by
  rw [ByteArray.data_append, Array.toList_append]

theorem bad_parts (s t : ByteArray) : bad (s ++ ⟨#[120]⟩ ++ t) = bto (s ++ t).data.toList := by
  rw [bad_bto, data_append, data_append, data_append]
  unfold bto
  simp [List.any_append]

structure Seen (s t : ByteArray) (i : Nat) (b : Bool) : Prop where
  out : bto ((s ++ t).data.toList.take i) = b

set_option maxHeartbeats 4000000 in
theorem walk (s t : ByteArray) (hs : s.size ≤ 140737488351232) (ht : t.size ≤ 140737488351232) (w : World) :
    Calls Try.prog 7 #[.string s, .string t] w fun e w' => e = .returned (.bool true) ∧ Below w.heap.size w w' := by
  have hst : (s ++ t).size = s.size + t.size := ByteArray.size_append
  have Hst := Lib.hid hst
  clear hst
  have hxz : (s ++ ⟨#[120]⟩ ++ t).size = s.size + 1 + t.size := by rw [ByteArray.size_append, ByteArray.size_append]; rfl
  have sum1 : (9223372036854775807 < s.size + t.size) = False := eq_false (by omega)
  have sum2 : (9223372036854775807 < s.size + 1) = False := eq_false (by omega)
  have sum3 : (9223372036854775807 < s.size + 1 + t.size) = False := eq_false (by omega)
  go_enter Try.func7, Try.ntmps7
  go_wp2_with fail
  refine (awake_any _).mono ?_
  rintro e w1 ⟨rfl, h1⟩
  have H1 := Lib.hid h1
  clear h1
  go_wp2_with fail
  go_loop [5, 6] (fun b i => ∃ (k : Nat) (c : Bool), k ≤ s.size + t.size ∧ i = .int .i64 k ∧ b = .bool c ∧ Seen s t k c) (fun _ i => (s.size + t.size) - (intOf i).toNat)
  case atStart => exact ⟨0, false, by omega, rfl, rfl, ⟨rfl⟩⟩
  case round =>
    obtain ⟨k, c, hk, rfl, rfl, hseen⟩ := hrel
    by_cases hlt : k < s.size + t.size
    · have hkz : (k : Int) < (s.size : Int) + (t.size : Int) := by omega
      have hks : k < (s ++ t).size := by rw [Hst.out]; exact hlt
      have hl : k < (s ++ t).data.toList.length := by rw [Array.length_toList]; exact hks
      have hsn := bto_snoc (s ++ t).data.toList k hl
      rw [hseen.out] at hsn
      have hbyte : (s ++ t).data.toList[k]'hl = (s ++ t)[k]'hks := rfl
      rw [hbyte] at hsn
      have Hsn := Lib.hid hsn
      clear hsn hbyte hseen
      have hm : ∀ c' : Bool, c' = (c || ((s ++ t)[k]'hks == 47 || (s ++ t)[k]'hks == 0)) → Seen s t (k + 1) c' := fun c' h => ⟨by rw [h]; exact Hsn.out⟩
      have eb : ∀ (x : UInt8) (m : Nat) (hm : m < 256), ((x.toNat : Int) == (m : Int)) = (x == UInt8.ofNat m) := by
        intro x m hm
        have := x.toNat_lt
        rw [Bool.eq_iff_iff, beq_iff_eq, beq_iff_eq]
        constructor
        · intro h
          apply UInt8.toNat_inj.1
          rw [UInt8.toNat_ofNat', Nat.mod_eq_of_lt (by omega)]
          omega
        · intro h
          rw [h, UInt8.toNat_ofNat', Nat.mod_eq_of_lt (by omega)]
      have e47 : (((s ++ t)[k]'hks).toNat : Int) = 47 ↔ (s ++ t)[k]'hks = 47 := by
        have := eb ((s ++ t)[k]'hks) 47 (by omega)
        rw [Bool.eq_iff_iff, beq_iff_eq, beq_iff_eq] at this
        exact this
      have Hm := Lib.hid hm
      have Eb := Lib.hid eb
      have E47 := Lib.hid e47
      clear hm eb e47
      go_wp2_with fail
      all_goals
        refine ⟨⟨k + 1, _, by omega, by go_num, rfl, Hm.out _ ?_⟩, by simp [intOf]; omega⟩
      · rename_i hc
        rw [hc]
        rfl
      · rename_i hc h47
        rw [E47.out.1 h47]
        simp
      · rename_i hc h47
        have hc' : c = false := by simpa using hc
        rw [hc', Bool.false_or]
        have z1 := Eb.out ((s ++ t)[k]'hks) 47 (by omega)
        have z2 := Eb.out ((s ++ t)[k]'hks) 0 (by omega)
        exact congr (congrArg _ z1) z2
    · have hke : k = s.size + t.size := by omega
      have hc : bad (s ++ ⟨#[120]⟩ ++ t) = c := by
        rw [bad_parts, ← hseen.out, List.take_of_length_le (by rw [Array.length_toList]; show (s ++ t).size ≤ k; rw [Hst.out]; omega)]
      have c1 := check_name (s ++ ⟨#[120]⟩ ++ t) (by rw [hxz]; omega)
      have c2 := special_name (s ++ ⟨#[120]⟩ ++ t)
      have hne : (s ++ ⟨#[120]⟩ ++ t).toList ≠ [] := by
        rw [Lib.toList_data]
        intro h
        have : (s ++ ⟨#[120]⟩ ++ t).size = 0 := by
          have := congrArg List.length h
          rw [Array.length_toList] at this
          exact this
        omega
      clear hseen
      obtain rfl : k = s.size + t.size := hke
      have fin : ∀ (u : World), Below w.heap.size w1 u → Below w.heap.size w u := fun u h => H1.out.trans h
      have Fin := Lib.hid fin
      have hsz := H1.out.size
      clear fin
      by_cases hsp : spB (s ++ ⟨#[120]⟩ ++ t) = true
      · have hchk : chk (s ++ ⟨#[120]⟩ ++ t) = 5 := by unfold chk; rw [if_pos (.inr hsp)]
        rw [hchk] at c1
        rw [hsp] at c2
        have C1 := Lib.hid c1; have C2 := Lib.hid c2
        clear c1 c2 hchk hc hsp hne
        go_wp2_with fail
        refine (C1.out _).mono ?_
        rintro e w2 ⟨rfl, h2⟩
        go_wp2_with fail
        refine (C2.out _).mono ?_
        rintro e w3 ⟨rfl, h3⟩
        go_wp2_with fail
        go_ret
        exact ⟨rfl, Fin.out _ ((h2.mono hsz).trans (h3.mono (Nat.le_trans hsz h2.size)))⟩
      · have hsp' : spB (s ++ ⟨#[120]⟩ ++ t) = false := by simpa using hsp
        rw [hsp'] at c2
        by_cases h32 : 32 < s.size + t.size + 1
        · have hchk : chk (s ++ ⟨#[120]⟩ ++ t) = 9 := by unfold chk; rw [if_neg (by simp [hne, hsp]), if_pos (by omega)]
          rw [hchk] at c1
          have C1 := Lib.hid c1; have C2 := Lib.hid c2
          have h32z : (32 : Int) < (s.size : Int) + (t.size : Int) + 1 := by omega
          clear c1 c2 hchk hc hsp hne hsp' h32
          go_wp2_with fail
          refine (C1.out _).mono ?_
          rintro e w2 ⟨rfl, h2⟩
          go_wp2_with fail
          refine (C2.out _).mono ?_
          rintro e w3 ⟨rfl, h3⟩
          go_wp2_with fail
          go_ret
          exact ⟨rfl, Fin.out _ ((h2.mono hsz).trans (h3.mono (Nat.le_trans hsz h2.size)))⟩
        · have hchk : chk (s ++ ⟨#[120]⟩ ++ t) = if c = true then 5 else 0 := by unfold chk; rw [if_neg (by simp [hne, hsp]), if_neg (by omega), hc]
          rw [hchk] at c1
          have h32z : (s.size : Int) + (t.size : Int) + 1 ≤ 32 := by omega
          clear hc hchk hsp hne hsp' h32
          cases c with
          | true =>
            rw [if_pos rfl] at c1
            have C1 := Lib.hid c1; have C2 := Lib.hid c2
            clear c1 c2
            go_wp2_with fail
            refine (C1.out _).mono ?_
            rintro e w2 ⟨rfl, h2⟩
            go_wp2_with fail
            refine (C2.out _).mono ?_
            rintro e w3 ⟨rfl, h3⟩
            go_wp2_with fail
            go_ret
            exact ⟨rfl, Fin.out _ ((h2.mono hsz).trans (h3.mono (Nat.le_trans hsz h2.size)))⟩
          | false =>
            rw [if_neg (by decide)] at c1
            have C1 := Lib.hid c1; have C2 := Lib.hid c2
            clear c1 c2
            go_wp2_with fail
            refine (C1.out _).mono ?_
            rintro e w2 ⟨rfl, h2⟩
            go_wp2_with fail
            refine (C2.out _).mono ?_
            rintro e w3 ⟨rfl, h3⟩
            go_wp2_with fail
            go_ret
            exact ⟨rfl, Fin.out _ ((h2.mono hsz).trans (h3.mono (Nat.le_trans hsz h2.size)))⟩

theorem own : ownKnob Try.prog.godebug = none := by kernel_rfl
set_option maxRecDepth 100000 in
theorem lifted (os : Os) (started : os.Started) (H : Type) (enc : TypeId × Value → H) :
    ReturnsInHanded {} Try.checked os 7 .any (Rows.namePartsSpec.pre6 enc Try.prog Try.f7 Rows.namePartsRow.domain false) (Rows.namePartsSpec.post enc Try.prog Try.f7 false true false false) := by
  refine returnsInHanded_of_change_sized (C := Try.checked) own started (by kernel_rfl) Try.func7
    (ChangeSpec.witness6 (enc := enc) (C := Try.checked) false ⟨#[], #[.string ByteArray.empty, .string ByteArray.empty], []⟩ 8 (by kernel_rfl) (by kernel_rfl) (by kernel_rfl) (by kernel_rfl)) ?_
  intro W base args ds gs before hval0 hW hcnd hsz0 _
  have hsz : (DataW.weightsEach Try.prog (Try.f7.params.toList ++ Rows.namePartsSpec.plain.varTypes Try.prog) (ds ++ gs)).all (· ≤ reachBytes) = true := hsz0
  have hval : ∀ (j : Nat) t v, Try.f7.params[j]? = some t → args[j]? = some v → Value.okWide Try.prog W .any base t v := hval0
  have hW' := hW
  obtain ⟨p, q, hA0, hV, rfl, hfz, hnd⟩ := hW
  have hA : DataW.TrodAll enc Try.prog W 0 (fun _ => true) true Try.f7.params.toList args.toList ds p := hA0
  rw [Try.params7] at hA hval hsz
  obtain ⟨v0, vs0, d0, ds0, p0, q0, hargs, rfl, rfl, h0, r0⟩ := trodAll_cons hA
  obtain ⟨v1, vs1, d1, ds1, p1, q1, rfl, rfl, rfl, h1, r1⟩ := trodAll_cons r0
  obtain ⟨rfl, rfl, rfl⟩ := trodAll_nil r1
  obtain rfl : args = #[v0, v1] := by cases args; simp_all
  obtain ⟨rfl, rfl⟩ := trodVars_none hV
  obtain ⟨a0, rfl, rfl, rfl, y0⟩ := open_string Try.underlying9 (hval 0 9 v0 rfl rfl) h0
  have w0 : a0.size ≤ 140737488351232 := by
    have z := sized_string hsz (j := 0) (t := 9) rfl rfl
    rw [Array.length_toList] at z
    exact z
  obtain ⟨a1, rfl, rfl, rfl, y1⟩ := open_string Try.underlying9 (hval 1 9 v1 rfl rfl) h1
  have w1 : a1.size ≤ 140737488351232 := by
    have z := sized_string hsz (j := 1) (t := 9) rfl rfl
    rw [Array.length_toList] at z
    exact z
  clear hA0 hval0 hsz0 hsz
  refine (walk a0 a1 w0 w1 W).mono fun e W' ⟨he, bel⟩ => ?_
  subst he
  exact ⟨_, rfl, _, _, _, [], _, [], hW', trodAll_mk1 (shut_bool Try.underlying4 _), (trodAll_cons_mk (shut_string Try.underlying9 y0) (trodAll_cons_mk (shut_string Try.underlying9 y1) trodAll_mk0)), rfl, bel.frame _, fun h => by cases h⟩
theorem over : Rows.namePartsRow.holds Try.pinned (OpenSpec.ofChange Rows.namePartsSpec) :=
  OpenClaim.holds_of_wide 7 Try.f7 rfl rfl rfl rfl rfl rfl rfl ⟨rfl, rfl, rfl, rfl, rfl⟩ rfl rfl rfl rfl rfl (by kernel_rfl) Try.func7 (by kernel_rfl)
    (of_decide_eq_true (by kernel_rfl)) (by unfold Func.isWrapper; first | (rw [if_pos (by decide +kernel)]; kernel_rfl) | (rw [if_neg (by decide +kernel)]; exact ⟨rfl, rfl⟩))
    (fun os started H enc _ => lifted os started H enc)
end Go.Proofs.Ytfeebfdhcjjajaa.nameParts
namespace Go.Proofs.Ytfeebfdhcjjajaa
theorem nameParts_holds : Rows.NamePartsSaid := nameParts.over
#print axioms nameParts_holds
end Go.Proofs.Ytfeebfdhcjjajaa
