/- Words, contracts and plain laws for the claim's last text: Ptextx1, Pyesx0, Pyesx1, RefL, RefLong, RefM, RefN. -/
import Derived.Test.YtibcadfpengacaaMn4
import Derived.Test.YtibcadfpengacaaProg
import Derived.Below
import Derived.Deep.Draws
import Derived.Deep.AppendLies
import Derived.Maps.AppendAt
import Derived.OwnWalk
import Derived.Laws.BytesArg
import Derived.Laws.MakeOwn
import Derived.Laws.OwnMore
import Derived.Deep.OwnRows
import Derived.Tactics
import Derived.Lib.ConvBytes
import Derived.Laws.Slices
import Derived.WalkKit
import Derived.KernelRfl
import Derived.RowKit3
import Derived.Deep.LoopGhost
import Derived.Deep.QuietTactic
import Derived.BigQuiet
import Derived.WideLaws
import Derived.Deep.DeepCutAuto
import Derived.Deep.CutBlock
import Derived.Deep.RegionHeld3
import Derived.Laws.Rows
import Derived.Lib.AppendStr
import Derived.ArgAppend
import Derived.Laws.IdiomCopy
import Derived.OrdersHeld
import Derived.Laws.BitsLemmas
import Derived.RowKit
import Derived.Test.YtibcadfpengacaaMn0
-- Ptextx1
namespace Go.Proofs.Ytibcadfpengacaa.Ptext
open Go.RowKit Go.Proofs.YtibcadfpengacaaW.PrintWords Go.Proofs.YtibcadfpengacaaW.PrintLast Go.Proofs.YtibcadfpengacaaW.PrintMore
attribute [local go_sem] max2_int min2_int max_two min_two max_three min_three max_four min_four   -- for this text's walks alone
set_option linter.unusedVariables false
set_option linter.unusedSimpArgs false

/-! ### holtref1_Le: function 66 -/
mutual
def holtref1_Le.j0 : Nat → Int → Int → Bool → Option (ByteArray × Int)
  | 0, _, _, _ => none
  | k + 1, x0, x1, x13 => if x13 = true then (some ((⟨#[]⟩ : ByteArray), 100)) else (holtref1_Le.l0 k x0 x1 ([] : List Int) 0)
def holtref1_Le.l0 : Nat → Int → Int → List Int → Int → Option (ByteArray × Int)
  | 0, _, _, _, _ => none
  | k + 1, x0, x1, x6, x7 => if x7 < x1 then (if x6.length < 140737488355328 then (holtref1_Le.l0 k (IntKind.u64.wrap (Int.tdiv x0 256)) x1 (x6 ++ [(Int.tmod x0 256) % 256]) (wrap64 (x7 + 1))) else (none)) else (if x0 = 0 then (some (strOfNums x6, 0)) else (some ((⟨#[]⟩ : ByteArray), 100)))
end
def holtref1_Le.f (k : Nat) (a0 : Int) (a1 : Int) : Option (ByteArray × Int) := if a1 < 1 then (holtref1_Le.j0 k a0 a1 true) else (holtref1_Le.j0 k a0 a1 (decide (a1 > 8)))
theorem holtref1_Le.mono_l : ∀ k, (∀ y0 y1 y2, LeO (holtref1_Le.j0 k y0 y1 y2) (holtref1_Le.j0 (k + 1) y0 y1 y2)) ∧ (∀ y0 y1 y2 y3, LeO (holtref1_Le.l0 k y0 y1 y2 y3) (holtref1_Le.l0 (k + 1) y0 y1 y2 y3))
  | 0 => ⟨fun _ _ _ r h => by simp [holtref1_Le.j0] at h, fun _ _ _ _ r h => by simp [holtref1_Le.l0] at h⟩
  | k + 1 => by
    obtain ⟨ih0, ih1⟩ := holtref1_Le.mono_l k
    refine ⟨?_, ?_⟩
    · intro y0 y1 y2
      unfold holtref1_Le.j0
      repeat' first
      | (with_reducible exact ih0 _ _ _)
      | (with_reducible exact ih1 _ _ _ _)
      | (with_reducible exact LeO.refl _)
      | (with_reducible exact LeO.none _)
      | (with_reducible refine LeO.ite ?_ ?_)
      | (with_reducible refine LeO.bind ?_ (fun _ => ?_))
      | exact ih0 _ _ _
      | exact ih1 _ _ _ _
      | exact LeO.none _
      | refine LeO.ite ?_ ?_
      | refine LeO.bind ?_ (fun _ => ?_)
    · intro y0 y1 y2 y3
      unfold holtref1_Le.l0
      repeat' first
      | (with_reducible exact ih0 _ _ _)
      | (with_reducible exact ih1 _ _ _ _)
      | (with_reducible exact LeO.refl _)
      | (with_reducible exact LeO.none _)
      | (with_reducible refine LeO.ite ?_ ?_)
      | (with_reducible refine LeO.bind ?_ (fun _ => ?_))
      | exact ih0 _ _ _
      | exact ih1 _ _ _ _
      | exact LeO.none _
      | refine LeO.ite ?_ ?_
      | refine LeO.bind ?_ (fun _ => ?_)
theorem holtref1_Le.mono : ∀ a0 a1 k, LeO (holtref1_Le.f k a0 a1) (holtref1_Le.f (k + 1) a0 a1) := by
  intro a0 a1 k
  obtain ⟨ih0, ih1⟩ := holtref1_Le.mono_l k
  unfold holtref1_Le.f
  repeat' first
      | (with_reducible exact ih0 _ _ _)
      | (with_reducible exact ih1 _ _ _ _)
      | (with_reducible exact LeO.refl _)
      | (with_reducible exact LeO.none _)
      | (with_reducible refine LeO.ite ?_ ?_)
      | (with_reducible refine LeO.bind ?_ (fun _ => ?_))
      | exact ih0 _ _ _
      | exact ih1 _ _ _ _
      | exact LeO.none _
      | refine LeO.ite ?_ ?_
      | refine LeO.bind ?_ (fun _ => ?_)
set_option maxHeartbeats 8000000 in
set_option maxRecDepth 100000 in
theorem holtref1_Le.calls (k : Nat) (a0 : Int) (a1 : Int) (r1 : ByteArray) (r2 : Int) (w : World) (h : holtref1_Le.f k a0 a1 = some (r1, r2)) :
    Calls Try.prog 66 #[.int .u64 a0, .int .i64 a1] w fun e w' => e = .returned (.tuple #[.string r1, .int .i64 r2]) ∧ Below w.heap.size w w' := by
  have HB := Aside0.mk (Below.refl w.heap.size w)
  have H : (if a1 < 1 then (holtref1_Le.j0 k a0 a1 true) else (holtref1_Le.j0 k a0 a1 (decide (a1 > 8)))) = some (r1, r2) := h
  clear h
  have HC3 := Aside0.mk H
  clear H
  go_enter Try.func66, Try.ntmps66
  go_upto_region 1 with (fail)
  go_cut [13] (fun v13 wc => ∃ (kq : Nat) (x13_2 : Bool), v13 = .bool x13_2 ∧ Aside0 (holtref1_Le.j0 kq a0 a1 x13_2 = some (r1, r2)) ∧ Aside0 (kq ≤ k) ∧ Aside0 (Below w.heap.size w wc))
  case first =>
    have H := HC3.out
    clear HC3
    by_cases c4 : a1 < 1
    · rw [if_pos c4] at H
      have c4b0 : decide (a1 < 1) = true := decide_eq_true c4
      clear c4
      (first | rw [c4b0] | (simp only [i64_w, i32_w]; rw [c4b0]) | skip)
      have H' := Aside0.mk H
      clear H
      go_wp2
      go_meet
      case rel => exact ⟨_, (true), (by first | rfl | (simp; done) | (simp [*]; done)), H', ⟨by first | omega | exact Nat.le_refl _⟩, ⟨by repeat (first | (with_reducible first | exact HB.out | apply below_alloc | apply pw_below_drewN | apply below_drew1) | exact HB.out)⟩⟩
    · rw [if_neg c4] at H
      have c4b0 : decide (a1 < 1) = false := decide_eq_false c4
      clear c4
      (first | rw [c4b0] | (simp only [i64_w, i32_w]; rw [c4b0]) | skip)
      have H' := Aside0.mk H
      clear H
      go_wp2
      go_meet
      case rel => exact ⟨_, (decide (a1 > 8)), (by first | rfl | (simp; done) | (simp [*]; done)), H', ⟨by first | omega | exact Nat.le_refl _⟩, ⟨by repeat (first | (with_reducible first | exact HB.out | apply below_alloc | apply pw_below_drewN | apply below_drew1) | exact HB.out)⟩⟩
  case rest =>
    clear HC3
    try clear p2
    try clear c4
    try clear c4b0
    obtain ⟨kq, x13_2, rfl, HA, HJ2, HB⟩ := hcut
    cases kq with
    | zero => exact absurd HA.out (by simp [holtref1_Le.j0])
    | succ kj2 =>
      have H := HA.out
      clear HA
      simp only [holtref1_Le.j0] at H
      by_cases c5 : x13_2 = true
      · subst c5
        have H1 : (some ((⟨#[]⟩ : ByteArray), 100)) = some (r1, r2) := by rw [if_pos rfl] at H; exact H
        clear H
        have H := H1
        clear H1
        simp only [Option.some.injEq, Prod.mk.injEq] at H
        obtain ⟨rfl, rfl⟩ := H
        go_wp2
        go_ret2
        exact ⟨by first | rfl | (simp [errW_none, errW_some] <;> rfl) | (simp [*, errW_none, errW_some] <;> rfl), by repeat (first | (with_reducible first | exact HB.out | apply below_alloc | apply pw_below_drewN | apply below_drew1) | exact HB.out)⟩
      · replace c5 := Bool.eq_false_iff.mpr c5
        subst c5
        have H1 : (holtref1_Le.l0 kj2 a0 a1 ([] : List Int) 0) = some (r1, r2) := by rw [if_neg (show ¬ (false = true) by decide)] at H; exact H
        clear H
        have H := H1
        clear H1
        have H' := Aside0.mk H
        clear H
        go_wp2
        go_loopg [0, 6, 7] kj2 (fun kq v0 v6 v7 w' => ∃ (x0_2 : Int) (x6_2 : List Int) (x7_2 : Int), v0 = .int .u64 x0_2 ∧ v7 = .int .i64 x7_2 ∧ Aside0 (holtref1_Le.l0 kq x0_2 a1 x6_2 x7_2 = some (r1, r2)) ∧ Aside0 (kq ≤ kj2) ∧ Aside0 (Kd.R (Kd.int .u8) 5 w' w.heap.size (fun _ => True) v6 x6_2) ∧ Aside0 (Below w.heap.size w w'))
        case atStart => exact ⟨(a0), (([] : List Int)), (0), (by first | rfl | (simp; done) | (simp [*]; done)), (by first | rfl | (simp; done) | (simp [*]; done)), H', ⟨Nat.le_refl _⟩, ⟨by first | exact Kd.R_nil _ _ _ _ _ | exact Kd.N_nil _ _ _ _ _ | exact Kd.V_nil _ _ _ _ _ | exact Kd.Q_nil _ _ _ _ _ | exact Kd.S_nil _ _ _ _ _⟩, ⟨by repeat (first | (with_reducible first | exact HB.out | apply below_alloc | apply pw_below_drewN | apply below_drew1) | exact HB.out)⟩⟩
        case round =>
          clear H'
          try clear p2
          try clear c4
          try clear c4b0
          try clear c5
          try clear p2
          obtain ⟨x0_2, x6_2, x7_2, rfl, rfl, HA, HK2, HO_6, HB⟩ := hrel
          cases gk with
          | zero => exact absurd HA.out (by simp [holtref1_Le.l0])
          | succ k2 =>
            have H := HA.out
            clear HA
            simp only [holtref1_Le.l0] at H
            by_cases c6 : x7_2 < a1
            · rw [if_pos c6] at H
              have c6b0 : decide (x7_2 < a1) = true := decide_eq_true c6
              clear c6
              by_cases c7 : x6_2.length < 140737488355328
              · rw [if_pos c7] at H
                have LMc7 := Aside0.mk c7
                clear c7
                obtain ⟨y101, hy101⟩ : ∃ y_ : List Int, y_ = (x6_2 ++ [(Int.tmod x0_2 256) % 256]) := ⟨_, rfl⟩
                replace H : (holtref1_Le.l0 k2 (IntKind.u64.wrap (Int.tdiv x0_2 256)) a1 y101 (wrap64 (x7_2 + 1))) = some (r1, r2) := by first | (rw [hy101]; with_reducible exact H) | (have H2_ := (Option.bind_some _ _).symm.trans H; rw [hy101]; with_reducible exact H2_) | (have H2_ := (Option.bind_some _ _).symm.trans H; with_reducible exact H2_) | with_reducible exact H | (rw [hy101]; exact H) | exact H
                have Ny101 := Aside0.mk hy101
                clear hy101
                have H' := Aside0.mk H
                clear H
                go_wp2_with (first | ((with_reducible refine gate_builtin (b := .append) (xs := #[.tmp 19, .tmp 23]) rfl ?_); at_builtin; refine Kd.R_append (Kd.int .u8) (w0 := w) w.heap.size rfl (.tmp 19) (.tmp 23) 79 5 (.int .u8 0) 1 rfl Try.underlying79 info5 rfl (by decide) (by omega) u6 x6_2 ((Int.tmod x0_2 256) % 256) [.int .u8 ((Int.tmod x0_2 256) % 256)] (fun _ => True) (fun _ => False) rfl rfl ?aP (fun _ hk => hk.elim) ?aF ?aO ?aB ?aS ?aL ?_; (case aP => exact rfl); (case aB => exact (by repeat (first | (with_reducible first | exact HB.out | apply below_alloc | apply pw_below_drewN | apply below_drew1) | exact HB.out))); (case aF => exact (fun _ _ => trivial)); (case aO => exact (by (with_reducible repeat (first | apply Kd.R_alloc | apply Kd.R_drewN | apply Kd.R_drew)); exact HO_6.out)); (case aS => exact (below_size (by repeat (first | (with_reducible first | exact HB.out | apply below_alloc | apply pw_below_drewN | apply below_drew1) | exact HB.out)))); (case aL => have := LMc7.out; omega); intro v102 w8 ho hb hg hat; rw [← Ny101.out] at ho; have n0_ := Aside0.mk (hb); have n1_ := Aside0.mk (ho); clear HB; clear HO_6; have HB := n0_; have HO103 := n1_; clear n0_ n1_; clear ho hb hg hat))
                go_roundg k2
                case measure => have := HJ2.out; have := HK2.out; omega
                case rel => exact ⟨(IntKind.u64.wrap (Int.tdiv x0_2 256)), (y101), (wrap64 (x7_2 + 1)), (by first | rfl | (simp; done) | (simp [*]; done)), (by first | rfl | (simp; done) | (simp [*]; done)), H', ⟨by have := HJ2.out; have := HK2.out; omega⟩, ⟨by (with_reducible repeat (first | apply Kd.R_alloc | apply Kd.R_drewN | apply Kd.R_drew)); exact HO103.out⟩, ⟨by repeat (first | (with_reducible first | exact HB.out | apply below_alloc | apply pw_below_drewN | apply below_drew1) | exact HB.out)⟩⟩
              · rw [if_neg c7] at H
                exact absurd H (by simp)
            · rw [if_neg c6] at H
              have c6b0 : decide (x7_2 < a1) = false := decide_eq_false c6
              clear c6
              by_cases c9 : x0_2 = 0
              · rw [if_pos c9] at H
                have c9b0 : (x0_2 == 0) = true := beq_iff_eq.mpr c9
                have c9b1 : (x0_2 != 0) = false := bne_eq_false_iff_eq.mpr c9
                clear c9
                simp only [Option.some.injEq, Prod.mk.injEq] at H
                obtain ⟨rfl, rfl⟩ := H
                have hcv10 := own_string (P := Try.prog) Try.underlying79 Try.underlying5 Try.underlying9 (Kd.own_of_R HO_6.out)
                go_wp2
                go_ret2
                exact ⟨by first | rfl | (simp [errW_none, errW_some] <;> rfl) | (simp [*, errW_none, errW_some] <;> rfl), by repeat (first | (with_reducible first | exact HB.out | apply below_alloc | apply pw_below_drewN | apply below_drew1) | exact HB.out)⟩
              · rw [if_neg c9] at H
                have c9b0 : (x0_2 == 0) = false := beq_eq_false_iff_ne.mpr c9
                have c9b1 : (x0_2 != 0) = true := bne_iff_ne.mpr c9
                simp only [Option.some.injEq, Prod.mk.injEq] at H
                obtain ⟨rfl, rfl⟩ := H
                go_wp2
                go_ret2
                exact ⟨by first | rfl | (simp [errW_none, errW_some] <;> rfl) | (simp [*, errW_none, errW_some] <;> rfl), by repeat (first | (with_reducible first | exact HB.out | apply below_alloc | apply pw_below_drewN | apply below_drew1) | exact HB.out)⟩

/-! ### holtref1_L4: function 56 -/
def holtref1_L4.f (k : Nat) (a0 : Int) : Option (ByteArray) := (holtref1_Le.f k (IntKind.u64.wrap (a0)) 4).bind fun bt104 => (some bt104.1)
theorem holtref1_L4.mono : ∀ a0 k, LeO (holtref1_L4.f k a0) (holtref1_L4.f (k + 1) a0) := by
  intro a0 k
  unfold holtref1_L4.f
  repeat' first
      | (with_reducible exact holtref1_Le.mono _ _ _)
      | (with_reducible exact LeO.refl _)
      | (with_reducible exact LeO.none _)
      | (with_reducible refine LeO.ite ?_ ?_)
      | (with_reducible refine LeO.bind ?_ (fun _ => ?_))
      | exact holtref1_Le.mono _ _ _
      | exact LeO.none _
      | refine LeO.ite ?_ ?_
      | refine LeO.bind ?_ (fun _ => ?_)
set_option maxHeartbeats 8000000 in
set_option maxRecDepth 100000 in
theorem holtref1_L4.calls (k : Nat) (a0 : Int) (r : ByteArray) (w : World) (h : holtref1_L4.f k a0 = some r) :
    Calls Try.prog 56 #[.int .u32 a0] w fun e w' => e = .returned (.string r) ∧ Below w.heap.size w w' := by
  have HB := Aside0.mk (Below.refl w.heap.size w)
  have H : ((holtref1_Le.f k (IntKind.u64.wrap (a0)) 4).bind fun bt104 => (some bt104.1)) = some r := h
  clear h
  replace H := Option.bind_eq_some_iff.mp H
  obtain ⟨⟨t104, t105⟩, A20, H⟩ := H
  replace H : (some t104) = some r := H
  have A2 := Aside0.mk A20
  clear A20
  obtain rfl := Option.some.inj H
  go_enter Try.func56, Try.ntmps56
  go_wp2_with (first | ((with_reducible refine gate_callee (f := 66) rfl ?_); refine goesL_ (some 8) rfl rfl Try.func66 (by kernel_rfl) rfl #[.int .u64 (IntKind.u64.wrap (a0)), .int .i64 4] rfl (by (try simp only [List.map_toArray, List.map_cons, List.map_nil]); first | done | rfl | (simp only [List.length_drop, List.length_take]; rfl)) ?_; (with_reducible refine (holtref1_Le.calls k (IntKind.u64.wrap (a0)) 4 t104 t105 _ A2.out).mono ?_); rintro e w3 ⟨rfl, hb⟩; refine ⟨_, rfl, ?_⟩; have n0_ := Aside0.mk (below_step (by repeat (first | (with_reducible first | exact HB.out | apply below_alloc | apply pw_below_drewN | apply below_drew1) | exact HB.out)) hb); clear HB; have HB := n0_; clear n0_; (try clear hb); (try clear hb2); (try clear hk); (try clear hi)))
  go_ret
  exact ⟨by first | rfl | (simp [errW_none, errW_some] <;> rfl) | (simp [*, errW_none, errW_some] <;> rfl), by repeat (first | (with_reducible first | exact HB.out | apply below_alloc | apply pw_below_drewN | apply below_drew1) | exact HB.out)⟩

/-! ### holtref22_text: function 59 -/
def holtref22_text.l0 : Nat → ByteArray → Option (ByteArray)
  | 0, _ => none
  | k + 1, x3 => if ((x3.size : Int) % 4) = 0 then (some x3) else (if x3.size + 1 ≤ 9223372036854775807 then (holtref22_text.l0 k (x3 ++ (⟨#[0]⟩ : ByteArray))) else (none))
def holtref22_text.f (k : Nat) (a0 : ByteArray) : Option (ByteArray) := (holtref1_L4.f k (((a0.size : Int)) % 4294967296)).bind fun t106 => (if t106.size + a0.size ≤ 9223372036854775807 then (holtref22_text.l0 k (t106 ++ a0)) else (none))
theorem holtref22_text.mono_l : ∀ k, (∀ y0, LeO (holtref22_text.l0 k y0) (holtref22_text.l0 (k + 1) y0))
  | 0 => fun _ r h => by simp [holtref22_text.l0] at h
  | k + 1 => by
    have ih0 := holtref22_text.mono_l k
    · intro y0
      unfold holtref22_text.l0
      repeat' first
      | (with_reducible exact ih0 _)
      | (with_reducible exact holtref1_L4.mono _ _)
      | (with_reducible exact LeO.refl _)
      | (with_reducible exact LeO.none _)
      | (with_reducible refine LeO.ite ?_ ?_)
      | (with_reducible refine LeO.bind ?_ (fun _ => ?_))
      | exact ih0 _
      | exact holtref1_L4.mono _ _
      | exact LeO.none _
      | refine LeO.ite ?_ ?_
      | refine LeO.bind ?_ (fun _ => ?_)
theorem holtref22_text.mono : ∀ a0 k, LeO (holtref22_text.f k a0) (holtref22_text.f (k + 1) a0) := by
  intro a0 k
  have ih0 := holtref22_text.mono_l k
  unfold holtref22_text.f
  repeat' first
      | (with_reducible exact ih0 _)
      | (with_reducible exact holtref1_L4.mono _ _)
      | (with_reducible exact LeO.refl _)
      | (with_reducible exact LeO.none _)
      | (with_reducible refine LeO.ite ?_ ?_)
      | (with_reducible refine LeO.bind ?_ (fun _ => ?_))
      | exact ih0 _
      | exact holtref1_L4.mono _ _
      | exact LeO.none _
      | refine LeO.ite ?_ ?_
      | refine LeO.bind ?_ (fun _ => ?_)
set_option maxHeartbeats 8000000 in
set_option maxRecDepth 100000 in
theorem holtref22_text.calls (k : Nat) (a0 : ByteArray) (r : ByteArray) (w : World) (h : holtref22_text.f k a0 = some r) :
    Calls Try.prog 59 #[.string a0] w fun e w' => e = .returned (.string r) ∧ Below w.heap.size w w' := by
  have HB := Aside0.mk (Below.refl w.heap.size w)
  have H : ((holtref1_L4.f k (((a0.size : Int)) % 4294967296)).bind fun t106 => (if t106.size + a0.size ≤ 9223372036854775807 then (holtref22_text.l0 k (t106 ++ a0)) else (none))) = some r := h
  clear h
  replace H := Option.bind_eq_some_iff.mp H
  obtain ⟨t106, A20, H⟩ := H
  replace H : (if t106.size + a0.size ≤ 9223372036854775807 then (holtref22_text.l0 k (t106 ++ a0)) else (none)) = some r := H
  have A2 := Aside0.mk A20
  clear A20
  by_cases c3 : t106.size + a0.size ≤ 9223372036854775807
  · rw [if_pos c3] at H
    have c3b0 := eq_true c3
    have c3b1 : decide (t106.size + a0.size ≤ 9223372036854775807) = true := decide_eq_true c3
    try have c3b2 : (9223372036854775807 < t106.size + a0.size) = False := eq_false (Nat.not_lt.2 c3)
    have H' := Aside0.mk H
    clear H
    go_enter Try.func59, Try.ntmps59
    go_wp2_with (first | ((with_reducible refine gate_callee (f := 56) rfl ?_); refine goesL_ (some 7) rfl rfl Try.func56 (by kernel_rfl) rfl #[.int .u32 (((a0.size : Int)) % 4294967296)] rfl (by (try simp only [List.map_toArray, List.map_cons, List.map_nil]); first | done | rfl | (simp only [List.length_drop, List.length_take]; rfl)) ?_; (with_reducible refine (holtref1_L4.calls k (((a0.size : Int)) % 4294967296) t106 _ A2.out).mono ?_); rintro e w4 ⟨rfl, hb⟩; refine ⟨_, rfl, ?_⟩; have n0_ := Aside0.mk (below_step (by repeat (first | (with_reducible first | exact HB.out | apply below_alloc | apply pw_below_drewN | apply below_drew1) | exact HB.out)) hb); clear HB; have HB := n0_; clear n0_; (try clear hb); (try clear hb2); (try clear hk); (try clear hi)))
    go_loopg [3] k (fun kq v3 w' => ∃ (x3_1 : ByteArray), v3 = .string x3_1 ∧ Aside0 (holtref22_text.l0 kq x3_1 = some r) ∧ Aside0 (kq ≤ k) ∧ Aside0 (Below w.heap.size w w'))
    case atStart => exact ⟨(t106 ++ a0), (by first | rfl | (simp; done) | (simp [*]; done)), H', ⟨Nat.le_refl _⟩, ⟨by repeat (first | (with_reducible first | exact HB.out | apply below_alloc | apply pw_below_drewN | apply below_drew1) | exact HB.out)⟩⟩
    case round =>
      clear H'
      try clear p2
      try clear c3
      try clear c3b0
      try clear c3b1
      try clear c3b2
      obtain ⟨x3_1, rfl, HA, HK1, HB⟩ := hrel
      cases gk with
      | zero => exact absurd HA.out (by simp [holtref22_text.l0])
      | succ k1 =>
        have H := HA.out
        clear HA
        simp only [holtref22_text.l0] at H
        by_cases c5 : ((x3_1.size : Int) % 4) = 0
        · rw [if_pos c5] at H
          have c5b0 : (((x3_1.size : Int) % 4) == 0) = true := beq_iff_eq.mpr c5
          have c5b1 : (((x3_1.size : Int) % 4) != 0) = false := bne_eq_false_iff_eq.mpr c5
          clear c5
          obtain rfl := Option.some.inj H
          go_wp2
          go_ret
          exact ⟨by first | rfl | (simp [errW_none, errW_some] <;> rfl) | (simp [*, errW_none, errW_some] <;> rfl), by repeat (first | (with_reducible first | exact HB.out | apply below_alloc | apply pw_below_drewN | apply below_drew1) | exact HB.out)⟩
        · rw [if_neg c5] at H
          have c5b0 : (((x3_1.size : Int) % 4) == 0) = false := beq_eq_false_iff_ne.mpr c5
          have c5b1 : (((x3_1.size : Int) % 4) != 0) = true := bne_iff_ne.mpr c5
          by_cases c6 : x3_1.size + 1 ≤ 9223372036854775807
          · rw [if_pos c6] at H
            have c6b0 := eq_true c6
            have c6b1 : decide (x3_1.size + 1 ≤ 9223372036854775807) = true := decide_eq_true c6
            try have c6b2 : (9223372036854775807 < x3_1.size + 1) = False := eq_false (Nat.not_lt.2 c6)
            have H' := Aside0.mk H
            clear H
            go_wp2
            go_roundg k1
            case measure => have := HK1.out; omega
            case rel => exact ⟨(x3_1 ++ (⟨#[0]⟩ : ByteArray)), (by first | rfl | (simp; done) | (simp [*]; done)), H', ⟨by have := HK1.out; omega⟩, ⟨by repeat (first | (with_reducible first | exact HB.out | apply below_alloc | apply pw_below_drewN | apply below_drew1) | exact HB.out)⟩⟩
          · rw [if_neg c6] at H
            exact absurd H (by simp)
  · rw [if_neg c3] at H
    exact absurd H (by simp)

end Go.Proofs.Ytibcadfpengacaa.Ptext

-- Pyesx0
namespace Go.Proofs.Ytibcadfpengacaa.Pyes
open Go.RowKit Go.Proofs.YtibcadfpengacaaW.PrintWords Go.Proofs.YtibcadfpengacaaW.PrintLast Go.Proofs.YtibcadfpengacaaW.PrintMore
attribute [local go_sem] max2_int min2_int max_two min_two max_three min_three max_four min_four   -- for this text's walks alone
set_option linter.unusedVariables false
set_option linter.unusedSimpArgs false



def errW : Option Int → Value
  | none => .nilIface
  | some c => .iface 0 (.int .i64 c)
theorem errW_none : errW none = .nilIface := rfl
theorem errW_some (c : Int) : errW (some c) = .iface 0 (.int .i64 c) := rfl

theorem info5 : (Try.prog.info? 5).map (fun i => (i.zero, i.size, i.bytes)) = some (some (.int .u8 0), 1, 1) := by kernel_rfl
-- the values' own types

end Go.Proofs.Ytibcadfpengacaa.Pyes

-- Pyesx1
namespace Go.Proofs.Ytibcadfpengacaa.Pyes
open Go.RowKit Go.Proofs.YtibcadfpengacaaW.PrintWords Go.Proofs.YtibcadfpengacaaW.PrintLast Go.Proofs.YtibcadfpengacaaW.PrintMore
attribute [local go_sem] max2_int min2_int max_two min_two max_three min_three max_four min_four   -- for this text's walks alone
set_option linter.unusedVariables false
set_option linter.unusedSimpArgs false

/-! ### holtref22_one: function 55 -/
def holtref22_one.f (a0 : Int) : Option (ByteArray) := some (strOfNums (([(a0) % 256] : List Int)))
set_option maxHeartbeats 8000000 in
set_option maxRecDepth 100000 in
theorem holtref22_one.calls (a0 : Int) (r : ByteArray) (w : World) (h : holtref22_one.f a0 = some r) :
    Calls Try.prog 55 #[.int .i64 a0] w fun e w' => e = .returned (.string r) ∧ Below w.heap.size w w' := by
  have HB := Aside0.mk (Below.refl w.heap.size w)
  have H : (some (strOfNums (([(a0) % 256] : List Int)))) = some r := h
  clear h
  obtain ⟨y101, hy101⟩ : ∃ y_ : List Int, y_ = (([(a0) % 256] : List Int)) := ⟨_, rfl⟩
  replace H : (some (strOfNums y101)) = some r := by first | (rw [hy101]; with_reducible exact H) | (have H2_ := (Option.bind_some _ _).symm.trans H; rw [hy101]; with_reducible exact H2_) | (have H2_ := (Option.bind_some _ _).symm.trans H; with_reducible exact H2_) | with_reducible exact H | (rw [hy101]; exact H) | exact H
  have Ny101 := Aside0.mk hy101
  clear hy101
  obtain rfl := Option.some.inj H
  go_enter Try.func55, Try.ntmps55
  go_wp2_with (first | ((with_reducible refine gate_dst (N := 5) rfl ?_); refine Kd.R_lit (Kd.int .u8) _ 5 ?hg (N := 5) ?hd (xs := ([(a0) % 256] : List Int)) (inner := [.int .u8 ((a0) % 256)]) (ok := fun _ => True) (okp := fun _ => True) ?hr ?hp (fun _ hk => hk) trivial (Below.refl _ _) (Nat.le_refl _) (by simp) ?_; (case hd => rfl); (case hg => rfl); (case hr => first | (go_simp; done) | (go_simp; rfl)); (case hp => exact (Reps.one (show Kd.M (Kd.int .u8) _ _ _ ((a0) % 256) [.int .u8 ((a0) % 256)] from rfl) (Reps.none _ _))); intro v102 w2 ho3 hb hg_ hnew_; clear hg_ hnew_; (first | rw [← Ny101.out] at ho3 | (simp only [Int.reduceToNat] at ho3; rw [← Ny101.out] at ho3)); have n0_ := Aside0.mk (Kd.R_lower ho3 (below_size (by repeat (first | (with_reducible first | exact HB.out | apply below_alloc | apply pw_below_drewN | apply below_drew1) | exact HB.out)))); have n1_ := Aside0.mk (below_step (by repeat (first | (with_reducible first | exact HB.out | apply below_alloc | apply pw_below_drewN | apply below_drew1) | exact HB.out)) hb); clear HB; have HO103 := n0_; have HB := n1_; clear n0_ n1_; clear hb ho3; have hcv4 := own_string (P := Try.prog) Try.underlying79 Try.underlying5 Try.underlying9 (Kd.own_of_R HO103.out)))
  go_ret
  exact ⟨by first | rfl | (simp [errW_none, errW_some] <;> rfl) | (simp [*, errW_none, errW_some] <;> rfl), by repeat (first | (with_reducible first | exact HB.out | apply below_alloc | apply pw_below_drewN | apply below_drew1) | exact HB.out)⟩

/-! ### holtref22_yes: function 60 -/
def holtref22_yes.f (a0 : Bool) : Option (ByteArray) := if a0 = true then ((holtref22_one.f 1).bind fun t104 => (some t104)) else ((holtref22_one.f 0).bind fun t105 => (some t105))
set_option maxHeartbeats 8000000 in
set_option maxRecDepth 100000 in
theorem holtref22_yes.calls (a0 : Bool) (r : ByteArray) (w : World) (h : holtref22_yes.f a0 = some r) :
    Calls Try.prog 60 #[.bool a0] w fun e w' => e = .returned (.string r) ∧ Below w.heap.size w w' := by
  have HB := Aside0.mk (Below.refl w.heap.size w)
  have H : (if a0 = true then ((holtref22_one.f 1).bind fun t104 => (some t104)) else ((holtref22_one.f 0).bind fun t105 => (some t105))) = some r := h
  clear h
  by_cases c2 : a0 = true
  · subst c2
    have H1 : ((holtref22_one.f 1).bind fun t104 => (some t104)) = some r := by rw [if_pos rfl] at H; exact H
    clear H
    have H := H1
    clear H1
    replace H := Option.bind_eq_some_iff.mp H
    obtain ⟨t104, A30, H⟩ := H
    replace H : (some t104) = some r := H
    have A3 := Aside0.mk A30
    clear A30
    obtain rfl := Option.some.inj H
    go_enter Try.func60, Try.ntmps60
    go_wp2_with (first | ((with_reducible refine gate_callee (f := 55) rfl ?_); refine goesL_ (some 4) rfl rfl Try.func55 (by kernel_rfl) rfl #[.int .i64 1] rfl (by (try simp only [List.map_toArray, List.map_cons, List.map_nil]); first | done | rfl | (simp only [List.length_drop, List.length_take]; rfl)) ?_; (with_reducible refine (holtref22_one.calls 1 t104 _ A3.out).mono ?_); rintro e w4 ⟨rfl, hb⟩; refine ⟨_, rfl, ?_⟩; have n0_ := Aside0.mk (below_step (by repeat (first | (with_reducible first | exact HB.out | apply below_alloc | apply pw_below_drewN | apply below_drew1) | exact HB.out)) hb); clear HB; have HB := n0_; clear n0_; (try clear hb); (try clear hb2); (try clear hk); (try clear hi)))
    go_ret
    exact ⟨by first | rfl | (simp [errW_none, errW_some] <;> rfl) | (simp [*, errW_none, errW_some] <;> rfl), by repeat (first | (with_reducible first | exact HB.out | apply below_alloc | apply pw_below_drewN | apply below_drew1) | exact HB.out)⟩
  · replace c2 := Bool.eq_false_iff.mpr c2
    subst c2
    have H1 : ((holtref22_one.f 0).bind fun t105 => (some t105)) = some r := by rw [if_neg (show ¬ (false = true) by decide)] at H; exact H
    clear H
    have H := H1
    clear H1
    replace H := Option.bind_eq_some_iff.mp H
    obtain ⟨t105, A50, H⟩ := H
    replace H : (some t105) = some r := H
    have A5 := Aside0.mk A50
    clear A50
    obtain rfl := Option.some.inj H
    go_enter Try.func60, Try.ntmps60
    go_wp2_with (first | ((with_reducible refine gate_callee (f := 55) rfl ?_); refine goesL_ (some 5) rfl rfl Try.func55 (by kernel_rfl) rfl #[.int .i64 0] rfl (by (try simp only [List.map_toArray, List.map_cons, List.map_nil]); first | done | rfl | (simp only [List.length_drop, List.length_take]; rfl)) ?_; (with_reducible refine (holtref22_one.calls 0 t105 _ A5.out).mono ?_); rintro e w6 ⟨rfl, hb⟩; refine ⟨_, rfl, ?_⟩; have n0_ := Aside0.mk (below_step (by repeat (first | (with_reducible first | exact HB.out | apply below_alloc | apply pw_below_drewN | apply below_drew1) | exact HB.out)) hb); clear HB; have HB := n0_; clear n0_; (try clear hb); (try clear hb2); (try clear hk); (try clear hi)))
    go_ret
    exact ⟨by first | rfl | (simp [errW_none, errW_some] <;> rfl) | (simp [*, errW_none, errW_some] <;> rfl), by repeat (first | (with_reducible first | exact HB.out | apply below_alloc | apply pw_below_drewN | apply below_drew1) | exact HB.out)⟩

end Go.Proofs.Ytibcadfpengacaa.Pyes

-- RefL
set_option linter.unusedVariables false
set_option linter.unusedSimpArgs false
namespace Go.Proofs.Ytibcadfpengacaa
open Go.RowKit Go.Lib Go.Proofs.YtibcadfpengacaaW.PrintWords Go.Proofs.YtibcadfpengacaaW.PrintMore Go.Proofs.YtibcadfpengacaaW.PrintLast

def intsB (x n : Nat) : List Int := (leB x n).map (fun b => (b.toNat : Int))
theorem strOf_ints (x n : Nat) : strOfNums (intsB x n) = leS x n := by
  unfold strOfNums intsB leS
  rw [List.map_map]
  congr 2
  refine (List.map_congr_left (fun b _ => ?_)).trans (List.map_id _)
  show UInt8.ofNat ((b.toNat : Int)).toNat = b
  rw [Int.toNat_natCast]
  exact UInt8.ofNat_toNat

theorem refLe_loop (n : Nat) (d : Nat) : ∀ (x k i : Nat) (ys : List Int), x < 256 ^ d → x < 18446744073709551616 → i + d = n → n ≤ 8 → d < k → ys.length ≤ i →
    PEncode.holtref1_Le.l0 k (x : Int) (n : Int) ys (i : Int) = some (strOfNums (ys ++ intsB x d), 0) := by
  induction d with
  | zero =>
    intro x k i ys hx h64 hi hn hk hy
    obtain ⟨k, rfl⟩ : ∃ m, k = m + 1 := ⟨k - 1, by omega⟩
    have hx0 : x = 0 := by simpa using hx
    subst hx0
    rw [PEncode.holtref1_Le.l0, if_neg (by omega), if_pos (by rfl)]
    simp [intsB, leB]
  | succ d ih =>
    intro x k i ys hx h64 hi hn hk hy
    obtain ⟨k, rfl⟩ : ∃ m, k = m + 1 := ⟨k - 1, by omega⟩
    have c1 : (i : Int) < (n : Int) := by clear hx; omega
    have c2 : ys.length < 140737488355328 := by clear hx; omega
    have c3 : x / 256 < 256 ^ d := by rw [Nat.pow_succ] at hx; omega
    have ih' := ih (x / 256) k (i + 1) (ys ++ [((x % 256 : Nat) : Int)]) c3 (by clear hx; omega) (by clear hx; omega) hn (by clear hx; omega) (by clear hx; simp; omega)
    have e1 : IntKind.u64.wrap (Int.tdiv (x : Int) 256) = ((x / 256 : Nat) : Int) := by
      rw [u64_wrap, Int.tdiv_eq_ediv_of_nonneg (by omega)]
      clear hx ih ih'
      omega
    have e2 : (Int.tmod (x : Int) 256) % 256 = ((x % 256 : Nat) : Int) := by
      clear hx ih ih' e1
      rw [Int.tmod_eq_emod_of_nonneg (by omega)]
      omega
    have e3 : wrap64 ((i : Int) + 1) = ((i + 1 : Nat) : Int) := by
      clear hx ih ih' e1 e2
      unfold wrap64
      omega
    rw [PEncode.holtref1_Le.l0, if_pos c1, if_pos c2, e1, e2, e3, ih']
    have e4 : ys ++ [((x % 256 : Nat) : Int)] ++ intsB (x / 256) d = ys ++ intsB x (d + 1) := by
      rw [List.append_assoc]
      unfold intsB
      rw [leB, List.map_cons]
      simp
    rw [e4]

theorem refL4_f (x : Nat) (hx : x < 4294967296) : PEncode.holtref1_L4.f 10 (x : Int) = some (leS x 4) := by
  have e : IntKind.u64.wrap (x : Int) = (x : Int) := by rw [u64_wrap]; omega
  unfold PEncode.holtref1_L4.f PEncode.holtref1_Le.f
  rw [e, if_neg (by decide), PEncode.holtref1_Le.j0, if_neg (by decide)]
  have h := refLe_loop 4 4 x 9 0 [] (by omega) (by omega) rfl (by omega) (by omega) (by simp)
  rw [List.nil_append, strOf_ints] at h
  rw [show ((4 : Nat) : Int) = 4 from rfl, show ((0 : Nat) : Int) = 0 from rfl] at h
  rw [h]
  rfl
theorem refL8_f (x : Nat) (hx : x < 18446744073709551616) : PEncode.holtref1_L8.f 10 (x : Int) = some (leS x 8) := by
  unfold PEncode.holtref1_L8.f PEncode.holtref1_Le.f
  rw [if_neg (by decide), PEncode.holtref1_Le.j0, if_neg (by decide)]
  have h := refLe_loop 8 8 x 9 0 [] (by omega) (by omega) rfl (by omega) (by omega) (by simp)
  rw [List.nil_append, strOf_ints] at h
  rw [show ((8 : Nat) : Int) = 8 from rfl, show ((0 : Nat) : Int) = 0 from rfl] at h
  rw [h]
  rfl

theorem l4_any (x : Int) (hx : U32 x) (w : World) : Calls Try.prog 56 #[.int .u32 x] w fun e w' => e = .returned (.string (leS x.toNat 4)) ∧ Below w.heap.size w w' := by
  obtain ⟨n, rfl⟩ := Int.eq_ofNat_of_zero_le hx.1
  rw [Int.toNat_natCast]
  exact PEncode.holtref1_L4.calls 10 _ _ w (refL4_f n (by have := hx.2; omega))
theorem l8_any (x : Int) (hx : U64 x) (w : World) : Calls Try.prog 57 #[.int .u64 x] w fun e w' => e = .returned (.string (leS x.toNat 8)) ∧ Below w.heap.size w w' := by
  obtain ⟨n, rfl⟩ := Int.eq_ofNat_of_zero_le hx.1
  rw [Int.toNat_natCast]
  exact PEncode.holtref1_L8.calls 10 _ _ w (refL8_f n (by have := hx.2; omega))

/-- What a callee answers: a text, and nothing that was there has turned. -/
def Says (f : Nat) (v : Value) (s : ByteArray) : Prop := ∀ w, Calls Try.prog f #[v] w fun e w' => e = .returned (.string s) ∧ Below w.heap.size w w'
theorem Says.at {f : Nat} {v : Value} {s : ByteArray} (h : Says f v s) (w : World) : Calls Try.prog f #[v] w fun e w' => e = .returned (.string s) ∧ Below w.heap.size w w' := h w
theorem lt_False {n : Nat} (h : n ≤ 1000000000) : (9223372036854775807 < n) = False := eq_false (by omega)
/-- What stays while a region runs. -/
structure Kp (P : World → Prop) (w0 w : World) : Prop where
  h : P w
  below : Below w0.heap.size w0 w
theorem Kp.next {P : World → Prop} {w0 w w1 : World} (hs : Hid (∀ w w1, Below w.heap.size w w1 → P w → P w1)) (hb : Below w.heap.size w w1) (k : Kp P w0 w) : Kp P w0 w1 := ⟨hs.out _ _ hb k.h, k.below.trans (hb.mono k.below.size)⟩
theorem Kp.drew {P : World → Prop} {w0 w : World} (hs : Hid (∀ w w1, Below w.heap.size w w1 → P w → P w1)) (k : Kp P w0 w) : Kp P w0 w.drew := k.next hs ((Below.refl _ _).drew)

set_option maxHeartbeats 4000000 in
set_option maxRecDepth 100000 in
theorem refHd_raw (a b c d : Int) (s1 s2 s3 s4 : ByteArray) (h1 : s1.size ≤ 5000) (h2 : s2.size ≤ 5000) (h3 : s3.size ≤ 5000) (h4 : s4.size ≤ 5000) (ha : Says 56 (.int .u32 a) s1) (hb : Says 57 (.int .u64 b) s2) (hc : Says 57 (.int .u64 c) s3) (hd : Says 57 (.int .u64 d) s4) :
    Says 58 (.agg #[.int .u32 a, .int .u64 b, .int .u64 c, .int .u64 d]) (s1 ++ s2 ++ s3 ++ s4) := by
  intro w
  have ST := Lib.hid (show ∀ w0 w1 : World, Below w0.heap.size w0 w1 → Blk w0 w.heap.size 25 [.int .u32 a, .int .u64 b, .int .u64 c, .int .u64 d] → Blk w1 w.heap.size 25 [.int .u32 a, .int .u64 b, .int .u64 c, .int .u64 d] from fun _ _ hb h => h.below hb)
  have K0 := Lib.hid (show Kp (fun w1 => Blk w1 w.heap.size 25 [.int .u32 a, .int .u64 b, .int .u64 c, .int .u64 d]) w _ from ⟨Blk.new w 25 [.int .u32 a, .int .u64 b, .int .u64 c, .int .u64 d], (Below.refl w.heap.size w).alloc (Nat.le_refl _) _⟩)
  have C1 := Lib.hid ha; have C2 := Lib.hid hb; have C3 := Lib.hid hc; have C4 := Lib.hid hd
  have f2 := lt_False (n := s1.size + s2.size) (by omega)
  have f3 := lt_False (n := s1.size + s2.size + s3.size) (by omega)
  have f4 := lt_False (n := s1.size + s2.size + s3.size + s4.size) (by omega)
  clear ha hb hc hd h1 h2 h3 h4
  go_enter Try.func58, Try.ntmps58
  go_wp2
  have k0 := K0.out
  go_region_held3 (fun w' => w'.cell? ⟨w.heap.size, 0, none⟩ = some (.int .u32 a) ∧ w'.cell? ⟨w.heap.size, 1, none⟩ = some (.int .u64 b) ∧ w'.cell? ⟨w.heap.size, 2, none⟩ = some (.int .u64 c) ∧ w'.cell? ⟨w.heap.size, 3, none⟩ = some (.int .u64 d) ∧ Kp (fun w1 => Blk w1 w.heap.size 25 [.int .u32 a, .int .u64 b, .int .u64 c, .int .u64 d]) w w')
    ((go_split_ands; first
      | (have q := Kp.next ST hb (by assumption); exact ⟨q.h.cell 0 rfl, q.h.cell 1 rfl, q.h.cell 2 rfl, q.h.cell 3 rfl, q⟩)
      | (have q := Kp.drew ST k0; exact ⟨q.h.cell 0 rfl, q.h.cell 1 rfl, q.h.cell 2 rfl, q.h.cell 3 rfl, q⟩)))
    ((first
      | (go_at_call 56; with_reducible refine (C1.out.at _).mono ?_; rintro e w' ⟨rfl, hb⟩)
      | (go_at_call 57; with_reducible refine (C2.out.at _).mono ?_; rintro e w' ⟨rfl, hb⟩)
      | (go_at_call 57; with_reducible refine (C3.out.at _).mono ?_; rintro e w' ⟨rfl, hb⟩)
      | (go_at_call 57; with_reducible refine (C4.out.at _).mono ?_; rintro e w' ⟨rfl, hb⟩)))
  go_split_ands
  rename_i q
  have Q := Lib.hid q.below
  clear q
  go_wp2
  go_ret
  exact ⟨rfl, Q.out⟩

theorem refHd_says (h : Hd) (hk : h.Ok) : Says 58 (.agg #[.int .u32 h.ex, .int .u64 h.snap, .int .u64 h.ino, .int .u64 h.gen]) h.layS :=
  refHd_raw _ _ _ _ _ _ _ _ (by rw [leS_size]; omega) (by rw [leS_size]; omega) (by rw [leS_size]; omega) (by rw [leS_size]; omega) (fun w => l4_any _ ⟨hk.ex0, hk.ex1⟩ w) (fun w => l8_any _ ⟨hk.snap0, hk.snap1⟩ w) (fun w => l8_any _ ⟨hk.ino0, hk.ino1⟩ w) (fun w => l8_any _ ⟨hk.gen0, hk.gen1⟩ w)

/-- A text's bytes with its length ahead and zeros behind. -/
def txt (s : ByteArray) : List UInt8 := leB s.size 4 ++ s.data.toList ++ List.replicate (padN s.size) 0
def txtS (s : ByteArray) : ByteArray := ⟨(txt s).toArray⟩
def zerS (n : Nat) : ByteArray := ⟨(List.replicate n 0).toArray⟩
theorem zerS_size (n : Nat) : (zerS n).size = n := by
  show (List.replicate n (0 : UInt8)).toArray.size = n
  simp
theorem zerS_snoc (t : ByteArray) (n : Nat) : t ++ zerS n ++ (⟨#[0]⟩ : ByteArray) = t ++ zerS (n + 1) := by
  refine ByteArray.ext (Array.toList_inj.1 ?_)
  simp [ByteArray.data_append, zerS, List.replicate_succ']
theorem txtS_eq (s : ByteArray) : leS s.size 4 ++ s ++ zerS (padN s.size) = txtS s := by
  refine ByteArray.ext ?_
  simp [ByteArray.data_append, zerS, txtS, txt, leS]
theorem txtS_size (s : ByteArray) (h : s.size ≤ 4096) : (txtS s).size ≤ 4104 := by
  have : padN s.size < 4 := Nat.mod_lt _ (by decide)
  rw [← txtS_eq, ByteArray.size_append, ByteArray.size_append, leS_size, zerS_size]
  omega

set_option maxHeartbeats 4000000 in
set_option maxRecDepth 100000 in
theorem text_says (s : ByteArray) (hs : s.size ≤ 4096) : Says 59 (.string s) (txtS s) := by
  intro w
  have hU : U32 (s.size : Int) := ⟨by omega, by omega⟩
  have hw : (s.size : Int) % 4294967296 = (s.size : Int) := by omega
  have hw2 : IntKind.u32.wrap (s.size : Int) = (s.size : Int) := by rw [u32_wrap]; omega
  have C := fun w => Lib.hid (l4_any (s.size : Int) hU w)
  have HE := Lib.hid (txtS_eq s)
  have hl4 := leS_size s.size 4
  have f1 := lt_False (n := 4 + s.size) (by omega)
  have Hs := Lib.hid hs
  clear hU
  go_enter Try.func59, Try.ntmps59
  go_wp2_with fail
  refine ((C _).out).mono ?_
  rintro e w1 ⟨rfl, hb⟩
  rw [Int.toNat_natCast]
  have KB := Lib.hid hb
  clear hb C hw hw2
  go_wp2_with fail
  generalize hT : leS s.size 4 ++ s = T at *
  have hTs : T.size = 4 + s.size := by rw [← hT, ByteArray.size_append, hl4]
  have HTs := Lib.hid hTs
  have HT := Lib.hid hT
  have e0 : T = T ++ zerS 0 := by refine ByteArray.ext ?_; simp [zerS]
  have E0 := Lib.hid e0
  clear hT hTs f1 hl4 e0
  go_loop [3] (fun v => ∃ d : Nat, d ≤ padN s.size ∧ v = .string (T ++ zerS d)) (fun v => match v with | .string t => padN s.size + 4 + s.size - t.size | _ => 0)
  case atStart => exact ⟨0, Nat.zero_le _, by rw [← E0.out]⟩
  case round =>
    obtain ⟨d, hd, rfl⟩ := hrel
    have hsz : (T ++ zerS d).size = 4 + s.size + d := by rw [ByteArray.size_append, HTs.out, zerS_size]
    have hp : padN s.size = (4 - s.size % 4) % 4 := rfl
    have hsn := zerS_snoc T d
    have Hsn := Lib.hid hsn
    by_cases hlt : d < padN s.size
    · have hm : (((T ++ zerS d).size : Int) % 4 == 0) = false := by rw [hsz, beq_eq_false_iff_ne]; omega
      have hm2 : (((T ++ zerS d).size : Int) % 4 != 0) = true := by rw [hsz, bne_iff_ne]; omega
      have hf := lt_False (n := (T ++ zerS d).size + 1) (by rw [hsz]; have := Hs.out; omega)
      have HS := Lib.hid hsz
      have HP := Lib.hid hp
      have hsz1 : (T ++ zerS (d + 1)).size = 4 + s.size + (d + 1) := by rw [ByteArray.size_append, HTs.out, zerS_size]
      have HS1 := Lib.hid hsz1
      clear hsz hp hsn hsz1
      generalize T ++ zerS d = t at *
      go_wp2
      go_round
      case rel => exact ⟨d + 1, by omega, by rw [Hsn.out]⟩
      case measure =>
        rw [Hsn.out]
        show _ - _ < _ - _
        rw [HS1.out, HS.out]
        omega
    · have he : d = padN s.size := by omega
      have hm : (((T ++ zerS d).size : Int) % 4 == 0) = true := by rw [hsz, beq_iff_eq]; omega
      have hm2 : (((T ++ zerS d).size : Int) % 4 != 0) = false := by rw [hsz, bne_eq_false_iff_eq]; omega
      have HP := Lib.hid hp
      have hr : T ++ zerS d = txtS s := by rw [he]; exact HE.out
      have HR := Lib.hid hr
      clear hsz hp hsn hr he
      generalize T ++ zerS d = t at *
      go_wp2
      go_ret
      exact ⟨by rw [HR.out]; rfl, KB.out⟩

end Go.Proofs.Ytibcadfpengacaa

-- RefLong
namespace Go.Proofs.Ytibcadfpengacaa.PRlong
open Go.RowKit Go.Proofs.YtibcadfpengacaaW.PrintWords Go.Proofs.YtibcadfpengacaaW.PrintLast Go.Proofs.YtibcadfpengacaaW.PrintMore
attribute [local go_sem] max2_int min2_int max_two min_two max_three min_three max_four min_four   -- for this text's walks alone
set_option linter.unusedVariables false
set_option linter.unusedSimpArgs false



def errW : Option Int → Value
  | none => .nilIface
  | some c => .iface 0 (.int .i64 c)
theorem errW_none : errW none = .nilIface := rfl
theorem errW_some (c : Int) : errW (some c) = .iface 0 (.int .i64 c) := rfl

theorem info9 : (Try.prog.info? 9).map (fun i => (i.zero, i.size, i.bytes)) = some (some (.string ⟨#[]⟩), 1, 16) := by kernel_rfl
-- the values' own types
/-! #### struct type 99 -/
structure S99 where
  f0 : ByteArray
  f1 : Int
  f2 : Int
def z99 : S99 := ⟨(⟨#[]⟩ : ByteArray), (0 : Int), (0 : Int)⟩
def k99 : Kd S99 := Kd.iso (Kd.pair Kd.string (Kd.pair (Kd.int .u64) (Kd.int .u64))) (fun x : S99 => (x.f0, x.f1, x.f2))
theorem k99_open {w : World} {x : S99} {cs : List Value} (h : k99.K w x cs) : cs = [.string x.f0, .int .u64 x.f1, .int .u64 x.f2] := by
  obtain ⟨_, _, rfl, rfl, ⟨_, _, rfl, rfl, rfl⟩⟩ := h
  exact rfl
theorem k99_openM {w : World} {base : Nat} {ok : Nat → Prop} {x : S99} {cs : List Value} (h : k99.M w base ok x cs) : cs = [.string x.f0, .int .u64 x.f1, .int .u64 x.f2] := by
  obtain ⟨_, _, rfl, rfl, ⟨_, _, rfl, rfl, rfl⟩⟩ := h
  exact rfl
theorem k99_mk (w : World) (x : S99)  : k99.K w x [.string x.f0, .int .u64 x.f1, .int .u64 x.f2] := ⟨[.string x.f0], [.int .u64 x.f1, .int .u64 x.f2], rfl, rfl, ⟨[.int .u64 x.f1], [.int .u64 x.f2], rfl, rfl, rfl⟩⟩
theorem k99_mkM (w : World) (base : Nat) (ok : Nat → Prop) (x : S99)  : k99.M w base ok x [.string x.f0, .int .u64 x.f1, .int .u64 x.f2] := ⟨[.string x.f0], [.int .u64 x.f1, .int .u64 x.f2], rfl, rfl, ⟨[.int .u64 x.f1], [.int .u64 x.f2], rfl, rfl, rfl⟩⟩
def rd_T99 (xs : List S99) (i : Int) : S99 := xs.getD i.toNat z99
theorem at_T99 {w : World} {A : Option Addr} {n : Nat} {xs : List S99} (h : Kd.C k99 w A n xs) (i : Int) (h0 : 0 ≤ i) (h1 : i < n) : ∃ ad , A = some ad ∧ w.cell? (ad.add (i.toNat * 3)) = some (.string (rd_T99 xs i).f0) ∧ w.cell? ⟨(ad.add (i.toNat * 3)).block, (ad.add (i.toNat * 3)).off + 1, none⟩ = some (.int .u64 (rd_T99 xs i).f1) ∧ w.cell? ⟨(ad.add (i.toNat * 3)).block, (ad.add (i.toNat * 3)).off + 2, none⟩ = some (.int .u64 (rd_T99 xs i).f2) := by
  obtain ⟨ad, c, e, _, hK, hc0⟩ := Kd.C_get h z99 i h0 h1
  have hc : ∀ j u, c[j]? = some u → w.cell? (ad.add (i.toNat * 3 + j)) = some u := hc0
  obtain rfl := k99_open hK
  exact ⟨ad, e, hc 0 _ rfl, by rw [← add_field _ _ 1 (by omega)]; exact hc 1 _ rfl, by rw [← add_field _ _ 2 (by omega)]; exact hc 2 _ rfl⟩

/-! ### holtref22_long: function 36 -/
mutual
def holtref22_long.l0 : Nat → List ByteArray → Int → Int → Int → Int → Int → Int → Int → Int → Int → Int → Int → Int → Int → ByteArray → ByteArray → Int → Int → ByteArray → Int → Int → Int → Int → Int → Int → Int → Int → Int → ByteArray → Bool → Int → List (S99) → Int → Int → Int → Option (Bool)
  | 0, _, _, _, _, _, _, _, _, _, _, _, _, _, _, _, _, _, _, _, _, _, _, _, _, _, _, _, _, _, _, _, _, _, _, _ => none
  | k + 1, x3, x4, x102000, x102001, x102002, x102003, x102004, x102005, x102006, x102007, x102008, x102009, x102010, x102011, x102012, x102013, x102014, x102015, x102016, x102017, x102018, x102019, x102020, x102021, x102022, x102023, x102024, x102025, x102026, x102027, x102028, x102029, x102030, x102031, x102032 => if x4 < (x102029.length : Int) then (if 0 ≤ x4 then (if x3.length < 8796093022208 then (holtref22_long.l0 k (x3 ++ [(rd_T99 x102029 x4).f0]) (wrap64 (x4 + 1)) x102000 x102001 x102002 x102003 x102004 x102005 x102006 x102007 x102008 x102009 x102010 x102011 x102012 x102013 x102014 x102015 x102016 x102017 x102018 x102019 x102020 x102021 x102022 x102023 x102024 x102025 x102026 x102027 x102028 x102029 x102030 x102031 x102032) else (none)) else (none)) else (holtref22_long.l1 k x3 0 x102000 x102001 x102002 x102003 x102004 x102005 x102006 x102007 x102008 x102009 x102010 x102011 x102012 x102013 x102014 x102015 x102016 x102017 x102018 x102019 x102020 x102021 x102022 x102023 x102024 x102025 x102026 x102027 x102028 x102029 x102030 x102031 x102032)
def holtref22_long.l1 : Nat → List ByteArray → Int → Int → Int → Int → Int → Int → Int → Int → Int → Int → Int → Int → Int → ByteArray → ByteArray → Int → Int → ByteArray → Int → Int → Int → Int → Int → Int → Int → Int → Int → ByteArray → Bool → Int → List (S99) → Int → Int → Int → Option (Bool)
  | 0, _, _, _, _, _, _, _, _, _, _, _, _, _, _, _, _, _, _, _, _, _, _, _, _, _, _, _, _, _, _, _, _, _, _, _ => none
  | k + 1, x3, x5, x102000, x102001, x102002, x102003, x102004, x102005, x102006, x102007, x102008, x102009, x102010, x102011, x102012, x102013, x102014, x102015, x102016, x102017, x102018, x102019, x102020, x102021, x102022, x102023, x102024, x102025, x102026, x102027, x102028, x102029, x102030, x102031, x102032 => if x5 < (x3.length : Int) then (if 0 ≤ x5 then (if ((rdOf ByteArray.empty x3 x5).size : Int) > 4096 then (some true) else (holtref22_long.l1 k x3 (wrap64 (x5 + 1)) x102000 x102001 x102002 x102003 x102004 x102005 x102006 x102007 x102008 x102009 x102010 x102011 x102012 x102013 x102014 x102015 x102016 x102017 x102018 x102019 x102020 x102021 x102022 x102023 x102024 x102025 x102026 x102027 x102028 x102029 x102030 x102031 x102032)) else (none)) else (some (decide ((x102029.length : Int) > 64)))
end
def holtref22_long.f (k : Nat) (a0_0 : Int) (a0_1 : Int) (a0_2 : Int) (a0_3 : Int) (a0_4 : Int) (a0_5 : Int) (a0_6 : Int) (a0_7 : Int) (a0_8 : Int) (a0_9 : Int) (a0_10 : Int) (a0_11 : Int) (a0_12 : ByteArray) (a0_13 : ByteArray) (a0_14 : Int) (a0_15 : Int) (a0_16 : ByteArray) (a0_17 : Int) (a0_18 : Int) (a0_19 : Int) (a0_20 : Int) (a0_21 : Int) (a0_22 : Int) (a0_23 : Int) (a0_24 : Int) (a0_25 : Int) (a0_26 : ByteArray) (a0_27 : Bool) (a0_28 : Int) (l0_29 : List (S99)) (a0_30 : Int) (a0_31 : Int) (a0_32 : Int) : Option (Bool) := holtref22_long.l0 k (([a0_12, a0_13, a0_16, a0_26] : List ByteArray)) 0 a0_0 a0_1 a0_2 a0_3 a0_4 a0_5 a0_6 a0_7 a0_8 a0_9 a0_10 a0_11 a0_12 a0_13 a0_14 a0_15 a0_16 a0_17 a0_18 a0_19 a0_20 a0_21 a0_22 a0_23 a0_24 a0_25 a0_26 a0_27 a0_28 l0_29 a0_30 a0_31 a0_32
theorem holtref22_long.mono_l : ∀ k, (∀ y0 y1 y2 y3 y4 y5 y6 y7 y8 y9 y10 y11 y12 y13 y14 y15 y16 y17 y18 y19 y20 y21 y22 y23 y24 y25 y26 y27 y28 y29 y30 y31 y32 y33 y34, LeO (holtref22_long.l0 k y0 y1 y2 y3 y4 y5 y6 y7 y8 y9 y10 y11 y12 y13 y14 y15 y16 y17 y18 y19 y20 y21 y22 y23 y24 y25 y26 y27 y28 y29 y30 y31 y32 y33 y34) (holtref22_long.l0 (k + 1) y0 y1 y2 y3 y4 y5 y6 y7 y8 y9 y10 y11 y12 y13 y14 y15 y16 y17 y18 y19 y20 y21 y22 y23 y24 y25 y26 y27 y28 y29 y30 y31 y32 y33 y34)) ∧ (∀ y0 y1 y2 y3 y4 y5 y6 y7 y8 y9 y10 y11 y12 y13 y14 y15 y16 y17 y18 y19 y20 y21 y22 y23 y24 y25 y26 y27 y28 y29 y30 y31 y32 y33 y34, LeO (holtref22_long.l1 k y0 y1 y2 y3 y4 y5 y6 y7 y8 y9 y10 y11 y12 y13 y14 y15 y16 y17 y18 y19 y20 y21 y22 y23 y24 y25 y26 y27 y28 y29 y30 y31 y32 y33 y34) (holtref22_long.l1 (k + 1) y0 y1 y2 y3 y4 y5 y6 y7 y8 y9 y10 y11 y12 y13 y14 y15 y16 y17 y18 y19 y20 y21 y22 y23 y24 y25 y26 y27 y28 y29 y30 y31 y32 y33 y34))
  | 0 => ⟨fun _ _ _ _ _ _ _ _ _ _ _ _ _ _ _ _ _ _ _ _ _ _ _ _ _ _ _ _ _ _ _ _ _ _ _ r h => by simp [holtref22_long.l0] at h, fun _ _ _ _ _ _ _ _ _ _ _ _ _ _ _ _ _ _ _ _ _ _ _ _ _ _ _ _ _ _ _ _ _ _ _ r h => by simp [holtref22_long.l1] at h⟩
  | k + 1 => by
    obtain ⟨ih0, ih1⟩ := holtref22_long.mono_l k
    refine ⟨?_, ?_⟩
    · intro y0 y1 y2 y3 y4 y5 y6 y7 y8 y9 y10 y11 y12 y13 y14 y15 y16 y17 y18 y19 y20 y21 y22 y23 y24 y25 y26 y27 y28 y29 y30 y31 y32 y33 y34
      unfold holtref22_long.l0
      repeat' first
      | (with_reducible exact ih0 _ _ _ _ _ _ _ _ _ _ _ _ _ _ _ _ _ _ _ _ _ _ _ _ _ _ _ _ _ _ _ _ _ _ _)
      | (with_reducible exact ih1 _ _ _ _ _ _ _ _ _ _ _ _ _ _ _ _ _ _ _ _ _ _ _ _ _ _ _ _ _ _ _ _ _ _ _)
      | (with_reducible exact LeO.refl _)
      | (with_reducible exact LeO.none _)
      | (with_reducible refine LeO.ite ?_ ?_)
      | (with_reducible refine LeO.bind ?_ (fun _ => ?_))
      | exact ih0 _ _ _ _ _ _ _ _ _ _ _ _ _ _ _ _ _ _ _ _ _ _ _ _ _ _ _ _ _ _ _ _ _ _ _
      | exact ih1 _ _ _ _ _ _ _ _ _ _ _ _ _ _ _ _ _ _ _ _ _ _ _ _ _ _ _ _ _ _ _ _ _ _ _
      | exact LeO.none _
      | refine LeO.ite ?_ ?_
      | refine LeO.bind ?_ (fun _ => ?_)
    · intro y0 y1 y2 y3 y4 y5 y6 y7 y8 y9 y10 y11 y12 y13 y14 y15 y16 y17 y18 y19 y20 y21 y22 y23 y24 y25 y26 y27 y28 y29 y30 y31 y32 y33 y34
      unfold holtref22_long.l1
      repeat' first
      | (with_reducible exact ih0 _ _ _ _ _ _ _ _ _ _ _ _ _ _ _ _ _ _ _ _ _ _ _ _ _ _ _ _ _ _ _ _ _ _ _)
      | (with_reducible exact ih1 _ _ _ _ _ _ _ _ _ _ _ _ _ _ _ _ _ _ _ _ _ _ _ _ _ _ _ _ _ _ _ _ _ _ _)
      | (with_reducible exact LeO.refl _)
      | (with_reducible exact LeO.none _)
      | (with_reducible refine LeO.ite ?_ ?_)
      | (with_reducible refine LeO.bind ?_ (fun _ => ?_))
      | exact ih0 _ _ _ _ _ _ _ _ _ _ _ _ _ _ _ _ _ _ _ _ _ _ _ _ _ _ _ _ _ _ _ _ _ _ _
      | exact ih1 _ _ _ _ _ _ _ _ _ _ _ _ _ _ _ _ _ _ _ _ _ _ _ _ _ _ _ _ _ _ _ _ _ _ _
      | exact LeO.none _
      | refine LeO.ite ?_ ?_
      | refine LeO.bind ?_ (fun _ => ?_)
theorem holtref22_long.mono : ∀ a0 a1 a2 a3 a4 a5 a6 a7 a8 a9 a10 a11 a12 a13 a14 a15 a16 a17 a18 a19 a20 a21 a22 a23 a24 a25 a26 a27 a28 a29 a30 a31 a32 k, LeO (holtref22_long.f k a0 a1 a2 a3 a4 a5 a6 a7 a8 a9 a10 a11 a12 a13 a14 a15 a16 a17 a18 a19 a20 a21 a22 a23 a24 a25 a26 a27 a28 a29 a30 a31 a32) (holtref22_long.f (k + 1) a0 a1 a2 a3 a4 a5 a6 a7 a8 a9 a10 a11 a12 a13 a14 a15 a16 a17 a18 a19 a20 a21 a22 a23 a24 a25 a26 a27 a28 a29 a30 a31 a32) := by
  intro a0 a1 a2 a3 a4 a5 a6 a7 a8 a9 a10 a11 a12 a13 a14 a15 a16 a17 a18 a19 a20 a21 a22 a23 a24 a25 a26 a27 a28 a29 a30 a31 a32 k
  obtain ⟨ih0, ih1⟩ := holtref22_long.mono_l k
  unfold holtref22_long.f
  repeat' first
      | (with_reducible exact ih0 _ _ _ _ _ _ _ _ _ _ _ _ _ _ _ _ _ _ _ _ _ _ _ _ _ _ _ _ _ _ _ _ _ _ _)
      | (with_reducible exact ih1 _ _ _ _ _ _ _ _ _ _ _ _ _ _ _ _ _ _ _ _ _ _ _ _ _ _ _ _ _ _ _ _ _ _ _)
      | (with_reducible exact LeO.refl _)
      | (with_reducible exact LeO.none _)
      | (with_reducible refine LeO.ite ?_ ?_)
      | (with_reducible refine LeO.bind ?_ (fun _ => ?_))
      | exact ih0 _ _ _ _ _ _ _ _ _ _ _ _ _ _ _ _ _ _ _ _ _ _ _ _ _ _ _ _ _ _ _ _ _ _ _
      | exact ih1 _ _ _ _ _ _ _ _ _ _ _ _ _ _ _ _ _ _ _ _ _ _ _ _ _ _ _ _ _ _ _ _ _ _ _
      | exact LeO.none _
      | refine LeO.ite ?_ ?_
      | refine LeO.bind ?_ (fun _ => ?_)
set_option maxHeartbeats 8000000 in
set_option maxRecDepth 100000 in
theorem holtref22_long.calls (k : Nat) (a0_0 : Int) (a0_1 : Int) (a0_2 : Int) (a0_3 : Int) (a0_4 : Int) (a0_5 : Int) (a0_6 : Int) (a0_7 : Int) (a0_8 : Int) (a0_9 : Int) (a0_10 : Int) (a0_11 : Int) (a0_12 : ByteArray) (a0_13 : ByteArray) (a0_14 : Int) (a0_15 : Int) (a0_16 : ByteArray) (a0_17 : Int) (a0_18 : Int) (a0_19 : Int) (a0_20 : Int) (a0_21 : Int) (a0_22 : Int) (a0_23 : Int) (a0_24 : Int) (a0_25 : Int) (a0_26 : ByteArray) (a0_27 : Bool) (a0_28 : Int) (A0_29 : Option Addr) (c0_29 : Nat) (l0_29 : List (S99)) (a0_30 : Int) (a0_31 : Int) (a0_32 : Int) (r : Bool) (w : World) (hr0_29 : Kd.C k99 w A0_29 l0_29.length l0_29) (hc0_29 : l0_29.length ≤ c0_29) (h : holtref22_long.f k a0_0 a0_1 a0_2 a0_3 a0_4 a0_5 a0_6 a0_7 a0_8 a0_9 a0_10 a0_11 a0_12 a0_13 a0_14 a0_15 a0_16 a0_17 a0_18 a0_19 a0_20 a0_21 a0_22 a0_23 a0_24 a0_25 a0_26 a0_27 a0_28 l0_29 a0_30 a0_31 a0_32 = some r) :
    Calls Try.prog 36 #[.agg #[.int .i64 a0_0, .int .u32 a0_1, .int .u64 a0_2, .int .i64 a0_3, .int .u32 a0_4, .int .u64 a0_5, .int .u64 a0_6, .int .u64 a0_7, .int .u32 a0_8, .int .u64 a0_9, .int .u64 a0_10, .int .u64 a0_11, .string a0_12, .string a0_13, .int .u64 a0_14, .int .u64 a0_15, .string a0_16, .int .i64 a0_17, .int .u32 a0_18, .int .u64 a0_19, .int .u64 a0_20, .int .u64 a0_21, .int .i64 a0_22, .int .u32 a0_23, .int .u64 a0_24, .int .u64 a0_25, .string a0_26, .bool a0_27, .int .u64 a0_28, .slice A0_29 l0_29.length c0_29, .int .u64 a0_30, .int .u64 a0_31, .int .u64 a0_32]] w fun e w' => e = .returned (.bool r) ∧ Below w.heap.size w w' := by
  have hu36 := Try.underlying36
  have HR0_29 := Aside0.mk hr0_29
  have HC0_29 := Aside0.mk hc0_29
  clear hr0_29 hc0_29
  have HB := Aside0.mk (Below.refl w.heap.size w)
  have H : (holtref22_long.l0 k (([a0_12, a0_13, a0_16, a0_26] : List ByteArray)) 0 a0_0 a0_1 a0_2 a0_3 a0_4 a0_5 a0_6 a0_7 a0_8 a0_9 a0_10 a0_11 a0_12 a0_13 a0_14 a0_15 a0_16 a0_17 a0_18 a0_19 a0_20 a0_21 a0_22 a0_23 a0_24 a0_25 a0_26 a0_27 a0_28 l0_29 a0_30 a0_31 a0_32) = some r := h
  clear h
  obtain ⟨y102, hy102⟩ : ∃ y_ : List ByteArray, y_ = (([a0_12, a0_13, a0_16, a0_26] : List ByteArray)) := ⟨_, rfl⟩
  replace H : (holtref22_long.l0 k y102 0 a0_0 a0_1 a0_2 a0_3 a0_4 a0_5 a0_6 a0_7 a0_8 a0_9 a0_10 a0_11 a0_12 a0_13 a0_14 a0_15 a0_16 a0_17 a0_18 a0_19 a0_20 a0_21 a0_22 a0_23 a0_24 a0_25 a0_26 a0_27 a0_28 l0_29 a0_30 a0_31 a0_32) = some r := by first | (rw [hy102]; with_reducible exact H) | (have H2_ := (Option.bind_some _ _).symm.trans H; rw [hy102]; with_reducible exact H2_) | (have H2_ := (Option.bind_some _ _).symm.trans H; with_reducible exact H2_) | with_reducible exact H | (rw [hy102]; exact H) | exact H
  have Ny102 := Aside0.mk hy102
  clear hy102
  have H' := Aside0.mk H
  clear H
  go_enter Try.func36, Try.ntmps36
  go_wp2_with (first | ((with_reducible refine gate_dst (N := 1) rfl ?_); refine box_event ?hg (N := 1) ?hd (cs := #[.int .i64 a0_0, .int .u32 a0_1, .int .u64 a0_2, .int .i64 a0_3, .int .u32 a0_4, .int .u64 a0_5, .int .u64 a0_6, .int .u64 a0_7, .int .u32 a0_8, .int .u64 a0_9, .int .u64 a0_10, .int .u64 a0_11, .string a0_12, .string a0_13, .int .u64 a0_14, .int .u64 a0_15, .string a0_16, .int .i64 a0_17, .int .u32 a0_18, .int .u64 a0_19, .int .u64 a0_20, .int .u64 a0_21, .int .i64 a0_22, .int .u32 a0_23, .int .u64 a0_24, .int .u64 a0_25, .string a0_26, .bool a0_27, .int .u64 a0_28, .slice A0_29 l0_29.length c0_29, .int .u64 a0_30, .int .u64 a0_31, .int .u64 a0_32]) (t := 36) ?hr ?_; (case hd => rfl); (case hg => rfl); (case hr => first | (go_simp; done) | (go_simp; rfl)); intro gb101 hg w2 hbox hb; have n0_ := Aside0.mk (below_step (by repeat (first | (with_reducible first | exact HB.out | apply below_alloc | apply pw_below_drewN | apply below_drew1) | exact HB.out)) hb); have n1_ := Aside0.mk (hbox); have n2_ := Aside0.mk ((by rw [hg]; exact (below_size (by repeat (first | (with_reducible first | exact HB.out | apply below_alloc | apply pw_below_drewN | apply below_drew1) | exact HB.out))) : w.heap.size ≤ gb101)); have n3_ := Aside0.mk ((by rw [hg]; exact (below_size (by repeat (first | (with_reducible first | exact HB.out | apply below_alloc | apply pw_below_drewN | apply below_drew1) | exact HB.out))) : w.heap.size ≤ gb101)); clear HB; have HB := n0_; have BK101 := n1_; have GW101 := n2_; have GE101 := n3_; clear n0_ n1_ n2_ n3_; clear hb hbox hg; have hcz3_0 : w2.cell? ⟨gb101, 0, none⟩ = some (.int .i64 a0_0) := (blk_cell BK101.out 0).trans rfl; have hcz3_1 : w2.cell? ⟨gb101, 1, none⟩ = some (.int .u32 a0_1) := (blk_cell BK101.out 1).trans rfl; have hcz3_2 : w2.cell? ⟨gb101, 2, none⟩ = some (.int .u64 a0_2) := (blk_cell BK101.out 2).trans rfl; have hcz3_3 : w2.cell? ⟨gb101, 3, none⟩ = some (.int .i64 a0_3) := (blk_cell BK101.out 3).trans rfl; have hcz3_4 : w2.cell? ⟨gb101, 4, none⟩ = some (.int .u32 a0_4) := (blk_cell BK101.out 4).trans rfl; have hcz3_5 : w2.cell? ⟨gb101, 5, none⟩ = some (.int .u64 a0_5) := (blk_cell BK101.out 5).trans rfl; have hcz3_6 : w2.cell? ⟨gb101, 6, none⟩ = some (.int .u64 a0_6) := (blk_cell BK101.out 6).trans rfl; have hcz3_7 : w2.cell? ⟨gb101, 7, none⟩ = some (.int .u64 a0_7) := (blk_cell BK101.out 7).trans rfl; have hcz3_8 : w2.cell? ⟨gb101, 8, none⟩ = some (.int .u32 a0_8) := (blk_cell BK101.out 8).trans rfl; have hcz3_9 : w2.cell? ⟨gb101, 9, none⟩ = some (.int .u64 a0_9) := (blk_cell BK101.out 9).trans rfl; have hcz3_10 : w2.cell? ⟨gb101, 10, none⟩ = some (.int .u64 a0_10) := (blk_cell BK101.out 10).trans rfl; have hcz3_11 : w2.cell? ⟨gb101, 11, none⟩ = some (.int .u64 a0_11) := (blk_cell BK101.out 11).trans rfl; have hcz3_12 : w2.cell? ⟨gb101, 12, none⟩ = some (.string a0_12) := (blk_cell BK101.out 12).trans rfl; have hcz3_13 : w2.cell? ⟨gb101, 13, none⟩ = some (.string a0_13) := (blk_cell BK101.out 13).trans rfl; have hcz3_14 : w2.cell? ⟨gb101, 14, none⟩ = some (.int .u64 a0_14) := (blk_cell BK101.out 14).trans rfl; have hcz3_15 : w2.cell? ⟨gb101, 15, none⟩ = some (.int .u64 a0_15) := (blk_cell BK101.out 15).trans rfl; have hcz3_16 : w2.cell? ⟨gb101, 16, none⟩ = some (.string a0_16) := (blk_cell BK101.out 16).trans rfl; have hcz3_17 : w2.cell? ⟨gb101, 17, none⟩ = some (.int .i64 a0_17) := (blk_cell BK101.out 17).trans rfl; have hcz3_18 : w2.cell? ⟨gb101, 18, none⟩ = some (.int .u32 a0_18) := (blk_cell BK101.out 18).trans rfl; have hcz3_19 : w2.cell? ⟨gb101, 19, none⟩ = some (.int .u64 a0_19) := (blk_cell BK101.out 19).trans rfl; have hcz3_20 : w2.cell? ⟨gb101, 20, none⟩ = some (.int .u64 a0_20) := (blk_cell BK101.out 20).trans rfl; have hcz3_21 : w2.cell? ⟨gb101, 21, none⟩ = some (.int .u64 a0_21) := (blk_cell BK101.out 21).trans rfl; have hcz3_22 : w2.cell? ⟨gb101, 22, none⟩ = some (.int .i64 a0_22) := (blk_cell BK101.out 22).trans rfl; have hcz3_23 : w2.cell? ⟨gb101, 23, none⟩ = some (.int .u32 a0_23) := (blk_cell BK101.out 23).trans rfl; have hcz3_24 : w2.cell? ⟨gb101, 24, none⟩ = some (.int .u64 a0_24) := (blk_cell BK101.out 24).trans rfl; have hcz3_25 : w2.cell? ⟨gb101, 25, none⟩ = some (.int .u64 a0_25) := (blk_cell BK101.out 25).trans rfl; have hcz3_26 : w2.cell? ⟨gb101, 26, none⟩ = some (.string a0_26) := (blk_cell BK101.out 26).trans rfl; have hcz3_27 : w2.cell? ⟨gb101, 27, none⟩ = some (.bool a0_27) := (blk_cell BK101.out 27).trans rfl; have hcz3_28 : w2.cell? ⟨gb101, 28, none⟩ = some (.int .u64 a0_28) := (blk_cell BK101.out 28).trans rfl; have hcz3_29 : w2.cell? ⟨gb101, 29, none⟩ = some (.slice A0_29 l0_29.length c0_29) := (blk_cell BK101.out 29).trans rfl; have hcz3_30 : w2.cell? ⟨gb101, 30, none⟩ = some (.int .u64 a0_30) := (blk_cell BK101.out 30).trans rfl; have hcz3_31 : w2.cell? ⟨gb101, 31, none⟩ = some (.int .u64 a0_31) := (blk_cell BK101.out 31).trans rfl; have hcz3_32 : w2.cell? ⟨gb101, 32, none⟩ = some (.int .u64 a0_32) := (blk_cell BK101.out 32).trans rfl; have hfz3_0 := blk_frozen BK101.out 0; have hfz3_1 := blk_frozen BK101.out 1; have hfz3_2 := blk_frozen BK101.out 2; have hfz3_3 := blk_frozen BK101.out 3; have hfz3_4 := blk_frozen BK101.out 4; have hfz3_5 := blk_frozen BK101.out 5; have hfz3_6 := blk_frozen BK101.out 6; have hfz3_7 := blk_frozen BK101.out 7; have hfz3_8 := blk_frozen BK101.out 8; have hfz3_9 := blk_frozen BK101.out 9; have hfz3_10 := blk_frozen BK101.out 10; have hfz3_11 := blk_frozen BK101.out 11; have hfz3_12 := blk_frozen BK101.out 12; have hfz3_13 := blk_frozen BK101.out 13; have hfz3_14 := blk_frozen BK101.out 14; have hfz3_15 := blk_frozen BK101.out 15; have hfz3_16 := blk_frozen BK101.out 16; have hfz3_17 := blk_frozen BK101.out 17; have hfz3_18 := blk_frozen BK101.out 18; have hfz3_19 := blk_frozen BK101.out 19; have hfz3_20 := blk_frozen BK101.out 20; have hfz3_21 := blk_frozen BK101.out 21; have hfz3_22 := blk_frozen BK101.out 22; have hfz3_23 := blk_frozen BK101.out 23; have hfz3_24 := blk_frozen BK101.out 24; have hfz3_25 := blk_frozen BK101.out 25; have hfz3_26 := blk_frozen BK101.out 26; have hfz3_27 := blk_frozen BK101.out 27; have hfz3_28 := blk_frozen BK101.out 28; have hfz3_29 := blk_frozen BK101.out 29; have hfz3_30 := blk_frozen BK101.out 30; have hfz3_31 := blk_frozen BK101.out 31; have hfz3_32 := blk_frozen BK101.out 32) | ((with_reducible refine gate_dst (N := 18) rfl ?_); refine Kd.R_lit Kd.string _ 9 ?hg (N := 18) ?hd (xs := ([a0_12, a0_13, a0_16, a0_26] : List ByteArray)) (inner := [.string a0_12, .string a0_13, .string a0_16, .string a0_26]) (ok := fun _ => True) (okp := fun _ => True) ?hr ?hp (fun _ hk => hk) trivial (Below.refl _ _) (Nat.le_refl _) (by simp) ?_; (case hd => rfl); (case hg => rfl); (case hr => first | (go_simp; done) | (go_simp; rfl)); (case hp => exact (Reps.one (show Kd.M Kd.string _ _ _ a0_12 [.string a0_12] from rfl) (Reps.one (show Kd.M Kd.string _ _ _ a0_13 [.string a0_13] from rfl) (Reps.one (show Kd.M Kd.string _ _ _ a0_16 [.string a0_16] from rfl) (Reps.one (show Kd.M Kd.string _ _ _ a0_26 [.string a0_26] from rfl) (Reps.none _ _)))))); intro v103 w4 ho5 hb hg_ hnew_; clear hg_ hnew_; (first | rw [← Ny102.out] at ho5 | (simp only [Int.reduceToNat] at ho5; rw [← Ny102.out] at ho5)); have n0_ := Aside0.mk (Kd.R_lower ho5 (below_size (by repeat (first | (with_reducible first | exact HB.out | apply below_alloc | apply pw_below_drewN | apply below_drew1 | refine below_set ?_ GE101.out) | exact HB.out)))); have n1_ := Aside0.mk (blk_below (g := gb101) (o := .cells #[.int .i64 a0_0, .int .u32 a0_1, .int .u64 a0_2, .int .i64 a0_3, .int .u32 a0_4, .int .u64 a0_5, .int .u64 a0_6, .int .u64 a0_7, .int .u32 a0_8, .int .u64 a0_9, .int .u64 a0_10, .int .u64 a0_11, .string a0_12, .string a0_13, .int .u64 a0_14, .int .u64 a0_15, .string a0_16, .int .i64 a0_17, .int .u32 a0_18, .int .u64 a0_19, .int .u64 a0_20, .int .u64 a0_21, .int .i64 a0_22, .int .u32 a0_23, .int .u64 a0_24, .int .u64 a0_25, .string a0_26, .bool a0_27, .int .u64 a0_28, .slice A0_29 l0_29.length c0_29, .int .u64 a0_30, .int .u64 a0_31, .int .u64 a0_32] 36 (0, 0)) (by (with_reducible repeat (first | refine blk_drewN ?_ _ | refine blk_drew ?_ | refine blk_alloc ?_ _)); exact BK101.out) hb); have n2_ := Aside0.mk (below_step (by repeat (first | (with_reducible first | exact HB.out | apply below_alloc | apply pw_below_drewN | apply below_drew1 | refine below_set ?_ GE101.out) | exact HB.out)) hb); clear BK101; clear HB; have HO104 := n0_; have BK101 := n1_; have HB := n2_; clear n0_ n1_ n2_; clear hb ho5))
  go_loopg [3, 4] k (fun kq v3 v4 w' => ∃ (x3_1 : List ByteArray) (x4_1 : Int), v4 = .int .i64 x4_1 ∧ Aside0 (holtref22_long.l0 kq x3_1 x4_1 a0_0 a0_1 a0_2 a0_3 a0_4 a0_5 a0_6 a0_7 a0_8 a0_9 a0_10 a0_11 a0_12 a0_13 a0_14 a0_15 a0_16 a0_17 a0_18 a0_19 a0_20 a0_21 a0_22 a0_23 a0_24 a0_25 a0_26 a0_27 a0_28 l0_29 a0_30 a0_31 a0_32 = some r) ∧ Aside0 (kq ≤ k) ∧ Aside0 (Kd.R Kd.string 9 w' w.heap.size (fun _ => True) v3 x3_1) ∧ Aside0 (w'.heap[gb101]? = some (.cells #[.int .i64 a0_0, .int .u32 a0_1, .int .u64 a0_2, .int .i64 a0_3, .int .u32 a0_4, .int .u64 a0_5, .int .u64 a0_6, .int .u64 a0_7, .int .u32 a0_8, .int .u64 a0_9, .int .u64 a0_10, .int .u64 a0_11, .string a0_12, .string a0_13, .int .u64 a0_14, .int .u64 a0_15, .string a0_16, .int .i64 a0_17, .int .u32 a0_18, .int .u64 a0_19, .int .u64 a0_20, .int .u64 a0_21, .int .i64 a0_22, .int .u32 a0_23, .int .u64 a0_24, .int .u64 a0_25, .string a0_26, .bool a0_27, .int .u64 a0_28, (.slice A0_29 l0_29.length c0_29), .int .u64 a0_30, .int .u64 a0_31, .int .u64 a0_32] 36 (0, 0))) ∧ Aside0 (Below w.heap.size w w'))
  case atStart => exact ⟨(y102), (0), (by first | rfl | (simp; done) | (simp [*]; done)), H', ⟨Nat.le_refl _⟩, ⟨by (with_reducible repeat (first | apply Kd.R_alloc | apply Kd.R_drewN | apply Kd.R_drew)); exact HO104.out⟩, ⟨by (with_reducible repeat (first | refine blk_drewN ?_ _ | refine blk_drew ?_ | refine blk_alloc ?_ _)); exact BK101.out⟩, ⟨by repeat (first | (with_reducible first | exact HB.out | apply below_alloc | apply pw_below_drewN | apply below_drew1 | refine below_set ?_ GE101.out) | exact HB.out)⟩⟩
  case round =>
    clear H'
    try clear p2
    try clear c3
    try clear hcz3_0
    try clear hcz3_1
    try clear hcz3_10
    try clear hcz3_11
    try clear hcz3_12
    try clear hcz3_13
    try clear hcz3_14
    try clear hcz3_15
    try clear hcz3_16
    try clear hcz3_17
    try clear hcz3_18
    try clear hcz3_19
    try clear hcz3_2
    try clear hcz3_20
    try clear hcz3_21
    try clear hcz3_22
    try clear hcz3_23
    try clear hcz3_24
    try clear hcz3_25
    try clear hcz3_26
    try clear hcz3_27
    try clear hcz3_28
    try clear hcz3_29
    try clear hcz3_3
    try clear hcz3_30
    try clear hcz3_31
    try clear hcz3_32
    try clear hcz3_4
    try clear hcz3_5
    try clear hcz3_6
    try clear hcz3_7
    try clear hcz3_8
    try clear hcz3_9
    try clear hfz3_0
    try clear hfz3_1
    try clear hfz3_10
    try clear hfz3_11
    try clear hfz3_12
    try clear hfz3_13
    try clear hfz3_14
    try clear hfz3_15
    try clear hfz3_16
    try clear hfz3_17
    try clear hfz3_18
    try clear hfz3_19
    try clear hfz3_2
    try clear hfz3_20
    try clear hfz3_21
    try clear hfz3_22
    try clear hfz3_23
    try clear hfz3_24
    try clear hfz3_25
    try clear hfz3_26
    try clear hfz3_27
    try clear hfz3_28
    try clear hfz3_29
    try clear hfz3_3
    try clear hfz3_30
    try clear hfz3_31
    try clear hfz3_32
    try clear hfz3_4
    try clear hfz3_5
    try clear hfz3_6
    try clear hfz3_7
    try clear hfz3_8
    try clear hfz3_9
    obtain ⟨x3_1, x4_1, rfl, HA, HK1, HO_3, BK101, HB⟩ := hrel
    cases gk with
    | zero => exact absurd HA.out (by simp [holtref22_long.l0])
    | succ k1 =>
      have H := HA.out
      clear HA
      simp only [holtref22_long.l0] at H
      by_cases c6 : x4_1 < (l0_29.length : Int)
      · rw [if_pos c6] at H
        have c6b0 : decide (x4_1 < (l0_29.length : Int)) = true := decide_eq_true c6
        clear c6
        by_cases c7 : 0 ≤ x4_1
        · rw [if_pos c7] at H
          have c7b0 : decide (0 ≤ x4_1) = true := decide_eq_true c7
          clear c7
          by_cases c8 : x3_1.length < 8796093022208
          · rw [if_pos c8] at H
            have LMc8 := Aside0.mk c8
            clear c8
            obtain ⟨y106, hy106⟩ : ∃ y_ : List ByteArray, y_ = (x3_1 ++ [(rd_T99 l0_29 x4_1).f0]) := ⟨_, rfl⟩
            replace H : (holtref22_long.l0 k1 y106 (wrap64 (x4_1 + 1)) a0_0 a0_1 a0_2 a0_3 a0_4 a0_5 a0_6 a0_7 a0_8 a0_9 a0_10 a0_11 a0_12 a0_13 a0_14 a0_15 a0_16 a0_17 a0_18 a0_19 a0_20 a0_21 a0_22 a0_23 a0_24 a0_25 a0_26 a0_27 a0_28 l0_29 a0_30 a0_31 a0_32) = some r := by first | (rw [hy106]; with_reducible exact H) | (have H2_ := (Option.bind_some _ _).symm.trans H; rw [hy106]; with_reducible exact H2_) | (have H2_ := (Option.bind_some _ _).symm.trans H; with_reducible exact H2_) | with_reducible exact H | (rw [hy106]; exact H) | exact H
            have Ny106 := Aside0.mk hy106
            clear hy106
            have H' := Aside0.mk H
            clear H
            have hcz9_0 : wr.cell? ⟨gb101, 0, none⟩ = some (.int .i64 a0_0) := (blk_cell BK101.out 0).trans rfl
            have hcz9_1 : wr.cell? ⟨gb101, 1, none⟩ = some (.int .u32 a0_1) := (blk_cell BK101.out 1).trans rfl
            have hcz9_2 : wr.cell? ⟨gb101, 2, none⟩ = some (.int .u64 a0_2) := (blk_cell BK101.out 2).trans rfl
            have hcz9_3 : wr.cell? ⟨gb101, 3, none⟩ = some (.int .i64 a0_3) := (blk_cell BK101.out 3).trans rfl
            have hcz9_4 : wr.cell? ⟨gb101, 4, none⟩ = some (.int .u32 a0_4) := (blk_cell BK101.out 4).trans rfl
            have hcz9_5 : wr.cell? ⟨gb101, 5, none⟩ = some (.int .u64 a0_5) := (blk_cell BK101.out 5).trans rfl
            have hcz9_6 : wr.cell? ⟨gb101, 6, none⟩ = some (.int .u64 a0_6) := (blk_cell BK101.out 6).trans rfl
            have hcz9_7 : wr.cell? ⟨gb101, 7, none⟩ = some (.int .u64 a0_7) := (blk_cell BK101.out 7).trans rfl
            have hcz9_8 : wr.cell? ⟨gb101, 8, none⟩ = some (.int .u32 a0_8) := (blk_cell BK101.out 8).trans rfl
            have hcz9_9 : wr.cell? ⟨gb101, 9, none⟩ = some (.int .u64 a0_9) := (blk_cell BK101.out 9).trans rfl
            have hcz9_10 : wr.cell? ⟨gb101, 10, none⟩ = some (.int .u64 a0_10) := (blk_cell BK101.out 10).trans rfl
            have hcz9_11 : wr.cell? ⟨gb101, 11, none⟩ = some (.int .u64 a0_11) := (blk_cell BK101.out 11).trans rfl
            have hcz9_12 : wr.cell? ⟨gb101, 12, none⟩ = some (.string a0_12) := (blk_cell BK101.out 12).trans rfl
            have hcz9_13 : wr.cell? ⟨gb101, 13, none⟩ = some (.string a0_13) := (blk_cell BK101.out 13).trans rfl
            have hcz9_14 : wr.cell? ⟨gb101, 14, none⟩ = some (.int .u64 a0_14) := (blk_cell BK101.out 14).trans rfl
            have hcz9_15 : wr.cell? ⟨gb101, 15, none⟩ = some (.int .u64 a0_15) := (blk_cell BK101.out 15).trans rfl
            have hcz9_16 : wr.cell? ⟨gb101, 16, none⟩ = some (.string a0_16) := (blk_cell BK101.out 16).trans rfl
            have hcz9_17 : wr.cell? ⟨gb101, 17, none⟩ = some (.int .i64 a0_17) := (blk_cell BK101.out 17).trans rfl
            have hcz9_18 : wr.cell? ⟨gb101, 18, none⟩ = some (.int .u32 a0_18) := (blk_cell BK101.out 18).trans rfl
            have hcz9_19 : wr.cell? ⟨gb101, 19, none⟩ = some (.int .u64 a0_19) := (blk_cell BK101.out 19).trans rfl
            have hcz9_20 : wr.cell? ⟨gb101, 20, none⟩ = some (.int .u64 a0_20) := (blk_cell BK101.out 20).trans rfl
            have hcz9_21 : wr.cell? ⟨gb101, 21, none⟩ = some (.int .u64 a0_21) := (blk_cell BK101.out 21).trans rfl
            have hcz9_22 : wr.cell? ⟨gb101, 22, none⟩ = some (.int .i64 a0_22) := (blk_cell BK101.out 22).trans rfl
            have hcz9_23 : wr.cell? ⟨gb101, 23, none⟩ = some (.int .u32 a0_23) := (blk_cell BK101.out 23).trans rfl
            have hcz9_24 : wr.cell? ⟨gb101, 24, none⟩ = some (.int .u64 a0_24) := (blk_cell BK101.out 24).trans rfl
            have hcz9_25 : wr.cell? ⟨gb101, 25, none⟩ = some (.int .u64 a0_25) := (blk_cell BK101.out 25).trans rfl
            have hcz9_26 : wr.cell? ⟨gb101, 26, none⟩ = some (.string a0_26) := (blk_cell BK101.out 26).trans rfl
            have hcz9_27 : wr.cell? ⟨gb101, 27, none⟩ = some (.bool a0_27) := (blk_cell BK101.out 27).trans rfl
            have hcz9_28 : wr.cell? ⟨gb101, 28, none⟩ = some (.int .u64 a0_28) := (blk_cell BK101.out 28).trans rfl
            have hcz9_29 : wr.cell? ⟨gb101, 29, none⟩ = some (.slice A0_29 l0_29.length c0_29) := (blk_cell BK101.out 29).trans rfl
            have hcz9_30 : wr.cell? ⟨gb101, 30, none⟩ = some (.int .u64 a0_30) := (blk_cell BK101.out 30).trans rfl
            have hcz9_31 : wr.cell? ⟨gb101, 31, none⟩ = some (.int .u64 a0_31) := (blk_cell BK101.out 31).trans rfl
            have hcz9_32 : wr.cell? ⟨gb101, 32, none⟩ = some (.int .u64 a0_32) := (blk_cell BK101.out 32).trans rfl
            have hfz9_0 := blk_frozen BK101.out 0
            have hfz9_1 := blk_frozen BK101.out 1
            have hfz9_2 := blk_frozen BK101.out 2
            have hfz9_3 := blk_frozen BK101.out 3
            have hfz9_4 := blk_frozen BK101.out 4
            have hfz9_5 := blk_frozen BK101.out 5
            have hfz9_6 := blk_frozen BK101.out 6
            have hfz9_7 := blk_frozen BK101.out 7
            have hfz9_8 := blk_frozen BK101.out 8
            have hfz9_9 := blk_frozen BK101.out 9
            have hfz9_10 := blk_frozen BK101.out 10
            have hfz9_11 := blk_frozen BK101.out 11
            have hfz9_12 := blk_frozen BK101.out 12
            have hfz9_13 := blk_frozen BK101.out 13
            have hfz9_14 := blk_frozen BK101.out 14
            have hfz9_15 := blk_frozen BK101.out 15
            have hfz9_16 := blk_frozen BK101.out 16
            have hfz9_17 := blk_frozen BK101.out 17
            have hfz9_18 := blk_frozen BK101.out 18
            have hfz9_19 := blk_frozen BK101.out 19
            have hfz9_20 := blk_frozen BK101.out 20
            have hfz9_21 := blk_frozen BK101.out 21
            have hfz9_22 := blk_frozen BK101.out 22
            have hfz9_23 := blk_frozen BK101.out 23
            have hfz9_24 := blk_frozen BK101.out 24
            have hfz9_25 := blk_frozen BK101.out 25
            have hfz9_26 := blk_frozen BK101.out 26
            have hfz9_27 := blk_frozen BK101.out 27
            have hfz9_28 := blk_frozen BK101.out 28
            have hfz9_29 := blk_frozen BK101.out 29
            have hfz9_30 := blk_frozen BK101.out 30
            have hfz9_31 := blk_frozen BK101.out 31
            have hfz9_32 := blk_frozen BK101.out 32
            have p105 : 0 ≤ (x4_1 : Int) := of_decide_eq_true (by first | (with_reducible assumption) | assumption)
            have q105 : x4_1 < (l0_29.length : Int) := of_decide_eq_true (by first | (with_reducible assumption) | assumption)
            obtain ⟨ad105, e105, hx105_0, hx105_1, hx105_2⟩ := at_T99 HR0_29.out x4_1 p105 q105
            cases e105
            replace hx105_0 := (HB.out.cell (World.block_lt_of_cell? w _ hx105_0)).trans hx105_0
            replace hx105_1 := (HB.out.cell (World.block_lt_of_cell? w _ hx105_1)).trans hx105_1
            replace hx105_2 := (HB.out.cell (World.block_lt_of_cell? w _ hx105_2)).trans hx105_2
            replace p105 := eq_true p105
            replace q105 := eq_true q105
            go_wp2_with (first | ((with_reducible refine gate_builtin (b := .append) (xs := #[.tmp 27, .tmp 35]) rfl ?_); at_builtin; refine Kd.R_append Kd.string (w0 := w) w.heap.size rfl (.tmp 27) (.tmp 35) 101 9 (.string ⟨#[]⟩) 16 rfl Try.underlying101 info9 rfl (by decide) (by omega) u3 x3_1 ((rd_T99 l0_29 x4_1).f0) [.string ((rd_T99 l0_29 x4_1).f0)] (fun _ => True) (fun _ => False) rfl rfl ?aP (fun _ hk => hk.elim) ?aF ?aO ?aB ?aS ?aL ?_; (case aP => exact rfl); (case aB => exact (by repeat (first | (with_reducible first | exact HB.out | apply below_alloc | apply pw_below_drewN | apply below_drew1 | refine below_set ?_ GE101.out) | exact HB.out))); (case aF => exact (fun _ _ => trivial)); (case aO => exact (by (with_reducible repeat (first | apply Kd.R_alloc | apply Kd.R_drewN | apply Kd.R_drew)); exact HO_3.out)); (case aS => exact (below_size (by repeat (first | (with_reducible first | exact HB.out | apply below_alloc | apply pw_below_drewN | apply below_drew1 | refine below_set ?_ GE101.out) | exact HB.out)))); (case aL => have := LMc8.out; omega); intro v107 w10 ho hb hg hat; rw [← Ny106.out] at ho; have n0_ := Aside0.mk (blk_grown (g := gb101) (o := .cells #[.int .i64 a0_0, .int .u32 a0_1, .int .u64 a0_2, .int .i64 a0_3, .int .u32 a0_4, .int .u64 a0_5, .int .u64 a0_6, .int .u64 a0_7, .int .u32 a0_8, .int .u64 a0_9, .int .u64 a0_10, .int .u64 a0_11, .string a0_12, .string a0_13, .int .u64 a0_14, .int .u64 a0_15, .string a0_16, .int .i64 a0_17, .int .u32 a0_18, .int .u64 a0_19, .int .u64 a0_20, .int .u64 a0_21, .int .i64 a0_22, .int .u32 a0_23, .int .u64 a0_24, .int .u64 a0_25, .string a0_26, .bool a0_27, .int .u64 a0_28, .slice (some ad105) l0_29.length c0_29, .int .u64 a0_30, .int .u64 a0_31, .int .u64 a0_32] 36 (0, 0)) (by (with_reducible repeat (first | refine blk_drewN ?_ _ | refine blk_drew ?_ | refine blk_alloc ?_ _)); exact BK101.out) hg (Kd.R_ne HO_3.out BK101.out (by decide))); have n1_ := Aside0.mk (hb); have n2_ := Aside0.mk (ho); clear BK101; clear HB; clear HO_3; have BK101 := n0_; have HB := n1_; have HO108 := n2_; clear n0_ n1_ n2_; clear ho hb hg hat))
            go_roundg k1
            case measure => have := HK1.out; omega
            case rel => exact ⟨(y106), (wrap64 (x4_1 + 1)), (by first | rfl | (simp; done) | (simp [*]; done)), H', ⟨by have := HK1.out; omega⟩, ⟨by (with_reducible repeat (first | apply Kd.R_alloc | apply Kd.R_drewN | apply Kd.R_drew)); exact HO108.out⟩, ⟨by (with_reducible repeat (first | refine blk_drewN ?_ _ | refine blk_drew ?_ | refine blk_alloc ?_ _)); exact BK101.out⟩, ⟨by repeat (first | (with_reducible first | exact HB.out | apply below_alloc | apply pw_below_drewN | apply below_drew1 | refine below_set ?_ GE101.out) | exact HB.out)⟩⟩
          · rw [if_neg c8] at H
            exact absurd H (by simp)
        · rw [if_neg c7] at H
          exact absurd H (by simp)
      · rw [if_neg c6] at H
        have c6b0 : decide (x4_1 < (l0_29.length : Int)) = false := decide_eq_false c6
        clear c6
        have H' := Aside0.mk H
        clear H
        have hcz11_0 : wr.cell? ⟨gb101, 0, none⟩ = some (.int .i64 a0_0) := (blk_cell BK101.out 0).trans rfl
        have hcz11_1 : wr.cell? ⟨gb101, 1, none⟩ = some (.int .u32 a0_1) := (blk_cell BK101.out 1).trans rfl
        have hcz11_2 : wr.cell? ⟨gb101, 2, none⟩ = some (.int .u64 a0_2) := (blk_cell BK101.out 2).trans rfl
        have hcz11_3 : wr.cell? ⟨gb101, 3, none⟩ = some (.int .i64 a0_3) := (blk_cell BK101.out 3).trans rfl
        have hcz11_4 : wr.cell? ⟨gb101, 4, none⟩ = some (.int .u32 a0_4) := (blk_cell BK101.out 4).trans rfl
        have hcz11_5 : wr.cell? ⟨gb101, 5, none⟩ = some (.int .u64 a0_5) := (blk_cell BK101.out 5).trans rfl
        have hcz11_6 : wr.cell? ⟨gb101, 6, none⟩ = some (.int .u64 a0_6) := (blk_cell BK101.out 6).trans rfl
        have hcz11_7 : wr.cell? ⟨gb101, 7, none⟩ = some (.int .u64 a0_7) := (blk_cell BK101.out 7).trans rfl
        have hcz11_8 : wr.cell? ⟨gb101, 8, none⟩ = some (.int .u32 a0_8) := (blk_cell BK101.out 8).trans rfl
        have hcz11_9 : wr.cell? ⟨gb101, 9, none⟩ = some (.int .u64 a0_9) := (blk_cell BK101.out 9).trans rfl
        have hcz11_10 : wr.cell? ⟨gb101, 10, none⟩ = some (.int .u64 a0_10) := (blk_cell BK101.out 10).trans rfl
        have hcz11_11 : wr.cell? ⟨gb101, 11, none⟩ = some (.int .u64 a0_11) := (blk_cell BK101.out 11).trans rfl
        have hcz11_12 : wr.cell? ⟨gb101, 12, none⟩ = some (.string a0_12) := (blk_cell BK101.out 12).trans rfl
        have hcz11_13 : wr.cell? ⟨gb101, 13, none⟩ = some (.string a0_13) := (blk_cell BK101.out 13).trans rfl
        have hcz11_14 : wr.cell? ⟨gb101, 14, none⟩ = some (.int .u64 a0_14) := (blk_cell BK101.out 14).trans rfl
        have hcz11_15 : wr.cell? ⟨gb101, 15, none⟩ = some (.int .u64 a0_15) := (blk_cell BK101.out 15).trans rfl
        have hcz11_16 : wr.cell? ⟨gb101, 16, none⟩ = some (.string a0_16) := (blk_cell BK101.out 16).trans rfl
        have hcz11_17 : wr.cell? ⟨gb101, 17, none⟩ = some (.int .i64 a0_17) := (blk_cell BK101.out 17).trans rfl
        have hcz11_18 : wr.cell? ⟨gb101, 18, none⟩ = some (.int .u32 a0_18) := (blk_cell BK101.out 18).trans rfl
        have hcz11_19 : wr.cell? ⟨gb101, 19, none⟩ = some (.int .u64 a0_19) := (blk_cell BK101.out 19).trans rfl
        have hcz11_20 : wr.cell? ⟨gb101, 20, none⟩ = some (.int .u64 a0_20) := (blk_cell BK101.out 20).trans rfl
        have hcz11_21 : wr.cell? ⟨gb101, 21, none⟩ = some (.int .u64 a0_21) := (blk_cell BK101.out 21).trans rfl
        have hcz11_22 : wr.cell? ⟨gb101, 22, none⟩ = some (.int .i64 a0_22) := (blk_cell BK101.out 22).trans rfl
        have hcz11_23 : wr.cell? ⟨gb101, 23, none⟩ = some (.int .u32 a0_23) := (blk_cell BK101.out 23).trans rfl
        have hcz11_24 : wr.cell? ⟨gb101, 24, none⟩ = some (.int .u64 a0_24) := (blk_cell BK101.out 24).trans rfl
        have hcz11_25 : wr.cell? ⟨gb101, 25, none⟩ = some (.int .u64 a0_25) := (blk_cell BK101.out 25).trans rfl
        have hcz11_26 : wr.cell? ⟨gb101, 26, none⟩ = some (.string a0_26) := (blk_cell BK101.out 26).trans rfl
        have hcz11_27 : wr.cell? ⟨gb101, 27, none⟩ = some (.bool a0_27) := (blk_cell BK101.out 27).trans rfl
        have hcz11_28 : wr.cell? ⟨gb101, 28, none⟩ = some (.int .u64 a0_28) := (blk_cell BK101.out 28).trans rfl
        have hcz11_29 : wr.cell? ⟨gb101, 29, none⟩ = some (.slice A0_29 l0_29.length c0_29) := (blk_cell BK101.out 29).trans rfl
        have hcz11_30 : wr.cell? ⟨gb101, 30, none⟩ = some (.int .u64 a0_30) := (blk_cell BK101.out 30).trans rfl
        have hcz11_31 : wr.cell? ⟨gb101, 31, none⟩ = some (.int .u64 a0_31) := (blk_cell BK101.out 31).trans rfl
        have hcz11_32 : wr.cell? ⟨gb101, 32, none⟩ = some (.int .u64 a0_32) := (blk_cell BK101.out 32).trans rfl
        have hfz11_0 := blk_frozen BK101.out 0
        have hfz11_1 := blk_frozen BK101.out 1
        have hfz11_2 := blk_frozen BK101.out 2
        have hfz11_3 := blk_frozen BK101.out 3
        have hfz11_4 := blk_frozen BK101.out 4
        have hfz11_5 := blk_frozen BK101.out 5
        have hfz11_6 := blk_frozen BK101.out 6
        have hfz11_7 := blk_frozen BK101.out 7
        have hfz11_8 := blk_frozen BK101.out 8
        have hfz11_9 := blk_frozen BK101.out 9
        have hfz11_10 := blk_frozen BK101.out 10
        have hfz11_11 := blk_frozen BK101.out 11
        have hfz11_12 := blk_frozen BK101.out 12
        have hfz11_13 := blk_frozen BK101.out 13
        have hfz11_14 := blk_frozen BK101.out 14
        have hfz11_15 := blk_frozen BK101.out 15
        have hfz11_16 := blk_frozen BK101.out 16
        have hfz11_17 := blk_frozen BK101.out 17
        have hfz11_18 := blk_frozen BK101.out 18
        have hfz11_19 := blk_frozen BK101.out 19
        have hfz11_20 := blk_frozen BK101.out 20
        have hfz11_21 := blk_frozen BK101.out 21
        have hfz11_22 := blk_frozen BK101.out 22
        have hfz11_23 := blk_frozen BK101.out 23
        have hfz11_24 := blk_frozen BK101.out 24
        have hfz11_25 := blk_frozen BK101.out 25
        have hfz11_26 := blk_frozen BK101.out 26
        have hfz11_27 := blk_frozen BK101.out 27
        have hfz11_28 := blk_frozen BK101.out 28
        have hfz11_29 := blk_frozen BK101.out 29
        have hfz11_30 := blk_frozen BK101.out 30
        have hfz11_31 := blk_frozen BK101.out 31
        have hfz11_32 := blk_frozen BK101.out 32
        go_wp2
        go_loopg [5] k1 (fun kq v5 w' => ∃ (x5_2 : Int), v5 = .int .i64 x5_2 ∧ Aside0 (holtref22_long.l1 kq x3_1 x5_2 a0_0 a0_1 a0_2 a0_3 a0_4 a0_5 a0_6 a0_7 a0_8 a0_9 a0_10 a0_11 a0_12 a0_13 a0_14 a0_15 a0_16 a0_17 a0_18 a0_19 a0_20 a0_21 a0_22 a0_23 a0_24 a0_25 a0_26 a0_27 a0_28 l0_29 a0_30 a0_31 a0_32 = some r) ∧ Aside0 (kq ≤ k1) ∧ Aside0 (Kd.R Kd.string 9 w' w.heap.size (fun _ => True) u3 x3_1) ∧ Aside0 (w'.heap[gb101]? = some (.cells #[.int .i64 a0_0, .int .u32 a0_1, .int .u64 a0_2, .int .i64 a0_3, .int .u32 a0_4, .int .u64 a0_5, .int .u64 a0_6, .int .u64 a0_7, .int .u32 a0_8, .int .u64 a0_9, .int .u64 a0_10, .int .u64 a0_11, .string a0_12, .string a0_13, .int .u64 a0_14, .int .u64 a0_15, .string a0_16, .int .i64 a0_17, .int .u32 a0_18, .int .u64 a0_19, .int .u64 a0_20, .int .u64 a0_21, .int .i64 a0_22, .int .u32 a0_23, .int .u64 a0_24, .int .u64 a0_25, .string a0_26, .bool a0_27, .int .u64 a0_28, (.slice A0_29 l0_29.length c0_29), .int .u64 a0_30, .int .u64 a0_31, .int .u64 a0_32] 36 (0, 0))) ∧ Aside0 (Below w.heap.size w w'))
        case atStart => exact ⟨(0), (by first | rfl | (simp; done) | (simp [*]; done)), H', ⟨Nat.le_refl _⟩, ⟨by (with_reducible repeat (first | apply Kd.R_alloc | apply Kd.R_drewN | apply Kd.R_drew)); exact HO_3.out⟩, ⟨by (with_reducible repeat (first | refine blk_drewN ?_ _ | refine blk_drew ?_ | refine blk_alloc ?_ _)); exact BK101.out⟩, ⟨by repeat (first | (with_reducible first | exact HB.out | apply below_alloc | apply pw_below_drewN | apply below_drew1 | refine below_set ?_ GE101.out) | exact HB.out)⟩⟩
        case round =>
          clear H'
          try clear p1
          try clear q1
          try clear hx1
          try clear p2
          try clear c3
          try clear c6
          try clear c6b0
          try clear p6
          try clear c7
          try clear c7b0
          try clear c8
          try clear p10
          try clear q10
          try clear hx10
          try clear hcz11_0
          try clear hcz11_1
          try clear hcz11_10
          try clear hcz11_11
          try clear hcz11_12
          try clear hcz11_13
          try clear hcz11_14
          try clear hcz11_15
          try clear hcz11_16
          try clear hcz11_17
          try clear hcz11_18
          try clear hcz11_19
          try clear hcz11_2
          try clear hcz11_20
          try clear hcz11_21
          try clear hcz11_22
          try clear hcz11_23
          try clear hcz11_24
          try clear hcz11_25
          try clear hcz11_26
          try clear hcz11_27
          try clear hcz11_28
          try clear hcz11_29
          try clear hcz11_3
          try clear hcz11_30
          try clear hcz11_31
          try clear hcz11_32
          try clear hcz11_4
          try clear hcz11_5
          try clear hcz11_6
          try clear hcz11_7
          try clear hcz11_8
          try clear hcz11_9
          try clear hcz3_0
          try clear hcz3_1
          try clear hcz3_10
          try clear hcz3_11
          try clear hcz3_12
          try clear hcz3_13
          try clear hcz3_14
          try clear hcz3_15
          try clear hcz3_16
          try clear hcz3_17
          try clear hcz3_18
          try clear hcz3_19
          try clear hcz3_2
          try clear hcz3_20
          try clear hcz3_21
          try clear hcz3_22
          try clear hcz3_23
          try clear hcz3_24
          try clear hcz3_25
          try clear hcz3_26
          try clear hcz3_27
          try clear hcz3_28
          try clear hcz3_29
          try clear hcz3_3
          try clear hcz3_30
          try clear hcz3_31
          try clear hcz3_32
          try clear hcz3_4
          try clear hcz3_5
          try clear hcz3_6
          try clear hcz3_7
          try clear hcz3_8
          try clear hcz3_9
          try clear hcz9_0
          try clear hcz9_1
          try clear hcz9_10
          try clear hcz9_11
          try clear hcz9_12
          try clear hcz9_13
          try clear hcz9_14
          try clear hcz9_15
          try clear hcz9_16
          try clear hcz9_17
          try clear hcz9_18
          try clear hcz9_19
          try clear hcz9_2
          try clear hcz9_20
          try clear hcz9_21
          try clear hcz9_22
          try clear hcz9_23
          try clear hcz9_24
          try clear hcz9_25
          try clear hcz9_26
          try clear hcz9_27
          try clear hcz9_28
          try clear hcz9_29
          try clear hcz9_3
          try clear hcz9_30
          try clear hcz9_31
          try clear hcz9_32
          try clear hcz9_4
          try clear hcz9_5
          try clear hcz9_6
          try clear hcz9_7
          try clear hcz9_8
          try clear hcz9_9
          try clear hfz11_0
          try clear hfz11_1
          try clear hfz11_10
          try clear hfz11_11
          try clear hfz11_12
          try clear hfz11_13
          try clear hfz11_14
          try clear hfz11_15
          try clear hfz11_16
          try clear hfz11_17
          try clear hfz11_18
          try clear hfz11_19
          try clear hfz11_2
          try clear hfz11_20
          try clear hfz11_21
          try clear hfz11_22
          try clear hfz11_23
          try clear hfz11_24
          try clear hfz11_25
          try clear hfz11_26
          try clear hfz11_27
          try clear hfz11_28
          try clear hfz11_29
          try clear hfz11_3
          try clear hfz11_30
          try clear hfz11_31
          try clear hfz11_32
          try clear hfz11_4
          try clear hfz11_5
          try clear hfz11_6
          try clear hfz11_7
          try clear hfz11_8
          try clear hfz11_9
          try clear hfz3_0
          try clear hfz3_1
          try clear hfz3_10
          try clear hfz3_11
          try clear hfz3_12
          try clear hfz3_13
          try clear hfz3_14
          try clear hfz3_15
          try clear hfz3_16
          try clear hfz3_17
          try clear hfz3_18
          try clear hfz3_19
          try clear hfz3_2
          try clear hfz3_20
          try clear hfz3_21
          try clear hfz3_22
          try clear hfz3_23
          try clear hfz3_24
          try clear hfz3_25
          try clear hfz3_26
          try clear hfz3_27
          try clear hfz3_28
          try clear hfz3_29
          try clear hfz3_3
          try clear hfz3_30
          try clear hfz3_31
          try clear hfz3_32
          try clear hfz3_4
          try clear hfz3_5
          try clear hfz3_6
          try clear hfz3_7
          try clear hfz3_8
          try clear hfz3_9
          try clear hfz9_0
          try clear hfz9_1
          try clear hfz9_10
          try clear hfz9_11
          try clear hfz9_12
          try clear hfz9_13
          try clear hfz9_14
          try clear hfz9_15
          try clear hfz9_16
          try clear hfz9_17
          try clear hfz9_18
          try clear hfz9_19
          try clear hfz9_2
          try clear hfz9_20
          try clear hfz9_21
          try clear hfz9_22
          try clear hfz9_23
          try clear hfz9_24
          try clear hfz9_25
          try clear hfz9_26
          try clear hfz9_27
          try clear hfz9_28
          try clear hfz9_29
          try clear hfz9_3
          try clear hfz9_30
          try clear hfz9_31
          try clear hfz9_32
          try clear hfz9_4
          try clear hfz9_5
          try clear hfz9_6
          try clear hfz9_7
          try clear hfz9_8
          try clear hfz9_9
          try clear hx105_0
          try clear hx105_1
          try clear hx105_2
          try clear p105
          try clear p2
          try clear q105
          obtain ⟨x5_2, rfl, HA, HK2, HO_3, BK101, HB⟩ := hrel
          cases gk with
          | zero => exact absurd HA.out (by simp [holtref22_long.l1])
          | succ k2 =>
            have H := HA.out
            clear HA
            simp only [holtref22_long.l1] at H
            by_cases c12 : x5_2 < (x3_1.length : Int)
            · rw [if_pos c12] at H
              have c12b0 : decide (x5_2 < (x3_1.length : Int)) = true := decide_eq_true c12
              clear c12
              by_cases c13 : 0 ≤ x5_2
              · rw [if_pos c13] at H
                have c13b0 : decide (0 ≤ x5_2) = true := decide_eq_true c13
                clear c13
                by_cases c14 : ((rdOf ByteArray.empty x3_1 x5_2).size : Int) > 4096
                · rw [if_pos c14] at H
                  have c14b0 : decide (4096 < ((rdOf ByteArray.empty x3_1 x5_2).size : Int)) = true := decide_eq_true c14
                  have c14b1 : decide (4096 < (rdOf ByteArray.empty x3_1 x5_2).size) = true := decide_eq_true (by omega)
                  clear c14
                  obtain rfl := Option.some.inj H
                  obtain ⟨Ao15, co15, eo15⟩ := Kd.R_slice HO_3.out
                  subst eo15
                  have p109 : 0 ≤ (x5_2 : Int) := of_decide_eq_true (by first | (with_reducible assumption) | assumption)
                  have q109 : x5_2 < (x3_1.length : Int) := of_decide_eq_true (by first | (with_reducible assumption) | assumption)
                  obtain ⟨ad109, e109, hx109_0⟩ := Kd.at_string (Kd.R_reads' HO_3.out).2.2 x5_2 p109 q109
                  cases e109
                  replace p109 := eq_true p109
                  replace q109 := eq_true q109
                  go_wp2
                  go_ret
                  exact ⟨by first | rfl | (simp [errW_none, errW_some] <;> rfl) | (simp [*, errW_none, errW_some] <;> rfl), by repeat (first | (with_reducible first | exact HB.out | apply below_alloc | apply pw_below_drewN | apply below_drew1 | refine below_set ?_ GE101.out) | exact HB.out)⟩
                · rw [if_neg c14] at H
                  have c14b0 : decide (4096 < ((rdOf ByteArray.empty x3_1 x5_2).size : Int)) = false := decide_eq_false c14
                  have c14b1 : decide (4096 < (rdOf ByteArray.empty x3_1 x5_2).size) = false := decide_eq_false (by omega)
                  clear c14
                  have H' := Aside0.mk H
                  clear H
                  obtain ⟨Ao16, co16, eo16⟩ := Kd.R_slice HO_3.out
                  subst eo16
                  have p109 : 0 ≤ (x5_2 : Int) := of_decide_eq_true (by first | (with_reducible assumption) | assumption)
                  have q109 : x5_2 < (x3_1.length : Int) := of_decide_eq_true (by first | (with_reducible assumption) | assumption)
                  obtain ⟨ad109, e109, hx109_0⟩ := Kd.at_string (Kd.R_reads' HO_3.out).2.2 x5_2 p109 q109
                  cases e109
                  replace p109 := eq_true p109
                  replace q109 := eq_true q109
                  go_wp2
                  go_roundg k2
                  case measure => have := HK1.out; have := HK2.out; omega
                  case rel => exact ⟨(wrap64 (x5_2 + 1)), (by first | rfl | (simp; done) | (simp [*]; done)), H', ⟨by have := HK1.out; have := HK2.out; omega⟩, ⟨by (with_reducible repeat (first | apply Kd.R_alloc | apply Kd.R_drewN | apply Kd.R_drew)); exact HO_3.out⟩, ⟨by (with_reducible repeat (first | refine blk_drewN ?_ _ | refine blk_drew ?_ | refine blk_alloc ?_ _)); exact BK101.out⟩, ⟨by repeat (first | (with_reducible first | exact HB.out | apply below_alloc | apply pw_below_drewN | apply below_drew1 | refine below_set ?_ GE101.out) | exact HB.out)⟩⟩
              · rw [if_neg c13] at H
                exact absurd H (by simp)
            · rw [if_neg c12] at H
              have c12b0 : decide (x5_2 < (x3_1.length : Int)) = false := decide_eq_false c12
              clear c12
              obtain rfl := Option.some.inj H
              obtain ⟨Ao17, co17, eo17⟩ := Kd.R_slice HO_3.out
              subst eo17
              have hcz18_0 : wr.cell? ⟨gb101, 0, none⟩ = some (.int .i64 a0_0) := (blk_cell BK101.out 0).trans rfl
              have hcz18_1 : wr.cell? ⟨gb101, 1, none⟩ = some (.int .u32 a0_1) := (blk_cell BK101.out 1).trans rfl
              have hcz18_2 : wr.cell? ⟨gb101, 2, none⟩ = some (.int .u64 a0_2) := (blk_cell BK101.out 2).trans rfl
              have hcz18_3 : wr.cell? ⟨gb101, 3, none⟩ = some (.int .i64 a0_3) := (blk_cell BK101.out 3).trans rfl
              have hcz18_4 : wr.cell? ⟨gb101, 4, none⟩ = some (.int .u32 a0_4) := (blk_cell BK101.out 4).trans rfl
              have hcz18_5 : wr.cell? ⟨gb101, 5, none⟩ = some (.int .u64 a0_5) := (blk_cell BK101.out 5).trans rfl
              have hcz18_6 : wr.cell? ⟨gb101, 6, none⟩ = some (.int .u64 a0_6) := (blk_cell BK101.out 6).trans rfl
              have hcz18_7 : wr.cell? ⟨gb101, 7, none⟩ = some (.int .u64 a0_7) := (blk_cell BK101.out 7).trans rfl
              have hcz18_8 : wr.cell? ⟨gb101, 8, none⟩ = some (.int .u32 a0_8) := (blk_cell BK101.out 8).trans rfl
              have hcz18_9 : wr.cell? ⟨gb101, 9, none⟩ = some (.int .u64 a0_9) := (blk_cell BK101.out 9).trans rfl
              have hcz18_10 : wr.cell? ⟨gb101, 10, none⟩ = some (.int .u64 a0_10) := (blk_cell BK101.out 10).trans rfl
              have hcz18_11 : wr.cell? ⟨gb101, 11, none⟩ = some (.int .u64 a0_11) := (blk_cell BK101.out 11).trans rfl
              have hcz18_12 : wr.cell? ⟨gb101, 12, none⟩ = some (.string a0_12) := (blk_cell BK101.out 12).trans rfl
              have hcz18_13 : wr.cell? ⟨gb101, 13, none⟩ = some (.string a0_13) := (blk_cell BK101.out 13).trans rfl
              have hcz18_14 : wr.cell? ⟨gb101, 14, none⟩ = some (.int .u64 a0_14) := (blk_cell BK101.out 14).trans rfl
              have hcz18_15 : wr.cell? ⟨gb101, 15, none⟩ = some (.int .u64 a0_15) := (blk_cell BK101.out 15).trans rfl
              have hcz18_16 : wr.cell? ⟨gb101, 16, none⟩ = some (.string a0_16) := (blk_cell BK101.out 16).trans rfl
              have hcz18_17 : wr.cell? ⟨gb101, 17, none⟩ = some (.int .i64 a0_17) := (blk_cell BK101.out 17).trans rfl
              have hcz18_18 : wr.cell? ⟨gb101, 18, none⟩ = some (.int .u32 a0_18) := (blk_cell BK101.out 18).trans rfl
              have hcz18_19 : wr.cell? ⟨gb101, 19, none⟩ = some (.int .u64 a0_19) := (blk_cell BK101.out 19).trans rfl
              have hcz18_20 : wr.cell? ⟨gb101, 20, none⟩ = some (.int .u64 a0_20) := (blk_cell BK101.out 20).trans rfl
              have hcz18_21 : wr.cell? ⟨gb101, 21, none⟩ = some (.int .u64 a0_21) := (blk_cell BK101.out 21).trans rfl
              have hcz18_22 : wr.cell? ⟨gb101, 22, none⟩ = some (.int .i64 a0_22) := (blk_cell BK101.out 22).trans rfl
              have hcz18_23 : wr.cell? ⟨gb101, 23, none⟩ = some (.int .u32 a0_23) := (blk_cell BK101.out 23).trans rfl
              have hcz18_24 : wr.cell? ⟨gb101, 24, none⟩ = some (.int .u64 a0_24) := (blk_cell BK101.out 24).trans rfl
              have hcz18_25 : wr.cell? ⟨gb101, 25, none⟩ = some (.int .u64 a0_25) := (blk_cell BK101.out 25).trans rfl
              have hcz18_26 : wr.cell? ⟨gb101, 26, none⟩ = some (.string a0_26) := (blk_cell BK101.out 26).trans rfl
              have hcz18_27 : wr.cell? ⟨gb101, 27, none⟩ = some (.bool a0_27) := (blk_cell BK101.out 27).trans rfl
              have hcz18_28 : wr.cell? ⟨gb101, 28, none⟩ = some (.int .u64 a0_28) := (blk_cell BK101.out 28).trans rfl
              have hcz18_29 : wr.cell? ⟨gb101, 29, none⟩ = some (.slice A0_29 l0_29.length c0_29) := (blk_cell BK101.out 29).trans rfl
              have hcz18_30 : wr.cell? ⟨gb101, 30, none⟩ = some (.int .u64 a0_30) := (blk_cell BK101.out 30).trans rfl
              have hcz18_31 : wr.cell? ⟨gb101, 31, none⟩ = some (.int .u64 a0_31) := (blk_cell BK101.out 31).trans rfl
              have hcz18_32 : wr.cell? ⟨gb101, 32, none⟩ = some (.int .u64 a0_32) := (blk_cell BK101.out 32).trans rfl
              have hfz18_0 := blk_frozen BK101.out 0
              have hfz18_1 := blk_frozen BK101.out 1
              have hfz18_2 := blk_frozen BK101.out 2
              have hfz18_3 := blk_frozen BK101.out 3
              have hfz18_4 := blk_frozen BK101.out 4
              have hfz18_5 := blk_frozen BK101.out 5
              have hfz18_6 := blk_frozen BK101.out 6
              have hfz18_7 := blk_frozen BK101.out 7
              have hfz18_8 := blk_frozen BK101.out 8
              have hfz18_9 := blk_frozen BK101.out 9
              have hfz18_10 := blk_frozen BK101.out 10
              have hfz18_11 := blk_frozen BK101.out 11
              have hfz18_12 := blk_frozen BK101.out 12
              have hfz18_13 := blk_frozen BK101.out 13
              have hfz18_14 := blk_frozen BK101.out 14
              have hfz18_15 := blk_frozen BK101.out 15
              have hfz18_16 := blk_frozen BK101.out 16
              have hfz18_17 := blk_frozen BK101.out 17
              have hfz18_18 := blk_frozen BK101.out 18
              have hfz18_19 := blk_frozen BK101.out 19
              have hfz18_20 := blk_frozen BK101.out 20
              have hfz18_21 := blk_frozen BK101.out 21
              have hfz18_22 := blk_frozen BK101.out 22
              have hfz18_23 := blk_frozen BK101.out 23
              have hfz18_24 := blk_frozen BK101.out 24
              have hfz18_25 := blk_frozen BK101.out 25
              have hfz18_26 := blk_frozen BK101.out 26
              have hfz18_27 := blk_frozen BK101.out 27
              have hfz18_28 := blk_frozen BK101.out 28
              have hfz18_29 := blk_frozen BK101.out 29
              have hfz18_30 := blk_frozen BK101.out 30
              have hfz18_31 := blk_frozen BK101.out 31
              have hfz18_32 := blk_frozen BK101.out 32
              go_wp2
              go_ret
              exact ⟨by first | rfl | (simp [errW_none, errW_some] <;> rfl) | (simp [*, errW_none, errW_some] <;> rfl), by repeat (first | (with_reducible first | exact HB.out | apply below_alloc | apply pw_below_drewN | apply below_drew1 | refine below_set ?_ GE101.out) | exact HB.out)⟩

end Go.Proofs.Ytibcadfpengacaa.PRlong

-- RefM
set_option linter.unusedVariables false
set_option linter.unusedSimpArgs false
namespace Go.Proofs.Ytibcadfpengacaa
open Go.RowKit Go.Lib Go.Proofs.YtibcadfpengacaaW.PrintWords Go.Proofs.YtibcadfpengacaaW.PrintMore Go.Proofs.YtibcadfpengacaaW.PrintLast
attribute [local go_sem high] eqHd eqAttr eqStamp eqEnt eqAsk

def oneS (x : Int) : ByteArray := leS (x % 256).toNat 1
theorem one_says (x : Int) : Says 55 (.int .i64 x) (oneS x) := fun w => by
  refine Pyes.holtref22_one.calls x (oneS x) w ?_
  unfold Pyes.holtref22_one.f
  congr 1
  unfold strOfNums oneS leS leB leB
  congr 2
  rw [List.map_cons, List.map_nil]
  congr 1
  have : (x % 256).toNat % 256 = (x % 256).toNat := by omega
  rw [this]
theorem yes_says (b : Bool) : Says 60 (.bool b) (leS b.toNat 1) := fun w => by
  refine Pyes.holtref22_yes.calls b (leS b.toNat 1) w ?_
  cases b <;> rfl

def smallB (x : Int) : Bool := decide (0 ≤ x ∧ x ≤ 255)
theorem smallB_of {x : Int} (h0 : 0 ≤ x) (h1 : x ≤ 255) : smallB x = true := decide_eq_true ⟨h0, h1⟩
set_option maxHeartbeats 1000000 in
theorem small_any (x : Int) (w : World) : Calls Try.prog 53 #[.int .i64 x] w fun e w' => e = .returned (.bool (smallB x)) ∧ w = w' := by
  by_cases h0 : 0 ≤ x
  · by_cases h1 : x ≤ 255
    · rw [smallB_of h0 h1]
      go_enter Try.func53, Try.ntmps53
      go_wp2
      go_ret
      exact ⟨rfl, rfl⟩
    · have e : smallB x = false := decide_eq_false (by omega)
      rw [e]
      have h2 : decide (x ≤ 255) = false := decide_eq_false h1
      clear e
      go_enter Try.func53, Try.ntmps53
      go_wp2
      go_ret
      exact ⟨rfl, rfl⟩
  · have e : smallB x = false := decide_eq_false (by omega)
    rw [e]
    have h2 : decide (0 ≤ x) = false := decide_eq_false h0
    clear e
    go_enter Try.func53, Try.ntmps53
    go_wp2
    go_ret
    exact ⟨rfl, rfl⟩

set_option maxHeartbeats 4000000 in
set_option maxRecDepth 100000 in
theorem emptyAns_raw (status ae asn ai ag akind links size change : Int) (adata : ByteArray) (eof : Bool) (anum : Int) (A : Option Addr) (n c : Nat) (b0 b1 b2 b3 b5 b6 : Bool)
    (h0 : (status == 0) = b0) (h1 : hdEq ae asn ai ag 0 0 0 0 = b1) (h2 : attrEq akind links size change 0 0 0 0 = b2) (h3 : adata.toList.isEmpty = b3) (h5 : (anum == 0) = b5) (h6 : ((n : Int) == 0) = b6) (w : World) :
    Calls Try.prog 54 #[.agg #[.int .i64 status, .int .u32 ae, .int .u64 asn, .int .u64 ai, .int .u64 ag, .int .i64 akind, .int .u32 links, .int .u64 size, .int .u64 change, .string adata, .bool eof, .int .u64 anum, .slice A n c]] w fun e w' => e = .returned (.bool (b0 && b1 && b2 && b3 && (!eof) && b5 && b6)) ∧ Below w.heap.size w w' := by
  have KB := Lib.hid ((Below.refl w.heap.size w).alloc (Nat.le_refl _) (.cells #[.int .i64 status, .int .u32 ae, .int .u64 asn, .int .u64 ai, .int .u64 ag, .int .i64 akind, .int .u32 links, .int .u64 size, .int .u64 change, .string adata, .bool eof, .int .u64 anum, .slice A n c] 32 (0, 0)))
  cases b0
  · go_enter Try.func54, Try.ntmps54
    go_wp2
    go_ret
    exact ⟨rfl, KB.out⟩
  cases b1
  · go_enter Try.func54, Try.ntmps54
    go_wp2
    go_ret
    exact ⟨rfl, KB.out⟩
  cases b2
  · go_enter Try.func54, Try.ntmps54
    go_wp2
    go_ret
    exact ⟨rfl, KB.out⟩
  cases b3
  · go_enter Try.func54, Try.ntmps54
    go_wp2
    go_ret
    exact ⟨rfl, KB.out⟩
  cases eof
  rotate_left
  · go_enter Try.func54, Try.ntmps54
    go_wp2
    go_ret
    exact ⟨rfl, KB.out⟩
  cases b5
  · go_enter Try.func54, Try.ntmps54
    go_wp2
    go_ret
    exact ⟨rfl, KB.out⟩
  cases b6
  · go_enter Try.func54, Try.ntmps54
    go_wp2
    go_ret
    exact ⟨rfl, KB.out⟩
  · go_enter Try.func54, Try.ntmps54
    go_wp2
    go_ret
    exact ⟨rfl, KB.out⟩

def Msg.noAns (m : Msg) : Bool := Go.Proofs.Ytibcadfpengacaa.noAns m.status m.ah.ex m.ah.snap m.ah.ino m.ah.gen m.akind m.links m.size m.change m.adata m.eof m.anum m.list.length
theorem emptyAns_any (m : Msg) (A : Option Addr) (c : Nat) (w : World) :
    Calls Try.prog 54 #[.agg #[.int .i64 m.status, .int .u32 m.ah.ex, .int .u64 m.ah.snap, .int .u64 m.ah.ino, .int .u64 m.ah.gen, .int .i64 m.akind, .int .u32 m.links, .int .u64 m.size, .int .u64 m.change, .string m.adata, .bool m.eof, .int .u64 m.anum, .slice A m.list.length c]] w fun e w' => e = .returned (.bool m.noAns) ∧ Below w.heap.size w w' :=
  emptyAns_raw _ _ _ _ _ _ _ _ _ _ _ _ _ _ _ _ _ _ _ _ _ rfl rfl rfl rfl rfl rfl w

set_option maxHeartbeats 8000000 in
set_option maxRecDepth 100000 in
theorem may_call (x : List Value) (m : Msg) (A : Option Addr) (c : Nat) (hx : MsgAt x m A c) (w : World)(ne : Bool) (hE : ∀ w, Calls Try.prog 54 #[.agg #[.int .i64 m.status, .int .u32 m.ah.ex, .int .u64 m.ah.snap, .int .u64 m.ah.ino, .int .u64 m.ah.gen, .int .i64 m.akind, .int .u32 m.links, .int .u64 m.size, .int .u64 m.change, .string m.adata, .bool m.eof, .int .u64 m.anum, .slice A m.list.length c]] w fun e w' => e = .returned (.bool ne) ∧ Below w.heap.size w w') (s1 z1 z2 : Bool) (h1 : smallB m.op = s1) (h2 : (m.boot == 0) = z1) (h3 : stampEq m.gb m.gn 0 0 = z2) (hk : m.kind = 1) :
    Calls Try.prog 37 #[.agg x.toArray] w fun e w' => e = .returned (.bool (s1 && ne && z1 && z2)) ∧ Below w.heap.size w w' := by
  have HX := Lib.hid hx; have CE := Lib.hid hE
  clear hx hE
  have k1 : (m.kind == 1) = true := by simp [hk]
  have Hk := Lib.hid hk
  clear hk
  cases s1
  · skip
    go_enter Try.func37, Try.ntmps37
    go_wp2_with  (first
    | ((with_reducible refine gate_dst (N := 1) rfl ?_); refine box_event rfl (N := 1) rfl (run_box _ _ _ 36 _ x.toArray rfl rfl _) ?_; intro gx hgx v1 hbox hbel; have BX := Lib.hid (show Blk v1 gx 36 x from hbox); have BL := Lib.hid hbel; have x0 := BX.out.cell 0 HX.out.c0; have x3 := BX.out.cell 3 (HX.out.ask 0 _ rfl); have x4 := BX.out.cell 4 (HX.out.ask 1 _ rfl); have x5 := BX.out.cell 5 (HX.out.ask 2 _ rfl); have x6 := BX.out.cell 6 (HX.out.ask 3 _ rfl); have x7 := BX.out.cell 7 (HX.out.ask 4 _ rfl); have x17 := BX.out.cell 17 (HX.out.ans 0 _ rfl); have x22 := BX.out.cell 22 (HX.out.ans 5 _ rfl); have x30 := BX.out.cell 30 HX.out.c30; have x31 := BX.out.cell 31 HX.out.c31; have x32 := BX.out.cell 32 HX.out.c32; clear hbox hbel hgx)
    | ((with_reducible refine gate_dst (N := 13) rfl ?_); refine gate_guard (by rfl) ?_; refine wpList_load_mid rfl 32 _ rfl gx 17 rfl _ _ (BX.out.part 17 _ HX.out.ans) Try.underlying32 rfl infoAns ?_)
    | ((with_reducible refine gate_dst (N := 58) rfl ?_); refine gate_guard (by rfl) ?_; refine wpList_load_mid rfl 32 _ rfl gx 17 rfl _ _ (BX.out.part 17 _ HX.out.ans) Try.underlying32 rfl infoAns ?_)
    | ((with_reducible refine gate_dst (N := 30) rfl ?_); refine wpList_load_mid rfl 27 _ rfl gx 3 rfl _ _ (BX.out.part 3 _ HX.out.ask) Try.underlying27 rfl infoAsk ?_)
    | ((with_reducible refine gate_dst (N := 50) rfl ?_); refine wpList_load_mid rfl 27 _ rfl gx 3 rfl _ _ (BX.out.part 3 _ HX.out.ask) Try.underlying27 rfl infoAsk ?_)
    | (go_at_call 53; refine (small_any _ _).mono ?_; rintro e w' ⟨rfl, rfl⟩)
    | (go_at_call 54; with_reducible refine (CE.out _).mono ?_; rintro e w' ⟨rfl, hb⟩; have KB := Lib.hid (BL.out.trans (hb.mono BL.out.size)); have y30 := (BX.out.below hb).cell 30 HX.out.c30; have y31 := (BX.out.below hb).cell 31 HX.out.c31; have y32 := (BX.out.below hb).cell 32 HX.out.c32; clear hb x0 x3 x4 x5 x6 x7 x17 x22 x30 x31 x32))
    go_ret
    exact ⟨rfl, BL.out⟩
  cases ne
  · skip
    go_enter Try.func37, Try.ntmps37
    go_wp2_with  (first
    | ((with_reducible refine gate_dst (N := 1) rfl ?_); refine box_event rfl (N := 1) rfl (run_box _ _ _ 36 _ x.toArray rfl rfl _) ?_; intro gx hgx v1 hbox hbel; have BX := Lib.hid (show Blk v1 gx 36 x from hbox); have BL := Lib.hid hbel; have x0 := BX.out.cell 0 HX.out.c0; have x3 := BX.out.cell 3 (HX.out.ask 0 _ rfl); have x4 := BX.out.cell 4 (HX.out.ask 1 _ rfl); have x5 := BX.out.cell 5 (HX.out.ask 2 _ rfl); have x6 := BX.out.cell 6 (HX.out.ask 3 _ rfl); have x7 := BX.out.cell 7 (HX.out.ask 4 _ rfl); have x17 := BX.out.cell 17 (HX.out.ans 0 _ rfl); have x22 := BX.out.cell 22 (HX.out.ans 5 _ rfl); have x30 := BX.out.cell 30 HX.out.c30; have x31 := BX.out.cell 31 HX.out.c31; have x32 := BX.out.cell 32 HX.out.c32; clear hbox hbel hgx)
    | ((with_reducible refine gate_dst (N := 13) rfl ?_); refine gate_guard (by rfl) ?_; refine wpList_load_mid rfl 32 _ rfl gx 17 rfl _ _ (BX.out.part 17 _ HX.out.ans) Try.underlying32 rfl infoAns ?_)
    | ((with_reducible refine gate_dst (N := 58) rfl ?_); refine gate_guard (by rfl) ?_; refine wpList_load_mid rfl 32 _ rfl gx 17 rfl _ _ (BX.out.part 17 _ HX.out.ans) Try.underlying32 rfl infoAns ?_)
    | ((with_reducible refine gate_dst (N := 30) rfl ?_); refine wpList_load_mid rfl 27 _ rfl gx 3 rfl _ _ (BX.out.part 3 _ HX.out.ask) Try.underlying27 rfl infoAsk ?_)
    | ((with_reducible refine gate_dst (N := 50) rfl ?_); refine wpList_load_mid rfl 27 _ rfl gx 3 rfl _ _ (BX.out.part 3 _ HX.out.ask) Try.underlying27 rfl infoAsk ?_)
    | (go_at_call 53; refine (small_any _ _).mono ?_; rintro e w' ⟨rfl, rfl⟩)
    | (go_at_call 54; with_reducible refine (CE.out _).mono ?_; rintro e w' ⟨rfl, hb⟩; have KB := Lib.hid (BL.out.trans (hb.mono BL.out.size)); have y30 := (BX.out.below hb).cell 30 HX.out.c30; have y31 := (BX.out.below hb).cell 31 HX.out.c31; have y32 := (BX.out.below hb).cell 32 HX.out.c32; clear hb x0 x3 x4 x5 x6 x7 x17 x22 x30 x31 x32))
    go_ret
    exact ⟨rfl, KB.out⟩
  cases z1
  · skip
    go_enter Try.func37, Try.ntmps37
    go_wp2_with  (first
    | ((with_reducible refine gate_dst (N := 1) rfl ?_); refine box_event rfl (N := 1) rfl (run_box _ _ _ 36 _ x.toArray rfl rfl _) ?_; intro gx hgx v1 hbox hbel; have BX := Lib.hid (show Blk v1 gx 36 x from hbox); have BL := Lib.hid hbel; have x0 := BX.out.cell 0 HX.out.c0; have x3 := BX.out.cell 3 (HX.out.ask 0 _ rfl); have x4 := BX.out.cell 4 (HX.out.ask 1 _ rfl); have x5 := BX.out.cell 5 (HX.out.ask 2 _ rfl); have x6 := BX.out.cell 6 (HX.out.ask 3 _ rfl); have x7 := BX.out.cell 7 (HX.out.ask 4 _ rfl); have x17 := BX.out.cell 17 (HX.out.ans 0 _ rfl); have x22 := BX.out.cell 22 (HX.out.ans 5 _ rfl); have x30 := BX.out.cell 30 HX.out.c30; have x31 := BX.out.cell 31 HX.out.c31; have x32 := BX.out.cell 32 HX.out.c32; clear hbox hbel hgx)
    | ((with_reducible refine gate_dst (N := 13) rfl ?_); refine gate_guard (by rfl) ?_; refine wpList_load_mid rfl 32 _ rfl gx 17 rfl _ _ (BX.out.part 17 _ HX.out.ans) Try.underlying32 rfl infoAns ?_)
    | ((with_reducible refine gate_dst (N := 58) rfl ?_); refine gate_guard (by rfl) ?_; refine wpList_load_mid rfl 32 _ rfl gx 17 rfl _ _ (BX.out.part 17 _ HX.out.ans) Try.underlying32 rfl infoAns ?_)
    | ((with_reducible refine gate_dst (N := 30) rfl ?_); refine wpList_load_mid rfl 27 _ rfl gx 3 rfl _ _ (BX.out.part 3 _ HX.out.ask) Try.underlying27 rfl infoAsk ?_)
    | ((with_reducible refine gate_dst (N := 50) rfl ?_); refine wpList_load_mid rfl 27 _ rfl gx 3 rfl _ _ (BX.out.part 3 _ HX.out.ask) Try.underlying27 rfl infoAsk ?_)
    | (go_at_call 53; refine (small_any _ _).mono ?_; rintro e w' ⟨rfl, rfl⟩)
    | (go_at_call 54; with_reducible refine (CE.out _).mono ?_; rintro e w' ⟨rfl, hb⟩; have KB := Lib.hid (BL.out.trans (hb.mono BL.out.size)); have y30 := (BX.out.below hb).cell 30 HX.out.c30; have y31 := (BX.out.below hb).cell 31 HX.out.c31; have y32 := (BX.out.below hb).cell 32 HX.out.c32; clear hb x0 x3 x4 x5 x6 x7 x17 x22 x30 x31 x32))
    go_ret
    exact ⟨rfl, KB.out⟩
  cases z2
  · skip
    go_enter Try.func37, Try.ntmps37
    go_wp2_with  (first
    | ((with_reducible refine gate_dst (N := 1) rfl ?_); refine box_event rfl (N := 1) rfl (run_box _ _ _ 36 _ x.toArray rfl rfl _) ?_; intro gx hgx v1 hbox hbel; have BX := Lib.hid (show Blk v1 gx 36 x from hbox); have BL := Lib.hid hbel; have x0 := BX.out.cell 0 HX.out.c0; have x3 := BX.out.cell 3 (HX.out.ask 0 _ rfl); have x4 := BX.out.cell 4 (HX.out.ask 1 _ rfl); have x5 := BX.out.cell 5 (HX.out.ask 2 _ rfl); have x6 := BX.out.cell 6 (HX.out.ask 3 _ rfl); have x7 := BX.out.cell 7 (HX.out.ask 4 _ rfl); have x17 := BX.out.cell 17 (HX.out.ans 0 _ rfl); have x22 := BX.out.cell 22 (HX.out.ans 5 _ rfl); have x30 := BX.out.cell 30 HX.out.c30; have x31 := BX.out.cell 31 HX.out.c31; have x32 := BX.out.cell 32 HX.out.c32; clear hbox hbel hgx)
    | ((with_reducible refine gate_dst (N := 13) rfl ?_); refine gate_guard (by rfl) ?_; refine wpList_load_mid rfl 32 _ rfl gx 17 rfl _ _ (BX.out.part 17 _ HX.out.ans) Try.underlying32 rfl infoAns ?_)
    | ((with_reducible refine gate_dst (N := 58) rfl ?_); refine gate_guard (by rfl) ?_; refine wpList_load_mid rfl 32 _ rfl gx 17 rfl _ _ (BX.out.part 17 _ HX.out.ans) Try.underlying32 rfl infoAns ?_)
    | ((with_reducible refine gate_dst (N := 30) rfl ?_); refine wpList_load_mid rfl 27 _ rfl gx 3 rfl _ _ (BX.out.part 3 _ HX.out.ask) Try.underlying27 rfl infoAsk ?_)
    | ((with_reducible refine gate_dst (N := 50) rfl ?_); refine wpList_load_mid rfl 27 _ rfl gx 3 rfl _ _ (BX.out.part 3 _ HX.out.ask) Try.underlying27 rfl infoAsk ?_)
    | (go_at_call 53; refine (small_any _ _).mono ?_; rintro e w' ⟨rfl, rfl⟩)
    | (go_at_call 54; with_reducible refine (CE.out _).mono ?_; rintro e w' ⟨rfl, hb⟩; have KB := Lib.hid (BL.out.trans (hb.mono BL.out.size)); have y30 := (BX.out.below hb).cell 30 HX.out.c30; have y31 := (BX.out.below hb).cell 31 HX.out.c31; have y32 := (BX.out.below hb).cell 32 HX.out.c32; clear hb x0 x3 x4 x5 x6 x7 x17 x22 x30 x31 x32))
    go_ret
    exact ⟨rfl, KB.out⟩
  · skip
    go_enter Try.func37, Try.ntmps37
    go_wp2_with  (first
    | ((with_reducible refine gate_dst (N := 1) rfl ?_); refine box_event rfl (N := 1) rfl (run_box _ _ _ 36 _ x.toArray rfl rfl _) ?_; intro gx hgx v1 hbox hbel; have BX := Lib.hid (show Blk v1 gx 36 x from hbox); have BL := Lib.hid hbel; have x0 := BX.out.cell 0 HX.out.c0; have x3 := BX.out.cell 3 (HX.out.ask 0 _ rfl); have x4 := BX.out.cell 4 (HX.out.ask 1 _ rfl); have x5 := BX.out.cell 5 (HX.out.ask 2 _ rfl); have x6 := BX.out.cell 6 (HX.out.ask 3 _ rfl); have x7 := BX.out.cell 7 (HX.out.ask 4 _ rfl); have x17 := BX.out.cell 17 (HX.out.ans 0 _ rfl); have x22 := BX.out.cell 22 (HX.out.ans 5 _ rfl); have x30 := BX.out.cell 30 HX.out.c30; have x31 := BX.out.cell 31 HX.out.c31; have x32 := BX.out.cell 32 HX.out.c32; clear hbox hbel hgx)
    | ((with_reducible refine gate_dst (N := 13) rfl ?_); refine gate_guard (by rfl) ?_; refine wpList_load_mid rfl 32 _ rfl gx 17 rfl _ _ (BX.out.part 17 _ HX.out.ans) Try.underlying32 rfl infoAns ?_)
    | ((with_reducible refine gate_dst (N := 58) rfl ?_); refine gate_guard (by rfl) ?_; refine wpList_load_mid rfl 32 _ rfl gx 17 rfl _ _ (BX.out.part 17 _ HX.out.ans) Try.underlying32 rfl infoAns ?_)
    | ((with_reducible refine gate_dst (N := 30) rfl ?_); refine wpList_load_mid rfl 27 _ rfl gx 3 rfl _ _ (BX.out.part 3 _ HX.out.ask) Try.underlying27 rfl infoAsk ?_)
    | ((with_reducible refine gate_dst (N := 50) rfl ?_); refine wpList_load_mid rfl 27 _ rfl gx 3 rfl _ _ (BX.out.part 3 _ HX.out.ask) Try.underlying27 rfl infoAsk ?_)
    | (go_at_call 53; refine (small_any _ _).mono ?_; rintro e w' ⟨rfl, rfl⟩)
    | (go_at_call 54; with_reducible refine (CE.out _).mono ?_; rintro e w' ⟨rfl, hb⟩; have KB := Lib.hid (BL.out.trans (hb.mono BL.out.size)); have y30 := (BX.out.below hb).cell 30 HX.out.c30; have y31 := (BX.out.below hb).cell 31 HX.out.c31; have y32 := (BX.out.below hb).cell 32 HX.out.c32; clear hb x0 x3 x4 x5 x6 x7 x17 x22 x30 x31 x32))
    go_ret
    exact ⟨rfl, KB.out⟩

set_option maxHeartbeats 8000000 in
set_option maxRecDepth 100000 in
theorem may_reply (x : List Value) (m : Msg) (A : Option Addr) (c : Nat) (hx : MsgAt x m A c) (w : World)(a0 s1 s2 : Bool) (h0 : askEq m.op m.h.ex m.h.snap m.h.ino m.h.gen m.h2.ex m.h2.snap m.h2.ino m.h2.gen m.name m.name2 m.off m.num m.data 0 0 0 0 0 0 0 0 0 ⟨#[]⟩ ⟨#[]⟩ 0 0 ⟨#[]⟩ = a0) (h1 : smallB m.status = s1) (h2 : smallB m.akind = s2) (hk : m.kind = 2) :
    Calls Try.prog 37 #[.agg x.toArray] w fun e w' => e = .returned (.bool (a0 && s1 && s2)) ∧ Below w.heap.size w w' := by
  have HX := Lib.hid hx
  clear hx
  have k1 : (m.kind == 1) = false := by simp [hk]
  have k2 : (m.kind == 2) = true := by simp [hk]
  have Hk := Lib.hid hk
  clear hk
  cases a0
  · skip
    go_enter Try.func37, Try.ntmps37
    go_wp2_with  (first
    | ((with_reducible refine gate_dst (N := 1) rfl ?_); refine box_event rfl (N := 1) rfl (run_box _ _ _ 36 _ x.toArray rfl rfl _) ?_; intro gx hgx v1 hbox hbel; have BX := Lib.hid (show Blk v1 gx 36 x from hbox); have BL := Lib.hid hbel; have x0 := BX.out.cell 0 HX.out.c0; have x3 := BX.out.cell 3 (HX.out.ask 0 _ rfl); have x4 := BX.out.cell 4 (HX.out.ask 1 _ rfl); have x5 := BX.out.cell 5 (HX.out.ask 2 _ rfl); have x6 := BX.out.cell 6 (HX.out.ask 3 _ rfl); have x7 := BX.out.cell 7 (HX.out.ask 4 _ rfl); have x17 := BX.out.cell 17 (HX.out.ans 0 _ rfl); have x22 := BX.out.cell 22 (HX.out.ans 5 _ rfl); have x30 := BX.out.cell 30 HX.out.c30; have x31 := BX.out.cell 31 HX.out.c31; have x32 := BX.out.cell 32 HX.out.c32; clear hbox hbel hgx)
    | ((with_reducible refine gate_dst (N := 13) rfl ?_); refine gate_guard (by rfl) ?_; refine wpList_load_mid rfl 32 _ rfl gx 17 rfl _ _ (BX.out.part 17 _ HX.out.ans) Try.underlying32 rfl infoAns ?_)
    | ((with_reducible refine gate_dst (N := 58) rfl ?_); refine gate_guard (by rfl) ?_; refine wpList_load_mid rfl 32 _ rfl gx 17 rfl _ _ (BX.out.part 17 _ HX.out.ans) Try.underlying32 rfl infoAns ?_)
    | ((with_reducible refine gate_dst (N := 30) rfl ?_); refine wpList_load_mid rfl 27 _ rfl gx 3 rfl _ _ (BX.out.part 3 _ HX.out.ask) Try.underlying27 rfl infoAsk ?_)
    | ((with_reducible refine gate_dst (N := 50) rfl ?_); refine wpList_load_mid rfl 27 _ rfl gx 3 rfl _ _ (BX.out.part 3 _ HX.out.ask) Try.underlying27 rfl infoAsk ?_)
    | (go_at_call 53; refine (small_any _ _).mono ?_; rintro e w' ⟨rfl, rfl⟩)
    | (go_at_call 54; with_reducible refine (CE.out _).mono ?_; rintro e w' ⟨rfl, hb⟩; have KB := Lib.hid (BL.out.trans (hb.mono BL.out.size)); have y30 := (BX.out.below hb).cell 30 HX.out.c30; have y31 := (BX.out.below hb).cell 31 HX.out.c31; have y32 := (BX.out.below hb).cell 32 HX.out.c32; clear hb x0 x3 x4 x5 x6 x7 x17 x22 x30 x31 x32))
    go_ret
    exact ⟨rfl, BL.out⟩
  cases s1
  · skip
    go_enter Try.func37, Try.ntmps37
    go_wp2_with  (first
    | ((with_reducible refine gate_dst (N := 1) rfl ?_); refine box_event rfl (N := 1) rfl (run_box _ _ _ 36 _ x.toArray rfl rfl _) ?_; intro gx hgx v1 hbox hbel; have BX := Lib.hid (show Blk v1 gx 36 x from hbox); have BL := Lib.hid hbel; have x0 := BX.out.cell 0 HX.out.c0; have x3 := BX.out.cell 3 (HX.out.ask 0 _ rfl); have x4 := BX.out.cell 4 (HX.out.ask 1 _ rfl); have x5 := BX.out.cell 5 (HX.out.ask 2 _ rfl); have x6 := BX.out.cell 6 (HX.out.ask 3 _ rfl); have x7 := BX.out.cell 7 (HX.out.ask 4 _ rfl); have x17 := BX.out.cell 17 (HX.out.ans 0 _ rfl); have x22 := BX.out.cell 22 (HX.out.ans 5 _ rfl); have x30 := BX.out.cell 30 HX.out.c30; have x31 := BX.out.cell 31 HX.out.c31; have x32 := BX.out.cell 32 HX.out.c32; clear hbox hbel hgx)
    | ((with_reducible refine gate_dst (N := 13) rfl ?_); refine gate_guard (by rfl) ?_; refine wpList_load_mid rfl 32 _ rfl gx 17 rfl _ _ (BX.out.part 17 _ HX.out.ans) Try.underlying32 rfl infoAns ?_)
    | ((with_reducible refine gate_dst (N := 58) rfl ?_); refine gate_guard (by rfl) ?_; refine wpList_load_mid rfl 32 _ rfl gx 17 rfl _ _ (BX.out.part 17 _ HX.out.ans) Try.underlying32 rfl infoAns ?_)
    | ((with_reducible refine gate_dst (N := 30) rfl ?_); refine wpList_load_mid rfl 27 _ rfl gx 3 rfl _ _ (BX.out.part 3 _ HX.out.ask) Try.underlying27 rfl infoAsk ?_)
    | ((with_reducible refine gate_dst (N := 50) rfl ?_); refine wpList_load_mid rfl 27 _ rfl gx 3 rfl _ _ (BX.out.part 3 _ HX.out.ask) Try.underlying27 rfl infoAsk ?_)
    | (go_at_call 53; refine (small_any _ _).mono ?_; rintro e w' ⟨rfl, rfl⟩)
    | (go_at_call 54; with_reducible refine (CE.out _).mono ?_; rintro e w' ⟨rfl, hb⟩; have KB := Lib.hid (BL.out.trans (hb.mono BL.out.size)); have y30 := (BX.out.below hb).cell 30 HX.out.c30; have y31 := (BX.out.below hb).cell 31 HX.out.c31; have y32 := (BX.out.below hb).cell 32 HX.out.c32; clear hb x0 x3 x4 x5 x6 x7 x17 x22 x30 x31 x32))
    go_ret
    exact ⟨rfl, BL.out⟩
  cases s2
  · skip
    go_enter Try.func37, Try.ntmps37
    go_wp2_with  (first
    | ((with_reducible refine gate_dst (N := 1) rfl ?_); refine box_event rfl (N := 1) rfl (run_box _ _ _ 36 _ x.toArray rfl rfl _) ?_; intro gx hgx v1 hbox hbel; have BX := Lib.hid (show Blk v1 gx 36 x from hbox); have BL := Lib.hid hbel; have x0 := BX.out.cell 0 HX.out.c0; have x3 := BX.out.cell 3 (HX.out.ask 0 _ rfl); have x4 := BX.out.cell 4 (HX.out.ask 1 _ rfl); have x5 := BX.out.cell 5 (HX.out.ask 2 _ rfl); have x6 := BX.out.cell 6 (HX.out.ask 3 _ rfl); have x7 := BX.out.cell 7 (HX.out.ask 4 _ rfl); have x17 := BX.out.cell 17 (HX.out.ans 0 _ rfl); have x22 := BX.out.cell 22 (HX.out.ans 5 _ rfl); have x30 := BX.out.cell 30 HX.out.c30; have x31 := BX.out.cell 31 HX.out.c31; have x32 := BX.out.cell 32 HX.out.c32; clear hbox hbel hgx)
    | ((with_reducible refine gate_dst (N := 13) rfl ?_); refine gate_guard (by rfl) ?_; refine wpList_load_mid rfl 32 _ rfl gx 17 rfl _ _ (BX.out.part 17 _ HX.out.ans) Try.underlying32 rfl infoAns ?_)
    | ((with_reducible refine gate_dst (N := 58) rfl ?_); refine gate_guard (by rfl) ?_; refine wpList_load_mid rfl 32 _ rfl gx 17 rfl _ _ (BX.out.part 17 _ HX.out.ans) Try.underlying32 rfl infoAns ?_)
    | ((with_reducible refine gate_dst (N := 30) rfl ?_); refine wpList_load_mid rfl 27 _ rfl gx 3 rfl _ _ (BX.out.part 3 _ HX.out.ask) Try.underlying27 rfl infoAsk ?_)
    | ((with_reducible refine gate_dst (N := 50) rfl ?_); refine wpList_load_mid rfl 27 _ rfl gx 3 rfl _ _ (BX.out.part 3 _ HX.out.ask) Try.underlying27 rfl infoAsk ?_)
    | (go_at_call 53; refine (small_any _ _).mono ?_; rintro e w' ⟨rfl, rfl⟩)
    | (go_at_call 54; with_reducible refine (CE.out _).mono ?_; rintro e w' ⟨rfl, hb⟩; have KB := Lib.hid (BL.out.trans (hb.mono BL.out.size)); have y30 := (BX.out.below hb).cell 30 HX.out.c30; have y31 := (BX.out.below hb).cell 31 HX.out.c31; have y32 := (BX.out.below hb).cell 32 HX.out.c32; clear hb x0 x3 x4 x5 x6 x7 x17 x22 x30 x31 x32))
    go_ret
    exact ⟨rfl, BL.out⟩
  · skip
    go_enter Try.func37, Try.ntmps37
    go_wp2_with  (first
    | ((with_reducible refine gate_dst (N := 1) rfl ?_); refine box_event rfl (N := 1) rfl (run_box _ _ _ 36 _ x.toArray rfl rfl _) ?_; intro gx hgx v1 hbox hbel; have BX := Lib.hid (show Blk v1 gx 36 x from hbox); have BL := Lib.hid hbel; have x0 := BX.out.cell 0 HX.out.c0; have x3 := BX.out.cell 3 (HX.out.ask 0 _ rfl); have x4 := BX.out.cell 4 (HX.out.ask 1 _ rfl); have x5 := BX.out.cell 5 (HX.out.ask 2 _ rfl); have x6 := BX.out.cell 6 (HX.out.ask 3 _ rfl); have x7 := BX.out.cell 7 (HX.out.ask 4 _ rfl); have x17 := BX.out.cell 17 (HX.out.ans 0 _ rfl); have x22 := BX.out.cell 22 (HX.out.ans 5 _ rfl); have x30 := BX.out.cell 30 HX.out.c30; have x31 := BX.out.cell 31 HX.out.c31; have x32 := BX.out.cell 32 HX.out.c32; clear hbox hbel hgx)
    | ((with_reducible refine gate_dst (N := 13) rfl ?_); refine gate_guard (by rfl) ?_; refine wpList_load_mid rfl 32 _ rfl gx 17 rfl _ _ (BX.out.part 17 _ HX.out.ans) Try.underlying32 rfl infoAns ?_)
    | ((with_reducible refine gate_dst (N := 58) rfl ?_); refine gate_guard (by rfl) ?_; refine wpList_load_mid rfl 32 _ rfl gx 17 rfl _ _ (BX.out.part 17 _ HX.out.ans) Try.underlying32 rfl infoAns ?_)
    | ((with_reducible refine gate_dst (N := 30) rfl ?_); refine wpList_load_mid rfl 27 _ rfl gx 3 rfl _ _ (BX.out.part 3 _ HX.out.ask) Try.underlying27 rfl infoAsk ?_)
    | ((with_reducible refine gate_dst (N := 50) rfl ?_); refine wpList_load_mid rfl 27 _ rfl gx 3 rfl _ _ (BX.out.part 3 _ HX.out.ask) Try.underlying27 rfl infoAsk ?_)
    | (go_at_call 53; refine (small_any _ _).mono ?_; rintro e w' ⟨rfl, rfl⟩)
    | (go_at_call 54; with_reducible refine (CE.out _).mono ?_; rintro e w' ⟨rfl, hb⟩; have KB := Lib.hid (BL.out.trans (hb.mono BL.out.size)); have y30 := (BX.out.below hb).cell 30 HX.out.c30; have y31 := (BX.out.below hb).cell 31 HX.out.c31; have y32 := (BX.out.below hb).cell 32 HX.out.c32; clear hb x0 x3 x4 x5 x6 x7 x17 x22 x30 x31 x32))
    go_ret
    exact ⟨rfl, BL.out⟩

set_option maxHeartbeats 8000000 in
set_option maxRecDepth 100000 in
theorem may_back (x : List Value) (m : Msg) (A : Option Addr) (c : Nat) (hx : MsgAt x m A c) (w : World)(ne : Bool) (hE : ∀ w, Calls Try.prog 54 #[.agg #[.int .i64 m.status, .int .u32 m.ah.ex, .int .u64 m.ah.snap, .int .u64 m.ah.ino, .int .u64 m.ah.gen, .int .i64 m.akind, .int .u32 m.links, .int .u64 m.size, .int .u64 m.change, .string m.adata, .bool m.eof, .int .u64 m.anum, .slice A m.list.length c]] w fun e w' => e = .returned (.bool ne) ∧ Below w.heap.size w w') (a0 : Bool) (h0 : askEq m.op m.h.ex m.h.snap m.h.ino m.h.gen m.h2.ex m.h2.snap m.h2.ino m.h2.gen m.name m.name2 m.off m.num m.data 0 m.h.ex m.h.snap m.h.ino m.h.gen 0 0 0 0 ⟨#[]⟩ ⟨#[]⟩ 0 0 ⟨#[]⟩ = a0) (hk : m.kind = 3 ∨ m.kind = 4) :
    Calls Try.prog 37 #[.agg x.toArray] w fun e w' => e = .returned (.bool (a0 && ne)) ∧ Below w.heap.size w w' := by
  have HX := Lib.hid hx; have CE := Lib.hid hE
  clear hx hE
  have k1 : (m.kind == 1) = false := by rcases hk with h | h <;> simp [h]
  have k2 : (m.kind == 2) = false := by rcases hk with h | h <;> simp [h]
  by_cases h3 : m.kind = 3
  · have k3 : (m.kind == 3) = true := by simp [h3]
    have H3 := Lib.hid h3
    clear hk h3
    cases a0
    · skip
      go_enter Try.func37, Try.ntmps37
      go_wp2_with  (first
      | ((with_reducible refine gate_dst (N := 1) rfl ?_); refine box_event rfl (N := 1) rfl (run_box _ _ _ 36 _ x.toArray rfl rfl _) ?_; intro gx hgx v1 hbox hbel; have BX := Lib.hid (show Blk v1 gx 36 x from hbox); have BL := Lib.hid hbel; have x0 := BX.out.cell 0 HX.out.c0; have x3 := BX.out.cell 3 (HX.out.ask 0 _ rfl); have x4 := BX.out.cell 4 (HX.out.ask 1 _ rfl); have x5 := BX.out.cell 5 (HX.out.ask 2 _ rfl); have x6 := BX.out.cell 6 (HX.out.ask 3 _ rfl); have x7 := BX.out.cell 7 (HX.out.ask 4 _ rfl); have x17 := BX.out.cell 17 (HX.out.ans 0 _ rfl); have x22 := BX.out.cell 22 (HX.out.ans 5 _ rfl); have x30 := BX.out.cell 30 HX.out.c30; have x31 := BX.out.cell 31 HX.out.c31; have x32 := BX.out.cell 32 HX.out.c32; clear hbox hbel hgx)
      | ((with_reducible refine gate_dst (N := 13) rfl ?_); refine gate_guard (by rfl) ?_; refine wpList_load_mid rfl 32 _ rfl gx 17 rfl _ _ (BX.out.part 17 _ HX.out.ans) Try.underlying32 rfl infoAns ?_)
      | ((with_reducible refine gate_dst (N := 58) rfl ?_); refine gate_guard (by rfl) ?_; refine wpList_load_mid rfl 32 _ rfl gx 17 rfl _ _ (BX.out.part 17 _ HX.out.ans) Try.underlying32 rfl infoAns ?_)
      | ((with_reducible refine gate_dst (N := 30) rfl ?_); refine wpList_load_mid rfl 27 _ rfl gx 3 rfl _ _ (BX.out.part 3 _ HX.out.ask) Try.underlying27 rfl infoAsk ?_)
      | ((with_reducible refine gate_dst (N := 50) rfl ?_); refine wpList_load_mid rfl 27 _ rfl gx 3 rfl _ _ (BX.out.part 3 _ HX.out.ask) Try.underlying27 rfl infoAsk ?_)
      | (go_at_call 53; refine (small_any _ _).mono ?_; rintro e w' ⟨rfl, rfl⟩)
      | (go_at_call 54; with_reducible refine (CE.out _).mono ?_; rintro e w' ⟨rfl, hb⟩; have KB := Lib.hid (BL.out.trans (hb.mono BL.out.size)); have y30 := (BX.out.below hb).cell 30 HX.out.c30; have y31 := (BX.out.below hb).cell 31 HX.out.c31; have y32 := (BX.out.below hb).cell 32 HX.out.c32; clear hb x0 x3 x4 x5 x6 x7 x17 x22 x30 x31 x32))
      go_ret
      exact ⟨rfl, BL.out⟩
    cases ne
    · skip
      go_enter Try.func37, Try.ntmps37
      go_wp2_with  (first
      | ((with_reducible refine gate_dst (N := 1) rfl ?_); refine box_event rfl (N := 1) rfl (run_box _ _ _ 36 _ x.toArray rfl rfl _) ?_; intro gx hgx v1 hbox hbel; have BX := Lib.hid (show Blk v1 gx 36 x from hbox); have BL := Lib.hid hbel; have x0 := BX.out.cell 0 HX.out.c0; have x3 := BX.out.cell 3 (HX.out.ask 0 _ rfl); have x4 := BX.out.cell 4 (HX.out.ask 1 _ rfl); have x5 := BX.out.cell 5 (HX.out.ask 2 _ rfl); have x6 := BX.out.cell 6 (HX.out.ask 3 _ rfl); have x7 := BX.out.cell 7 (HX.out.ask 4 _ rfl); have x17 := BX.out.cell 17 (HX.out.ans 0 _ rfl); have x22 := BX.out.cell 22 (HX.out.ans 5 _ rfl); have x30 := BX.out.cell 30 HX.out.c30; have x31 := BX.out.cell 31 HX.out.c31; have x32 := BX.out.cell 32 HX.out.c32; clear hbox hbel hgx)
      | ((with_reducible refine gate_dst (N := 13) rfl ?_); refine gate_guard (by rfl) ?_; refine wpList_load_mid rfl 32 _ rfl gx 17 rfl _ _ (BX.out.part 17 _ HX.out.ans) Try.underlying32 rfl infoAns ?_)
      | ((with_reducible refine gate_dst (N := 58) rfl ?_); refine gate_guard (by rfl) ?_; refine wpList_load_mid rfl 32 _ rfl gx 17 rfl _ _ (BX.out.part 17 _ HX.out.ans) Try.underlying32 rfl infoAns ?_)
      | ((with_reducible refine gate_dst (N := 30) rfl ?_); refine wpList_load_mid rfl 27 _ rfl gx 3 rfl _ _ (BX.out.part 3 _ HX.out.ask) Try.underlying27 rfl infoAsk ?_)
      | ((with_reducible refine gate_dst (N := 50) rfl ?_); refine wpList_load_mid rfl 27 _ rfl gx 3 rfl _ _ (BX.out.part 3 _ HX.out.ask) Try.underlying27 rfl infoAsk ?_)
      | (go_at_call 53; refine (small_any _ _).mono ?_; rintro e w' ⟨rfl, rfl⟩)
      | (go_at_call 54; with_reducible refine (CE.out _).mono ?_; rintro e w' ⟨rfl, hb⟩; have KB := Lib.hid (BL.out.trans (hb.mono BL.out.size)); have y30 := (BX.out.below hb).cell 30 HX.out.c30; have y31 := (BX.out.below hb).cell 31 HX.out.c31; have y32 := (BX.out.below hb).cell 32 HX.out.c32; clear hb x0 x3 x4 x5 x6 x7 x17 x22 x30 x31 x32))
      go_ret
      exact ⟨rfl, KB.out⟩
    · skip
      go_enter Try.func37, Try.ntmps37
      go_wp2_with  (first
      | ((with_reducible refine gate_dst (N := 1) rfl ?_); refine box_event rfl (N := 1) rfl (run_box _ _ _ 36 _ x.toArray rfl rfl _) ?_; intro gx hgx v1 hbox hbel; have BX := Lib.hid (show Blk v1 gx 36 x from hbox); have BL := Lib.hid hbel; have x0 := BX.out.cell 0 HX.out.c0; have x3 := BX.out.cell 3 (HX.out.ask 0 _ rfl); have x4 := BX.out.cell 4 (HX.out.ask 1 _ rfl); have x5 := BX.out.cell 5 (HX.out.ask 2 _ rfl); have x6 := BX.out.cell 6 (HX.out.ask 3 _ rfl); have x7 := BX.out.cell 7 (HX.out.ask 4 _ rfl); have x17 := BX.out.cell 17 (HX.out.ans 0 _ rfl); have x22 := BX.out.cell 22 (HX.out.ans 5 _ rfl); have x30 := BX.out.cell 30 HX.out.c30; have x31 := BX.out.cell 31 HX.out.c31; have x32 := BX.out.cell 32 HX.out.c32; clear hbox hbel hgx)
      | ((with_reducible refine gate_dst (N := 13) rfl ?_); refine gate_guard (by rfl) ?_; refine wpList_load_mid rfl 32 _ rfl gx 17 rfl _ _ (BX.out.part 17 _ HX.out.ans) Try.underlying32 rfl infoAns ?_)
      | ((with_reducible refine gate_dst (N := 58) rfl ?_); refine gate_guard (by rfl) ?_; refine wpList_load_mid rfl 32 _ rfl gx 17 rfl _ _ (BX.out.part 17 _ HX.out.ans) Try.underlying32 rfl infoAns ?_)
      | ((with_reducible refine gate_dst (N := 30) rfl ?_); refine wpList_load_mid rfl 27 _ rfl gx 3 rfl _ _ (BX.out.part 3 _ HX.out.ask) Try.underlying27 rfl infoAsk ?_)
      | ((with_reducible refine gate_dst (N := 50) rfl ?_); refine wpList_load_mid rfl 27 _ rfl gx 3 rfl _ _ (BX.out.part 3 _ HX.out.ask) Try.underlying27 rfl infoAsk ?_)
      | (go_at_call 53; refine (small_any _ _).mono ?_; rintro e w' ⟨rfl, rfl⟩)
      | (go_at_call 54; with_reducible refine (CE.out _).mono ?_; rintro e w' ⟨rfl, hb⟩; have KB := Lib.hid (BL.out.trans (hb.mono BL.out.size)); have y30 := (BX.out.below hb).cell 30 HX.out.c30; have y31 := (BX.out.below hb).cell 31 HX.out.c31; have y32 := (BX.out.below hb).cell 32 HX.out.c32; clear hb x0 x3 x4 x5 x6 x7 x17 x22 x30 x31 x32))
      go_ret
      exact ⟨rfl, KB.out⟩
  · have k3 : (m.kind == 3) = false := by simp [h3]
    have k4 : (m.kind == 4) = true := by rcases hk with h | h <;> simp_all
    clear hk h3
    cases a0
    · skip
      go_enter Try.func37, Try.ntmps37
      go_wp2_with  (first
      | ((with_reducible refine gate_dst (N := 1) rfl ?_); refine box_event rfl (N := 1) rfl (run_box _ _ _ 36 _ x.toArray rfl rfl _) ?_; intro gx hgx v1 hbox hbel; have BX := Lib.hid (show Blk v1 gx 36 x from hbox); have BL := Lib.hid hbel; have x0 := BX.out.cell 0 HX.out.c0; have x3 := BX.out.cell 3 (HX.out.ask 0 _ rfl); have x4 := BX.out.cell 4 (HX.out.ask 1 _ rfl); have x5 := BX.out.cell 5 (HX.out.ask 2 _ rfl); have x6 := BX.out.cell 6 (HX.out.ask 3 _ rfl); have x7 := BX.out.cell 7 (HX.out.ask 4 _ rfl); have x17 := BX.out.cell 17 (HX.out.ans 0 _ rfl); have x22 := BX.out.cell 22 (HX.out.ans 5 _ rfl); have x30 := BX.out.cell 30 HX.out.c30; have x31 := BX.out.cell 31 HX.out.c31; have x32 := BX.out.cell 32 HX.out.c32; clear hbox hbel hgx)
      | ((with_reducible refine gate_dst (N := 13) rfl ?_); refine gate_guard (by rfl) ?_; refine wpList_load_mid rfl 32 _ rfl gx 17 rfl _ _ (BX.out.part 17 _ HX.out.ans) Try.underlying32 rfl infoAns ?_)
      | ((with_reducible refine gate_dst (N := 58) rfl ?_); refine gate_guard (by rfl) ?_; refine wpList_load_mid rfl 32 _ rfl gx 17 rfl _ _ (BX.out.part 17 _ HX.out.ans) Try.underlying32 rfl infoAns ?_)
      | ((with_reducible refine gate_dst (N := 30) rfl ?_); refine wpList_load_mid rfl 27 _ rfl gx 3 rfl _ _ (BX.out.part 3 _ HX.out.ask) Try.underlying27 rfl infoAsk ?_)
      | ((with_reducible refine gate_dst (N := 50) rfl ?_); refine wpList_load_mid rfl 27 _ rfl gx 3 rfl _ _ (BX.out.part 3 _ HX.out.ask) Try.underlying27 rfl infoAsk ?_)
      | (go_at_call 53; refine (small_any _ _).mono ?_; rintro e w' ⟨rfl, rfl⟩)
      | (go_at_call 54; with_reducible refine (CE.out _).mono ?_; rintro e w' ⟨rfl, hb⟩; have KB := Lib.hid (BL.out.trans (hb.mono BL.out.size)); have y30 := (BX.out.below hb).cell 30 HX.out.c30; have y31 := (BX.out.below hb).cell 31 HX.out.c31; have y32 := (BX.out.below hb).cell 32 HX.out.c32; clear hb x0 x3 x4 x5 x6 x7 x17 x22 x30 x31 x32))
      go_ret
      exact ⟨rfl, BL.out⟩
    cases ne
    · skip
      go_enter Try.func37, Try.ntmps37
      go_wp2_with  (first
      | ((with_reducible refine gate_dst (N := 1) rfl ?_); refine box_event rfl (N := 1) rfl (run_box _ _ _ 36 _ x.toArray rfl rfl _) ?_; intro gx hgx v1 hbox hbel; have BX := Lib.hid (show Blk v1 gx 36 x from hbox); have BL := Lib.hid hbel; have x0 := BX.out.cell 0 HX.out.c0; have x3 := BX.out.cell 3 (HX.out.ask 0 _ rfl); have x4 := BX.out.cell 4 (HX.out.ask 1 _ rfl); have x5 := BX.out.cell 5 (HX.out.ask 2 _ rfl); have x6 := BX.out.cell 6 (HX.out.ask 3 _ rfl); have x7 := BX.out.cell 7 (HX.out.ask 4 _ rfl); have x17 := BX.out.cell 17 (HX.out.ans 0 _ rfl); have x22 := BX.out.cell 22 (HX.out.ans 5 _ rfl); have x30 := BX.out.cell 30 HX.out.c30; have x31 := BX.out.cell 31 HX.out.c31; have x32 := BX.out.cell 32 HX.out.c32; clear hbox hbel hgx)
      | ((with_reducible refine gate_dst (N := 13) rfl ?_); refine gate_guard (by rfl) ?_; refine wpList_load_mid rfl 32 _ rfl gx 17 rfl _ _ (BX.out.part 17 _ HX.out.ans) Try.underlying32 rfl infoAns ?_)
      | ((with_reducible refine gate_dst (N := 58) rfl ?_); refine gate_guard (by rfl) ?_; refine wpList_load_mid rfl 32 _ rfl gx 17 rfl _ _ (BX.out.part 17 _ HX.out.ans) Try.underlying32 rfl infoAns ?_)
      | ((with_reducible refine gate_dst (N := 30) rfl ?_); refine wpList_load_mid rfl 27 _ rfl gx 3 rfl _ _ (BX.out.part 3 _ HX.out.ask) Try.underlying27 rfl infoAsk ?_)
      | ((with_reducible refine gate_dst (N := 50) rfl ?_); refine wpList_load_mid rfl 27 _ rfl gx 3 rfl _ _ (BX.out.part 3 _ HX.out.ask) Try.underlying27 rfl infoAsk ?_)
      | (go_at_call 53; refine (small_any _ _).mono ?_; rintro e w' ⟨rfl, rfl⟩)
      | (go_at_call 54; with_reducible refine (CE.out _).mono ?_; rintro e w' ⟨rfl, hb⟩; have KB := Lib.hid (BL.out.trans (hb.mono BL.out.size)); have y30 := (BX.out.below hb).cell 30 HX.out.c30; have y31 := (BX.out.below hb).cell 31 HX.out.c31; have y32 := (BX.out.below hb).cell 32 HX.out.c32; clear hb x0 x3 x4 x5 x6 x7 x17 x22 x30 x31 x32))
      go_ret
      exact ⟨rfl, KB.out⟩
    · skip
      go_enter Try.func37, Try.ntmps37
      go_wp2_with  (first
      | ((with_reducible refine gate_dst (N := 1) rfl ?_); refine box_event rfl (N := 1) rfl (run_box _ _ _ 36 _ x.toArray rfl rfl _) ?_; intro gx hgx v1 hbox hbel; have BX := Lib.hid (show Blk v1 gx 36 x from hbox); have BL := Lib.hid hbel; have x0 := BX.out.cell 0 HX.out.c0; have x3 := BX.out.cell 3 (HX.out.ask 0 _ rfl); have x4 := BX.out.cell 4 (HX.out.ask 1 _ rfl); have x5 := BX.out.cell 5 (HX.out.ask 2 _ rfl); have x6 := BX.out.cell 6 (HX.out.ask 3 _ rfl); have x7 := BX.out.cell 7 (HX.out.ask 4 _ rfl); have x17 := BX.out.cell 17 (HX.out.ans 0 _ rfl); have x22 := BX.out.cell 22 (HX.out.ans 5 _ rfl); have x30 := BX.out.cell 30 HX.out.c30; have x31 := BX.out.cell 31 HX.out.c31; have x32 := BX.out.cell 32 HX.out.c32; clear hbox hbel hgx)
      | ((with_reducible refine gate_dst (N := 13) rfl ?_); refine gate_guard (by rfl) ?_; refine wpList_load_mid rfl 32 _ rfl gx 17 rfl _ _ (BX.out.part 17 _ HX.out.ans) Try.underlying32 rfl infoAns ?_)
      | ((with_reducible refine gate_dst (N := 58) rfl ?_); refine gate_guard (by rfl) ?_; refine wpList_load_mid rfl 32 _ rfl gx 17 rfl _ _ (BX.out.part 17 _ HX.out.ans) Try.underlying32 rfl infoAns ?_)
      | ((with_reducible refine gate_dst (N := 30) rfl ?_); refine wpList_load_mid rfl 27 _ rfl gx 3 rfl _ _ (BX.out.part 3 _ HX.out.ask) Try.underlying27 rfl infoAsk ?_)
      | ((with_reducible refine gate_dst (N := 50) rfl ?_); refine wpList_load_mid rfl 27 _ rfl gx 3 rfl _ _ (BX.out.part 3 _ HX.out.ask) Try.underlying27 rfl infoAsk ?_)
      | (go_at_call 53; refine (small_any _ _).mono ?_; rintro e w' ⟨rfl, rfl⟩)
      | (go_at_call 54; with_reducible refine (CE.out _).mono ?_; rintro e w' ⟨rfl, hb⟩; have KB := Lib.hid (BL.out.trans (hb.mono BL.out.size)); have y30 := (BX.out.below hb).cell 30 HX.out.c30; have y31 := (BX.out.below hb).cell 31 HX.out.c31; have y32 := (BX.out.below hb).cell 32 HX.out.c32; clear hb x0 x3 x4 x5 x6 x7 x17 x22 x30 x31 x32))
      go_ret
      exact ⟨rfl, KB.out⟩

set_option maxHeartbeats 8000000 in
set_option maxRecDepth 100000 in
theorem may_other (x : List Value) (m : Msg) (A : Option Addr) (c : Nat) (hx : MsgAt x m A c) (w : World)(hk : m.kind ≠ 1 ∧ m.kind ≠ 2 ∧ m.kind ≠ 3 ∧ m.kind ≠ 4) :
    Calls Try.prog 37 #[.agg x.toArray] w fun e w' => e = .returned (.bool (false)) ∧ Below w.heap.size w w' := by
  have HX := Lib.hid hx
  clear hx
  have k1 : (m.kind == 1) = false := by simp [hk.1]
  have k2 : (m.kind == 2) = false := by simp [hk.2.1]
  have k3 : (m.kind == 3) = false := by simp [hk.2.2.1]
  have k4 : (m.kind == 4) = false := by simp [hk.2.2.2]
  clear hk
  go_enter Try.func37, Try.ntmps37
  go_wp2_with  (first
  | ((with_reducible refine gate_dst (N := 1) rfl ?_); refine box_event rfl (N := 1) rfl (run_box _ _ _ 36 _ x.toArray rfl rfl _) ?_; intro gx hgx v1 hbox hbel; have BX := Lib.hid (show Blk v1 gx 36 x from hbox); have BL := Lib.hid hbel; have x0 := BX.out.cell 0 HX.out.c0; have x3 := BX.out.cell 3 (HX.out.ask 0 _ rfl); have x4 := BX.out.cell 4 (HX.out.ask 1 _ rfl); have x5 := BX.out.cell 5 (HX.out.ask 2 _ rfl); have x6 := BX.out.cell 6 (HX.out.ask 3 _ rfl); have x7 := BX.out.cell 7 (HX.out.ask 4 _ rfl); have x17 := BX.out.cell 17 (HX.out.ans 0 _ rfl); have x22 := BX.out.cell 22 (HX.out.ans 5 _ rfl); have x30 := BX.out.cell 30 HX.out.c30; have x31 := BX.out.cell 31 HX.out.c31; have x32 := BX.out.cell 32 HX.out.c32; clear hbox hbel hgx)
  | ((with_reducible refine gate_dst (N := 13) rfl ?_); refine gate_guard (by rfl) ?_; refine wpList_load_mid rfl 32 _ rfl gx 17 rfl _ _ (BX.out.part 17 _ HX.out.ans) Try.underlying32 rfl infoAns ?_)
  | ((with_reducible refine gate_dst (N := 58) rfl ?_); refine gate_guard (by rfl) ?_; refine wpList_load_mid rfl 32 _ rfl gx 17 rfl _ _ (BX.out.part 17 _ HX.out.ans) Try.underlying32 rfl infoAns ?_)
  | ((with_reducible refine gate_dst (N := 30) rfl ?_); refine wpList_load_mid rfl 27 _ rfl gx 3 rfl _ _ (BX.out.part 3 _ HX.out.ask) Try.underlying27 rfl infoAsk ?_)
  | ((with_reducible refine gate_dst (N := 50) rfl ?_); refine wpList_load_mid rfl 27 _ rfl gx 3 rfl _ _ (BX.out.part 3 _ HX.out.ask) Try.underlying27 rfl infoAsk ?_)
  | (go_at_call 53; refine (small_any _ _).mono ?_; rintro e w' ⟨rfl, rfl⟩)
  | (go_at_call 54; with_reducible refine (CE.out _).mono ?_; rintro e w' ⟨rfl, hb⟩; have KB := Lib.hid (BL.out.trans (hb.mono BL.out.size)); have y30 := (BX.out.below hb).cell 30 HX.out.c30; have y31 := (BX.out.below hb).cell 31 HX.out.c31; have y32 := (BX.out.below hb).cell 32 HX.out.c32; clear hb x0 x3 x4 x5 x6 x7 x17 x22 x30 x31 x32))
  go_ret
  exact ⟨rfl, BL.out⟩

/-- May the message be, but for its lengths? -/
def Msg.mayB (m : Msg) : Bool :=
  if m.kind = 1 then smallB m.op && m.noAns && (m.boot == 0) && stampEq m.gb m.gn 0 0
  else if m.kind = 2 then askEq m.op m.h.ex m.h.snap m.h.ino m.h.gen m.h2.ex m.h2.snap m.h2.ino m.h2.gen m.name m.name2 m.off m.num m.data 0 0 0 0 0 0 0 0 0 ⟨#[]⟩ ⟨#[]⟩ 0 0 ⟨#[]⟩ && smallB m.status && smallB m.akind
  else if m.kind = 3 ∨ m.kind = 4 then askEq m.op m.h.ex m.h.snap m.h.ino m.h.gen m.h2.ex m.h2.snap m.h2.ino m.h2.gen m.name m.name2 m.off m.num m.data 0 m.h.ex m.h.snap m.h.ino m.h.gen 0 0 0 0 ⟨#[]⟩ ⟨#[]⟩ 0 0 ⟨#[]⟩ && m.noAns
  else false
theorem may_any (x : List Value) (m : Msg) (A : Option Addr) (c : Nat) (hx : MsgAt x m A c) (w : World) :
    Calls Try.prog 37 #[.agg x.toArray] w fun e w' => e = .returned (.bool m.mayB) ∧ Below w.heap.size w w' := by
  unfold Msg.mayB
  by_cases h1 : m.kind = 1
  · rw [if_pos h1]
    exact may_call x m A c hx w _ (emptyAns_any m A c) _ _ _ rfl rfl rfl h1
  by_cases h2 : m.kind = 2
  · rw [if_neg h1, if_pos h2]
    exact may_reply x m A c hx w _ _ _ rfl rfl rfl h2
  by_cases h3 : m.kind = 3 ∨ m.kind = 4
  · rw [if_neg h1, if_neg h2, if_pos h3]
    exact may_back x m A c hx w _ (emptyAns_any m A c) _ rfl h3
  · rw [if_neg h1, if_neg h2, if_neg h3]
    exact may_other x m A c hx w ⟨h1, h2, fun h => h3 (.inl h), fun h => h3 (.inr h)⟩

end Go.Proofs.Ytibcadfpengacaa

-- RefN
set_option linter.unusedVariables false
set_option linter.unusedSimpArgs false
namespace Go.Proofs.Ytibcadfpengacaa
open Go.RowKit Go.Lib Go.Proofs.YtibcadfpengacaaW.PrintWords Go.Proofs.YtibcadfpengacaaW.PrintMore Go.Proofs.YtibcadfpengacaaW.PrintLast

/-- A message's block, and what it holds, as a value. -/
def msgBlk (w : World) (b : Nat) : Bool := match w.heap[b]? with
  | some (.cells cs _ (0, 0)) => cs.size == 33
  | _ => false
def blkVal (w : World) (b : Nat) : Value := match w.heap[b]? with
  | some (.cells cs _ _) => .agg cs
  | _ => undef
def ptrBlk : Value → Nat
  | .pointer (some ⟨b, _, _⟩) => b
  | _ => 0
def isHead : Value → Bool
  | .pointer (some ⟨_, 0, none⟩) => true
  | _ => false
theorem ptrBlk_mk (b o : Nat) : ptrBlk (.pointer (some ⟨b, o, none⟩)) = b := rfl
theorem isHead_mk (b : Nat) : isHead (.pointer (some ⟨b, 0, none⟩)) = true := rfl
theorem isHead_eq {v : Value} (h : isHead v = true) : v = .pointer (some ⟨ptrBlk v, 0, none⟩) := by
  unfold isHead at h
  split at h
  · rfl
  · cases h
theorem Blk.val {w : World} {b : Nat} {t : TypeId} {cs : List Value} (h : Blk w b t cs) : blkVal w b = .agg cs.toArray := by
  have h' : w.heap[b]? = some (.cells cs.toArray t (0, 0)) := h
  unfold blkVal
  rw [h']
theorem Blk.isMsg {w : World} {b : Nat} {t : TypeId} {cs : List Value} (h : Blk w b t cs) (hl : cs.length = 33) : msgBlk w b = true := by
  have h' : w.heap[b]? = some (.cells cs.toArray t (0, 0)) := h
  unfold msgBlk
  rw [h']
  simp [hl]
theorem ldX (ev : Operand → Value) (d : Option Tmp) (x : Operand) (t : TypeId) (p : String) (af : Array Edge) (g : Option (Nat × Bool)) (w : World) (h1 : isHead (ev x) = true) (h : msgBlk w (ptrBlk (ev x)) = true) :
    (execOp ev { dst := d, op := .load 36 x, type := t, pos := p, after := af, guard := g }).run Try.prog w = .ok (.value (blkVal w (ptrBlk (ev x)))) w := by
  have he := isHead_eq h1
  generalize ptrBlk (ev x) = b at *
  unfold msgBlk at h
  split at h
  · rename_i cs t he2
    have hB : Blk w b t cs.toList := by show w.heap[b]? = _; rw [he2]
    rw [hB.val]
    unfold execOp
    simp only [he]
    have hl := run_loadAt_mid (P := Try.prog) w b 0 36 cs.toList _ hB.range Try.underlying36 rfl (by
      rw [infoMsg]
      have : cs.size = 33 := by simpa using h
      simp [this])
    rw [Sem.run_bind, hl]
    rfl
  · cases h

set_option maxHeartbeats 8000000 in
set_option maxRecDepth 100000 in
theorem tail_raw (x : List Value) (m : Msg) (A : Option Addr) (c : Nat) (hx : MsgAt x m A c) (s1 s2 s3 : ByteArray) (h1 : s1.size ≤ 5000) (h2 : s2.size ≤ 5000) (h3 : s3.size ≤ 5000)
    (H1 : Says 57 (.int .u64 m.boot) s1) (H2 : Says 57 (.int .u64 m.gb) s2) (H3 : Says 57 (.int .u64 m.gn) s3) : Says 61 (.agg x.toArray) (s1 ++ s2 ++ s3) := by
  intro w
  have HX := Lib.hid hx
  have C1 := Lib.hid H1; have C2 := Lib.hid H2; have C3 := Lib.hid H3
  have f2 := lt_False (n := s1.size + s2.size) (by omega)
  have f3 := lt_False (n := s1.size + s2.size + s3.size) (by omega)
  clear H1 H2 H3 h1 h2 h3 hx
  go_enter Try.func61, Try.ntmps61
  go_wp2_with (first
    | ((with_reducible refine gate_dst (N := 1) rfl ?_); refine box_event rfl (N := 1) rfl (run_box _ _ _ 36 _ x.toArray rfl rfl _) ?_; intro gx hgx v1 hbox hbel; have BX := Lib.hid (show Blk v1 gx 36 x from hbox); have BL := Lib.hid hbel; have HGX := Lib.hid hgx; clear hbox hbel hgx))
  have ST := Lib.hid (show ∀ w0 w1 : World, Below w0.heap.size w0 w1 → Blk w0 gx 36 x → Blk w1 gx 36 x from fun _ _ hb h => h.below hb)
  have k0 : Kp (fun w1 => Blk w1 gx 36 x) w v1 := ⟨BX.out, BL.out⟩
  go_region_held3 (fun w' => w'.cell? ⟨gx, 30, none⟩ = some (.int .u64 m.boot) ∧ w'.cell? ⟨gx, 31, none⟩ = some (.int .u64 m.gb) ∧ w'.cell? ⟨gx, 32, none⟩ = some (.int .u64 m.gn) ∧ Kp (fun w1 => Blk w1 gx 36 x) w w')
    ((go_split_ands; first
      | (have q := Kp.next ST hb (by assumption); exact ⟨q.h.cell 30 HX.out.c30, q.h.cell 31 HX.out.c31, q.h.cell 32 HX.out.c32, q⟩)
      | (have q := Kp.drew ST k0; exact ⟨q.h.cell 30 HX.out.c30, q.h.cell 31 HX.out.c31, q.h.cell 32 HX.out.c32, q⟩)))
    ((first
        | (go_at_call 57; with_reducible refine (C1.out.at _).mono ?_; rintro e w' ⟨rfl, hb⟩)
        | (go_at_call 57; with_reducible refine (C2.out.at _).mono ?_; rintro e w' ⟨rfl, hb⟩)
        | (go_at_call 57; with_reducible refine (C3.out.at _).mono ?_; rintro e w' ⟨rfl, hb⟩)))
  go_split_ands
  rename_i q
  have Q := Lib.hid q.below
  clear q
  go_wp2
  go_ret
  exact ⟨rfl, Q.out⟩

def tailS (m : Msg) : ByteArray := leS m.boot.toNat 8 ++ leS m.gb.toNat 8 ++ leS m.gn.toNat 8
theorem tailS_size (m : Msg) : (tailS m).size = 24 := by simp [tailS, ByteArray.size_append, leS_size]
theorem tail_says (x : List Value) (m : Msg) (A : Option Addr) (c : Nat) (hx : MsgAt x m A c) (hk : m.Ok) : Says 61 (.agg x.toArray) (tailS m) :=
  tail_raw x m A c hx _ _ _ (by rw [leS_size]; omega) (by rw [leS_size]; omega) (by rw [leS_size]; omega) (fun w => l8_any _ hk.boot w) (fun w => l8_any _ hk.gb w) (fun w => l8_any _ hk.gn w)

attribute [local go_sem ↓] ldX
attribute [local go_sem] ptrBlk_mk isHead_mk
set_option maxHeartbeats 8000000 in
set_option maxRecDepth 100000 in
theorem layBack_raw (x : List Value) (m : Msg) (A : Option Addr) (c : Nat) (hx : MsgAt x m A c) (p1 p2 p3 : ByteArray) (g1 : p1.size ≤ 5000) (g2 : p2.size ≤ 5000) (g3 : p3.size ≤ 5000) (P1 : Says 55 (.int .i64 m.kind) p1) (P2 : Says 56 (.int .u32 m.client) p2) (P3 : Says 57 (.int .u64 m.xid) p3) (t1 t2 : ByteArray) (h1 : t1.size ≤ 5000) (h2 : t2.size ≤ 5000)
    (H1 : Says 58 (.agg #[.int .u32 m.h.ex, .int .u64 m.h.snap, .int .u64 m.h.ino, .int .u64 m.h.gen]) t1) (H2 : Says 61 (.agg x.toArray) t2) (hk1 : m.kind ≠ 1) (hk2 : m.kind ≠ 2) : Says 38 (.agg x.toArray) (p1 ++ p2 ++ p3 ++ t1 ++ t2) := by
  intro w
  have HX := Lib.hid hx
  have C1 := Lib.hid H1; have C2 := Lib.hid H2
  have HT := Lib.hid (show t1.size ≤ 5000 ∧ t2.size ≤ 5000 from ⟨h1, h2⟩)
  have k1 : (m.kind == 1) = false := by simp [hk1]
  have k2 : (m.kind == 2) = false := by simp [hk2]
  clear H1 H2 h1 h2 hk1 hk2
  have D1 := Lib.hid P1; have D2 := Lib.hid P2; have D3 := Lib.hid P3
  have G := Lib.hid (show p1.size ≤ 5000 ∧ p2.size ≤ 5000 ∧ p3.size ≤ 5000 from ⟨g1, g2, g3⟩)
  have f2 := lt_False (n := p1.size + p2.size) (by omega)
  have f3 := lt_False (n := p1.size + p2.size + p3.size) (by omega)
  clear P1 P2 P3 g1 g2 g3 hx
  go_enter Try.func38, Try.ntmps38
  go_wp2_with (first
    | ((with_reducible refine gate_dst (N := 1) rfl ?_); refine box_event rfl (N := 1) rfl (run_box _ _ _ 36 _ x.toArray rfl rfl _) ?_; intro gx hgx v1 hbox hbel; have BX := Lib.hid (show Blk v1 gx 36 x from hbox); have BL := Lib.hid hbel; have HGX := Lib.hid hgx; clear hbox hbel hgx))
  have ST := Lib.hid (show ∀ w0 w1 : World, Below w0.heap.size w0 w1 → Blk w0 gx 36 x → Blk w1 gx 36 x from fun _ _ hb h => h.below hb)
  have k0 : Kp (fun w1 => Blk w1 gx 36 x) w v1 := ⟨BX.out, BL.out⟩
  go_region_held3 (fun w' => w'.cell? ⟨gx, 0, none⟩ = some (.int .i64 m.kind) ∧ w'.cell? ⟨gx, 1, none⟩ = some (.int .u32 m.client) ∧ w'.cell? ⟨gx, 2, none⟩ = some (.int .u64 m.xid) ∧ Kp (fun w1 => Blk w1 gx 36 x) w w')
    ((go_split_ands; first
      | (have q := Kp.next ST hb (by assumption); exact ⟨q.h.cell 0 HX.out.c0, q.h.cell 1 HX.out.c1, q.h.cell 2 HX.out.c2, q⟩)
      | (have q := Kp.drew ST k0; exact ⟨q.h.cell 0 HX.out.c0, q.h.cell 1 HX.out.c1, q.h.cell 2 HX.out.c2, q⟩)))
    ((first
        | (go_at_call 55; with_reducible refine (D1.out.at _).mono ?_; rintro e w' ⟨rfl, hb⟩)
        | (go_at_call 56; with_reducible refine (D2.out.at _).mono ?_; rintro e w' ⟨rfl, hb⟩)
        | (go_at_call 57; with_reducible refine (D3.out.at _).mono ?_; rintro e w' ⟨rfl, hb⟩)))
  go_split_ands
  rename_i q
  have Q0 := Lib.hid q
  have cX0 := Q0.out.h.cell 0 HX.out.c0
  clear q k0 BX BL HGX
  generalize hp : p1 ++ p2 ++ p3 = p at *
  have Hp := Lib.hid hp
  have hps : p.size ≤ 15000 := by rw [← hp, ByteArray.size_append, ByteArray.size_append]; have := G.out; omega
  have HPS := Lib.hid hps
  clear hp hps f2 f3 D1 D2 D3
  have f2 := lt_False (n := p.size + t1.size) (by have := HPS.out; have := HT.out; omega)
  have f3 := lt_False (n := p.size + t1.size + t2.size) (by have := HPS.out; have := HT.out; omega)
  go_wp2
  have k0 := Q0.out
  go_region_held3 (fun w' => w'.cell? ⟨gx, 4, none⟩ = some (.int .u32 m.h.ex) ∧ w'.cell? ⟨gx, 5, none⟩ = some (.int .u64 m.h.snap) ∧ w'.cell? ⟨gx, 6, none⟩ = some (.int .u64 m.h.ino) ∧ w'.cell? ⟨gx, 7, none⟩ = some (.int .u64 m.h.gen) ∧ msgBlk w' gx = true ∧ blkVal w' gx = .agg x.toArray ∧ Kp (fun w1 => Blk w1 gx 36 x) w w')
    ((go_split_ands; first
      | (have q := Kp.next ST hb (by assumption); exact ⟨q.h.cell 4 (HX.out.ask 1 _ rfl), q.h.cell 5 (HX.out.ask 2 _ rfl), q.h.cell 6 (HX.out.ask 3 _ rfl), q.h.cell 7 (HX.out.ask 4 _ rfl), q.h.isMsg HX.out.len, q.h.val, q⟩)
      | (have q := Kp.drew ST k0; exact ⟨q.h.cell 4 (HX.out.ask 1 _ rfl), q.h.cell 5 (HX.out.ask 2 _ rfl), q.h.cell 6 (HX.out.ask 3 _ rfl), q.h.cell 7 (HX.out.ask 4 _ rfl), q.h.isMsg HX.out.len, q.h.val, q⟩)))
    ((first
        | (go_at_call 58; with_reducible refine (C1.out.at _).mono ?_; rintro e w' ⟨rfl, hb⟩)
        | (go_at_call 61; with_reducible refine (C2.out.at _).mono ?_; rintro e w' ⟨rfl, hb⟩)))
  go_split_ands
  rename_i q
  have Q := Lib.hid q.below
  clear q
  go_wp2
  go_ret
  exact ⟨by rw [Hp.out]; rfl, Q.out⟩

end Go.Proofs.Ytibcadfpengacaa
