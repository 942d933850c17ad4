/- Words, contracts and plain laws for the claim's last text: ListR, AskR, MsgR, MsgW, Bare, Plongx0. -/
import Derived.Test.YtibcadfpengacaaMf1
import Derived.Shelf.RegionOpenPlain
import Derived.Test.YtibcadfpengacaaProg
import Derived.Below
import Derived.Deep.Draws
import Derived.Deep.AppendLies
import Derived.Maps.AppendAt
import Derived.OwnWalk
import Derived.Laws.BytesArg
import Derived.Laws.MakeOwn
import Derived.Laws.OwnMore
import Derived.Deep.OwnRows
import Derived.Tactics
import Derived.Lib.ConvBytes
import Derived.Laws.Slices
import Derived.WalkKit
import Derived.KernelRfl
import Derived.RowKit3
import Derived.Deep.LoopGhost
import Derived.Deep.QuietTactic
import Derived.BigQuiet
import Derived.WideLaws
import Derived.Deep.DeepCutAuto
import Derived.Deep.CutBlock
import Derived.Deep.RegionHeld3
import Derived.Laws.Rows
import Derived.Lib.AppendStr
import Derived.ArgAppend
import Derived.Laws.IdiomCopy
import Derived.OrdersHeld
import Derived.Laws.BitsLemmas
import Derived.RowKit
import Derived.Test.YtibcadfpengacaaMf0
-- ListR
set_option linter.unusedVariables false
set_option linter.unusedSimpArgs false
namespace Go.Proofs.Ytibcadfpengacaa
open Go.RowKit Go.Lib Go.Proofs.YtibcadfpengacaaW.PrintWords Go.Proofs.YtibcadfpengacaaW.PrintMore Go.Proofs.YtibcadfpengacaaW.PrintLast

def Rd.entV (ρ : Rd) : Ent := ⟨ρ.textS ⟨#[]⟩, ρ.textR.num 8, (ρ.textR.left 8).num 8⟩
def Rd.entR (ρ : Rd) : Rd := (ρ.textR.left 8).left 8
/-- The first k entries that are read; the reader behind them. -/
def Rd.ents (ρ : Rd) : Nat → List Ent × Rd
  | 0 => ([], ρ)
  | k + 1 => ((ρ.ents k).1 ++ [(ρ.ents k).2.entV], (ρ.ents k).2.entR)
theorem Rd.fail_s (ρ : Rd) : ρ.fail.s = ρ.s := rfl
theorem Rd.textR_size (ρ : Rd) : ρ.textR.s.size ≤ ρ.s.size := by
  have h1 := Rd.left_size ρ 4
  have h2 := Rd.left_size (ρ.left 4) (ρ.num 4)
  have h3 := Rd.left_size ((ρ.left 4).left (ρ.num 4)) (padN (ρ.num 4))
  unfold Rd.textR
  generalize padN (ρ.num 4) = p at *
  generalize ρ.num 4 = n at *
  generalize ρ.left 4 = r at *
  generalize r.left n = r2 at *
  by_cases c1 : 4096 < n
  · rw [if_pos c1, Rd.fail_s]; exact h1
  · rw [if_neg c1]
    by_cases c2 : allZ (r2.took p) = true
    · rw [if_pos c2]; omega
    · rw [if_neg c2, Rd.fail_s]; omega
theorem Rd.entR_size (ρ : Rd) : ρ.entR.s.size ≤ ρ.s.size := by
  have h1 := Rd.textR_size ρ
  unfold Rd.entR
  generalize ρ.textR = r at *
  have h2 := Rd.left_size r 8
  have h3 := Rd.left_size (r.left 8) 8
  exact Nat.le_trans h3 (Nat.le_trans h2 h1)
theorem Rd.ents_succ1 (ρ : Rd) (k : Nat) : (ρ.ents (k + 1)).1 = (ρ.ents k).1 ++ [(ρ.ents k).2.entV] := by rw [Rd.ents]
theorem Rd.ents_succ2 (ρ : Rd) (k : Nat) : (ρ.ents (k + 1)).2 = (ρ.ents k).2.entR := by rw [Rd.ents]
theorem Rd.ents_size (ρ : Rd) (k : Nat) : (ρ.ents k).2.s.size ≤ ρ.s.size := by
  induction k with
  | zero => exact Nat.le_refl _
  | succ k ih =>
    rw [Rd.ents_succ2]
    have h := Rd.entR_size (ρ.ents k).2
    generalize (ρ.ents k).2.entR = r at *
    exact Nat.le_trans h ih
theorem Rd.ents_length (ρ : Rd) : ∀ k, (ρ.ents k).1.length = k
  | 0 => rfl
  | k + 1 => by
    have := Rd.ents_length ρ k
    simp [Rd.ents, this]
theorem entVs_length (es : List Ent) : (es.flatMap Ent.vs).length = es.length * 3 := by
  induction es with
  | nil => rfl
  | cons e es ih =>
    rw [List.flatMap_cons, List.length_append, ih]
    simp only [Ent.vs, List.length_cons, List.length_nil]
    omega

/-- The cells of n entries that hold nothing. -/
def zRow : Nat → List Value
  | 0 => []
  | n + 1 => .string ⟨#[]⟩ :: .int .u64 0 :: .int .u64 0 :: zRow n
theorem zRow_length : ∀ n, (zRow n).length = n * 3
  | 0 => rfl
  | n + 1 => by
    have := zRow_length n
    simp only [zRow, List.length_cons, this]
    omega
theorem zRow_get : ∀ (n j : Nat), j < n * 3 → (zRow n)[j]? = some ((#[Value.string ⟨#[]⟩, .int .u64 0, .int .u64 0] : Array Value)[j % 3]!)
  | 0, j, h => absurd h (by omega)
  | n + 1, 0, _ => rfl
  | n + 1, 1, _ => rfl
  | n + 1, 2, _ => rfl
  | n + 1, j + 3, h => by
    have := zRow_get n j (by omega)
    simp only [zRow, List.getElem?_cons_succ, this, Nat.add_mod_right]
theorem zRow_made (n : Nat) : madeCells #[Value.string ⟨#[]⟩, .int .u64 0, .int .u64 0] (n * 3) = (zRow n).toArray := by
  refine Array.ext (by rw [size_madeCells, List.size_toArray, zRow_length]) (fun j h1 h2 => ?_)
  rw [size_madeCells] at h1
  have h3 := zRow_get n j h1
  have h4 : (zRow n)[j]? = some ((zRow n).toArray[j]'h2) := by simp [List.getElem?_eq_getElem (show j < (zRow n).length by rw [zRow_length]; exact h1)]
  rw [h3] at h4
  rw [← Option.some.inj h4]
  simp [madeCells]
theorem zRow_drop : ∀ (n k : Nat), k < n → (zRow n).drop (k * 3) = .string ⟨#[]⟩ :: .int .u64 0 :: .int .u64 0 :: (zRow n).drop ((k + 1) * 3)
  | 0, k, h => absurd h (by omega)
  | n + 1, 0, _ => rfl
  | n + 1, k + 1, h => by
    have := zRow_drop n k (by omega)
    rw [show (k + 1) * 3 = k * 3 + 3 from by omega, show (k + 1 + 1) * 3 = (k + 1) * 3 + 3 from by omega]
    simpa [zRow] using this

theorem rget0 {A l : List Value} {x : Value} {i : Nat} (h : A.length = i) : (A ++ x :: l)[i]? = some x := by subst h; simp
theorem rget1 {A l : List Value} {x y : Value} {i : Nat} (h : A.length = i) : (A ++ x :: y :: l)[i + 1]? = some y := by subst h; simp [List.getElem?_append_right]
theorem rget2 {A l : List Value} {x y z : Value} {i : Nat} (h : A.length = i) : (A ++ x :: y :: z :: l)[i + 2]? = some z := by subst h; simp [List.getElem?_append_right]
theorem rset0 {A l : List Value} {x v : Value} {i : Nat} (h : A.length = i) : (A ++ x :: l).set i v = A ++ v :: l := by subst h; simp [List.set_append_right]
theorem rset1 {A l : List Value} {x y v : Value} {i : Nat} (h : A.length = i) : (A ++ x :: y :: l).set (i + 1) v = A ++ x :: v :: l := by subst h; simp [List.set_append_right]
theorem rset2 {A l : List Value} {x y z v : Value} {i : Nat} (h : A.length = i) : (A ++ x :: y :: z :: l).set (i + 2) v = A ++ x :: y :: v :: l := by subst h; simp [List.set_append_right]

def rowR (es : List Ent) (n : Nat) : List Value := es.flatMap Ent.vs ++ (zRow n).drop (es.length * 3)
theorem rowR_nil (n : Nat) : rowR [] n = zRow n := by simp [rowR]
theorem rowR_full (es : List Ent) : rowR es es.length = es.flatMap Ent.vs := by
  unfold rowR
  rw [List.drop_eq_nil_of_le (by rw [zRow_length]; exact Nat.le_refl _), List.append_nil]
theorem rowR_cells (es : List Ent) (n : Nat) (h : es.length < n) : ∃ A Z, rowR es n = A ++ .string ⟨#[]⟩ :: .int .u64 0 :: .int .u64 0 :: Z ∧ A.length = es.length * 3 ∧
    ∀ e, rowR (es ++ [e]) n = A ++ .string e.name :: .int .u64 e.ino :: .int .u64 e.cookie :: Z := by
  refine ⟨es.flatMap Ent.vs, (zRow n).drop ((es.length + 1) * 3), ?_, entVs_length es, fun e => ?_⟩
  · unfold rowR
    rw [zRow_drop n es.length h]
  · unfold rowR
    simp [Ent.vs]

/-- On the way through a list: the reader, the message's block, the entries' block. -/
structure LR (w wr : World) (R b : Nat) (t : TypeId) (cs : List Value) (L : Nat) (row : List Value) (ρ : Rd) : Prop where
  rd : RdS wr R ρ
  m : Blk wr b t cs
  l : Blk wr L 99 row
  keep : Keeps (fun k => k = R ∨ k = b) w wr
  neb : b ≠ R
  neL : L ≠ R
  neM : b ≠ L
  new : w.heap.size ≤ L
theorem LR.drew {w wr : World} {R b : Nat} {t : TypeId} {cs : List Value} {L : Nat} {row : List Value} {ρ : Rd} (h : LR w wr R b t cs L row ρ) : LR w wr.drew R b t cs L row ρ := ⟨h.rd, h.m, h.l, h.keep.drew, h.neb, h.neL, h.neM, h.new⟩
theorem LR.step {w wr w' : World} {R b : Nat} {t : TypeId} {cs : List Value} {L : Nat} {row row' : List Value} {ρ ρ' : Rd} (h : LR w wr R b t cs L row ρ) (q1 : RdS w' R ρ') (q2 : Blk w' L 99 row') (q3 : Keeps (fun k => k = R ∨ k = L) wr w') : LR w w' R b t cs L row' ρ' :=
  ⟨q1, h.m.kept q3 (by rintro (e | e); exact h.neb e; exact h.neM e), q2, h.keep.trans q3 (by rintro k hk (e | e); exact .inl e; have := h.new; omega), h.neb, h.neL, h.neM, h.new⟩

/-- What list leaves: the reader; the message's block with the list in it; the entries in a block of their own. -/
def ListPost (w : World) (R b o : Nat) (t : TypeId) (cs : List Value) (es : List Ent) (ρ' : Rd) (w' : World) : Prop :=
  ∃ L, w.heap.size ≤ L ∧ RdS w' R ρ' ∧ Blk w' b t (cs.set o (.slice (some ⟨L, 0, none⟩) es.length es.length)) ∧ Blk w' L 99 (es.flatMap Ent.vs) ∧ Keeps (fun k => k = R ∨ k = b) w w'

theorem infoEnt : (Try.prog.info? 99).map (fun i => (i.zero, i.size, i.bytes)) = some (some (.agg #[.string ⟨#[]⟩, .int .u64 0, .int .u64 0]), 3, 32) := by kernel_rfl

set_option maxHeartbeats 8000000 in
set_option maxRecDepth 100000 in
theorem list_r_some (R b o : Nat) (t : TypeId) (cs : List Value) (ρ : Rd) (hs : ρ.s.size ≤ 281474976710656) (w : World) (h : RdS w R ρ) (hb : Blk w b t cs) (ho : cs[o]? = some (.slice none 0 0)) (hne : b ≠ R)
    (h1 : 1 ≤ ρ.num 4) (h64 : ρ.num 4 ≤ 64) :
    Calls Try.prog 51 #[.iface 90 (.pointer (some ⟨R, 0, none⟩)), .pointer (some ⟨b, o, none⟩)] w fun r w' => r = .returned (.bool true) ∧ ListPost w R b o t cs ((ρ.left 4).ents (ρ.num 4)).1 ((ρ.left 4).ents (ρ.num 4)).2 w' := by
  obtain ⟨i0, hi, hz0, hz1, hz2⟩ := info_parts infoEnt
  have hc : w.cell? ⟨b, o, none⟩ = some (.slice none 0 0) := hb.cell o ho
  have hRl := h.lt
  have hbl := hb.lt
  have y0 := Blk.new w 23 [.int .u64 0]
  have C := Lib.hid (number_r R w.heap.size 0 23 [.int .u64 0] 0 ρ 4 (by omega) hs _ (h.alloc _) y0 rfl (by omega))
  have HB := Lib.hid hb
  have hs1 : (ρ.left 4).s.size ≤ 281474976710656 := Nat.le_trans (Rd.left_size ρ 4) hs
  have Hs1 := Lib.hid hs1
  have hm := rm_number ⟨R, 0, none⟩
  have hm2 := rm_text ⟨R, 0, none⟩
  have hn := rn_number ⟨R, 0, none⟩
  have hn2 := rn_text ⟨R, 0, none⟩
  have Ho := Lib.hid ho
  clear h hb y0 hs hs1
  generalize hn4 : ρ.num 4 = n at *
  generalize ρ.left 4 = ρ1 at *
  go_enter Try.func51, Try.ntmps51
  go_wp2_with fail
  refine C.out.mono ?_
  rintro e w2 ⟨rfl, q1, q2, q3⟩
  have cy : w2.cell? ⟨w.heap.size, 0, none⟩ = some (.int .u64 (n : Int)) := q2.cell 0 rfl
  have B2 := Lib.hid ((HB.out.alloc (.cells #[.int .u64 0] 23)).kept q3 (by rintro (e | e); exact hne e; omega))
  have hcM : w2.cell? ⟨b, o, none⟩ = some (.slice none 0 0) := B2.out.cell o Ho.out
  have hfM : w2.frozen? ⟨b, o, none⟩ = false := B2.out.frozen o
  have Q1 := Lib.hid q1
  have K := Lib.hid (((Keeps.refl (fun k => k = R ∨ k = b) w).alloc (.cells #[.int .u64 0] 23)).trans q3 (by rintro k hk (e | e); exact .inl e; omega))
  clear q1 q2 q3 C HB hc
  have hsz2 : w.heap.size ≤ w2.heap.size := K.out.size
  have hol : o < cs.length := (List.getElem?_eq_some_iff.1 Ho.out).1
  have Hol := Lib.hid hol
  have g64 : ¬ (64 : Int) < (n : Int) := by omega
  have g1 : (0 : Int) < (n : Int) := by omega
  have hnil := Lib.run_eql_slice_nil (P := Try.prog)
  go_wp2_with fail
  rw [run_make w2 30 99 i0 _ Try.underlying30 hi hz0 .u64 .u64 n n (by omega) (Int.le_refl _) (by rw [hz2]; omega) (by omega)]
  rw [hz1, Int.toNat_natCast, show (Value.agg #[Value.string ⟨#[]⟩, .int .u64 0, .int .u64 0]).cells = #[Value.string ⟨#[]⟩, .int .u64 0, .int .u64 0] from rfl, zRow_made n]
  simp only [Result.andThen]
  rw [Oper.upon_value]
  have b0 := B2.out.alloc (.cells (zRow n).toArray 99)
  have r0 := Q1.out.alloc (.cells (zRow n).toArray 99)
  have hcM3 := b0.cell o Ho.out
  have hfM3 := b0.frozen o
  have hb2 := B2.out.lt
  have hr2 := Q1.out.lt
  have l0 : Blk ((w2.setCell ⟨b, o, none⟩ (.slice (some ⟨w2.heap.size, 0, none⟩) n n)).alloc (.cells (zRow n).toArray 99)) w2.heap.size 99 (zRow n) := by
    have := Blk.new (w2.setCell ⟨b, o, none⟩ (.slice (some ⟨w2.heap.size, 0, none⟩) n n)) 99 (zRow n)
    rwa [show (w2.setCell ⟨b, o, none⟩ (.slice (some ⟨w2.heap.size, 0, none⟩) n n)).heap.size = w2.heap.size by simp] at this
  have F0 := Lib.hid (show LR w ((w2.setCell ⟨b, o, none⟩ (.slice (some ⟨w2.heap.size, 0, none⟩) n n)).alloc (.cells (zRow n).toArray 99)) R b t (cs.set o (.slice (some ⟨w2.heap.size, 0, none⟩) n n)) w2.heap.size (rowR (ρ1.ents 0).1 n) (ρ1.ents 0).2 from
    ⟨(Q1.out.other (by exact hne.symm) _).alloc _, (B2.out.set o _).alloc _, (by show Blk _ _ _ (rowR [] n); rw [rowR_nil]; exact l0), (K.out.setCell (fun _ => .inr rfl) _).alloc _, hne, by omega, by omega, hsz2⟩)
  clear b0 r0 l0
  generalize hL : w2.heap.size = L at *
  have hcs : (cs.set o (.slice (some ⟨L, 0, none⟩) n n))[o]? = some (.slice (some ⟨L, 0, none⟩) n n) := by rw [List.getElem?_set_self hol]
  obtain ⟨cs1, HC1⟩ : ∃ x, Hid (cs.set o (.slice (some ⟨L, 0, none⟩) n n) = x) := ⟨_, Lib.hid rfl⟩
  rw [HC1.out] at F0 hcs
  have Hcs := Lib.hid hcs
  clear hcs
  go_wp2_with fail
  clear hcM hfM hcM3 hfM3 B2 Q1 K
  go_loopg [33] n (fun gk i wr => ∃ k : Nat, k + gk = n ∧ i = .int .i64 k ∧ Hid (LR w wr R b t cs1 L (rowR (ρ1.ents k).1 n) (ρ1.ents k).2))
  case atStart => exact ⟨0, by omega, rfl, F0⟩
  case round =>
    obtain ⟨k, hk, rfl, F⟩ := hrel
    clear F0 cy
    by_cases hlt : k < n
    · have hkz : (k : Int) < (n : Int) := by omega
      obtain ⟨A, Z, e1, eA, e2⟩ := rowR_cells (ρ1.ents k).1 n (by rw [Rd.ents_length]; exact hlt)
      rw [Rd.ents_length] at eA
      have HA := Lib.hid eA
      have E2 := Lib.hid (show rowR (ρ1.ents (k + 1)).1 n = A ++ .string (ρ1.ents k).2.entV.name :: .int .u64 (ρ1.ents k).2.entV.ino :: .int .u64 (ρ1.ents k).2.entV.cookie :: Z from (by rw [Rd.ents_succ1]; exact e2 (ρ1.ents k).2.entV))
      have hR2 := Lib.hid (show (ρ1.ents (k + 1)).2 = (ρ1.ents k).2.entR from Rd.ents_succ2 ρ1 k)
      have hsk := Lib.hid (Nat.le_trans (Rd.ents_size ρ1 k) Hs1.out)
      rw [e1] at F
      clear e1 e2 eA
      generalize (ρ1.ents k).2 = ρk at *
      have cL : wr.cell? ⟨b, o, none⟩ = some (.slice (some ⟨L, 0, none⟩) n n) := F.out.m.cell o Hcs.out
      go_wp2_with fail
      go_still_tail 7, (by kernel_rfl)
      change wpList _ _ _ _ _ wr.drew
      have F := Lib.hid F.out.drew
      clear cL
      generalize wr.drew = wr at F ⊢
      go_wp2_with fail
      refine (text_r R L (k * 3) 99 _ ⟨#[]⟩ ρk hsk.out _ F.out.rd F.out.l (rget0 HA.out) F.out.neL).mono ?_
      rintro e v1 ⟨rfl, q1, q2, q3⟩
      rw [rset0 HA.out] at q2
      have G1 := Lib.hid (F.out.step q1 q2 q3)
      have hs1k := Lib.hid (Nat.le_trans (Rd.textR_size ρk) hsk.out)
      clear q1 q2 q3 F
      go_wp2_with fail
      go_still_tail 7, (by kernel_rfl)
      change wpList _ _ _ _ _ v1.drew
      have G1 := Lib.hid G1.out.drew
      generalize v1.drew = v1 at G1 ⊢
      go_wp2_with fail
      refine (number_r R L (k * 3 + 1) 99 _ 0 ρk.textR 8 (by omega) hs1k.out _ G1.out.rd G1.out.l (rget1 HA.out) G1.out.neL).mono ?_
      rintro e v2 ⟨rfl, q1, q2, q3⟩
      rw [rset1 HA.out] at q2
      have G2 := Lib.hid (G1.out.step q1 q2 q3)
      have hs2k := Lib.hid (Nat.le_trans (Rd.left_size ρk.textR 8) hs1k.out)
      clear q1 q2 q3 G1
      go_wp2_with fail
      go_still_tail 7, (by kernel_rfl)
      change wpList _ _ _ _ _ v2.drew
      have G2 := Lib.hid G2.out.drew
      generalize v2.drew = v2 at G2 ⊢
      go_wp2_with fail
      refine (number_r R L (k * 3 + 2) 99 _ 0 (ρk.textR.left 8) 8 (by omega) hs2k.out _ G2.out.rd G2.out.l (rget2 HA.out) G2.out.neL).mono ?_
      rintro e v3 ⟨rfl, q1, q2, q3⟩
      rw [rset2 HA.out] at q2
      have G3 := Lib.hid (G2.out.step q1 q2 q3)
      clear q1 q2 q3 G2
      have G4 : LR w v3 R b t cs1 L (rowR (ρ1.ents (k + 1)).1 n) (ρ1.ents (k + 1)).2 := by
        rw [E2.out, hR2.out]
        simp only [Rd.entV, Rd.entR]
        exact G3.out
      have G4 := Lib.hid G4
      clear G3
      go_wp2_with fail
      go_roundg (n - (k + 1))
      case measure => omega
      case rel => exact ⟨k + 1, by omega, by go_num, G4⟩
    · have hke : k = n := by omega
      subst hke
      have hkz : ¬ ((k : Int) < (k : Int)) := by omega
      go_wp2_with fail
      go_ret
      have hrow := rowR_full (ρ1.ents k).1
      rw [Rd.ents_length] at hrow
      have hl := F.out.l
      rw [hrow] at hl
      exact ⟨rfl, L, F.out.new, F.out.rd, by rw [Rd.ents_length, HC1.out]; exact F.out.m, hl, F.out.keep⟩

set_option maxHeartbeats 8000000 in
set_option maxRecDepth 100000 in
theorem list_r_long (R b o : Nat) (t : TypeId) (cs : List Value) (ρ : Rd) (hs : ρ.s.size ≤ 281474976710656) (w : World) (h : RdS w R ρ) (hb : Blk w b t cs) (ho : cs[o]? = some (.slice none 0 0)) (hne : b ≠ R)
    (h1 : ¬ ρ.num 4 ≤ 64) :
    Calls Try.prog 51 #[.iface 90 (.pointer (some ⟨R, 0, none⟩)), .pointer (some ⟨b, o, none⟩)] w fun r w' => r = .returned (.bool false) ∧ RPost w R b t cs (ρ.left 4) w' := by
  have hc : w.cell? ⟨b, o, none⟩ = some (.slice none 0 0) := hb.cell o ho
  have hRl := h.lt
  have hbl := hb.lt
  have y0 := Blk.new w 23 [.int .u64 0]
  have C := Lib.hid (number_r R w.heap.size 0 23 [.int .u64 0] 0 ρ 4 (by omega) hs _ (h.alloc _) y0 rfl (by omega))
  have HB := Lib.hid hb
  have hm := rm_number ⟨R, 0, none⟩
  have hm2 := rm_text ⟨R, 0, none⟩
  have hn := rn_number ⟨R, 0, none⟩
  have hn2 := rn_text ⟨R, 0, none⟩
  have Ho := Lib.hid ho
  clear h hb y0 hs
  generalize hn4 : ρ.num 4 = n at *
  generalize ρ.left 4 = ρ1 at *
  go_enter Try.func51, Try.ntmps51
  go_wp2_with fail
  refine C.out.mono ?_
  rintro e w2 ⟨rfl, q1, q2, q3⟩
  have cy : w2.cell? ⟨w.heap.size, 0, none⟩ = some (.int .u64 (n : Int)) := q2.cell 0 rfl
  have B2 := Lib.hid ((HB.out.alloc (.cells #[.int .u64 0] 23)).kept q3 (by rintro (e | e); exact hne e; omega))
  have hcM : w2.cell? ⟨b, o, none⟩ = some (.slice none 0 0) := B2.out.cell o Ho.out
  have Q1 := Lib.hid q1
  have K := Lib.hid (((Keeps.refl (fun k => k = R ∨ k = b) w).alloc (.cells #[.int .u64 0] 23)).trans q3 (by rintro k hk (e | e); exact .inl e; omega))
  clear q1 q2 q3 C HB hc
  have g64 : (64 : Int) < (n : Int) := by omega
  have hnil := Lib.run_eql_slice_nil (P := Try.prog)
  go_wp2_with fail
  go_ret
  exact ⟨rfl, Q1.out, B2.out, K.out⟩

set_option maxHeartbeats 8000000 in
set_option maxRecDepth 100000 in
theorem list_r_none (R b o : Nat) (t : TypeId) (cs : List Value) (ρ : Rd) (hs : ρ.s.size ≤ 281474976710656) (w : World) (h : RdS w R ρ) (hb : Blk w b t cs) (ho : cs[o]? = some (.slice none 0 0)) (hne : b ≠ R)
    (h1 : ρ.num 4 = 0) :
    Calls Try.prog 51 #[.iface 90 (.pointer (some ⟨R, 0, none⟩)), .pointer (some ⟨b, o, none⟩)] w fun r w' => r = .returned (.bool true) ∧ RPost w R b t cs (ρ.left 4) w' := by
  have hc : w.cell? ⟨b, o, none⟩ = some (.slice none 0 0) := hb.cell o ho
  have hRl := h.lt
  have hbl := hb.lt
  have y0 := Blk.new w 23 [.int .u64 0]
  have C := Lib.hid (number_r R w.heap.size 0 23 [.int .u64 0] 0 ρ 4 (by omega) hs _ (h.alloc _) y0 rfl (by omega))
  have HB := Lib.hid hb
  have hm := rm_number ⟨R, 0, none⟩
  have hm2 := rm_text ⟨R, 0, none⟩
  have hn := rn_number ⟨R, 0, none⟩
  have hn2 := rn_text ⟨R, 0, none⟩
  have Ho := Lib.hid ho
  clear h hb y0 hs
  generalize hn4 : ρ.num 4 = n at *
  generalize ρ.left 4 = ρ1 at *
  go_enter Try.func51, Try.ntmps51
  go_wp2_with fail
  refine C.out.mono ?_
  rintro e w2 ⟨rfl, q1, q2, q3⟩
  have cy : w2.cell? ⟨w.heap.size, 0, none⟩ = some (.int .u64 (n : Int)) := q2.cell 0 rfl
  have B2 := Lib.hid ((HB.out.alloc (.cells #[.int .u64 0] 23)).kept q3 (by rintro (e | e); exact hne e; omega))
  have hcM : w2.cell? ⟨b, o, none⟩ = some (.slice none 0 0) := B2.out.cell o Ho.out
  have Q1 := Lib.hid q1
  have K := Lib.hid (((Keeps.refl (fun k => k = R ∨ k = b) w).alloc (.cells #[.int .u64 0] 23)).trans q3 (by rintro k hk (e | e); exact .inl e; omega))
  clear q1 q2 q3 C HB hc
  have hn0 : n = 0 := by omega
  subst hn0
  have hnil := Lib.run_eql_slice_nil (P := Try.prog)
  go_wp2_with fail
  refine wp_loop_rounds 1 ?_
  rw [rounds_succ]
  go_wp2_with fail
  go_ret
  exact ⟨rfl, Q1.out, B2.out, K.out⟩

end Go.Proofs.Ytibcadfpengacaa

-- AskR
set_option linter.unusedVariables false
set_option linter.unusedSimpArgs false
namespace Go.Proofs.Ytibcadfpengacaa
open Go.RowKit Go.Lib Go.Proofs.YtibcadfpengacaaW.PrintWords Go.Proofs.YtibcadfpengacaaW.PrintMore Go.Proofs.YtibcadfpengacaaW.PrintLast

def Msg.setKind (m : Msg) (v : Int) : Msg := { m with kind := v }
def Msg.setClient (m : Msg) (v : Int) : Msg := { m with client := v }
def Msg.setXid (m : Msg) (v : Int) : Msg := { m with xid := v }
def Msg.setOp (m : Msg) (v : Int) : Msg := { m with op := v }
def Msg.setH (m : Msg) (v : Hd) : Msg := { m with h := v }
def Msg.setH2 (m : Msg) (v : Hd) : Msg := { m with h2 := v }
def Msg.setName (m : Msg) (v : ByteArray) : Msg := { m with name := v }
def Msg.setName2 (m : Msg) (v : ByteArray) : Msg := { m with name2 := v }
def Msg.setOff (m : Msg) (v : Int) : Msg := { m with off := v }
def Msg.setNum (m : Msg) (v : Int) : Msg := { m with num := v }
def Msg.setData (m : Msg) (v : ByteArray) : Msg := { m with data := v }
def Msg.setStatus (m : Msg) (v : Int) : Msg := { m with status := v }
def Msg.setAh (m : Msg) (v : Hd) : Msg := { m with ah := v }
def Msg.setAkind (m : Msg) (v : Int) : Msg := { m with akind := v }
def Msg.setLinks (m : Msg) (v : Int) : Msg := { m with links := v }
def Msg.setSize (m : Msg) (v : Int) : Msg := { m with size := v }
def Msg.setChange (m : Msg) (v : Int) : Msg := { m with change := v }
def Msg.setAdata (m : Msg) (v : ByteArray) : Msg := { m with adata := v }
def Msg.setEof (m : Msg) (v : Bool) : Msg := { m with eof := v }
def Msg.setAnum (m : Msg) (v : Int) : Msg := { m with anum := v }
def Msg.setList (m : Msg) (v : List Ent) : Msg := { m with list := v }
def Msg.setBoot (m : Msg) (v : Int) : Msg := { m with boot := v }
def Msg.setGb (m : Msg) (v : Int) : Msg := { m with gb := v }
def Msg.setGn (m : Msg) (v : Int) : Msg := { m with gn := v }
def Hd.zero : Hd := ⟨0, 0, 0, 0⟩
def Msg.zero : Msg := ⟨0, 0, 0, 0, Hd.zero, Hd.zero, ⟨#[]⟩, ⟨#[]⟩, 0, 0, ⟨#[]⟩, 0, Hd.zero, 0, 0, 0, 0, ⟨#[]⟩, false, 0, [], 0, 0, 0⟩

/-- A reader at R and a message's cells at M, on the way from w0 to w. -/
structure FR (w0 w : World) (R M : Nat) (m : Msg) (L : Value) (ρ : Rd) : Prop where
  rd : RdS w R ρ
  m : Blk w M 36 (m.vs L)
  keep : Keeps (fun k => k = R ∨ k = M) w0 w
  ne : M ≠ R
  sz : ρ.s.size ≤ 281474976710656
theorem FR.drew {w0 w : World} {R M : Nat} {m : Msg} {L : Value} {ρ : Rd} (h : FR w0 w R M m L ρ) : FR w0 w.drew R M m L ρ := ⟨h.rd, h.m, h.keep.drew, h.ne, h.sz⟩
theorem FR.step {w0 w w' : World} {R M : Nat} {m m' : Msg} {L L' : Value} {ρ ρ' : Rd} (h : FR w0 w R M m L ρ) (q1 : RdS w' R ρ') (q2 : Blk w' M 36 (m'.vs L')) (q3 : Keeps (fun k => k = R ∨ k = M) w w') (hz : ρ'.s.size ≤ ρ.s.size) : FR w0 w' R M m' L' ρ' :=
  ⟨q1, q2, h.keep.trans q3 (fun _ _ h => h), h.ne, Nat.le_trans hz h.sz⟩
theorem FR.here {w0 w : World} {R M : Nat} {m : Msg} {L : Value} {ρ : Rd} (h : FR w0 w R M m L ρ) : FR w w R M m L ρ := ⟨h.rd, h.m, Keeps.refl _ _, h.ne, h.sz⟩

def askM (ρ : Rd) (m : Msg) : Msg := ((((((((m.setOp (ρ.num 1)).setH (decH ((ρ.left 1).took 28))).setH2 (decH (((ρ.left 1).left 28).took 28))).setName ((((ρ.left 1).left 28).left 28).textS (((m.setOp (ρ.num 1)).setH (decH ((ρ.left 1).took 28))).setH2 (decH (((ρ.left 1).left 28).took 28))).name)).setName2 ((((ρ.left 1).left 28).left 28).textR.textS ((((m.setOp (ρ.num 1)).setH (decH ((ρ.left 1).took 28))).setH2 (decH (((ρ.left 1).left 28).took 28))).setName ((((ρ.left 1).left 28).left 28).textS (((m.setOp (ρ.num 1)).setH (decH ((ρ.left 1).took 28))).setH2 (decH (((ρ.left 1).left 28).took 28))).name)).name2)).setOff ((((ρ.left 1).left 28).left 28).textR.textR.num 8)).setNum (((((ρ.left 1).left 28).left 28).textR.textR.left 8).num 8)).setData ((((((ρ.left 1).left 28).left 28).textR.textR.left 8).left 8).textS (((((((m.setOp (ρ.num 1)).setH (decH ((ρ.left 1).took 28))).setH2 (decH (((ρ.left 1).left 28).took 28))).setName ((((ρ.left 1).left 28).left 28).textS (((m.setOp (ρ.num 1)).setH (decH ((ρ.left 1).took 28))).setH2 (decH (((ρ.left 1).left 28).took 28))).name)).setName2 ((((ρ.left 1).left 28).left 28).textR.textS ((((m.setOp (ρ.num 1)).setH (decH ((ρ.left 1).took 28))).setH2 (decH (((ρ.left 1).left 28).took 28))).setName ((((ρ.left 1).left 28).left 28).textS (((m.setOp (ρ.num 1)).setH (decH ((ρ.left 1).took 28))).setH2 (decH (((ρ.left 1).left 28).took 28))).name)).name2)).setOff ((((ρ.left 1).left 28).left 28).textR.textR.num 8)).setNum (((((ρ.left 1).left 28).left 28).textR.textR.left 8).num 8)).data))
def askR (ρ : Rd) : Rd := (((((ρ.left 1).left 28).left 28).textR.textR.left 8).left 8).textR
theorem askR_size (ρ : Rd) : (askR ρ).s.size ≤ ρ.s.size := by
  unfold askR
  have h0 := Rd.left_size ρ 1
  generalize (ρ.left 1) = z0 at *
  have h1 := Rd.left_size z0 28
  generalize (z0.left 28) = z1 at *
  have h2 := Rd.left_size z1 28
  generalize (z1.left 28) = z2 at *
  have h3 := Rd.textR_size z2
  generalize z2.textR = z3 at *
  have h4 := Rd.textR_size z3
  generalize z3.textR = z4 at *
  have h5 := Rd.left_size z4 8
  generalize (z4.left 8) = z5 at *
  have h6 := Rd.left_size z5 8
  generalize (z5.left 8) = z6 at *
  have h7 := Rd.textR_size z6
  generalize z6.textR = z7 at *
  omega
set_option maxHeartbeats 8000000 in
set_option maxRecDepth 100000 in
theorem ask_r (R M : Nat) (m : Msg) (L : Value) (ρ : Rd) (hop : I64 m.op) (wI : World) (hF : FR wI wI R M m L ρ) :
    Calls Try.prog 49 #[.iface 90 (.pointer (some ⟨R, 0, none⟩)), .pointer (some ⟨M, 3, none⟩)] wI fun r w' => r = .returned (.tuple #[]) ∧ RPost wI R M 36 (Msg.vs (askM ρ m) L) (askR ρ) w' := by
  unfold askM askR
  have x1 := rm_number ⟨R, 0, none⟩; have x2 := rm_text ⟨R, 0, none⟩; have x3 := rm_handle ⟨R, 0, none⟩
  have y1 := rn_number ⟨R, 0, none⟩; have y2 := rn_text ⟨R, 0, none⟩; have y3 := rn_handle ⟨R, 0, none⟩
  obtain ⟨m0, E0⟩ : ∃ x, Hid (x = m) := ⟨_, Lib.hid rfl⟩
  obtain ⟨r0, D0⟩ : ∃ x, Hid (x = ρ) := ⟨_, Lib.hid rfl⟩
  rw [← E0.out, ← D0.out] at hF
  have F0 := Lib.hid hF
  clear hF
  have Hop := Lib.hid hop
  clear hop
  go_enter Try.func49, Try.ntmps49
  go_wp2_with fail
  have HV0 := Lib.hid (show I64 m0.op by rw [E0.out]; exact Hop.out)
  refine (small_r R M 3 36 (m0.vs L) m0.op r0 F0.out.sz HV0.out _ F0.out.rd F0.out.m rfl F0.out.ne).mono ?_
  rintro e w1 ⟨rfl, ⟨q1, q2, q3⟩⟩
  have f := F0.out.step q1 (show Blk w1 M 36 (Msg.vs (m0.setOp (r0.num 1)) L) from q2) q3 (Rd.left_size r0 1)
  have F1 := Lib.hid f
  clear q1 q2 q3 f F0
  obtain ⟨m1, E1⟩ : ∃ x, Hid (x = (m0.setOp (r0.num 1))) := ⟨_, Lib.hid rfl⟩
  obtain ⟨r1, D1⟩ : ∃ x, Hid (x = (r0.left 1)) := ⟨_, Lib.hid rfl⟩
  rw [← E1.out, ← D1.out] at F1
  go_wp2_with fail
  go_still_tail 7, (by kernel_rfl)
  change wpList _ _ _ _ _ w1.drew
  have F1 := Lib.hid F1.out.drew
  generalize w1.drew = w1 at F1 ⊢
  go_wp2_with fail
  refine (handle_r R M 4 36 (m1.vs L) _ _ _ _ r1 F1.out.sz _ F1.out.rd F1.out.m rfl rfl rfl rfl F1.out.ne).mono ?_
  rintro e w2 ⟨rfl, q1, q2, q3⟩
  have f := F1.out.step q1 (show Blk w2 M 36 (Msg.vs (m1.setH (decH (r1.took 28))) L) from q2) q3 (Rd.left_size r1 28)
  have F2 := Lib.hid f
  clear q1 q2 q3 f F1
  obtain ⟨m2, E2⟩ : ∃ x, Hid (x = (m1.setH (decH (r1.took 28)))) := ⟨_, Lib.hid rfl⟩
  obtain ⟨r2, D2⟩ : ∃ x, Hid (x = (r1.left 28)) := ⟨_, Lib.hid rfl⟩
  rw [← E2.out, ← D2.out] at F2
  go_wp2_with fail
  go_still_tail 7, (by kernel_rfl)
  change wpList _ _ _ _ _ w2.drew
  have F2 := Lib.hid F2.out.drew
  generalize w2.drew = w2 at F2 ⊢
  go_wp2_with fail
  refine (handle_r R M 8 36 (m2.vs L) _ _ _ _ r2 F2.out.sz _ F2.out.rd F2.out.m rfl rfl rfl rfl F2.out.ne).mono ?_
  rintro e w3 ⟨rfl, q1, q2, q3⟩
  have f := F2.out.step q1 (show Blk w3 M 36 (Msg.vs (m2.setH2 (decH (r2.took 28))) L) from q2) q3 (Rd.left_size r2 28)
  have F3 := Lib.hid f
  clear q1 q2 q3 f F2
  obtain ⟨m3, E3⟩ : ∃ x, Hid (x = (m2.setH2 (decH (r2.took 28)))) := ⟨_, Lib.hid rfl⟩
  obtain ⟨r3, D3⟩ : ∃ x, Hid (x = (r2.left 28)) := ⟨_, Lib.hid rfl⟩
  rw [← E3.out, ← D3.out] at F3
  go_wp2_with fail
  go_still_tail 7, (by kernel_rfl)
  change wpList _ _ _ _ _ w3.drew
  have F3 := Lib.hid F3.out.drew
  generalize w3.drew = w3 at F3 ⊢
  go_wp2_with fail
  refine (text_r R M 12 36 (m3.vs L) m3.name r3 F3.out.sz _ F3.out.rd F3.out.m rfl F3.out.ne).mono ?_
  rintro e w4 ⟨rfl, q1, q2, q3⟩
  have f := F3.out.step q1 (show Blk w4 M 36 (Msg.vs (m3.setName (r3.textS m3.name)) L) from q2) q3 (Rd.textR_size r3)
  have F4 := Lib.hid f
  clear q1 q2 q3 f F3
  obtain ⟨m4, E4⟩ : ∃ x, Hid (x = (m3.setName (r3.textS m3.name))) := ⟨_, Lib.hid rfl⟩
  obtain ⟨r4, D4⟩ : ∃ x, Hid (x = r3.textR) := ⟨_, Lib.hid rfl⟩
  rw [← E4.out, ← D4.out] at F4
  go_wp2_with fail
  go_still_tail 7, (by kernel_rfl)
  change wpList _ _ _ _ _ w4.drew
  have F4 := Lib.hid F4.out.drew
  generalize w4.drew = w4 at F4 ⊢
  go_wp2_with fail
  refine (text_r R M 13 36 (m4.vs L) m4.name2 r4 F4.out.sz _ F4.out.rd F4.out.m rfl F4.out.ne).mono ?_
  rintro e w5 ⟨rfl, q1, q2, q3⟩
  have f := F4.out.step q1 (show Blk w5 M 36 (Msg.vs (m4.setName2 (r4.textS m4.name2)) L) from q2) q3 (Rd.textR_size r4)
  have F5 := Lib.hid f
  clear q1 q2 q3 f F4
  obtain ⟨m5, E5⟩ : ∃ x, Hid (x = (m4.setName2 (r4.textS m4.name2))) := ⟨_, Lib.hid rfl⟩
  obtain ⟨r5, D5⟩ : ∃ x, Hid (x = r4.textR) := ⟨_, Lib.hid rfl⟩
  rw [← E5.out, ← D5.out] at F5
  go_wp2_with fail
  go_still_tail 7, (by kernel_rfl)
  change wpList _ _ _ _ _ w5.drew
  have F5 := Lib.hid F5.out.drew
  generalize w5.drew = w5 at F5 ⊢
  go_wp2_with fail
  refine (number_r R M 14 36 (m5.vs L) m5.off r5 8 (by omega) F5.out.sz _ F5.out.rd F5.out.m rfl F5.out.ne).mono ?_
  rintro e w6 ⟨rfl, q1, q2, q3⟩
  have f := F5.out.step q1 (show Blk w6 M 36 (Msg.vs (m5.setOff (r5.num 8)) L) from q2) q3 (Rd.left_size r5 8)
  have F6 := Lib.hid f
  clear q1 q2 q3 f F5
  obtain ⟨m6, E6⟩ : ∃ x, Hid (x = (m5.setOff (r5.num 8))) := ⟨_, Lib.hid rfl⟩
  obtain ⟨r6, D6⟩ : ∃ x, Hid (x = (r5.left 8)) := ⟨_, Lib.hid rfl⟩
  rw [← E6.out, ← D6.out] at F6
  go_wp2_with fail
  go_still_tail 7, (by kernel_rfl)
  change wpList _ _ _ _ _ w6.drew
  have F6 := Lib.hid F6.out.drew
  generalize w6.drew = w6 at F6 ⊢
  go_wp2_with fail
  refine (number_r R M 15 36 (m6.vs L) m6.num r6 8 (by omega) F6.out.sz _ F6.out.rd F6.out.m rfl F6.out.ne).mono ?_
  rintro e w7 ⟨rfl, q1, q2, q3⟩
  have f := F6.out.step q1 (show Blk w7 M 36 (Msg.vs (m6.setNum (r6.num 8)) L) from q2) q3 (Rd.left_size r6 8)
  have F7 := Lib.hid f
  clear q1 q2 q3 f F6
  obtain ⟨m7, E7⟩ : ∃ x, Hid (x = (m6.setNum (r6.num 8))) := ⟨_, Lib.hid rfl⟩
  obtain ⟨r7, D7⟩ : ∃ x, Hid (x = (r6.left 8)) := ⟨_, Lib.hid rfl⟩
  rw [← E7.out, ← D7.out] at F7
  go_wp2_with fail
  go_still_tail 7, (by kernel_rfl)
  change wpList _ _ _ _ _ w7.drew
  have F7 := Lib.hid F7.out.drew
  generalize w7.drew = w7 at F7 ⊢
  go_wp2_with fail
  refine (text_r R M 16 36 (m7.vs L) m7.data r7 F7.out.sz _ F7.out.rd F7.out.m rfl F7.out.ne).mono ?_
  rintro e w8 ⟨rfl, q1, q2, q3⟩
  have f := F7.out.step q1 (show Blk w8 M 36 (Msg.vs (m7.setData (r7.textS m7.data)) L) from q2) q3 (Rd.textR_size r7)
  have F8 := Lib.hid f
  clear q1 q2 q3 f F7
  obtain ⟨m8, E8⟩ : ∃ x, Hid (x = (m7.setData (r7.textS m7.data))) := ⟨_, Lib.hid rfl⟩
  obtain ⟨r8, D8⟩ : ∃ x, Hid (x = r7.textR) := ⟨_, Lib.hid rfl⟩
  rw [← E8.out, ← D8.out] at F8
  go_wp2_with fail
  go_end0
  have hp : RPost wI R M 36 (Msg.vs m8 L) r8 w8 := ⟨F8.out.rd, F8.out.m, F8.out.keep⟩
  rw [E8.out, D8.out, E7.out, D7.out, E6.out, D6.out, E5.out, D5.out, E4.out, D4.out, E3.out, D3.out, E2.out, D2.out, E1.out, D1.out, E0.out, D0.out] at hp
  exact ⟨rfl, hp⟩

def stampM (ρ : Rd) (m : Msg) : Msg := (((m.setBoot (ρ.num 8)).setGb ((ρ.left 8).num 8)).setGn (((ρ.left 8).left 8).num 8))
def stampR (ρ : Rd) : Rd := (((ρ.left 8).left 8).left 8)
theorem stampR_size (ρ : Rd) : (stampR ρ).s.size ≤ ρ.s.size := by
  unfold stampR
  have h0 := Rd.left_size ρ 8
  generalize (ρ.left 8) = z0 at *
  have h1 := Rd.left_size z0 8
  generalize (z0.left 8) = z1 at *
  have h2 := Rd.left_size z1 8
  generalize (z1.left 8) = z2 at *
  omega
set_option maxHeartbeats 8000000 in
set_option maxRecDepth 100000 in
theorem stamp_r (R M : Nat) (m : Msg) (L : Value) (ρ : Rd)  (wI : World) (hF : FR wI wI R M m L ρ) :
    Calls Try.prog 52 #[.iface 90 (.pointer (some ⟨R, 0, none⟩)), .pointer (some ⟨M, 0, none⟩)] wI fun r w' => r = .returned (.tuple #[]) ∧ RPost wI R M 36 (Msg.vs (stampM ρ m) L) (stampR ρ) w' := by
  unfold stampM stampR
  have x1 := rm_number ⟨R, 0, none⟩; have x2 := rm_text ⟨R, 0, none⟩; have x3 := rm_handle ⟨R, 0, none⟩
  have y1 := rn_number ⟨R, 0, none⟩; have y2 := rn_text ⟨R, 0, none⟩; have y3 := rn_handle ⟨R, 0, none⟩
  obtain ⟨m0, E0⟩ : ∃ x, Hid (x = m) := ⟨_, Lib.hid rfl⟩
  obtain ⟨r0, D0⟩ : ∃ x, Hid (x = ρ) := ⟨_, Lib.hid rfl⟩
  rw [← E0.out, ← D0.out] at hF
  have F0 := Lib.hid hF
  clear hF
  go_enter Try.func52, Try.ntmps52
  go_wp2_with fail
  go_still_tail 7, (by kernel_rfl)
  change wpList _ _ _ _ _ wI.drew
  have F0 := Lib.hid F0.out.drew
  generalize wI.drew = w0 at F0 ⊢
  go_wp2_with fail
  refine (number_r R M 30 36 (m0.vs L) m0.boot r0 8 (by omega) F0.out.sz _ F0.out.rd F0.out.m rfl F0.out.ne).mono ?_
  rintro e w1 ⟨rfl, q1, q2, q3⟩
  have f := F0.out.step q1 (show Blk w1 M 36 (Msg.vs (m0.setBoot (r0.num 8)) L) from q2) q3 (Rd.left_size r0 8)
  have F1 := Lib.hid f
  clear q1 q2 q3 f F0
  obtain ⟨m1, E1⟩ : ∃ x, Hid (x = (m0.setBoot (r0.num 8))) := ⟨_, Lib.hid rfl⟩
  obtain ⟨r1, D1⟩ : ∃ x, Hid (x = (r0.left 8)) := ⟨_, Lib.hid rfl⟩
  rw [← E1.out, ← D1.out] at F1
  go_wp2_with fail
  go_still_tail 8, (by kernel_rfl)
  change wpList _ _ _ _ _ w1.drew
  have F1 := Lib.hid F1.out.drew
  generalize w1.drew = w1 at F1 ⊢
  go_wp2_with fail
  refine (number_r R M 31 36 (m1.vs L) m1.gb r1 8 (by omega) F1.out.sz _ F1.out.rd F1.out.m rfl F1.out.ne).mono ?_
  rintro e w2 ⟨rfl, q1, q2, q3⟩
  have f := F1.out.step q1 (show Blk w2 M 36 (Msg.vs (m1.setGb (r1.num 8)) L) from q2) q3 (Rd.left_size r1 8)
  have F2 := Lib.hid f
  clear q1 q2 q3 f F1
  obtain ⟨m2, E2⟩ : ∃ x, Hid (x = (m1.setGb (r1.num 8))) := ⟨_, Lib.hid rfl⟩
  obtain ⟨r2, D2⟩ : ∃ x, Hid (x = (r1.left 8)) := ⟨_, Lib.hid rfl⟩
  rw [← E2.out, ← D2.out] at F2
  go_wp2_with fail
  go_still_tail 8, (by kernel_rfl)
  change wpList _ _ _ _ _ w2.drew
  have F2 := Lib.hid F2.out.drew
  generalize w2.drew = w2 at F2 ⊢
  go_wp2_with fail
  refine (number_r R M 32 36 (m2.vs L) m2.gn r2 8 (by omega) F2.out.sz _ F2.out.rd F2.out.m rfl F2.out.ne).mono ?_
  rintro e w3 ⟨rfl, q1, q2, q3⟩
  have f := F2.out.step q1 (show Blk w3 M 36 (Msg.vs (m2.setGn (r2.num 8)) L) from q2) q3 (Rd.left_size r2 8)
  have F3 := Lib.hid f
  clear q1 q2 q3 f F2
  obtain ⟨m3, E3⟩ : ∃ x, Hid (x = (m2.setGn (r2.num 8))) := ⟨_, Lib.hid rfl⟩
  obtain ⟨r3, D3⟩ : ∃ x, Hid (x = (r2.left 8)) := ⟨_, Lib.hid rfl⟩
  rw [← E3.out, ← D3.out] at F3
  go_wp2_with fail
  go_end0
  have hp : RPost wI R M 36 (Msg.vs m3 L) r3 w3 := ⟨F3.out.rd, F3.out.m, F3.out.keep⟩
  rw [E3.out, D3.out, E2.out, D2.out, E1.out, D1.out, E0.out, D0.out] at hp
  exact ⟨rfl, hp⟩

end Go.Proofs.Ytibcadfpengacaa

-- MsgR
set_option linter.unusedVariables false
set_option linter.unusedSimpArgs false
namespace Go.Proofs.Ytibcadfpengacaa
open Go.RowKit Go.Lib Go.Proofs.YtibcadfpengacaaW.PrintWords Go.Proofs.YtibcadfpengacaaW.PrintMore Go.Proofs.YtibcadfpengacaaW.PrintLast

def callM (ρ : Rd) : Msg := (askM (((ρ.left 1).left 4).left 8) (((Msg.zero.setKind (ρ.num 1)).setClient ((ρ.left 1).num 4)).setXid (((ρ.left 1).left 4).num 8)))
def callR (ρ : Rd) : Rd := (askR (((ρ.left 1).left 4).left 8))
set_option maxHeartbeats 16000000 in
set_option maxRecDepth 100000 in
theorem fields_r_call (R M : Nat) (ρ : Rd) (wI : World) (hF : FR wI wI R M Msg.zero (.slice none 0 0) ρ) (hkind : ρ.num 1 = 1) :
    Calls Try.prog 32 #[.iface 90 (.pointer (some ⟨R, 0, none⟩)), .pointer (some ⟨M, 0, none⟩)] wI fun r w' => r = .returned (.tuple #[.bool true, .bool true]) ∧ RPost wI R M 36 (Msg.vs (callM ρ) (.slice none 0 0)) (callR ρ) w' := by
  unfold callM callR
  obtain ⟨m, hmz⟩ : ∃ x, x = Msg.zero := ⟨_, rfl⟩
  rw [← hmz] at hF
  have E00 := Lib.hid hmz
  generalize hL : (Value.slice none 0 0) = L at hF
  have kb1 : (((ρ.num 1 : Nat) : Int) == 1) = true := by rw [hkind]; rfl
  have kb2 : (((ρ.num 1 : Nat) : Int) == 2) = false := beq_eq_false_iff_ne.2 (by omega)
  have kb3 : (((ρ.num 1 : Nat) : Int) == 3) = false := beq_eq_false_iff_ne.2 (by omega)
  have kb4 : (((ρ.num 1 : Nat) : Int) == 4) = false := beq_eq_false_iff_ne.2 (by omega)
  have HK := Lib.hid hkind
  clear hkind hmz
  have x1 := rm_number ⟨R, 0, none⟩; have x2 := rm_text ⟨R, 0, none⟩; have x3 := rm_handle ⟨R, 0, none⟩
  have y1 := rn_number ⟨R, 0, none⟩; have y2 := rn_text ⟨R, 0, none⟩; have y3 := rn_handle ⟨R, 0, none⟩
  obtain ⟨m0, E0⟩ : ∃ x, Hid (x = m) := ⟨_, Lib.hid rfl⟩
  obtain ⟨r0, D0⟩ : ∃ x, Hid (x = ρ) := ⟨_, Lib.hid rfl⟩
  rw [← E0.out, ← D0.out] at hF
  have F0 := Lib.hid hF
  clear hF
  have HL := Lib.hid hL
  have E0 := Lib.hid (E0.out.trans E00.out)
  clear hL
  go_enter Try.func32, Try.ntmps32
  go_wp2_with fail

  have HV0 := Lib.hid (show I64 m0.kind by rw [E0.out]; exact (⟨by decide, by decide⟩ : I64 0))
  refine (small_r R M 0 36 (m0.vs L) m0.kind r0 F0.out.sz HV0.out _ F0.out.rd F0.out.m rfl F0.out.ne).mono ?_
  rintro e w1 ⟨rfl, ⟨q1, q2, q3⟩⟩
  have f := F0.out.step q1 (show Blk w1 M 36 (Msg.vs (m0.setKind (r0.num 1)) L) from q2) q3 (Rd.left_size r0 1)
  have F1 := Lib.hid f
  clear q1 q2 q3 f F0
  obtain ⟨m1, E1⟩ : ∃ x, Hid (x = (m0.setKind (r0.num 1))) := ⟨_, Lib.hid rfl⟩
  obtain ⟨r1, D1⟩ : ∃ x, Hid (x = (r0.left 1)) := ⟨_, Lib.hid rfl⟩
  rw [← E1.out, ← D1.out] at F1
  go_wp2_with fail
  have HV1 := Lib.hid (show U32 m1.client by rw [E1.out, E0.out]; exact (⟨by decide, by decide⟩ : U32 0))
  refine (four_r R M 1 36 (m1.vs L) m1.client r1 F1.out.sz HV1.out _ F1.out.rd F1.out.m rfl F1.out.ne).mono ?_
  rintro e w2 ⟨rfl, ⟨q1, q2, q3⟩⟩
  have f := F1.out.step q1 (show Blk w2 M 36 (Msg.vs (m1.setClient (r1.num 4)) L) from q2) q3 (Rd.left_size r1 4)
  have F2 := Lib.hid f
  clear q1 q2 q3 f F1
  obtain ⟨m2, E2⟩ : ∃ x, Hid (x = (m1.setClient (r1.num 4))) := ⟨_, Lib.hid rfl⟩
  obtain ⟨r2, D2⟩ : ∃ x, Hid (x = (r1.left 4)) := ⟨_, Lib.hid rfl⟩
  rw [← E2.out, ← D2.out] at F2
  go_wp2_with fail
  go_still_tail 7, (by kernel_rfl)
  change wpList _ _ _ _ _ w2.drew
  have F2 := Lib.hid F2.out.drew
  generalize w2.drew = w2 at F2 ⊢
  go_wp2_with fail
  refine (number_r R M 2 36 (m2.vs L) m2.xid r2 8 (by omega) F2.out.sz _ F2.out.rd F2.out.m rfl F2.out.ne).mono ?_
  rintro e w3 ⟨rfl, q1, q2, q3⟩
  have f := F2.out.step q1 (show Blk w3 M 36 (Msg.vs (m2.setXid (r2.num 8)) L) from q2) q3 (Rd.left_size r2 8)
  have F3 := Lib.hid f
  clear q1 q2 q3 f F2
  obtain ⟨m3, E3⟩ : ∃ x, Hid (x = (m2.setXid (r2.num 8))) := ⟨_, Lib.hid rfl⟩
  obtain ⟨r3, D3⟩ : ∃ x, Hid (x = (r2.left 8)) := ⟨_, Lib.hid rfl⟩
  rw [← E3.out, ← D3.out] at F3
  have ck3 : w3.cell? ⟨M, 0, none⟩ = some (.int .i64 ((ρ.num 1 : Nat) : Int)) := by
    refine (F3.out.m.cell 0 rfl).trans ?_
    rw [show m3.kind = ((ρ.num 1 : Nat) : Int) by rw [E3.out, E2.out, E1.out, D0.out]; rfl]
  go_wp2_with fail
  have HV3 := Lib.hid (show I64 m3.op by rw [E3.out, E2.out, E1.out, E0.out]; exact (⟨by decide, by decide⟩ : I64 0))
  refine (ask_r R M m3 L r3 HV3.out _ F3.out.here).mono ?_
  rintro e w4 ⟨rfl, ⟨q1, q2, q3⟩⟩
  have f := F3.out.step q1 (show Blk w4 M 36 (Msg.vs (askM r3 m3) L) from q2) q3 (askR_size r3)
  have F4 := Lib.hid f
  clear q1 q2 q3 f F3 ck3
  obtain ⟨m4, E4⟩ : ∃ x, Hid (x = (askM r3 m3)) := ⟨_, Lib.hid rfl⟩
  obtain ⟨r4, D4⟩ : ∃ x, Hid (x = (askR r3)) := ⟨_, Lib.hid rfl⟩
  rw [← E4.out, ← D4.out] at F4
  go_wp2_with fail
  go_ret2
  have hp : RPost wI R M 36 (Msg.vs m4 L) r4 w4 := ⟨F4.out.rd, F4.out.m, F4.out.keep⟩
  rw [E4.out, D4.out, E3.out, D3.out, E2.out, D2.out, E1.out, D1.out, E0.out, D0.out] at hp
  exact ⟨rfl, hp⟩

def backM (ρ : Rd) : Msg := (stampM ((((ρ.left 1).left 4).left 8).left 28) ((((Msg.zero.setKind (ρ.num 1)).setClient ((ρ.left 1).num 4)).setXid (((ρ.left 1).left 4).num 8)).setH (decH ((((ρ.left 1).left 4).left 8).took 28))))
def backR (ρ : Rd) : Rd := (stampR ((((ρ.left 1).left 4).left 8).left 28))
set_option maxHeartbeats 16000000 in
set_option maxRecDepth 100000 in
theorem fields_r_recall (R M : Nat) (ρ : Rd) (wI : World) (hF : FR wI wI R M Msg.zero (.slice none 0 0) ρ) (hkind : ρ.num 1 = 3) :
    Calls Try.prog 32 #[.iface 90 (.pointer (some ⟨R, 0, none⟩)), .pointer (some ⟨M, 0, none⟩)] wI fun r w' => r = .returned (.tuple #[.bool true, .bool true]) ∧ RPost wI R M 36 (Msg.vs (backM ρ) (.slice none 0 0)) (backR ρ) w' := by
  unfold backM backR
  obtain ⟨m, hmz⟩ : ∃ x, x = Msg.zero := ⟨_, rfl⟩
  rw [← hmz] at hF
  have E00 := Lib.hid hmz
  generalize hL : (Value.slice none 0 0) = L at hF
  have kb1 : (((ρ.num 1 : Nat) : Int) == 1) = false := beq_eq_false_iff_ne.2 (by omega)
  have kb2 : (((ρ.num 1 : Nat) : Int) == 2) = false := beq_eq_false_iff_ne.2 (by omega)
  have kb3 : (((ρ.num 1 : Nat) : Int) == 3) = true := by rw [hkind]; rfl
  have kb4 : (((ρ.num 1 : Nat) : Int) == 4) = false := beq_eq_false_iff_ne.2 (by omega)
  have HK := Lib.hid hkind
  clear hkind hmz
  have x1 := rm_number ⟨R, 0, none⟩; have x2 := rm_text ⟨R, 0, none⟩; have x3 := rm_handle ⟨R, 0, none⟩
  have y1 := rn_number ⟨R, 0, none⟩; have y2 := rn_text ⟨R, 0, none⟩; have y3 := rn_handle ⟨R, 0, none⟩
  obtain ⟨m0, E0⟩ : ∃ x, Hid (x = m) := ⟨_, Lib.hid rfl⟩
  obtain ⟨r0, D0⟩ : ∃ x, Hid (x = ρ) := ⟨_, Lib.hid rfl⟩
  rw [← E0.out, ← D0.out] at hF
  have F0 := Lib.hid hF
  clear hF
  have HL := Lib.hid hL
  have E0 := Lib.hid (E0.out.trans E00.out)
  clear hL
  go_enter Try.func32, Try.ntmps32
  go_wp2_with fail

  have HV0 := Lib.hid (show I64 m0.kind by rw [E0.out]; exact (⟨by decide, by decide⟩ : I64 0))
  refine (small_r R M 0 36 (m0.vs L) m0.kind r0 F0.out.sz HV0.out _ F0.out.rd F0.out.m rfl F0.out.ne).mono ?_
  rintro e w1 ⟨rfl, ⟨q1, q2, q3⟩⟩
  have f := F0.out.step q1 (show Blk w1 M 36 (Msg.vs (m0.setKind (r0.num 1)) L) from q2) q3 (Rd.left_size r0 1)
  have F1 := Lib.hid f
  clear q1 q2 q3 f F0
  obtain ⟨m1, E1⟩ : ∃ x, Hid (x = (m0.setKind (r0.num 1))) := ⟨_, Lib.hid rfl⟩
  obtain ⟨r1, D1⟩ : ∃ x, Hid (x = (r0.left 1)) := ⟨_, Lib.hid rfl⟩
  rw [← E1.out, ← D1.out] at F1
  go_wp2_with fail
  have HV1 := Lib.hid (show U32 m1.client by rw [E1.out, E0.out]; exact (⟨by decide, by decide⟩ : U32 0))
  refine (four_r R M 1 36 (m1.vs L) m1.client r1 F1.out.sz HV1.out _ F1.out.rd F1.out.m rfl F1.out.ne).mono ?_
  rintro e w2 ⟨rfl, ⟨q1, q2, q3⟩⟩
  have f := F1.out.step q1 (show Blk w2 M 36 (Msg.vs (m1.setClient (r1.num 4)) L) from q2) q3 (Rd.left_size r1 4)
  have F2 := Lib.hid f
  clear q1 q2 q3 f F1
  obtain ⟨m2, E2⟩ : ∃ x, Hid (x = (m1.setClient (r1.num 4))) := ⟨_, Lib.hid rfl⟩
  obtain ⟨r2, D2⟩ : ∃ x, Hid (x = (r1.left 4)) := ⟨_, Lib.hid rfl⟩
  rw [← E2.out, ← D2.out] at F2
  go_wp2_with fail
  go_still_tail 7, (by kernel_rfl)
  change wpList _ _ _ _ _ w2.drew
  have F2 := Lib.hid F2.out.drew
  generalize w2.drew = w2 at F2 ⊢
  go_wp2_with fail
  refine (number_r R M 2 36 (m2.vs L) m2.xid r2 8 (by omega) F2.out.sz _ F2.out.rd F2.out.m rfl F2.out.ne).mono ?_
  rintro e w3 ⟨rfl, q1, q2, q3⟩
  have f := F2.out.step q1 (show Blk w3 M 36 (Msg.vs (m2.setXid (r2.num 8)) L) from q2) q3 (Rd.left_size r2 8)
  have F3 := Lib.hid f
  clear q1 q2 q3 f F2
  obtain ⟨m3, E3⟩ : ∃ x, Hid (x = (m2.setXid (r2.num 8))) := ⟨_, Lib.hid rfl⟩
  obtain ⟨r3, D3⟩ : ∃ x, Hid (x = (r2.left 8)) := ⟨_, Lib.hid rfl⟩
  rw [← E3.out, ← D3.out] at F3
  have ck3 : w3.cell? ⟨M, 0, none⟩ = some (.int .i64 ((ρ.num 1 : Nat) : Int)) := by
    refine (F3.out.m.cell 0 rfl).trans ?_
    rw [show m3.kind = ((ρ.num 1 : Nat) : Int) by rw [E3.out, E2.out, E1.out, D0.out]; rfl]
  go_wp2_with fail
  go_still_tail 8, (by kernel_rfl)
  change wpList _ _ _ _ _ w3.drew
  have F3 := Lib.hid F3.out.drew
  generalize w3.drew = w3 at F3 ⊢
  go_wp2_with fail
  refine (handle_r R M 4 36 (m3.vs L) _ _ _ _ r3 F3.out.sz _ F3.out.rd F3.out.m rfl rfl rfl rfl F3.out.ne).mono ?_
  rintro e w4 ⟨rfl, q1, q2, q3⟩
  have f := F3.out.step q1 (show Blk w4 M 36 (Msg.vs (m3.setH (decH (r3.took 28))) L) from q2) q3 (Rd.left_size r3 28)
  have F4 := Lib.hid f
  clear q1 q2 q3 f F3 ck3
  obtain ⟨m4, E4⟩ : ∃ x, Hid (x = (m3.setH (decH (r3.took 28)))) := ⟨_, Lib.hid rfl⟩
  obtain ⟨r4, D4⟩ : ∃ x, Hid (x = (r3.left 28)) := ⟨_, Lib.hid rfl⟩
  rw [← E4.out, ← D4.out] at F4
  go_wp2_with fail
  refine (stamp_r R M m4 L r4 _ F4.out.here).mono ?_
  rintro e w5 ⟨rfl, ⟨q1, q2, q3⟩⟩
  have f := F4.out.step q1 (show Blk w5 M 36 (Msg.vs (stampM r4 m4) L) from q2) q3 (stampR_size r4)
  have F5 := Lib.hid f
  clear q1 q2 q3 f F4
  obtain ⟨m5, E5⟩ : ∃ x, Hid (x = (stampM r4 m4)) := ⟨_, Lib.hid rfl⟩
  obtain ⟨r5, D5⟩ : ∃ x, Hid (x = (stampR r4)) := ⟨_, Lib.hid rfl⟩
  rw [← E5.out, ← D5.out] at F5
  go_wp2_with fail
  go_ret2
  have hp : RPost wI R M 36 (Msg.vs m5 L) r5 w5 := ⟨F5.out.rd, F5.out.m, F5.out.keep⟩
  rw [E5.out, D5.out, E4.out, D4.out, E3.out, D3.out, E2.out, D2.out, E1.out, D1.out, E0.out, D0.out] at hp
  exact ⟨rfl, hp⟩

set_option maxHeartbeats 16000000 in
set_option maxRecDepth 100000 in
theorem fields_r_return (R M : Nat) (ρ : Rd) (wI : World) (hF : FR wI wI R M Msg.zero (.slice none 0 0) ρ) (hkind : ρ.num 1 = 4) :
    Calls Try.prog 32 #[.iface 90 (.pointer (some ⟨R, 0, none⟩)), .pointer (some ⟨M, 0, none⟩)] wI fun r w' => r = .returned (.tuple #[.bool true, .bool true]) ∧ RPost wI R M 36 (Msg.vs (backM ρ) (.slice none 0 0)) (backR ρ) w' := by
  unfold backM backR
  obtain ⟨m, hmz⟩ : ∃ x, x = Msg.zero := ⟨_, rfl⟩
  rw [← hmz] at hF
  have E00 := Lib.hid hmz
  generalize hL : (Value.slice none 0 0) = L at hF
  have kb1 : (((ρ.num 1 : Nat) : Int) == 1) = false := beq_eq_false_iff_ne.2 (by omega)
  have kb2 : (((ρ.num 1 : Nat) : Int) == 2) = false := beq_eq_false_iff_ne.2 (by omega)
  have kb3 : (((ρ.num 1 : Nat) : Int) == 3) = false := beq_eq_false_iff_ne.2 (by omega)
  have kb4 : (((ρ.num 1 : Nat) : Int) == 4) = true := by rw [hkind]; rfl
  have HK := Lib.hid hkind
  clear hkind hmz
  have x1 := rm_number ⟨R, 0, none⟩; have x2 := rm_text ⟨R, 0, none⟩; have x3 := rm_handle ⟨R, 0, none⟩
  have y1 := rn_number ⟨R, 0, none⟩; have y2 := rn_text ⟨R, 0, none⟩; have y3 := rn_handle ⟨R, 0, none⟩
  obtain ⟨m0, E0⟩ : ∃ x, Hid (x = m) := ⟨_, Lib.hid rfl⟩
  obtain ⟨r0, D0⟩ : ∃ x, Hid (x = ρ) := ⟨_, Lib.hid rfl⟩
  rw [← E0.out, ← D0.out] at hF
  have F0 := Lib.hid hF
  clear hF
  have HL := Lib.hid hL
  have E0 := Lib.hid (E0.out.trans E00.out)
  clear hL
  go_enter Try.func32, Try.ntmps32
  go_wp2_with fail

  have HV0 := Lib.hid (show I64 m0.kind by rw [E0.out]; exact (⟨by decide, by decide⟩ : I64 0))
  refine (small_r R M 0 36 (m0.vs L) m0.kind r0 F0.out.sz HV0.out _ F0.out.rd F0.out.m rfl F0.out.ne).mono ?_
  rintro e w1 ⟨rfl, ⟨q1, q2, q3⟩⟩
  have f := F0.out.step q1 (show Blk w1 M 36 (Msg.vs (m0.setKind (r0.num 1)) L) from q2) q3 (Rd.left_size r0 1)
  have F1 := Lib.hid f
  clear q1 q2 q3 f F0
  obtain ⟨m1, E1⟩ : ∃ x, Hid (x = (m0.setKind (r0.num 1))) := ⟨_, Lib.hid rfl⟩
  obtain ⟨r1, D1⟩ : ∃ x, Hid (x = (r0.left 1)) := ⟨_, Lib.hid rfl⟩
  rw [← E1.out, ← D1.out] at F1
  go_wp2_with fail
  have HV1 := Lib.hid (show U32 m1.client by rw [E1.out, E0.out]; exact (⟨by decide, by decide⟩ : U32 0))
  refine (four_r R M 1 36 (m1.vs L) m1.client r1 F1.out.sz HV1.out _ F1.out.rd F1.out.m rfl F1.out.ne).mono ?_
  rintro e w2 ⟨rfl, ⟨q1, q2, q3⟩⟩
  have f := F1.out.step q1 (show Blk w2 M 36 (Msg.vs (m1.setClient (r1.num 4)) L) from q2) q3 (Rd.left_size r1 4)
  have F2 := Lib.hid f
  clear q1 q2 q3 f F1
  obtain ⟨m2, E2⟩ : ∃ x, Hid (x = (m1.setClient (r1.num 4))) := ⟨_, Lib.hid rfl⟩
  obtain ⟨r2, D2⟩ : ∃ x, Hid (x = (r1.left 4)) := ⟨_, Lib.hid rfl⟩
  rw [← E2.out, ← D2.out] at F2
  go_wp2_with fail
  go_still_tail 7, (by kernel_rfl)
  change wpList _ _ _ _ _ w2.drew
  have F2 := Lib.hid F2.out.drew
  generalize w2.drew = w2 at F2 ⊢
  go_wp2_with fail
  refine (number_r R M 2 36 (m2.vs L) m2.xid r2 8 (by omega) F2.out.sz _ F2.out.rd F2.out.m rfl F2.out.ne).mono ?_
  rintro e w3 ⟨rfl, q1, q2, q3⟩
  have f := F2.out.step q1 (show Blk w3 M 36 (Msg.vs (m2.setXid (r2.num 8)) L) from q2) q3 (Rd.left_size r2 8)
  have F3 := Lib.hid f
  clear q1 q2 q3 f F2
  obtain ⟨m3, E3⟩ : ∃ x, Hid (x = (m2.setXid (r2.num 8))) := ⟨_, Lib.hid rfl⟩
  obtain ⟨r3, D3⟩ : ∃ x, Hid (x = (r2.left 8)) := ⟨_, Lib.hid rfl⟩
  rw [← E3.out, ← D3.out] at F3
  have ck3 : w3.cell? ⟨M, 0, none⟩ = some (.int .i64 ((ρ.num 1 : Nat) : Int)) := by
    refine (F3.out.m.cell 0 rfl).trans ?_
    rw [show m3.kind = ((ρ.num 1 : Nat) : Int) by rw [E3.out, E2.out, E1.out, D0.out]; rfl]
  go_wp2_with fail
  go_still_tail 8, (by kernel_rfl)
  change wpList _ _ _ _ _ w3.drew
  have F3 := Lib.hid F3.out.drew
  generalize w3.drew = w3 at F3 ⊢
  go_wp2_with fail
  refine (handle_r R M 4 36 (m3.vs L) _ _ _ _ r3 F3.out.sz _ F3.out.rd F3.out.m rfl rfl rfl rfl F3.out.ne).mono ?_
  rintro e w4 ⟨rfl, q1, q2, q3⟩
  have f := F3.out.step q1 (show Blk w4 M 36 (Msg.vs (m3.setH (decH (r3.took 28))) L) from q2) q3 (Rd.left_size r3 28)
  have F4 := Lib.hid f
  clear q1 q2 q3 f F3 ck3
  obtain ⟨m4, E4⟩ : ∃ x, Hid (x = (m3.setH (decH (r3.took 28)))) := ⟨_, Lib.hid rfl⟩
  obtain ⟨r4, D4⟩ : ∃ x, Hid (x = (r3.left 28)) := ⟨_, Lib.hid rfl⟩
  rw [← E4.out, ← D4.out] at F4
  go_wp2_with fail
  refine (stamp_r R M m4 L r4 _ F4.out.here).mono ?_
  rintro e w5 ⟨rfl, ⟨q1, q2, q3⟩⟩
  have f := F4.out.step q1 (show Blk w5 M 36 (Msg.vs (stampM r4 m4) L) from q2) q3 (stampR_size r4)
  have F5 := Lib.hid f
  clear q1 q2 q3 f F4
  obtain ⟨m5, E5⟩ : ∃ x, Hid (x = (stampM r4 m4)) := ⟨_, Lib.hid rfl⟩
  obtain ⟨r5, D5⟩ : ∃ x, Hid (x = (stampR r4)) := ⟨_, Lib.hid rfl⟩
  rw [← E5.out, ← D5.out] at F5
  go_wp2_with fail
  go_ret2
  have hp : RPost wI R M 36 (Msg.vs m5 L) r5 w5 := ⟨F5.out.rd, F5.out.m, F5.out.keep⟩
  rw [E5.out, D5.out, E4.out, D4.out, E3.out, D3.out, E2.out, D2.out, E1.out, D1.out, E0.out, D0.out] at hp
  exact ⟨rfl, hp⟩

def headM (ρ : Rd) : Msg := (((Msg.zero.setKind (ρ.num 1)).setClient ((ρ.left 1).num 4)).setXid (((ρ.left 1).left 4).num 8))
def headR (ρ : Rd) : Rd := (((ρ.left 1).left 4).left 8)
set_option maxHeartbeats 16000000 in
set_option maxRecDepth 100000 in
theorem fields_r_other (R M : Nat) (ρ : Rd) (wI : World) (hF : FR wI wI R M Msg.zero (.slice none 0 0) ρ) (hkind : ρ.num 1 ≠ 1 ∧ ρ.num 1 ≠ 2 ∧ ρ.num 1 ≠ 3 ∧ ρ.num 1 ≠ 4) :
    Calls Try.prog 32 #[.iface 90 (.pointer (some ⟨R, 0, none⟩)), .pointer (some ⟨M, 0, none⟩)] wI fun r w' => r = .returned (.tuple #[.bool false, .bool true]) ∧ RPost wI R M 36 (Msg.vs (headM ρ) (.slice none 0 0)) (headR ρ) w' := by
  unfold headM headR
  obtain ⟨m, hmz⟩ : ∃ x, x = Msg.zero := ⟨_, rfl⟩
  rw [← hmz] at hF
  have E00 := Lib.hid hmz
  generalize hL : (Value.slice none 0 0) = L at hF
  have kb1 : (((ρ.num 1 : Nat) : Int) == 1) = false := beq_eq_false_iff_ne.2 (by omega)
  have kb2 : (((ρ.num 1 : Nat) : Int) == 2) = false := beq_eq_false_iff_ne.2 (by omega)
  have kb3 : (((ρ.num 1 : Nat) : Int) == 3) = false := beq_eq_false_iff_ne.2 (by omega)
  have kb4 : (((ρ.num 1 : Nat) : Int) == 4) = false := beq_eq_false_iff_ne.2 (by omega)
  have HK := Lib.hid hkind
  clear hkind hmz
  have x1 := rm_number ⟨R, 0, none⟩; have x2 := rm_text ⟨R, 0, none⟩; have x3 := rm_handle ⟨R, 0, none⟩
  have y1 := rn_number ⟨R, 0, none⟩; have y2 := rn_text ⟨R, 0, none⟩; have y3 := rn_handle ⟨R, 0, none⟩
  obtain ⟨m0, E0⟩ : ∃ x, Hid (x = m) := ⟨_, Lib.hid rfl⟩
  obtain ⟨r0, D0⟩ : ∃ x, Hid (x = ρ) := ⟨_, Lib.hid rfl⟩
  rw [← E0.out, ← D0.out] at hF
  have F0 := Lib.hid hF
  clear hF
  have HL := Lib.hid hL
  have E0 := Lib.hid (E0.out.trans E00.out)
  clear hL
  go_enter Try.func32, Try.ntmps32
  go_wp2_with fail

  have HV0 := Lib.hid (show I64 m0.kind by rw [E0.out]; exact (⟨by decide, by decide⟩ : I64 0))
  refine (small_r R M 0 36 (m0.vs L) m0.kind r0 F0.out.sz HV0.out _ F0.out.rd F0.out.m rfl F0.out.ne).mono ?_
  rintro e w1 ⟨rfl, ⟨q1, q2, q3⟩⟩
  have f := F0.out.step q1 (show Blk w1 M 36 (Msg.vs (m0.setKind (r0.num 1)) L) from q2) q3 (Rd.left_size r0 1)
  have F1 := Lib.hid f
  clear q1 q2 q3 f F0
  obtain ⟨m1, E1⟩ : ∃ x, Hid (x = (m0.setKind (r0.num 1))) := ⟨_, Lib.hid rfl⟩
  obtain ⟨r1, D1⟩ : ∃ x, Hid (x = (r0.left 1)) := ⟨_, Lib.hid rfl⟩
  rw [← E1.out, ← D1.out] at F1
  go_wp2_with fail
  have HV1 := Lib.hid (show U32 m1.client by rw [E1.out, E0.out]; exact (⟨by decide, by decide⟩ : U32 0))
  refine (four_r R M 1 36 (m1.vs L) m1.client r1 F1.out.sz HV1.out _ F1.out.rd F1.out.m rfl F1.out.ne).mono ?_
  rintro e w2 ⟨rfl, ⟨q1, q2, q3⟩⟩
  have f := F1.out.step q1 (show Blk w2 M 36 (Msg.vs (m1.setClient (r1.num 4)) L) from q2) q3 (Rd.left_size r1 4)
  have F2 := Lib.hid f
  clear q1 q2 q3 f F1
  obtain ⟨m2, E2⟩ : ∃ x, Hid (x = (m1.setClient (r1.num 4))) := ⟨_, Lib.hid rfl⟩
  obtain ⟨r2, D2⟩ : ∃ x, Hid (x = (r1.left 4)) := ⟨_, Lib.hid rfl⟩
  rw [← E2.out, ← D2.out] at F2
  go_wp2_with fail
  go_still_tail 7, (by kernel_rfl)
  change wpList _ _ _ _ _ w2.drew
  have F2 := Lib.hid F2.out.drew
  generalize w2.drew = w2 at F2 ⊢
  go_wp2_with fail
  refine (number_r R M 2 36 (m2.vs L) m2.xid r2 8 (by omega) F2.out.sz _ F2.out.rd F2.out.m rfl F2.out.ne).mono ?_
  rintro e w3 ⟨rfl, q1, q2, q3⟩
  have f := F2.out.step q1 (show Blk w3 M 36 (Msg.vs (m2.setXid (r2.num 8)) L) from q2) q3 (Rd.left_size r2 8)
  have F3 := Lib.hid f
  clear q1 q2 q3 f F2
  obtain ⟨m3, E3⟩ : ∃ x, Hid (x = (m2.setXid (r2.num 8))) := ⟨_, Lib.hid rfl⟩
  obtain ⟨r3, D3⟩ : ∃ x, Hid (x = (r2.left 8)) := ⟨_, Lib.hid rfl⟩
  rw [← E3.out, ← D3.out] at F3
  have ck3 : w3.cell? ⟨M, 0, none⟩ = some (.int .i64 ((ρ.num 1 : Nat) : Int)) := by
    refine (F3.out.m.cell 0 rfl).trans ?_
    rw [show m3.kind = ((ρ.num 1 : Nat) : Int) by rw [E3.out, E2.out, E1.out, D0.out]; rfl]
  go_wp2_with fail
  go_ret2
  have hp : RPost wI R M 36 (Msg.vs m3 L) r3 w3 := ⟨F3.out.rd, F3.out.m, F3.out.keep⟩
  rw [E3.out, D3.out, E2.out, D2.out, E1.out, D1.out, E0.out, D0.out] at hp
  exact ⟨rfl, hp⟩

def flR (ρ : Rd) : Rd := (((((((((ρ.left 1).left 4).left 8).left 1).left 28).left 1).left 4).left 8).left 8).textR
def repM (ρ : Rd) : Msg := ((((((((((((Msg.zero.setKind (ρ.num 1)).setClient ((ρ.left 1).num 4)).setXid (((ρ.left 1).left 4).num 8)).setStatus ((((ρ.left 1).left 4).left 8).num 1)).setAh (decH (((((ρ.left 1).left 4).left 8).left 1).took 28))).setAkind ((((((ρ.left 1).left 4).left 8).left 1).left 28).num 1)).setLinks (((((((ρ.left 1).left 4).left 8).left 1).left 28).left 1).num 4)).setSize ((((((((ρ.left 1).left 4).left 8).left 1).left 28).left 1).left 4).num 8)).setChange (((((((((ρ.left 1).left 4).left 8).left 1).left 28).left 1).left 4).left 8).num 8)).setAdata ((((((((((ρ.left 1).left 4).left 8).left 1).left 28).left 1).left 4).left 8).left 8).textS (((((((((Msg.zero.setKind (ρ.num 1)).setClient ((ρ.left 1).num 4)).setXid (((ρ.left 1).left 4).num 8)).setStatus ((((ρ.left 1).left 4).left 8).num 1)).setAh (decH (((((ρ.left 1).left 4).left 8).left 1).took 28))).setAkind ((((((ρ.left 1).left 4).left 8).left 1).left 28).num 1)).setLinks (((((((ρ.left 1).left 4).left 8).left 1).left 28).left 1).num 4)).setSize ((((((((ρ.left 1).left 4).left 8).left 1).left 28).left 1).left 4).num 8)).setChange (((((((((ρ.left 1).left 4).left 8).left 1).left 28).left 1).left 4).left 8).num 8)).adata)).setEof (((((((((((ρ.left 1).left 4).left 8).left 1).left 28).left 1).left 4).left 8).left 8).textR.num 1 : Int) == 1)).setAnum (((((((((((ρ.left 1).left 4).left 8).left 1).left 28).left 1).left 4).left 8).left 8).textR.left 1).num 8))
def repR (ρ : Rd) : Rd := (((((((((((ρ.left 1).left 4).left 8).left 1).left 28).left 1).left 4).left 8).left 8).textR.left 1).left 8)
set_option maxHeartbeats 16000000 in
set_option maxRecDepth 100000 in
theorem fields_r_some (R M : Nat) (ρ : Rd) (wI : World) (hF : FR wI wI R M Msg.zero (.slice none 0 0) ρ) (hkind : ρ.num 1 = 2) (h1 : 1 ≤ (repR ρ).num 4 ∧ (repR ρ).num 4 ≤ 64) :
    Calls Try.prog 32 #[.iface 90 (.pointer (some ⟨R, 0, none⟩)), .pointer (some ⟨M, 0, none⟩)] wI fun r w' => r = .returned (.tuple #[.bool (decide (((flR ρ).num 1 : Int) < 2)), .bool true]) ∧ ∃ Lb, wI.heap.size ≤ Lb ∧ RdS w' R (stampR (((repR ρ).left 4).ents ((repR ρ).num 4)).2) ∧ Blk w' M 36 (Msg.vs (stampM (((repR ρ).left 4).ents ((repR ρ).num 4)).2 ((repM ρ).setList (((repR ρ).left 4).ents ((repR ρ).num 4)).1)) (.slice (some ⟨Lb, 0, none⟩) (((repR ρ).left 4).ents ((repR ρ).num 4)).1.length (((repR ρ).left 4).ents ((repR ρ).num 4)).1.length)) ∧ Blk w' Lb 99 ((((repR ρ).left 4).ents ((repR ρ).num 4)).1.flatMap Ent.vs) ∧ Keeps (fun k => k = R ∨ k = M) wI w' := by
  have H1 := Lib.hid h1
  clear h1
  obtain ⟨m, hmz⟩ : ∃ x, x = Msg.zero := ⟨_, rfl⟩
  rw [← hmz] at hF
  have E00 := Lib.hid hmz
  generalize hL : (Value.slice none 0 0) = L at hF
  have kb1 : (((ρ.num 1 : Nat) : Int) == 1) = false := beq_eq_false_iff_ne.2 (by omega)
  have kb2 : (((ρ.num 1 : Nat) : Int) == 2) = true := by rw [hkind]; rfl
  have kb3 : (((ρ.num 1 : Nat) : Int) == 3) = false := beq_eq_false_iff_ne.2 (by omega)
  have kb4 : (((ρ.num 1 : Nat) : Int) == 4) = false := beq_eq_false_iff_ne.2 (by omega)
  have HK := Lib.hid hkind
  clear hkind hmz
  have x1 := rm_number ⟨R, 0, none⟩; have x2 := rm_text ⟨R, 0, none⟩; have x3 := rm_handle ⟨R, 0, none⟩
  have y1 := rn_number ⟨R, 0, none⟩; have y2 := rn_text ⟨R, 0, none⟩; have y3 := rn_handle ⟨R, 0, none⟩
  obtain ⟨m0, E0⟩ : ∃ x, Hid (x = m) := ⟨_, Lib.hid rfl⟩
  obtain ⟨r0, D0⟩ : ∃ x, Hid (x = ρ) := ⟨_, Lib.hid rfl⟩
  rw [← E0.out, ← D0.out] at hF
  have F0 := Lib.hid hF
  clear hF
  have HL := Lib.hid hL
  have E0 := Lib.hid (E0.out.trans E00.out)
  clear hL
  go_enter Try.func32, Try.ntmps32
  go_wp2_with fail
  have HV0 := Lib.hid (show I64 m0.kind by rw [E0.out]; exact (⟨by decide, by decide⟩ : I64 0))
  refine (small_r R M 0 36 (m0.vs L) m0.kind r0 F0.out.sz HV0.out _ F0.out.rd F0.out.m rfl F0.out.ne).mono ?_
  rintro e w1 ⟨rfl, ⟨q1, q2, q3⟩⟩
  have f := F0.out.step q1 (show Blk w1 M 36 (Msg.vs (m0.setKind (r0.num 1)) L) from q2) q3 (Rd.left_size r0 1)
  have F1 := Lib.hid f
  clear q1 q2 q3 f F0
  obtain ⟨m1, E1⟩ : ∃ x, Hid (x = (m0.setKind (r0.num 1))) := ⟨_, Lib.hid rfl⟩
  obtain ⟨r1, D1⟩ : ∃ x, Hid (x = (r0.left 1)) := ⟨_, Lib.hid rfl⟩
  rw [← E1.out, ← D1.out] at F1
  go_wp2_with fail
  have HV1 := Lib.hid (show U32 m1.client by rw [E1.out, E0.out]; exact (⟨by decide, by decide⟩ : U32 0))
  refine (four_r R M 1 36 (m1.vs L) m1.client r1 F1.out.sz HV1.out _ F1.out.rd F1.out.m rfl F1.out.ne).mono ?_
  rintro e w2 ⟨rfl, ⟨q1, q2, q3⟩⟩
  have f := F1.out.step q1 (show Blk w2 M 36 (Msg.vs (m1.setClient (r1.num 4)) L) from q2) q3 (Rd.left_size r1 4)
  have F2 := Lib.hid f
  clear q1 q2 q3 f F1
  obtain ⟨m2, E2⟩ : ∃ x, Hid (x = (m1.setClient (r1.num 4))) := ⟨_, Lib.hid rfl⟩
  obtain ⟨r2, D2⟩ : ∃ x, Hid (x = (r1.left 4)) := ⟨_, Lib.hid rfl⟩
  rw [← E2.out, ← D2.out] at F2
  go_wp2_with fail
  go_still_tail 7, (by kernel_rfl)
  change wpList _ _ _ _ _ w2.drew
  have F2 := Lib.hid F2.out.drew
  generalize w2.drew = w2 at F2 ⊢
  go_wp2_with fail
  refine (number_r R M 2 36 (m2.vs L) m2.xid r2 8 (by omega) F2.out.sz _ F2.out.rd F2.out.m rfl F2.out.ne).mono ?_
  rintro e w3 ⟨rfl, q1, q2, q3⟩
  have f := F2.out.step q1 (show Blk w3 M 36 (Msg.vs (m2.setXid (r2.num 8)) L) from q2) q3 (Rd.left_size r2 8)
  have F3 := Lib.hid f
  clear q1 q2 q3 f F2
  obtain ⟨m3, E3⟩ : ∃ x, Hid (x = (m2.setXid (r2.num 8))) := ⟨_, Lib.hid rfl⟩
  obtain ⟨r3, D3⟩ : ∃ x, Hid (x = (r2.left 8)) := ⟨_, Lib.hid rfl⟩
  rw [← E3.out, ← D3.out] at F3
  have ck3 : w3.cell? ⟨M, 0, none⟩ = some (.int .i64 ((ρ.num 1 : Nat) : Int)) := by
    refine (F3.out.m.cell 0 rfl).trans ?_
    rw [show m3.kind = ((ρ.num 1 : Nat) : Int) by rw [E3.out, E2.out, E1.out, D0.out]; rfl]
  go_wp2_with fail
  have HV3 := Lib.hid (show I64 m3.status by rw [E3.out, E2.out, E1.out, E0.out]; exact (⟨by decide, by decide⟩ : I64 0))
  refine (small_r R M 17 36 (m3.vs L) m3.status r3 F3.out.sz HV3.out _ F3.out.rd F3.out.m rfl F3.out.ne).mono ?_
  rintro e w4 ⟨rfl, ⟨q1, q2, q3⟩⟩
  have f := F3.out.step q1 (show Blk w4 M 36 (Msg.vs (m3.setStatus (r3.num 1)) L) from q2) q3 (Rd.left_size r3 1)
  have F4 := Lib.hid f
  clear q1 q2 q3 f F3 ck3
  obtain ⟨m4, E4⟩ : ∃ x, Hid (x = (m3.setStatus (r3.num 1))) := ⟨_, Lib.hid rfl⟩
  obtain ⟨r4, D4⟩ : ∃ x, Hid (x = (r3.left 1)) := ⟨_, Lib.hid rfl⟩
  rw [← E4.out, ← D4.out] at F4
  go_wp2_with fail
  go_still_tail 7, (by kernel_rfl)
  change wpList _ _ _ _ _ w4.drew
  have F4 := Lib.hid F4.out.drew
  generalize w4.drew = w4 at F4 ⊢
  go_wp2_with fail
  refine (handle_r R M 18 36 (m4.vs L) _ _ _ _ r4 F4.out.sz _ F4.out.rd F4.out.m rfl rfl rfl rfl F4.out.ne).mono ?_
  rintro e w5 ⟨rfl, q1, q2, q3⟩
  have f := F4.out.step q1 (show Blk w5 M 36 (Msg.vs (m4.setAh (decH (r4.took 28))) L) from q2) q3 (Rd.left_size r4 28)
  have F5 := Lib.hid f
  clear q1 q2 q3 f F4
  obtain ⟨m5, E5⟩ : ∃ x, Hid (x = (m4.setAh (decH (r4.took 28)))) := ⟨_, Lib.hid rfl⟩
  obtain ⟨r5, D5⟩ : ∃ x, Hid (x = (r4.left 28)) := ⟨_, Lib.hid rfl⟩
  rw [← E5.out, ← D5.out] at F5
  go_wp2_with fail
  have HV5 := Lib.hid (show I64 m5.akind by rw [E5.out, E4.out, E3.out, E2.out, E1.out, E0.out]; exact (⟨by decide, by decide⟩ : I64 0))
  refine (small_r R M 22 36 (m5.vs L) m5.akind r5 F5.out.sz HV5.out _ F5.out.rd F5.out.m rfl F5.out.ne).mono ?_
  rintro e w6 ⟨rfl, ⟨q1, q2, q3⟩⟩
  have f := F5.out.step q1 (show Blk w6 M 36 (Msg.vs (m5.setAkind (r5.num 1)) L) from q2) q3 (Rd.left_size r5 1)
  have F6 := Lib.hid f
  clear q1 q2 q3 f F5
  obtain ⟨m6, E6⟩ : ∃ x, Hid (x = (m5.setAkind (r5.num 1))) := ⟨_, Lib.hid rfl⟩
  obtain ⟨r6, D6⟩ : ∃ x, Hid (x = (r5.left 1)) := ⟨_, Lib.hid rfl⟩
  rw [← E6.out, ← D6.out] at F6
  go_wp2_with fail
  have HV6 := Lib.hid (show U32 m6.links by rw [E6.out, E5.out, E4.out, E3.out, E2.out, E1.out, E0.out]; exact (⟨by decide, by decide⟩ : U32 0))
  refine (four_r R M 23 36 (m6.vs L) m6.links r6 F6.out.sz HV6.out _ F6.out.rd F6.out.m rfl F6.out.ne).mono ?_
  rintro e w7 ⟨rfl, ⟨q1, q2, q3⟩⟩
  have f := F6.out.step q1 (show Blk w7 M 36 (Msg.vs (m6.setLinks (r6.num 4)) L) from q2) q3 (Rd.left_size r6 4)
  have F7 := Lib.hid f
  clear q1 q2 q3 f F6
  obtain ⟨m7, E7⟩ : ∃ x, Hid (x = (m6.setLinks (r6.num 4))) := ⟨_, Lib.hid rfl⟩
  obtain ⟨r7, D7⟩ : ∃ x, Hid (x = (r6.left 4)) := ⟨_, Lib.hid rfl⟩
  rw [← E7.out, ← D7.out] at F7
  go_wp2_with fail
  go_still_tail 8, (by kernel_rfl)
  change wpList _ _ _ _ _ w7.drew
  have F7 := Lib.hid F7.out.drew
  generalize w7.drew = w7 at F7 ⊢
  go_wp2_with fail
  refine (number_r R M 24 36 (m7.vs L) m7.size r7 8 (by omega) F7.out.sz _ F7.out.rd F7.out.m rfl F7.out.ne).mono ?_
  rintro e w8 ⟨rfl, q1, q2, q3⟩
  have f := F7.out.step q1 (show Blk w8 M 36 (Msg.vs (m7.setSize (r7.num 8)) L) from q2) q3 (Rd.left_size r7 8)
  have F8 := Lib.hid f
  clear q1 q2 q3 f F7
  obtain ⟨m8, E8⟩ : ∃ x, Hid (x = (m7.setSize (r7.num 8))) := ⟨_, Lib.hid rfl⟩
  obtain ⟨r8, D8⟩ : ∃ x, Hid (x = (r7.left 8)) := ⟨_, Lib.hid rfl⟩
  rw [← E8.out, ← D8.out] at F8
  go_wp2_with fail
  go_still_tail 8, (by kernel_rfl)
  change wpList _ _ _ _ _ w8.drew
  have F8 := Lib.hid F8.out.drew
  generalize w8.drew = w8 at F8 ⊢
  go_wp2_with fail
  refine (number_r R M 25 36 (m8.vs L) m8.change r8 8 (by omega) F8.out.sz _ F8.out.rd F8.out.m rfl F8.out.ne).mono ?_
  rintro e w9 ⟨rfl, q1, q2, q3⟩
  have f := F8.out.step q1 (show Blk w9 M 36 (Msg.vs (m8.setChange (r8.num 8)) L) from q2) q3 (Rd.left_size r8 8)
  have F9 := Lib.hid f
  clear q1 q2 q3 f F8
  obtain ⟨m9, E9⟩ : ∃ x, Hid (x = (m8.setChange (r8.num 8))) := ⟨_, Lib.hid rfl⟩
  obtain ⟨r9, D9⟩ : ∃ x, Hid (x = (r8.left 8)) := ⟨_, Lib.hid rfl⟩
  rw [← E9.out, ← D9.out] at F9
  go_wp2_with fail
  go_still_tail 7, (by kernel_rfl)
  change wpList _ _ _ _ _ w9.drew
  have F9 := Lib.hid F9.out.drew
  generalize w9.drew = w9 at F9 ⊢
  go_wp2_with fail
  refine (text_r R M 26 36 (m9.vs L) m9.adata r9 F9.out.sz _ F9.out.rd F9.out.m rfl F9.out.ne).mono ?_
  rintro e w10 ⟨rfl, q1, q2, q3⟩
  have f := F9.out.step q1 (show Blk w10 M 36 (Msg.vs (m9.setAdata (r9.textS m9.adata)) L) from q2) q3 (Rd.textR_size r9)
  have F10 := Lib.hid f
  clear q1 q2 q3 f F9
  obtain ⟨m10, E10⟩ : ∃ x, Hid (x = (m9.setAdata (r9.textS m9.adata))) := ⟨_, Lib.hid rfl⟩
  obtain ⟨r10, D10⟩ : ∃ x, Hid (x = r9.textR) := ⟨_, Lib.hid rfl⟩
  rw [← E10.out, ← D10.out] at F10
  go_wp2_with fail
  have HV10 := Lib.hid (show m10.eof = false by rw [E10.out, E9.out, E8.out, E7.out, E6.out, E5.out, E4.out, E3.out, E2.out, E1.out, E0.out]; rfl)
  refine (flag_r R M 27 36 (m10.vs L) r10 F10.out.sz _ F10.out.rd F10.out.m (by show some (Value.bool m10.eof) = _; rw [HV10.out]) F10.out.ne).mono ?_
  rintro e w11 ⟨rfl, ⟨q1, q2, q3⟩⟩
  obtain ⟨fl, EF⟩ : ∃ x, Hid (x = decide ((r10.num 1 : Int) < 2)) := ⟨_, Lib.hid rfl⟩
  rw [← EF.out]
  have f := F10.out.step q1 (show Blk w11 M 36 (Msg.vs (m10.setEof ((r10.num 1 : Int) == 1)) L) from q2) q3 (Rd.left_size r10 1)
  have F11 := Lib.hid f
  clear q1 q2 q3 f F10
  obtain ⟨m11, E11⟩ : ∃ x, Hid (x = (m10.setEof ((r10.num 1 : Int) == 1))) := ⟨_, Lib.hid rfl⟩
  obtain ⟨r11, D11⟩ : ∃ x, Hid (x = (r10.left 1)) := ⟨_, Lib.hid rfl⟩
  rw [← E11.out, ← D11.out] at F11
  go_wp2_with fail
  go_still_tail 7, (by kernel_rfl)
  change wpList _ _ _ _ _ w11.drew
  have F11 := Lib.hid F11.out.drew
  generalize w11.drew = w11 at F11 ⊢
  go_wp2_with fail
  refine (number_r R M 28 36 (m11.vs L) m11.anum r11 8 (by omega) F11.out.sz _ F11.out.rd F11.out.m rfl F11.out.ne).mono ?_
  rintro e w12 ⟨rfl, q1, q2, q3⟩
  have f := F11.out.step q1 (show Blk w12 M 36 (Msg.vs (m11.setAnum (r11.num 8)) L) from q2) q3 (Rd.left_size r11 8)
  have F12 := Lib.hid f
  clear q1 q2 q3 f F11
  obtain ⟨m12, E12⟩ : ∃ x, Hid (x = (m11.setAnum (r11.num 8))) := ⟨_, Lib.hid rfl⟩
  obtain ⟨r12, D12⟩ : ∃ x, Hid (x = (r11.left 8)) := ⟨_, Lib.hid rfl⟩
  rw [← E12.out, ← D12.out] at F12
  have hrr : r12 = repR ρ := by rw [D12.out, D11.out, D10.out, D9.out, D8.out, D7.out, D6.out, D5.out, D4.out, D3.out, D2.out, D1.out, D0.out]; rfl
  have hmm : m12 = repM ρ := by rw [E12.out, D11.out, E11.out, D10.out, E10.out, D9.out, E9.out, D8.out, E8.out, D7.out, E7.out, D6.out, E6.out, D5.out, E5.out, D4.out, E4.out, D3.out, E3.out, D2.out, E2.out, D1.out, E1.out, D0.out, E0.out]; rfl
  have hfl : fl = decide (((flR ρ).num 1 : Int) < 2) := by rw [EF.out, D10.out, D9.out, D8.out, D7.out, D6.out, D5.out, D4.out, D3.out, D2.out, D1.out, D0.out]; rfl
  have HRR := Lib.hid hrr; have HMM := Lib.hid hmm; have HFL := Lib.hid hfl
  have hn : 1 ≤ r12.num 4 ∧ r12.num 4 ≤ 64 := by rw [hrr]; exact H1.out
  clear hrr hmm hfl E1 D1 E2 D2 E3 D3 E4 D4 E5 D5 E6 D6 E7 D7 E8 D8 E9 D9 E10 D10 E11 D11 E12 D12 EF
  go_wp2_with fail
  refine (list_r_some R M 29 36 (m12.vs L) r12 F12.out.sz _ F12.out.rd F12.out.m (by show some L = _; rw [HL.out]) F12.out.ne hn.1 hn.2).mono ?_
  rintro e w13 ⟨rfl, Lb, p1, p2, p3, p4, p5⟩
  have f := F12.out.step p2 (show Blk w13 M 36 (Msg.vs (m12.setList ((r12.left 4).ents (r12.num 4)).1) (.slice (some ⟨Lb, 0, none⟩) ((r12.left 4).ents (r12.num 4)).1.length ((r12.left 4).ents (r12.num 4)).1.length)) from p3) p5 (Nat.le_trans (Rd.ents_size (r12.left 4) (r12.num 4)) (Rd.left_size r12 4))
  have hLR : Lb ≠ R := by have := F12.out.rd.lt; omega
  have hLM : Lb ≠ M := by have := F12.out.m.lt; omega
  have HLw := Lib.hid (Nat.le_trans F12.out.keep.size p1)
  have EB := Lib.hid p4
  have F13 := Lib.hid f
  clear p1 p2 p3 p4 p5 f F12 hn
  obtain ⟨es, HE⟩ : ∃ x, Hid (((r12.left 4).ents (r12.num 4)).1 = x) := ⟨_, Lib.hid rfl⟩
  obtain ⟨r13, HR⟩ : ∃ x, Hid (((r12.left 4).ents (r12.num 4)).2 = x) := ⟨_, Lib.hid rfl⟩
  rw [HE.out] at EB F13
  rw [HR.out] at F13
  obtain ⟨m13, HM⟩ : ∃ x, Hid (m12.setList es = x) := ⟨_, Lib.hid rfl⟩
  rw [HM.out] at F13
  go_wp2_with fail
  refine (stamp_r R M m13 _ r13 _ F13.out.here).mono ?_
  rintro e w14 ⟨rfl, ⟨q1, q2, q3⟩⟩
  have EB2 := Lib.hid (EB.out.kept q3 (by rintro (e | e); exact hLR e; exact hLM e))
  have KK := Lib.hid (F13.out.keep.trans q3 (fun _ _ h => h))
  have Q1 := Lib.hid q1; have Q2 := Lib.hid q2
  clear q1 q2 q3 EB F13
  go_wp2_with fail
  go_ret2
  refine ⟨by first | (rw [HFL.out]; done) | (rw [HFL.out]; rfl) | (simp [HFL.out]; done), ?_⟩
  rw [← HRR.out, ← HMM.out, HE.out, HR.out, HM.out]
  exact ⟨Lb, HLw.out, Q1.out, Q2.out, EB2.out, KK.out⟩

set_option maxHeartbeats 16000000 in
set_option maxRecDepth 100000 in
theorem fields_r_none (R M : Nat) (ρ : Rd) (wI : World) (hF : FR wI wI R M Msg.zero (.slice none 0 0) ρ) (hkind : ρ.num 1 = 2) (h1 : (repR ρ).num 4 = 0) :
    Calls Try.prog 32 #[.iface 90 (.pointer (some ⟨R, 0, none⟩)), .pointer (some ⟨M, 0, none⟩)] wI fun r w' => r = .returned (.tuple #[.bool (decide (((flR ρ).num 1 : Int) < 2)), .bool true]) ∧ RPost wI R M 36 (Msg.vs (stampM ((repR ρ).left 4) (repM ρ)) (.slice none 0 0)) (stampR ((repR ρ).left 4)) w' := by
  have H1 := Lib.hid h1
  clear h1
  obtain ⟨m, hmz⟩ : ∃ x, x = Msg.zero := ⟨_, rfl⟩
  rw [← hmz] at hF
  have E00 := Lib.hid hmz
  generalize hL : (Value.slice none 0 0) = L at hF
  have kb1 : (((ρ.num 1 : Nat) : Int) == 1) = false := beq_eq_false_iff_ne.2 (by omega)
  have kb2 : (((ρ.num 1 : Nat) : Int) == 2) = true := by rw [hkind]; rfl
  have kb3 : (((ρ.num 1 : Nat) : Int) == 3) = false := beq_eq_false_iff_ne.2 (by omega)
  have kb4 : (((ρ.num 1 : Nat) : Int) == 4) = false := beq_eq_false_iff_ne.2 (by omega)
  have HK := Lib.hid hkind
  clear hkind hmz
  have x1 := rm_number ⟨R, 0, none⟩; have x2 := rm_text ⟨R, 0, none⟩; have x3 := rm_handle ⟨R, 0, none⟩
  have y1 := rn_number ⟨R, 0, none⟩; have y2 := rn_text ⟨R, 0, none⟩; have y3 := rn_handle ⟨R, 0, none⟩
  obtain ⟨m0, E0⟩ : ∃ x, Hid (x = m) := ⟨_, Lib.hid rfl⟩
  obtain ⟨r0, D0⟩ : ∃ x, Hid (x = ρ) := ⟨_, Lib.hid rfl⟩
  rw [← E0.out, ← D0.out] at hF
  have F0 := Lib.hid hF
  clear hF
  have HL := Lib.hid hL
  have E0 := Lib.hid (E0.out.trans E00.out)
  clear hL
  go_enter Try.func32, Try.ntmps32
  go_wp2_with fail
  have HV0 := Lib.hid (show I64 m0.kind by rw [E0.out]; exact (⟨by decide, by decide⟩ : I64 0))
  refine (small_r R M 0 36 (m0.vs L) m0.kind r0 F0.out.sz HV0.out _ F0.out.rd F0.out.m rfl F0.out.ne).mono ?_
  rintro e w1 ⟨rfl, ⟨q1, q2, q3⟩⟩
  have f := F0.out.step q1 (show Blk w1 M 36 (Msg.vs (m0.setKind (r0.num 1)) L) from q2) q3 (Rd.left_size r0 1)
  have F1 := Lib.hid f
  clear q1 q2 q3 f F0
  obtain ⟨m1, E1⟩ : ∃ x, Hid (x = (m0.setKind (r0.num 1))) := ⟨_, Lib.hid rfl⟩
  obtain ⟨r1, D1⟩ : ∃ x, Hid (x = (r0.left 1)) := ⟨_, Lib.hid rfl⟩
  rw [← E1.out, ← D1.out] at F1
  go_wp2_with fail
  have HV1 := Lib.hid (show U32 m1.client by rw [E1.out, E0.out]; exact (⟨by decide, by decide⟩ : U32 0))
  refine (four_r R M 1 36 (m1.vs L) m1.client r1 F1.out.sz HV1.out _ F1.out.rd F1.out.m rfl F1.out.ne).mono ?_
  rintro e w2 ⟨rfl, ⟨q1, q2, q3⟩⟩
  have f := F1.out.step q1 (show Blk w2 M 36 (Msg.vs (m1.setClient (r1.num 4)) L) from q2) q3 (Rd.left_size r1 4)
  have F2 := Lib.hid f
  clear q1 q2 q3 f F1
  obtain ⟨m2, E2⟩ : ∃ x, Hid (x = (m1.setClient (r1.num 4))) := ⟨_, Lib.hid rfl⟩
  obtain ⟨r2, D2⟩ : ∃ x, Hid (x = (r1.left 4)) := ⟨_, Lib.hid rfl⟩
  rw [← E2.out, ← D2.out] at F2
  go_wp2_with fail
  go_still_tail 7, (by kernel_rfl)
  change wpList _ _ _ _ _ w2.drew
  have F2 := Lib.hid F2.out.drew
  generalize w2.drew = w2 at F2 ⊢
  go_wp2_with fail
  refine (number_r R M 2 36 (m2.vs L) m2.xid r2 8 (by omega) F2.out.sz _ F2.out.rd F2.out.m rfl F2.out.ne).mono ?_
  rintro e w3 ⟨rfl, q1, q2, q3⟩
  have f := F2.out.step q1 (show Blk w3 M 36 (Msg.vs (m2.setXid (r2.num 8)) L) from q2) q3 (Rd.left_size r2 8)
  have F3 := Lib.hid f
  clear q1 q2 q3 f F2
  obtain ⟨m3, E3⟩ : ∃ x, Hid (x = (m2.setXid (r2.num 8))) := ⟨_, Lib.hid rfl⟩
  obtain ⟨r3, D3⟩ : ∃ x, Hid (x = (r2.left 8)) := ⟨_, Lib.hid rfl⟩
  rw [← E3.out, ← D3.out] at F3
  have ck3 : w3.cell? ⟨M, 0, none⟩ = some (.int .i64 ((ρ.num 1 : Nat) : Int)) := by
    refine (F3.out.m.cell 0 rfl).trans ?_
    rw [show m3.kind = ((ρ.num 1 : Nat) : Int) by rw [E3.out, E2.out, E1.out, D0.out]; rfl]
  go_wp2_with fail
  have HV3 := Lib.hid (show I64 m3.status by rw [E3.out, E2.out, E1.out, E0.out]; exact (⟨by decide, by decide⟩ : I64 0))
  refine (small_r R M 17 36 (m3.vs L) m3.status r3 F3.out.sz HV3.out _ F3.out.rd F3.out.m rfl F3.out.ne).mono ?_
  rintro e w4 ⟨rfl, ⟨q1, q2, q3⟩⟩
  have f := F3.out.step q1 (show Blk w4 M 36 (Msg.vs (m3.setStatus (r3.num 1)) L) from q2) q3 (Rd.left_size r3 1)
  have F4 := Lib.hid f
  clear q1 q2 q3 f F3 ck3
  obtain ⟨m4, E4⟩ : ∃ x, Hid (x = (m3.setStatus (r3.num 1))) := ⟨_, Lib.hid rfl⟩
  obtain ⟨r4, D4⟩ : ∃ x, Hid (x = (r3.left 1)) := ⟨_, Lib.hid rfl⟩
  rw [← E4.out, ← D4.out] at F4
  go_wp2_with fail
  go_still_tail 7, (by kernel_rfl)
  change wpList _ _ _ _ _ w4.drew
  have F4 := Lib.hid F4.out.drew
  generalize w4.drew = w4 at F4 ⊢
  go_wp2_with fail
  refine (handle_r R M 18 36 (m4.vs L) _ _ _ _ r4 F4.out.sz _ F4.out.rd F4.out.m rfl rfl rfl rfl F4.out.ne).mono ?_
  rintro e w5 ⟨rfl, q1, q2, q3⟩
  have f := F4.out.step q1 (show Blk w5 M 36 (Msg.vs (m4.setAh (decH (r4.took 28))) L) from q2) q3 (Rd.left_size r4 28)
  have F5 := Lib.hid f
  clear q1 q2 q3 f F4
  obtain ⟨m5, E5⟩ : ∃ x, Hid (x = (m4.setAh (decH (r4.took 28)))) := ⟨_, Lib.hid rfl⟩
  obtain ⟨r5, D5⟩ : ∃ x, Hid (x = (r4.left 28)) := ⟨_, Lib.hid rfl⟩
  rw [← E5.out, ← D5.out] at F5
  go_wp2_with fail
  have HV5 := Lib.hid (show I64 m5.akind by rw [E5.out, E4.out, E3.out, E2.out, E1.out, E0.out]; exact (⟨by decide, by decide⟩ : I64 0))
  refine (small_r R M 22 36 (m5.vs L) m5.akind r5 F5.out.sz HV5.out _ F5.out.rd F5.out.m rfl F5.out.ne).mono ?_
  rintro e w6 ⟨rfl, ⟨q1, q2, q3⟩⟩
  have f := F5.out.step q1 (show Blk w6 M 36 (Msg.vs (m5.setAkind (r5.num 1)) L) from q2) q3 (Rd.left_size r5 1)
  have F6 := Lib.hid f
  clear q1 q2 q3 f F5
  obtain ⟨m6, E6⟩ : ∃ x, Hid (x = (m5.setAkind (r5.num 1))) := ⟨_, Lib.hid rfl⟩
  obtain ⟨r6, D6⟩ : ∃ x, Hid (x = (r5.left 1)) := ⟨_, Lib.hid rfl⟩
  rw [← E6.out, ← D6.out] at F6
  go_wp2_with fail
  have HV6 := Lib.hid (show U32 m6.links by rw [E6.out, E5.out, E4.out, E3.out, E2.out, E1.out, E0.out]; exact (⟨by decide, by decide⟩ : U32 0))
  refine (four_r R M 23 36 (m6.vs L) m6.links r6 F6.out.sz HV6.out _ F6.out.rd F6.out.m rfl F6.out.ne).mono ?_
  rintro e w7 ⟨rfl, ⟨q1, q2, q3⟩⟩
  have f := F6.out.step q1 (show Blk w7 M 36 (Msg.vs (m6.setLinks (r6.num 4)) L) from q2) q3 (Rd.left_size r6 4)
  have F7 := Lib.hid f
  clear q1 q2 q3 f F6
  obtain ⟨m7, E7⟩ : ∃ x, Hid (x = (m6.setLinks (r6.num 4))) := ⟨_, Lib.hid rfl⟩
  obtain ⟨r7, D7⟩ : ∃ x, Hid (x = (r6.left 4)) := ⟨_, Lib.hid rfl⟩
  rw [← E7.out, ← D7.out] at F7
  go_wp2_with fail
  go_still_tail 8, (by kernel_rfl)
  change wpList _ _ _ _ _ w7.drew
  have F7 := Lib.hid F7.out.drew
  generalize w7.drew = w7 at F7 ⊢
  go_wp2_with fail
  refine (number_r R M 24 36 (m7.vs L) m7.size r7 8 (by omega) F7.out.sz _ F7.out.rd F7.out.m rfl F7.out.ne).mono ?_
  rintro e w8 ⟨rfl, q1, q2, q3⟩
  have f := F7.out.step q1 (show Blk w8 M 36 (Msg.vs (m7.setSize (r7.num 8)) L) from q2) q3 (Rd.left_size r7 8)
  have F8 := Lib.hid f
  clear q1 q2 q3 f F7
  obtain ⟨m8, E8⟩ : ∃ x, Hid (x = (m7.setSize (r7.num 8))) := ⟨_, Lib.hid rfl⟩
  obtain ⟨r8, D8⟩ : ∃ x, Hid (x = (r7.left 8)) := ⟨_, Lib.hid rfl⟩
  rw [← E8.out, ← D8.out] at F8
  go_wp2_with fail
  go_still_tail 8, (by kernel_rfl)
  change wpList _ _ _ _ _ w8.drew
  have F8 := Lib.hid F8.out.drew
  generalize w8.drew = w8 at F8 ⊢
  go_wp2_with fail
  refine (number_r R M 25 36 (m8.vs L) m8.change r8 8 (by omega) F8.out.sz _ F8.out.rd F8.out.m rfl F8.out.ne).mono ?_
  rintro e w9 ⟨rfl, q1, q2, q3⟩
  have f := F8.out.step q1 (show Blk w9 M 36 (Msg.vs (m8.setChange (r8.num 8)) L) from q2) q3 (Rd.left_size r8 8)
  have F9 := Lib.hid f
  clear q1 q2 q3 f F8
  obtain ⟨m9, E9⟩ : ∃ x, Hid (x = (m8.setChange (r8.num 8))) := ⟨_, Lib.hid rfl⟩
  obtain ⟨r9, D9⟩ : ∃ x, Hid (x = (r8.left 8)) := ⟨_, Lib.hid rfl⟩
  rw [← E9.out, ← D9.out] at F9
  go_wp2_with fail
  go_still_tail 7, (by kernel_rfl)
  change wpList _ _ _ _ _ w9.drew
  have F9 := Lib.hid F9.out.drew
  generalize w9.drew = w9 at F9 ⊢
  go_wp2_with fail
  refine (text_r R M 26 36 (m9.vs L) m9.adata r9 F9.out.sz _ F9.out.rd F9.out.m rfl F9.out.ne).mono ?_
  rintro e w10 ⟨rfl, q1, q2, q3⟩
  have f := F9.out.step q1 (show Blk w10 M 36 (Msg.vs (m9.setAdata (r9.textS m9.adata)) L) from q2) q3 (Rd.textR_size r9)
  have F10 := Lib.hid f
  clear q1 q2 q3 f F9
  obtain ⟨m10, E10⟩ : ∃ x, Hid (x = (m9.setAdata (r9.textS m9.adata))) := ⟨_, Lib.hid rfl⟩
  obtain ⟨r10, D10⟩ : ∃ x, Hid (x = r9.textR) := ⟨_, Lib.hid rfl⟩
  rw [← E10.out, ← D10.out] at F10
  go_wp2_with fail
  have HV10 := Lib.hid (show m10.eof = false by rw [E10.out, E9.out, E8.out, E7.out, E6.out, E5.out, E4.out, E3.out, E2.out, E1.out, E0.out]; rfl)
  refine (flag_r R M 27 36 (m10.vs L) r10 F10.out.sz _ F10.out.rd F10.out.m (by show some (Value.bool m10.eof) = _; rw [HV10.out]) F10.out.ne).mono ?_
  rintro e w11 ⟨rfl, ⟨q1, q2, q3⟩⟩
  obtain ⟨fl, EF⟩ : ∃ x, Hid (x = decide ((r10.num 1 : Int) < 2)) := ⟨_, Lib.hid rfl⟩
  rw [← EF.out]
  have f := F10.out.step q1 (show Blk w11 M 36 (Msg.vs (m10.setEof ((r10.num 1 : Int) == 1)) L) from q2) q3 (Rd.left_size r10 1)
  have F11 := Lib.hid f
  clear q1 q2 q3 f F10
  obtain ⟨m11, E11⟩ : ∃ x, Hid (x = (m10.setEof ((r10.num 1 : Int) == 1))) := ⟨_, Lib.hid rfl⟩
  obtain ⟨r11, D11⟩ : ∃ x, Hid (x = (r10.left 1)) := ⟨_, Lib.hid rfl⟩
  rw [← E11.out, ← D11.out] at F11
  go_wp2_with fail
  go_still_tail 7, (by kernel_rfl)
  change wpList _ _ _ _ _ w11.drew
  have F11 := Lib.hid F11.out.drew
  generalize w11.drew = w11 at F11 ⊢
  go_wp2_with fail
  refine (number_r R M 28 36 (m11.vs L) m11.anum r11 8 (by omega) F11.out.sz _ F11.out.rd F11.out.m rfl F11.out.ne).mono ?_
  rintro e w12 ⟨rfl, q1, q2, q3⟩
  have f := F11.out.step q1 (show Blk w12 M 36 (Msg.vs (m11.setAnum (r11.num 8)) L) from q2) q3 (Rd.left_size r11 8)
  have F12 := Lib.hid f
  clear q1 q2 q3 f F11
  obtain ⟨m12, E12⟩ : ∃ x, Hid (x = (m11.setAnum (r11.num 8))) := ⟨_, Lib.hid rfl⟩
  obtain ⟨r12, D12⟩ : ∃ x, Hid (x = (r11.left 8)) := ⟨_, Lib.hid rfl⟩
  rw [← E12.out, ← D12.out] at F12
  have hrr : r12 = repR ρ := by rw [D12.out, D11.out, D10.out, D9.out, D8.out, D7.out, D6.out, D5.out, D4.out, D3.out, D2.out, D1.out, D0.out]; rfl
  have hmm : m12 = repM ρ := by rw [E12.out, D11.out, E11.out, D10.out, E10.out, D9.out, E9.out, D8.out, E8.out, D7.out, E7.out, D6.out, E6.out, D5.out, E5.out, D4.out, E4.out, D3.out, E3.out, D2.out, E2.out, D1.out, E1.out, D0.out, E0.out]; rfl
  have hfl : fl = decide (((flR ρ).num 1 : Int) < 2) := by rw [EF.out, D10.out, D9.out, D8.out, D7.out, D6.out, D5.out, D4.out, D3.out, D2.out, D1.out, D0.out]; rfl
  have HRR := Lib.hid hrr; have HMM := Lib.hid hmm; have HFL := Lib.hid hfl
  have hn : r12.num 4 = 0 := by rw [hrr]; exact H1.out
  clear hrr hmm hfl E1 D1 E2 D2 E3 D3 E4 D4 E5 D5 E6 D6 E7 D7 E8 D8 E9 D9 E10 D10 E11 D11 E12 D12 EF
  go_wp2_with fail
  refine (list_r_none R M 29 36 (m12.vs L) r12 F12.out.sz _ F12.out.rd F12.out.m (by show some L = _; rw [HL.out]) F12.out.ne hn).mono ?_
  rintro e w13 ⟨rfl, ⟨q1, q2, q3⟩⟩
  have F13 := Lib.hid (F12.out.step q1 q2 q3 (Rd.left_size r12 4))
  clear q1 q2 q3 F12 hn
  go_wp2_with fail
  refine (stamp_r R M m12 L (r12.left 4) _ F13.out.here).mono ?_
  rintro e w14 ⟨rfl, ⟨q1, q2, q3⟩⟩
  have KK := Lib.hid (F13.out.keep.trans q3 (fun _ _ h => h))
  have Q1 := Lib.hid q1; have Q2 := Lib.hid q2
  clear q1 q2 q3 F13
  go_wp2_with fail
  go_ret2
  refine ⟨by first | (rw [HFL.out]; done) | (rw [HFL.out]; rfl) | (simp [HFL.out]; done), ?_⟩
  rw [← HRR.out, ← HMM.out]
  exact ⟨Q1.out, Q2.out, KK.out⟩

set_option maxHeartbeats 16000000 in
set_option maxRecDepth 100000 in
theorem fields_r_long (R M : Nat) (ρ : Rd) (wI : World) (hF : FR wI wI R M Msg.zero (.slice none 0 0) ρ) (hkind : ρ.num 1 = 2) (h1 : ¬ (repR ρ).num 4 ≤ 64) :
    Calls Try.prog 32 #[.iface 90 (.pointer (some ⟨R, 0, none⟩)), .pointer (some ⟨M, 0, none⟩)] wI fun r w' => r = .returned (.tuple #[.bool (decide (((flR ρ).num 1 : Int) < 2)), .bool false]) ∧ RPost wI R M 36 (Msg.vs (repM ρ) (.slice none 0 0)) ((repR ρ).left 4) w' := by
  have H1 := Lib.hid h1
  clear h1
  obtain ⟨m, hmz⟩ : ∃ x, x = Msg.zero := ⟨_, rfl⟩
  rw [← hmz] at hF
  have E00 := Lib.hid hmz
  generalize hL : (Value.slice none 0 0) = L at hF
  have kb1 : (((ρ.num 1 : Nat) : Int) == 1) = false := beq_eq_false_iff_ne.2 (by omega)
  have kb2 : (((ρ.num 1 : Nat) : Int) == 2) = true := by rw [hkind]; rfl
  have kb3 : (((ρ.num 1 : Nat) : Int) == 3) = false := beq_eq_false_iff_ne.2 (by omega)
  have kb4 : (((ρ.num 1 : Nat) : Int) == 4) = false := beq_eq_false_iff_ne.2 (by omega)
  have HK := Lib.hid hkind
  clear hkind hmz
  have x1 := rm_number ⟨R, 0, none⟩; have x2 := rm_text ⟨R, 0, none⟩; have x3 := rm_handle ⟨R, 0, none⟩
  have y1 := rn_number ⟨R, 0, none⟩; have y2 := rn_text ⟨R, 0, none⟩; have y3 := rn_handle ⟨R, 0, none⟩
  obtain ⟨m0, E0⟩ : ∃ x, Hid (x = m) := ⟨_, Lib.hid rfl⟩
  obtain ⟨r0, D0⟩ : ∃ x, Hid (x = ρ) := ⟨_, Lib.hid rfl⟩
  rw [← E0.out, ← D0.out] at hF
  have F0 := Lib.hid hF
  clear hF
  have HL := Lib.hid hL
  have E0 := Lib.hid (E0.out.trans E00.out)
  clear hL
  go_enter Try.func32, Try.ntmps32
  go_wp2_with fail
  have HV0 := Lib.hid (show I64 m0.kind by rw [E0.out]; exact (⟨by decide, by decide⟩ : I64 0))
  refine (small_r R M 0 36 (m0.vs L) m0.kind r0 F0.out.sz HV0.out _ F0.out.rd F0.out.m rfl F0.out.ne).mono ?_
  rintro e w1 ⟨rfl, ⟨q1, q2, q3⟩⟩
  have f := F0.out.step q1 (show Blk w1 M 36 (Msg.vs (m0.setKind (r0.num 1)) L) from q2) q3 (Rd.left_size r0 1)
  have F1 := Lib.hid f
  clear q1 q2 q3 f F0
  obtain ⟨m1, E1⟩ : ∃ x, Hid (x = (m0.setKind (r0.num 1))) := ⟨_, Lib.hid rfl⟩
  obtain ⟨r1, D1⟩ : ∃ x, Hid (x = (r0.left 1)) := ⟨_, Lib.hid rfl⟩
  rw [← E1.out, ← D1.out] at F1
  go_wp2_with fail
  have HV1 := Lib.hid (show U32 m1.client by rw [E1.out, E0.out]; exact (⟨by decide, by decide⟩ : U32 0))
  refine (four_r R M 1 36 (m1.vs L) m1.client r1 F1.out.sz HV1.out _ F1.out.rd F1.out.m rfl F1.out.ne).mono ?_
  rintro e w2 ⟨rfl, ⟨q1, q2, q3⟩⟩
  have f := F1.out.step q1 (show Blk w2 M 36 (Msg.vs (m1.setClient (r1.num 4)) L) from q2) q3 (Rd.left_size r1 4)
  have F2 := Lib.hid f
  clear q1 q2 q3 f F1
  obtain ⟨m2, E2⟩ : ∃ x, Hid (x = (m1.setClient (r1.num 4))) := ⟨_, Lib.hid rfl⟩
  obtain ⟨r2, D2⟩ : ∃ x, Hid (x = (r1.left 4)) := ⟨_, Lib.hid rfl⟩
  rw [← E2.out, ← D2.out] at F2
  go_wp2_with fail
  go_still_tail 7, (by kernel_rfl)
  change wpList _ _ _ _ _ w2.drew
  have F2 := Lib.hid F2.out.drew
  generalize w2.drew = w2 at F2 ⊢
  go_wp2_with fail
  refine (number_r R M 2 36 (m2.vs L) m2.xid r2 8 (by omega) F2.out.sz _ F2.out.rd F2.out.m rfl F2.out.ne).mono ?_
  rintro e w3 ⟨rfl, q1, q2, q3⟩
  have f := F2.out.step q1 (show Blk w3 M 36 (Msg.vs (m2.setXid (r2.num 8)) L) from q2) q3 (Rd.left_size r2 8)
  have F3 := Lib.hid f
  clear q1 q2 q3 f F2
  obtain ⟨m3, E3⟩ : ∃ x, Hid (x = (m2.setXid (r2.num 8))) := ⟨_, Lib.hid rfl⟩
  obtain ⟨r3, D3⟩ : ∃ x, Hid (x = (r2.left 8)) := ⟨_, Lib.hid rfl⟩
  rw [← E3.out, ← D3.out] at F3
  have ck3 : w3.cell? ⟨M, 0, none⟩ = some (.int .i64 ((ρ.num 1 : Nat) : Int)) := by
    refine (F3.out.m.cell 0 rfl).trans ?_
    rw [show m3.kind = ((ρ.num 1 : Nat) : Int) by rw [E3.out, E2.out, E1.out, D0.out]; rfl]
  go_wp2_with fail
  have HV3 := Lib.hid (show I64 m3.status by rw [E3.out, E2.out, E1.out, E0.out]; exact (⟨by decide, by decide⟩ : I64 0))
  refine (small_r R M 17 36 (m3.vs L) m3.status r3 F3.out.sz HV3.out _ F3.out.rd F3.out.m rfl F3.out.ne).mono ?_
  rintro e w4 ⟨rfl, ⟨q1, q2, q3⟩⟩
  have f := F3.out.step q1 (show Blk w4 M 36 (Msg.vs (m3.setStatus (r3.num 1)) L) from q2) q3 (Rd.left_size r3 1)
  have F4 := Lib.hid f
  clear q1 q2 q3 f F3 ck3
  obtain ⟨m4, E4⟩ : ∃ x, Hid (x = (m3.setStatus (r3.num 1))) := ⟨_, Lib.hid rfl⟩
  obtain ⟨r4, D4⟩ : ∃ x, Hid (x = (r3.left 1)) := ⟨_, Lib.hid rfl⟩
  rw [← E4.out, ← D4.out] at F4
  go_wp2_with fail
  go_still_tail 7, (by kernel_rfl)
  change wpList _ _ _ _ _ w4.drew
  have F4 := Lib.hid F4.out.drew
  generalize w4.drew = w4 at F4 ⊢
  go_wp2_with fail
  refine (handle_r R M 18 36 (m4.vs L) _ _ _ _ r4 F4.out.sz _ F4.out.rd F4.out.m rfl rfl rfl rfl F4.out.ne).mono ?_
  rintro e w5 ⟨rfl, q1, q2, q3⟩
  have f := F4.out.step q1 (show Blk w5 M 36 (Msg.vs (m4.setAh (decH (r4.took 28))) L) from q2) q3 (Rd.left_size r4 28)
  have F5 := Lib.hid f
  clear q1 q2 q3 f F4
  obtain ⟨m5, E5⟩ : ∃ x, Hid (x = (m4.setAh (decH (r4.took 28)))) := ⟨_, Lib.hid rfl⟩
  obtain ⟨r5, D5⟩ : ∃ x, Hid (x = (r4.left 28)) := ⟨_, Lib.hid rfl⟩
  rw [← E5.out, ← D5.out] at F5
  go_wp2_with fail
  have HV5 := Lib.hid (show I64 m5.akind by rw [E5.out, E4.out, E3.out, E2.out, E1.out, E0.out]; exact (⟨by decide, by decide⟩ : I64 0))
  refine (small_r R M 22 36 (m5.vs L) m5.akind r5 F5.out.sz HV5.out _ F5.out.rd F5.out.m rfl F5.out.ne).mono ?_
  rintro e w6 ⟨rfl, ⟨q1, q2, q3⟩⟩
  have f := F5.out.step q1 (show Blk w6 M 36 (Msg.vs (m5.setAkind (r5.num 1)) L) from q2) q3 (Rd.left_size r5 1)
  have F6 := Lib.hid f
  clear q1 q2 q3 f F5
  obtain ⟨m6, E6⟩ : ∃ x, Hid (x = (m5.setAkind (r5.num 1))) := ⟨_, Lib.hid rfl⟩
  obtain ⟨r6, D6⟩ : ∃ x, Hid (x = (r5.left 1)) := ⟨_, Lib.hid rfl⟩
  rw [← E6.out, ← D6.out] at F6
  go_wp2_with fail
  have HV6 := Lib.hid (show U32 m6.links by rw [E6.out, E5.out, E4.out, E3.out, E2.out, E1.out, E0.out]; exact (⟨by decide, by decide⟩ : U32 0))
  refine (four_r R M 23 36 (m6.vs L) m6.links r6 F6.out.sz HV6.out _ F6.out.rd F6.out.m rfl F6.out.ne).mono ?_
  rintro e w7 ⟨rfl, ⟨q1, q2, q3⟩⟩
  have f := F6.out.step q1 (show Blk w7 M 36 (Msg.vs (m6.setLinks (r6.num 4)) L) from q2) q3 (Rd.left_size r6 4)
  have F7 := Lib.hid f
  clear q1 q2 q3 f F6
  obtain ⟨m7, E7⟩ : ∃ x, Hid (x = (m6.setLinks (r6.num 4))) := ⟨_, Lib.hid rfl⟩
  obtain ⟨r7, D7⟩ : ∃ x, Hid (x = (r6.left 4)) := ⟨_, Lib.hid rfl⟩
  rw [← E7.out, ← D7.out] at F7
  go_wp2_with fail
  go_still_tail 8, (by kernel_rfl)
  change wpList _ _ _ _ _ w7.drew
  have F7 := Lib.hid F7.out.drew
  generalize w7.drew = w7 at F7 ⊢
  go_wp2_with fail
  refine (number_r R M 24 36 (m7.vs L) m7.size r7 8 (by omega) F7.out.sz _ F7.out.rd F7.out.m rfl F7.out.ne).mono ?_
  rintro e w8 ⟨rfl, q1, q2, q3⟩
  have f := F7.out.step q1 (show Blk w8 M 36 (Msg.vs (m7.setSize (r7.num 8)) L) from q2) q3 (Rd.left_size r7 8)
  have F8 := Lib.hid f
  clear q1 q2 q3 f F7
  obtain ⟨m8, E8⟩ : ∃ x, Hid (x = (m7.setSize (r7.num 8))) := ⟨_, Lib.hid rfl⟩
  obtain ⟨r8, D8⟩ : ∃ x, Hid (x = (r7.left 8)) := ⟨_, Lib.hid rfl⟩
  rw [← E8.out, ← D8.out] at F8
  go_wp2_with fail
  go_still_tail 8, (by kernel_rfl)
  change wpList _ _ _ _ _ w8.drew
  have F8 := Lib.hid F8.out.drew
  generalize w8.drew = w8 at F8 ⊢
  go_wp2_with fail
  refine (number_r R M 25 36 (m8.vs L) m8.change r8 8 (by omega) F8.out.sz _ F8.out.rd F8.out.m rfl F8.out.ne).mono ?_
  rintro e w9 ⟨rfl, q1, q2, q3⟩
  have f := F8.out.step q1 (show Blk w9 M 36 (Msg.vs (m8.setChange (r8.num 8)) L) from q2) q3 (Rd.left_size r8 8)
  have F9 := Lib.hid f
  clear q1 q2 q3 f F8
  obtain ⟨m9, E9⟩ : ∃ x, Hid (x = (m8.setChange (r8.num 8))) := ⟨_, Lib.hid rfl⟩
  obtain ⟨r9, D9⟩ : ∃ x, Hid (x = (r8.left 8)) := ⟨_, Lib.hid rfl⟩
  rw [← E9.out, ← D9.out] at F9
  go_wp2_with fail
  go_still_tail 7, (by kernel_rfl)
  change wpList _ _ _ _ _ w9.drew
  have F9 := Lib.hid F9.out.drew
  generalize w9.drew = w9 at F9 ⊢
  go_wp2_with fail
  refine (text_r R M 26 36 (m9.vs L) m9.adata r9 F9.out.sz _ F9.out.rd F9.out.m rfl F9.out.ne).mono ?_
  rintro e w10 ⟨rfl, q1, q2, q3⟩
  have f := F9.out.step q1 (show Blk w10 M 36 (Msg.vs (m9.setAdata (r9.textS m9.adata)) L) from q2) q3 (Rd.textR_size r9)
  have F10 := Lib.hid f
  clear q1 q2 q3 f F9
  obtain ⟨m10, E10⟩ : ∃ x, Hid (x = (m9.setAdata (r9.textS m9.adata))) := ⟨_, Lib.hid rfl⟩
  obtain ⟨r10, D10⟩ : ∃ x, Hid (x = r9.textR) := ⟨_, Lib.hid rfl⟩
  rw [← E10.out, ← D10.out] at F10
  go_wp2_with fail
  have HV10 := Lib.hid (show m10.eof = false by rw [E10.out, E9.out, E8.out, E7.out, E6.out, E5.out, E4.out, E3.out, E2.out, E1.out, E0.out]; rfl)
  refine (flag_r R M 27 36 (m10.vs L) r10 F10.out.sz _ F10.out.rd F10.out.m (by show some (Value.bool m10.eof) = _; rw [HV10.out]) F10.out.ne).mono ?_
  rintro e w11 ⟨rfl, ⟨q1, q2, q3⟩⟩
  obtain ⟨fl, EF⟩ : ∃ x, Hid (x = decide ((r10.num 1 : Int) < 2)) := ⟨_, Lib.hid rfl⟩
  rw [← EF.out]
  have f := F10.out.step q1 (show Blk w11 M 36 (Msg.vs (m10.setEof ((r10.num 1 : Int) == 1)) L) from q2) q3 (Rd.left_size r10 1)
  have F11 := Lib.hid f
  clear q1 q2 q3 f F10
  obtain ⟨m11, E11⟩ : ∃ x, Hid (x = (m10.setEof ((r10.num 1 : Int) == 1))) := ⟨_, Lib.hid rfl⟩
  obtain ⟨r11, D11⟩ : ∃ x, Hid (x = (r10.left 1)) := ⟨_, Lib.hid rfl⟩
  rw [← E11.out, ← D11.out] at F11
  go_wp2_with fail
  go_still_tail 7, (by kernel_rfl)
  change wpList _ _ _ _ _ w11.drew
  have F11 := Lib.hid F11.out.drew
  generalize w11.drew = w11 at F11 ⊢
  go_wp2_with fail
  refine (number_r R M 28 36 (m11.vs L) m11.anum r11 8 (by omega) F11.out.sz _ F11.out.rd F11.out.m rfl F11.out.ne).mono ?_
  rintro e w12 ⟨rfl, q1, q2, q3⟩
  have f := F11.out.step q1 (show Blk w12 M 36 (Msg.vs (m11.setAnum (r11.num 8)) L) from q2) q3 (Rd.left_size r11 8)
  have F12 := Lib.hid f
  clear q1 q2 q3 f F11
  obtain ⟨m12, E12⟩ : ∃ x, Hid (x = (m11.setAnum (r11.num 8))) := ⟨_, Lib.hid rfl⟩
  obtain ⟨r12, D12⟩ : ∃ x, Hid (x = (r11.left 8)) := ⟨_, Lib.hid rfl⟩
  rw [← E12.out, ← D12.out] at F12
  have hrr : r12 = repR ρ := by rw [D12.out, D11.out, D10.out, D9.out, D8.out, D7.out, D6.out, D5.out, D4.out, D3.out, D2.out, D1.out, D0.out]; rfl
  have hmm : m12 = repM ρ := by rw [E12.out, D11.out, E11.out, D10.out, E10.out, D9.out, E9.out, D8.out, E8.out, D7.out, E7.out, D6.out, E6.out, D5.out, E5.out, D4.out, E4.out, D3.out, E3.out, D2.out, E2.out, D1.out, E1.out, D0.out, E0.out]; rfl
  have hfl : fl = decide (((flR ρ).num 1 : Int) < 2) := by rw [EF.out, D10.out, D9.out, D8.out, D7.out, D6.out, D5.out, D4.out, D3.out, D2.out, D1.out, D0.out]; rfl
  have HRR := Lib.hid hrr; have HMM := Lib.hid hmm; have HFL := Lib.hid hfl
  have hn : ¬ r12.num 4 ≤ 64 := by rw [hrr]; exact H1.out
  clear hrr hmm hfl E1 D1 E2 D2 E3 D3 E4 D4 E5 D5 E6 D6 E7 D7 E8 D8 E9 D9 E10 D10 E11 D11 E12 D12 EF
  go_wp2_with fail
  refine (list_r_long R M 29 36 (m12.vs L) r12 F12.out.sz _ F12.out.rd F12.out.m (by show some L = _; rw [HL.out]) F12.out.ne hn).mono ?_
  rintro e w13 ⟨rfl, ⟨q1, q2, q3⟩⟩
  have F13 := Lib.hid (F12.out.step q1 q2 q3 (Rd.left_size r12 4))
  clear q1 q2 q3 F12 hn
  go_wp2_with fail
  go_ret2
  refine ⟨by first | (rw [HFL.out]; done) | (rw [HFL.out]; rfl) | (simp [HFL.out]; done), ?_⟩
  rw [← HRR.out, ← HMM.out]
  exact ⟨F13.out.rd, F13.out.m, F13.out.keep⟩

end Go.Proofs.Ytibcadfpengacaa

-- MsgW
set_option linter.unusedVariables false
set_option linter.unusedSimpArgs false
namespace Go.Proofs.Ytibcadfpengacaa
open Go.RowKit Go.Lib Go.Proofs.YtibcadfpengacaaW.PrintWords Go.Proofs.YtibcadfpengacaaW.PrintMore Go.Proofs.YtibcadfpengacaaW.PrintLast

theorem Wr.ask_len (σ : Wr) (m : Msg) : (σ.ask m).bs.length ≤ σ.bs.length + 20000 := by
  unfold Wr.ask
  have h1 := Wr.text_len ((((((((σ.num (u64of m.op) 1).put m.h.lay).put m.h2.lay).text m.name).text m.name2).num m.off.toNat 8).num m.num.toNat 8)) m.data
  have h2 := Wr.num_len (((((((σ.num (u64of m.op) 1).put m.h.lay).put m.h2.lay).text m.name).text m.name2).num m.off.toNat 8)) m.num.toNat 8
  have h3 := Wr.num_len ((((((σ.num (u64of m.op) 1).put m.h.lay).put m.h2.lay).text m.name).text m.name2)) m.off.toNat 8
  have h4 := Wr.text_len (((((σ.num (u64of m.op) 1).put m.h.lay).put m.h2.lay).text m.name)) m.name2
  have h5 := Wr.text_len ((((σ.num (u64of m.op) 1).put m.h.lay).put m.h2.lay)) m.name
  have h6 := Wr.put_handle_len (((σ.num (u64of m.op) 1).put m.h.lay)) m.h2
  have h7 := Wr.put_handle_len ((σ.num (u64of m.op) 1)) m.h
  have h8 := Wr.num_len σ (u64of m.op) 1
  omega
theorem Wr.stamp_len (σ : Wr) (m : Msg) : (σ.stamp m).bs.length ≤ σ.bs.length + 24 := by
  unfold Wr.stamp
  have h1 := Wr.num_len ((σ.num m.boot.toNat 8).num m.gb.toNat 8) m.gn.toNat 8
  have h2 := Wr.num_len (σ.num m.boot.toNat 8) m.gb.toNat 8
  have h3 := Wr.num_len σ m.boot.toNat 8
  omega
theorem Wr.list_len (σ : Wr) (es : List Ent) (h : es.length ≤ 64) : ((σ.num es.length 4).ents es).bs.length ≤ σ.bs.length + 300000 := by
  have h1 := Wr.ents_len es (σ.num es.length 4)
  have h2 := Wr.num_len σ es.length 4
  omega

def Wr.call (σ : Wr) (m : Msg) : Wr := ((((σ.num (u64of m.kind) 1).num m.client.toNat 4).num m.xid.toNat 8).ask m)
set_option maxHeartbeats 16000000 in
set_option maxRecDepth 100000 in
theorem fields_w_call (B M : Nat) (g0 : Option Nat) (σ : Wr) (m : Msg) (A : Option Addr) (cap : Nat) (hk : m.Ok) (w0 : World) (hF : FW w0 w0 B M g0 (m.vs (.slice A m.list.length cap)) σ g0)
    (hA : EntsR w0 A m.list) (hAB : ∀ b o, A = some ⟨b, o, none⟩ → m.list ≠ [] → b ≠ B ∧ g0 ≠ some b) (hnil : m.list = [] ∨ A.isSome = true) (hl : σ.bs.length ≤ 500000000) (hkind : m.kind = 1) :
    Calls Try.prog 32 #[.iface 75 (.pointer (some ⟨B, 0, none⟩)), .pointer (some ⟨M, 0, none⟩)] w0 fun r w' => r = .returned (.tuple #[.bool true, .bool true]) ∧ WrPost w0 B g0 (Wr.call σ m) w' := by
  unfold Wr.call
  have m1 := wm_number ⟨B, 0, none⟩; have m2 := wm_text ⟨B, 0, none⟩; have m3 := wm_handle ⟨B, 0, none⟩
  have n1 := wn_number ⟨B, 0, none⟩; have n2 := wn_text ⟨B, 0, none⟩; have n3 := wn_handle ⟨B, 0, none⟩
  obtain ⟨s0, E0⟩ : ∃ x, Hid (x = σ) := ⟨_, Lib.hid rfl⟩
  rw [← E0.out] at hF hl
  have F0 := Lib.hid hF
  have HA := Lib.hid hA
  have HAB := Lib.hid hAB
  have Hnil := Lib.hid hnil
  clear hF hA hAB hnil
  have kb1 : (m.kind == 1) = true := by rw [hkind]; rfl
  have kb2 : (m.kind == 2) = false := beq_eq_false_iff_ne.2 (by omega)
  have kb3 : (m.kind == 3) = false := beq_eq_false_iff_ne.2 (by omega)
  have kb4 : (m.kind == 4) = false := beq_eq_false_iff_ne.2 (by omega)
  have HK := Lib.hid hkind
  clear hkind
  go_enter Try.func32, Try.ntmps32
  go_wp2_with fail
  refine (small_w B M 0 g0 s0 m.kind 1 (by omega) (by omega) hk.kind _ F0.out.wr (F0.out.m.cell 0 rfl) (F0.out.m.frozen 0) F0.out.neB F0.out.neg (by omega)).mono ?_
  rintro e w1 ⟨rfl, hp⟩
  obtain ⟨g1, f⟩ := F0.out.step hp
  have F1 := Lib.hid f
  have l1 := Wr.num_len s0 (u64of m.kind) 1
  obtain ⟨s1, E1⟩ : ∃ x, Hid (x = (s0.num (u64of m.kind) 1)) := ⟨_, Lib.hid rfl⟩
  rw [← E1.out] at F1 l1
  clear hp f F0
  go_wp2_with fail
  refine (four_w B M 1 g1 s1 m.client hk.client _ F1.out.wr (F1.out.m.cell 1 rfl) (F1.out.m.frozen 1) F1.out.neB F1.out.neg (by omega)).mono ?_
  rintro e w2 ⟨rfl, hp⟩
  obtain ⟨g2, f⟩ := F1.out.step hp
  have F2 := Lib.hid f
  have l2 := Wr.num_len s1 m.client.toNat 4
  obtain ⟨s2, E2⟩ : ∃ x, Hid (x = (s1.num m.client.toNat 4)) := ⟨_, Lib.hid rfl⟩
  rw [← E2.out] at F2 l2
  clear hp f F1
  go_wp2_with fail
  go_still_tail 7, (by kernel_rfl)
  change wpList _ _ _ _ _ w2.drew
  have F2 := Lib.hid F2.out.drew
  generalize w2.drew = w2 at F2 ⊢
  go_wp2_with fail
  refine (number_w B g2 s2 ⟨M, 2, none⟩ m.xid 8 (by omega) (by omega) hk.xid.1 hk.xid.2 _ F2.out.wr (F2.out.m.cell 2 rfl) (by omega)).mono ?_
  rintro e w3 ⟨rfl, hp⟩
  obtain ⟨g3, f⟩ := F2.out.step hp
  have F3 := Lib.hid f
  have l3 := Wr.num_len s2 m.xid.toNat 8
  obtain ⟨s3, E3⟩ : ∃ x, Hid (x = (s2.num m.xid.toNat 8)) := ⟨_, Lib.hid rfl⟩
  rw [← E3.out] at F3 l3
  clear hp f F2
  have ck3 : w3.cell? ⟨M, 0, none⟩ = some (.int .i64 m.kind) := F3.out.m.cell 0 rfl
  go_wp2_with fail
  refine (ask_w B M g3 s3 m (.slice A m.list.length cap) hk _ F3.out.here (by omega)).mono ?_
  rintro e w4 ⟨rfl, hp⟩
  obtain ⟨g4, f⟩ := F3.out.step hp
  have F4 := Lib.hid f
  have l4 := Wr.ask_len s3 m
  obtain ⟨s4, E4⟩ : ∃ x, Hid (x = (s3.ask m)) := ⟨_, Lib.hid rfl⟩
  rw [← E4.out] at F4 l4
  clear hp f F3 ck3
  go_wp2_with fail
  go_ret2
  have hp := F4.out.post
  rw [E4.out, E3.out, E2.out, E1.out, E0.out] at hp
  exact ⟨rfl, hp⟩

def Wr.reply (σ : Wr) (m : Msg) : Wr := (((((((((((((((σ.num (u64of m.kind) 1).num m.client.toNat 4).num m.xid.toNat 8).num (u64of m.status) 1).put m.ah.lay).num (u64of m.akind) 1).num m.links.toNat 4).num m.size.toNat 8).num m.change.toNat 8).text m.adata).num m.eof.toNat 1).num m.anum.toNat 8).num m.list.length 4).ents m.list).stamp m)
set_option maxHeartbeats 16000000 in
set_option maxRecDepth 100000 in
theorem fields_w_reply (B M : Nat) (g0 : Option Nat) (σ : Wr) (m : Msg) (A : Option Addr) (cap : Nat) (hk : m.Ok) (w0 : World) (hF : FW w0 w0 B M g0 (m.vs (.slice A m.list.length cap)) σ g0)
    (hA : EntsR w0 A m.list) (hAB : ∀ b o, A = some ⟨b, o, none⟩ → m.list ≠ [] → b ≠ B ∧ g0 ≠ some b) (hnil : m.list = [] ∨ A.isSome = true) (hl : σ.bs.length ≤ 500000000) (hkind : m.kind = 2) (h64 : m.list.length ≤ 64) :
    Calls Try.prog 32 #[.iface 75 (.pointer (some ⟨B, 0, none⟩)), .pointer (some ⟨M, 0, none⟩)] w0 fun r w' => r = .returned (.tuple #[.bool true, .bool true]) ∧ WrPost w0 B g0 (Wr.reply σ m) w' := by
  unfold Wr.reply
  have m1 := wm_number ⟨B, 0, none⟩; have m2 := wm_text ⟨B, 0, none⟩; have m3 := wm_handle ⟨B, 0, none⟩
  have n1 := wn_number ⟨B, 0, none⟩; have n2 := wn_text ⟨B, 0, none⟩; have n3 := wn_handle ⟨B, 0, none⟩
  obtain ⟨s0, E0⟩ : ∃ x, Hid (x = σ) := ⟨_, Lib.hid rfl⟩
  rw [← E0.out] at hF hl
  have F0 := Lib.hid hF
  have HA := Lib.hid hA
  have HAB := Lib.hid hAB
  have Hnil := Lib.hid hnil
  clear hF hA hAB hnil
  have kb1 : (m.kind == 1) = false := beq_eq_false_iff_ne.2 (by omega)
  have kb2 : (m.kind == 2) = true := by rw [hkind]; rfl
  have kb3 : (m.kind == 3) = false := beq_eq_false_iff_ne.2 (by omega)
  have kb4 : (m.kind == 4) = false := beq_eq_false_iff_ne.2 (by omega)
  have HK := Lib.hid hkind
  clear hkind
  go_enter Try.func32, Try.ntmps32
  go_wp2_with fail
  refine (small_w B M 0 g0 s0 m.kind 1 (by omega) (by omega) hk.kind _ F0.out.wr (F0.out.m.cell 0 rfl) (F0.out.m.frozen 0) F0.out.neB F0.out.neg (by omega)).mono ?_
  rintro e w1 ⟨rfl, hp⟩
  obtain ⟨g1, f⟩ := F0.out.step hp
  have F1 := Lib.hid f
  have l1 := Wr.num_len s0 (u64of m.kind) 1
  obtain ⟨s1, E1⟩ : ∃ x, Hid (x = (s0.num (u64of m.kind) 1)) := ⟨_, Lib.hid rfl⟩
  rw [← E1.out] at F1 l1
  clear hp f F0
  go_wp2_with fail
  refine (four_w B M 1 g1 s1 m.client hk.client _ F1.out.wr (F1.out.m.cell 1 rfl) (F1.out.m.frozen 1) F1.out.neB F1.out.neg (by omega)).mono ?_
  rintro e w2 ⟨rfl, hp⟩
  obtain ⟨g2, f⟩ := F1.out.step hp
  have F2 := Lib.hid f
  have l2 := Wr.num_len s1 m.client.toNat 4
  obtain ⟨s2, E2⟩ : ∃ x, Hid (x = (s1.num m.client.toNat 4)) := ⟨_, Lib.hid rfl⟩
  rw [← E2.out] at F2 l2
  clear hp f F1
  go_wp2_with fail
  go_still_tail 7, (by kernel_rfl)
  change wpList _ _ _ _ _ w2.drew
  have F2 := Lib.hid F2.out.drew
  generalize w2.drew = w2 at F2 ⊢
  go_wp2_with fail
  refine (number_w B g2 s2 ⟨M, 2, none⟩ m.xid 8 (by omega) (by omega) hk.xid.1 hk.xid.2 _ F2.out.wr (F2.out.m.cell 2 rfl) (by omega)).mono ?_
  rintro e w3 ⟨rfl, hp⟩
  obtain ⟨g3, f⟩ := F2.out.step hp
  have F3 := Lib.hid f
  have l3 := Wr.num_len s2 m.xid.toNat 8
  obtain ⟨s3, E3⟩ : ∃ x, Hid (x = (s2.num m.xid.toNat 8)) := ⟨_, Lib.hid rfl⟩
  rw [← E3.out] at F3 l3
  clear hp f F2
  have ck3 : w3.cell? ⟨M, 0, none⟩ = some (.int .i64 m.kind) := F3.out.m.cell 0 rfl
  go_wp2_with fail
  refine (small_w B M 17 g3 s3 m.status 1 (by omega) (by omega) hk.status _ F3.out.wr (F3.out.m.cell 17 rfl) (F3.out.m.frozen 17) F3.out.neB F3.out.neg (by omega)).mono ?_
  rintro e w4 ⟨rfl, hp⟩
  obtain ⟨g4, f⟩ := F3.out.step hp
  have F4 := Lib.hid f
  have l4 := Wr.num_len s3 (u64of m.status) 1
  obtain ⟨s4, E4⟩ : ∃ x, Hid (x = (s3.num (u64of m.status) 1)) := ⟨_, Lib.hid rfl⟩
  rw [← E4.out] at F4 l4
  clear hp f F3 ck3
  go_wp2_with fail
  go_still_tail 7, (by kernel_rfl)
  change wpList _ _ _ _ _ w4.drew
  have F4 := Lib.hid F4.out.drew
  generalize w4.drew = w4 at F4 ⊢
  go_wp2_with fail
  refine (handle_w B M 18 g4 s4 m.ah hk.ah _ F4.out.wr F4.out.neB F4.out.neg (F4.out.m.cell 18 rfl) (F4.out.m.cell 19 rfl) (F4.out.m.cell 20 rfl) (F4.out.m.cell 21 rfl) (by omega)).mono ?_
  rintro e w5 ⟨rfl, hp⟩
  obtain ⟨g5, f⟩ := F4.out.step hp
  have F5 := Lib.hid f
  have l5 := Wr.put_handle_len s4 m.ah
  obtain ⟨s5, E5⟩ : ∃ x, Hid (x = (s4.put m.ah.lay)) := ⟨_, Lib.hid rfl⟩
  rw [← E5.out] at F5 l5
  clear hp f F4
  go_wp2_with fail
  refine (small_w B M 22 g5 s5 m.akind 1 (by omega) (by omega) hk.akind _ F5.out.wr (F5.out.m.cell 22 rfl) (F5.out.m.frozen 22) F5.out.neB F5.out.neg (by omega)).mono ?_
  rintro e w6 ⟨rfl, hp⟩
  obtain ⟨g6, f⟩ := F5.out.step hp
  have F6 := Lib.hid f
  have l6 := Wr.num_len s5 (u64of m.akind) 1
  obtain ⟨s6, E6⟩ : ∃ x, Hid (x = (s5.num (u64of m.akind) 1)) := ⟨_, Lib.hid rfl⟩
  rw [← E6.out] at F6 l6
  clear hp f F5
  go_wp2_with fail
  refine (four_w B M 23 g6 s6 m.links hk.links _ F6.out.wr (F6.out.m.cell 23 rfl) (F6.out.m.frozen 23) F6.out.neB F6.out.neg (by omega)).mono ?_
  rintro e w7 ⟨rfl, hp⟩
  obtain ⟨g7, f⟩ := F6.out.step hp
  have F7 := Lib.hid f
  have l7 := Wr.num_len s6 m.links.toNat 4
  obtain ⟨s7, E7⟩ : ∃ x, Hid (x = (s6.num m.links.toNat 4)) := ⟨_, Lib.hid rfl⟩
  rw [← E7.out] at F7 l7
  clear hp f F6
  go_wp2_with fail
  go_still_tail 8, (by kernel_rfl)
  change wpList _ _ _ _ _ w7.drew
  have F7 := Lib.hid F7.out.drew
  generalize w7.drew = w7 at F7 ⊢
  go_wp2_with fail
  refine (number_w B g7 s7 ⟨M, 24, none⟩ m.size 8 (by omega) (by omega) hk.size.1 hk.size.2 _ F7.out.wr (F7.out.m.cell 24 rfl) (by omega)).mono ?_
  rintro e w8 ⟨rfl, hp⟩
  obtain ⟨g8, f⟩ := F7.out.step hp
  have F8 := Lib.hid f
  have l8 := Wr.num_len s7 m.size.toNat 8
  obtain ⟨s8, E8⟩ : ∃ x, Hid (x = (s7.num m.size.toNat 8)) := ⟨_, Lib.hid rfl⟩
  rw [← E8.out] at F8 l8
  clear hp f F7
  go_wp2_with fail
  go_still_tail 8, (by kernel_rfl)
  change wpList _ _ _ _ _ w8.drew
  have F8 := Lib.hid F8.out.drew
  generalize w8.drew = w8 at F8 ⊢
  go_wp2_with fail
  refine (number_w B g8 s8 ⟨M, 25, none⟩ m.change 8 (by omega) (by omega) hk.change.1 hk.change.2 _ F8.out.wr (F8.out.m.cell 25 rfl) (by omega)).mono ?_
  rintro e w9 ⟨rfl, hp⟩
  obtain ⟨g9, f⟩ := F8.out.step hp
  have F9 := Lib.hid f
  have l9 := Wr.num_len s8 m.change.toNat 8
  obtain ⟨s9, E9⟩ : ∃ x, Hid (x = (s8.num m.change.toNat 8)) := ⟨_, Lib.hid rfl⟩
  rw [← E9.out] at F9 l9
  clear hp f F8
  go_wp2_with fail
  go_still_tail 7, (by kernel_rfl)
  change wpList _ _ _ _ _ w9.drew
  have F9 := Lib.hid F9.out.drew
  generalize w9.drew = w9 at F9 ⊢
  go_wp2_with fail
  refine (text_w B g9 s9 ⟨M, 26, none⟩ m.adata hk.adata _ F9.out.wr (F9.out.m.cell 26 rfl) F9.out.neB F9.out.neg (by omega)).mono ?_
  rintro e w10 ⟨rfl, hp⟩
  obtain ⟨g10, f⟩ := F9.out.step hp
  have F10 := Lib.hid f
  have l10 := Wr.text_len s9 m.adata
  obtain ⟨s10, E10⟩ : ∃ x, Hid (x = (s9.text m.adata)) := ⟨_, Lib.hid rfl⟩
  rw [← E10.out] at F10 l10
  clear hp f F9
  go_wp2_with fail
  refine (flag_w B M 27 g10 s10 m.eof _ F10.out.wr (F10.out.m.cell 27 rfl) (F10.out.m.frozen 27) F10.out.neB F10.out.neg (by omega)).mono ?_
  rintro e w11 ⟨rfl, hp⟩
  obtain ⟨g11, f⟩ := F10.out.step hp
  have F11 := Lib.hid f
  have l11 := Wr.num_len s10 m.eof.toNat 1
  obtain ⟨s11, E11⟩ : ∃ x, Hid (x = (s10.num m.eof.toNat 1)) := ⟨_, Lib.hid rfl⟩
  rw [← E11.out] at F11 l11
  clear hp f F10
  go_wp2_with fail
  go_still_tail 7, (by kernel_rfl)
  change wpList _ _ _ _ _ w11.drew
  have F11 := Lib.hid F11.out.drew
  generalize w11.drew = w11 at F11 ⊢
  go_wp2_with fail
  refine (number_w B g11 s11 ⟨M, 28, none⟩ m.anum 8 (by omega) (by omega) hk.anum.1 hk.anum.2 _ F11.out.wr (F11.out.m.cell 28 rfl) (by omega)).mono ?_
  rintro e w12 ⟨rfl, hp⟩
  obtain ⟨g12, f⟩ := F11.out.step hp
  have F12 := Lib.hid f
  have l12 := Wr.num_len s11 m.anum.toNat 8
  obtain ⟨s12, E12⟩ : ∃ x, Hid (x = (s11.num m.anum.toNat 8)) := ⟨_, Lib.hid rfl⟩
  rw [← E12.out] at F12 l12
  clear hp f F11
  go_wp2_with fail
  refine (list_w_short B M 29 g12 s12 A cap m.list (m.vs (.slice A m.list.length cap)) _ F12.out.here rfl (HA.out.kept F12.out.keep (by rintro b o h1 h2 (e | e); exact (HAB.out b o h1 h2).1 e; exact (HAB.out b o h1 h2).2 e.symm)) (fun b o h1 h2 => ⟨(HAB.out b o h1 h2).1, F12.out.off (HA.out.lt b o h1 h2) (HAB.out b o h1 h2).2⟩) hk.list hk.len Hnil.out (by omega) h64).mono ?_
  rintro e w13 ⟨rfl, hp⟩
  obtain ⟨g13, f⟩ := F12.out.step hp
  have F13 := Lib.hid f
  have l13 := Wr.list_len s12 m.list h64
  obtain ⟨s13, E13⟩ : ∃ x, Hid (x = ((s12.num m.list.length 4).ents m.list)) := ⟨_, Lib.hid rfl⟩
  rw [← E13.out] at F13 l13
  clear hp f F12
  go_wp2_with fail
  refine (stamp_w B M g13 s13 m (.slice A m.list.length cap) hk _ F13.out.here (by omega)).mono ?_
  rintro e w14 ⟨rfl, hp⟩
  obtain ⟨g14, f⟩ := F13.out.step hp
  have F14 := Lib.hid f
  have l14 := Wr.stamp_len s13 m
  obtain ⟨s14, E14⟩ : ∃ x, Hid (x = (s13.stamp m)) := ⟨_, Lib.hid rfl⟩
  rw [← E14.out] at F14 l14
  clear hp f F13
  go_wp2_with fail
  go_ret2
  have hp := F14.out.post
  rw [E14.out, E13.out, E12.out, E11.out, E10.out, E9.out, E8.out, E7.out, E6.out, E5.out, E4.out, E3.out, E2.out, E1.out, E0.out] at hp
  exact ⟨rfl, hp⟩

def Wr.replyLong (σ : Wr) (m : Msg) : Wr := (((((((((((((σ.num (u64of m.kind) 1).num m.client.toNat 4).num m.xid.toNat 8).num (u64of m.status) 1).put m.ah.lay).num (u64of m.akind) 1).num m.links.toNat 4).num m.size.toNat 8).num m.change.toNat 8).text m.adata).num m.eof.toNat 1).num m.anum.toNat 8).num m.list.length 4)
set_option maxHeartbeats 16000000 in
set_option maxRecDepth 100000 in
theorem fields_w_replylong (B M : Nat) (g0 : Option Nat) (σ : Wr) (m : Msg) (A : Option Addr) (cap : Nat) (hk : m.Ok) (w0 : World) (hF : FW w0 w0 B M g0 (m.vs (.slice A m.list.length cap)) σ g0)
    (hA : EntsR w0 A m.list) (hAB : ∀ b o, A = some ⟨b, o, none⟩ → m.list ≠ [] → b ≠ B ∧ g0 ≠ some b) (hnil : m.list = [] ∨ A.isSome = true) (hl : σ.bs.length ≤ 500000000) (hkind : m.kind = 2) (h64 : ¬ m.list.length ≤ 64) :
    Calls Try.prog 32 #[.iface 75 (.pointer (some ⟨B, 0, none⟩)), .pointer (some ⟨M, 0, none⟩)] w0 fun r w' => r = .returned (.tuple #[.bool true, .bool false]) ∧ WrPost w0 B g0 (Wr.replyLong σ m) w' := by
  unfold Wr.replyLong
  have m1 := wm_number ⟨B, 0, none⟩; have m2 := wm_text ⟨B, 0, none⟩; have m3 := wm_handle ⟨B, 0, none⟩
  have n1 := wn_number ⟨B, 0, none⟩; have n2 := wn_text ⟨B, 0, none⟩; have n3 := wn_handle ⟨B, 0, none⟩
  obtain ⟨s0, E0⟩ : ∃ x, Hid (x = σ) := ⟨_, Lib.hid rfl⟩
  rw [← E0.out] at hF hl
  have F0 := Lib.hid hF
  have HA := Lib.hid hA
  have HAB := Lib.hid hAB
  have Hnil := Lib.hid hnil
  clear hF hA hAB hnil
  have kb1 : (m.kind == 1) = false := beq_eq_false_iff_ne.2 (by omega)
  have kb2 : (m.kind == 2) = true := by rw [hkind]; rfl
  have kb3 : (m.kind == 3) = false := beq_eq_false_iff_ne.2 (by omega)
  have kb4 : (m.kind == 4) = false := beq_eq_false_iff_ne.2 (by omega)
  have HK := Lib.hid hkind
  clear hkind
  go_enter Try.func32, Try.ntmps32
  go_wp2_with fail
  refine (small_w B M 0 g0 s0 m.kind 1 (by omega) (by omega) hk.kind _ F0.out.wr (F0.out.m.cell 0 rfl) (F0.out.m.frozen 0) F0.out.neB F0.out.neg (by omega)).mono ?_
  rintro e w1 ⟨rfl, hp⟩
  obtain ⟨g1, f⟩ := F0.out.step hp
  have F1 := Lib.hid f
  have l1 := Wr.num_len s0 (u64of m.kind) 1
  obtain ⟨s1, E1⟩ : ∃ x, Hid (x = (s0.num (u64of m.kind) 1)) := ⟨_, Lib.hid rfl⟩
  rw [← E1.out] at F1 l1
  clear hp f F0
  go_wp2_with fail
  refine (four_w B M 1 g1 s1 m.client hk.client _ F1.out.wr (F1.out.m.cell 1 rfl) (F1.out.m.frozen 1) F1.out.neB F1.out.neg (by omega)).mono ?_
  rintro e w2 ⟨rfl, hp⟩
  obtain ⟨g2, f⟩ := F1.out.step hp
  have F2 := Lib.hid f
  have l2 := Wr.num_len s1 m.client.toNat 4
  obtain ⟨s2, E2⟩ : ∃ x, Hid (x = (s1.num m.client.toNat 4)) := ⟨_, Lib.hid rfl⟩
  rw [← E2.out] at F2 l2
  clear hp f F1
  go_wp2_with fail
  go_still_tail 7, (by kernel_rfl)
  change wpList _ _ _ _ _ w2.drew
  have F2 := Lib.hid F2.out.drew
  generalize w2.drew = w2 at F2 ⊢
  go_wp2_with fail
  refine (number_w B g2 s2 ⟨M, 2, none⟩ m.xid 8 (by omega) (by omega) hk.xid.1 hk.xid.2 _ F2.out.wr (F2.out.m.cell 2 rfl) (by omega)).mono ?_
  rintro e w3 ⟨rfl, hp⟩
  obtain ⟨g3, f⟩ := F2.out.step hp
  have F3 := Lib.hid f
  have l3 := Wr.num_len s2 m.xid.toNat 8
  obtain ⟨s3, E3⟩ : ∃ x, Hid (x = (s2.num m.xid.toNat 8)) := ⟨_, Lib.hid rfl⟩
  rw [← E3.out] at F3 l3
  clear hp f F2
  have ck3 : w3.cell? ⟨M, 0, none⟩ = some (.int .i64 m.kind) := F3.out.m.cell 0 rfl
  go_wp2_with fail
  refine (small_w B M 17 g3 s3 m.status 1 (by omega) (by omega) hk.status _ F3.out.wr (F3.out.m.cell 17 rfl) (F3.out.m.frozen 17) F3.out.neB F3.out.neg (by omega)).mono ?_
  rintro e w4 ⟨rfl, hp⟩
  obtain ⟨g4, f⟩ := F3.out.step hp
  have F4 := Lib.hid f
  have l4 := Wr.num_len s3 (u64of m.status) 1
  obtain ⟨s4, E4⟩ : ∃ x, Hid (x = (s3.num (u64of m.status) 1)) := ⟨_, Lib.hid rfl⟩
  rw [← E4.out] at F4 l4
  clear hp f F3 ck3
  go_wp2_with fail
  go_still_tail 7, (by kernel_rfl)
  change wpList _ _ _ _ _ w4.drew
  have F4 := Lib.hid F4.out.drew
  generalize w4.drew = w4 at F4 ⊢
  go_wp2_with fail
  refine (handle_w B M 18 g4 s4 m.ah hk.ah _ F4.out.wr F4.out.neB F4.out.neg (F4.out.m.cell 18 rfl) (F4.out.m.cell 19 rfl) (F4.out.m.cell 20 rfl) (F4.out.m.cell 21 rfl) (by omega)).mono ?_
  rintro e w5 ⟨rfl, hp⟩
  obtain ⟨g5, f⟩ := F4.out.step hp
  have F5 := Lib.hid f
  have l5 := Wr.put_handle_len s4 m.ah
  obtain ⟨s5, E5⟩ : ∃ x, Hid (x = (s4.put m.ah.lay)) := ⟨_, Lib.hid rfl⟩
  rw [← E5.out] at F5 l5
  clear hp f F4
  go_wp2_with fail
  refine (small_w B M 22 g5 s5 m.akind 1 (by omega) (by omega) hk.akind _ F5.out.wr (F5.out.m.cell 22 rfl) (F5.out.m.frozen 22) F5.out.neB F5.out.neg (by omega)).mono ?_
  rintro e w6 ⟨rfl, hp⟩
  obtain ⟨g6, f⟩ := F5.out.step hp
  have F6 := Lib.hid f
  have l6 := Wr.num_len s5 (u64of m.akind) 1
  obtain ⟨s6, E6⟩ : ∃ x, Hid (x = (s5.num (u64of m.akind) 1)) := ⟨_, Lib.hid rfl⟩
  rw [← E6.out] at F6 l6
  clear hp f F5
  go_wp2_with fail
  refine (four_w B M 23 g6 s6 m.links hk.links _ F6.out.wr (F6.out.m.cell 23 rfl) (F6.out.m.frozen 23) F6.out.neB F6.out.neg (by omega)).mono ?_
  rintro e w7 ⟨rfl, hp⟩
  obtain ⟨g7, f⟩ := F6.out.step hp
  have F7 := Lib.hid f
  have l7 := Wr.num_len s6 m.links.toNat 4
  obtain ⟨s7, E7⟩ : ∃ x, Hid (x = (s6.num m.links.toNat 4)) := ⟨_, Lib.hid rfl⟩
  rw [← E7.out] at F7 l7
  clear hp f F6
  go_wp2_with fail
  go_still_tail 8, (by kernel_rfl)
  change wpList _ _ _ _ _ w7.drew
  have F7 := Lib.hid F7.out.drew
  generalize w7.drew = w7 at F7 ⊢
  go_wp2_with fail
  refine (number_w B g7 s7 ⟨M, 24, none⟩ m.size 8 (by omega) (by omega) hk.size.1 hk.size.2 _ F7.out.wr (F7.out.m.cell 24 rfl) (by omega)).mono ?_
  rintro e w8 ⟨rfl, hp⟩
  obtain ⟨g8, f⟩ := F7.out.step hp
  have F8 := Lib.hid f
  have l8 := Wr.num_len s7 m.size.toNat 8
  obtain ⟨s8, E8⟩ : ∃ x, Hid (x = (s7.num m.size.toNat 8)) := ⟨_, Lib.hid rfl⟩
  rw [← E8.out] at F8 l8
  clear hp f F7
  go_wp2_with fail
  go_still_tail 8, (by kernel_rfl)
  change wpList _ _ _ _ _ w8.drew
  have F8 := Lib.hid F8.out.drew
  generalize w8.drew = w8 at F8 ⊢
  go_wp2_with fail
  refine (number_w B g8 s8 ⟨M, 25, none⟩ m.change 8 (by omega) (by omega) hk.change.1 hk.change.2 _ F8.out.wr (F8.out.m.cell 25 rfl) (by omega)).mono ?_
  rintro e w9 ⟨rfl, hp⟩
  obtain ⟨g9, f⟩ := F8.out.step hp
  have F9 := Lib.hid f
  have l9 := Wr.num_len s8 m.change.toNat 8
  obtain ⟨s9, E9⟩ : ∃ x, Hid (x = (s8.num m.change.toNat 8)) := ⟨_, Lib.hid rfl⟩
  rw [← E9.out] at F9 l9
  clear hp f F8
  go_wp2_with fail
  go_still_tail 7, (by kernel_rfl)
  change wpList _ _ _ _ _ w9.drew
  have F9 := Lib.hid F9.out.drew
  generalize w9.drew = w9 at F9 ⊢
  go_wp2_with fail
  refine (text_w B g9 s9 ⟨M, 26, none⟩ m.adata hk.adata _ F9.out.wr (F9.out.m.cell 26 rfl) F9.out.neB F9.out.neg (by omega)).mono ?_
  rintro e w10 ⟨rfl, hp⟩
  obtain ⟨g10, f⟩ := F9.out.step hp
  have F10 := Lib.hid f
  have l10 := Wr.text_len s9 m.adata
  obtain ⟨s10, E10⟩ : ∃ x, Hid (x = (s9.text m.adata)) := ⟨_, Lib.hid rfl⟩
  rw [← E10.out] at F10 l10
  clear hp f F9
  go_wp2_with fail
  refine (flag_w B M 27 g10 s10 m.eof _ F10.out.wr (F10.out.m.cell 27 rfl) (F10.out.m.frozen 27) F10.out.neB F10.out.neg (by omega)).mono ?_
  rintro e w11 ⟨rfl, hp⟩
  obtain ⟨g11, f⟩ := F10.out.step hp
  have F11 := Lib.hid f
  have l11 := Wr.num_len s10 m.eof.toNat 1
  obtain ⟨s11, E11⟩ : ∃ x, Hid (x = (s10.num m.eof.toNat 1)) := ⟨_, Lib.hid rfl⟩
  rw [← E11.out] at F11 l11
  clear hp f F10
  go_wp2_with fail
  go_still_tail 7, (by kernel_rfl)
  change wpList _ _ _ _ _ w11.drew
  have F11 := Lib.hid F11.out.drew
  generalize w11.drew = w11 at F11 ⊢
  go_wp2_with fail
  refine (number_w B g11 s11 ⟨M, 28, none⟩ m.anum 8 (by omega) (by omega) hk.anum.1 hk.anum.2 _ F11.out.wr (F11.out.m.cell 28 rfl) (by omega)).mono ?_
  rintro e w12 ⟨rfl, hp⟩
  obtain ⟨g12, f⟩ := F11.out.step hp
  have F12 := Lib.hid f
  have l12 := Wr.num_len s11 m.anum.toNat 8
  obtain ⟨s12, E12⟩ : ∃ x, Hid (x = (s11.num m.anum.toNat 8)) := ⟨_, Lib.hid rfl⟩
  rw [← E12.out] at F12 l12
  clear hp f F11
  go_wp2_with fail
  refine (list_w_long B M 29 g12 s12 A cap m.list (m.vs (.slice A m.list.length cap)) _ F12.out.here rfl (HA.out.kept F12.out.keep (by rintro b o h1 h2 (e | e); exact (HAB.out b o h1 h2).1 e; exact (HAB.out b o h1 h2).2 e.symm)) (fun b o h1 h2 => ⟨(HAB.out b o h1 h2).1, F12.out.off (HA.out.lt b o h1 h2) (HAB.out b o h1 h2).2⟩) hk.list hk.len Hnil.out (by omega) h64).mono ?_
  rintro e w13 ⟨rfl, hp⟩
  obtain ⟨g13, f⟩ := F12.out.step hp
  have F13 := Lib.hid f
  have l13 := Wr.num_len s12 m.list.length 4
  obtain ⟨s13, E13⟩ : ∃ x, Hid (x = (s12.num m.list.length 4)) := ⟨_, Lib.hid rfl⟩
  rw [← E13.out] at F13 l13
  clear hp f F12
  go_wp2_with fail
  go_ret2
  have hp := F13.out.post
  rw [E13.out, E12.out, E11.out, E10.out, E9.out, E8.out, E7.out, E6.out, E5.out, E4.out, E3.out, E2.out, E1.out, E0.out] at hp
  exact ⟨rfl, hp⟩

def Wr.back (σ : Wr) (m : Msg) : Wr := (((((σ.num (u64of m.kind) 1).num m.client.toNat 4).num m.xid.toNat 8).put m.h.lay).stamp m)
set_option maxHeartbeats 16000000 in
set_option maxRecDepth 100000 in
theorem fields_w_recall (B M : Nat) (g0 : Option Nat) (σ : Wr) (m : Msg) (A : Option Addr) (cap : Nat) (hk : m.Ok) (w0 : World) (hF : FW w0 w0 B M g0 (m.vs (.slice A m.list.length cap)) σ g0)
    (hA : EntsR w0 A m.list) (hAB : ∀ b o, A = some ⟨b, o, none⟩ → m.list ≠ [] → b ≠ B ∧ g0 ≠ some b) (hnil : m.list = [] ∨ A.isSome = true) (hl : σ.bs.length ≤ 500000000) (hkind : m.kind = 3) :
    Calls Try.prog 32 #[.iface 75 (.pointer (some ⟨B, 0, none⟩)), .pointer (some ⟨M, 0, none⟩)] w0 fun r w' => r = .returned (.tuple #[.bool true, .bool true]) ∧ WrPost w0 B g0 (Wr.back σ m) w' := by
  unfold Wr.back
  have m1 := wm_number ⟨B, 0, none⟩; have m2 := wm_text ⟨B, 0, none⟩; have m3 := wm_handle ⟨B, 0, none⟩
  have n1 := wn_number ⟨B, 0, none⟩; have n2 := wn_text ⟨B, 0, none⟩; have n3 := wn_handle ⟨B, 0, none⟩
  obtain ⟨s0, E0⟩ : ∃ x, Hid (x = σ) := ⟨_, Lib.hid rfl⟩
  rw [← E0.out] at hF hl
  have F0 := Lib.hid hF
  have HA := Lib.hid hA
  have HAB := Lib.hid hAB
  have Hnil := Lib.hid hnil
  clear hF hA hAB hnil
  have kb1 : (m.kind == 1) = false := beq_eq_false_iff_ne.2 (by omega)
  have kb2 : (m.kind == 2) = false := beq_eq_false_iff_ne.2 (by omega)
  have kb3 : (m.kind == 3) = true := by rw [hkind]; rfl
  have kb4 : (m.kind == 4) = false := beq_eq_false_iff_ne.2 (by omega)
  have HK := Lib.hid hkind
  clear hkind
  go_enter Try.func32, Try.ntmps32
  go_wp2_with fail
  refine (small_w B M 0 g0 s0 m.kind 1 (by omega) (by omega) hk.kind _ F0.out.wr (F0.out.m.cell 0 rfl) (F0.out.m.frozen 0) F0.out.neB F0.out.neg (by omega)).mono ?_
  rintro e w1 ⟨rfl, hp⟩
  obtain ⟨g1, f⟩ := F0.out.step hp
  have F1 := Lib.hid f
  have l1 := Wr.num_len s0 (u64of m.kind) 1
  obtain ⟨s1, E1⟩ : ∃ x, Hid (x = (s0.num (u64of m.kind) 1)) := ⟨_, Lib.hid rfl⟩
  rw [← E1.out] at F1 l1
  clear hp f F0
  go_wp2_with fail
  refine (four_w B M 1 g1 s1 m.client hk.client _ F1.out.wr (F1.out.m.cell 1 rfl) (F1.out.m.frozen 1) F1.out.neB F1.out.neg (by omega)).mono ?_
  rintro e w2 ⟨rfl, hp⟩
  obtain ⟨g2, f⟩ := F1.out.step hp
  have F2 := Lib.hid f
  have l2 := Wr.num_len s1 m.client.toNat 4
  obtain ⟨s2, E2⟩ : ∃ x, Hid (x = (s1.num m.client.toNat 4)) := ⟨_, Lib.hid rfl⟩
  rw [← E2.out] at F2 l2
  clear hp f F1
  go_wp2_with fail
  go_still_tail 7, (by kernel_rfl)
  change wpList _ _ _ _ _ w2.drew
  have F2 := Lib.hid F2.out.drew
  generalize w2.drew = w2 at F2 ⊢
  go_wp2_with fail
  refine (number_w B g2 s2 ⟨M, 2, none⟩ m.xid 8 (by omega) (by omega) hk.xid.1 hk.xid.2 _ F2.out.wr (F2.out.m.cell 2 rfl) (by omega)).mono ?_
  rintro e w3 ⟨rfl, hp⟩
  obtain ⟨g3, f⟩ := F2.out.step hp
  have F3 := Lib.hid f
  have l3 := Wr.num_len s2 m.xid.toNat 8
  obtain ⟨s3, E3⟩ : ∃ x, Hid (x = (s2.num m.xid.toNat 8)) := ⟨_, Lib.hid rfl⟩
  rw [← E3.out] at F3 l3
  clear hp f F2
  have ck3 : w3.cell? ⟨M, 0, none⟩ = some (.int .i64 m.kind) := F3.out.m.cell 0 rfl
  go_wp2_with fail
  go_still_tail 8, (by kernel_rfl)
  change wpList _ _ _ _ _ w3.drew
  have F3 := Lib.hid F3.out.drew
  generalize w3.drew = w3 at F3 ⊢
  go_wp2_with fail
  refine (handle_w B M 4 g3 s3 m.h hk.h _ F3.out.wr F3.out.neB F3.out.neg (F3.out.m.cell 4 rfl) (F3.out.m.cell 5 rfl) (F3.out.m.cell 6 rfl) (F3.out.m.cell 7 rfl) (by omega)).mono ?_
  rintro e w4 ⟨rfl, hp⟩
  obtain ⟨g4, f⟩ := F3.out.step hp
  have F4 := Lib.hid f
  have l4 := Wr.put_handle_len s3 m.h
  obtain ⟨s4, E4⟩ : ∃ x, Hid (x = (s3.put m.h.lay)) := ⟨_, Lib.hid rfl⟩
  rw [← E4.out] at F4 l4
  clear hp f F3 ck3
  go_wp2_with fail
  refine (stamp_w B M g4 s4 m (.slice A m.list.length cap) hk _ F4.out.here (by omega)).mono ?_
  rintro e w5 ⟨rfl, hp⟩
  obtain ⟨g5, f⟩ := F4.out.step hp
  have F5 := Lib.hid f
  have l5 := Wr.stamp_len s4 m
  obtain ⟨s5, E5⟩ : ∃ x, Hid (x = (s4.stamp m)) := ⟨_, Lib.hid rfl⟩
  rw [← E5.out] at F5 l5
  clear hp f F4
  go_wp2_with fail
  go_ret2
  have hp := F5.out.post
  rw [E5.out, E4.out, E3.out, E2.out, E1.out, E0.out] at hp
  exact ⟨rfl, hp⟩

set_option maxHeartbeats 16000000 in
set_option maxRecDepth 100000 in
theorem fields_w_return (B M : Nat) (g0 : Option Nat) (σ : Wr) (m : Msg) (A : Option Addr) (cap : Nat) (hk : m.Ok) (w0 : World) (hF : FW w0 w0 B M g0 (m.vs (.slice A m.list.length cap)) σ g0)
    (hA : EntsR w0 A m.list) (hAB : ∀ b o, A = some ⟨b, o, none⟩ → m.list ≠ [] → b ≠ B ∧ g0 ≠ some b) (hnil : m.list = [] ∨ A.isSome = true) (hl : σ.bs.length ≤ 500000000) (hkind : m.kind = 4) :
    Calls Try.prog 32 #[.iface 75 (.pointer (some ⟨B, 0, none⟩)), .pointer (some ⟨M, 0, none⟩)] w0 fun r w' => r = .returned (.tuple #[.bool true, .bool true]) ∧ WrPost w0 B g0 (Wr.back σ m) w' := by
  unfold Wr.back
  have m1 := wm_number ⟨B, 0, none⟩; have m2 := wm_text ⟨B, 0, none⟩; have m3 := wm_handle ⟨B, 0, none⟩
  have n1 := wn_number ⟨B, 0, none⟩; have n2 := wn_text ⟨B, 0, none⟩; have n3 := wn_handle ⟨B, 0, none⟩
  obtain ⟨s0, E0⟩ : ∃ x, Hid (x = σ) := ⟨_, Lib.hid rfl⟩
  rw [← E0.out] at hF hl
  have F0 := Lib.hid hF
  have HA := Lib.hid hA
  have HAB := Lib.hid hAB
  have Hnil := Lib.hid hnil
  clear hF hA hAB hnil
  have kb1 : (m.kind == 1) = false := beq_eq_false_iff_ne.2 (by omega)
  have kb2 : (m.kind == 2) = false := beq_eq_false_iff_ne.2 (by omega)
  have kb3 : (m.kind == 3) = false := beq_eq_false_iff_ne.2 (by omega)
  have kb4 : (m.kind == 4) = true := by rw [hkind]; rfl
  have HK := Lib.hid hkind
  clear hkind
  go_enter Try.func32, Try.ntmps32
  go_wp2_with fail
  refine (small_w B M 0 g0 s0 m.kind 1 (by omega) (by omega) hk.kind _ F0.out.wr (F0.out.m.cell 0 rfl) (F0.out.m.frozen 0) F0.out.neB F0.out.neg (by omega)).mono ?_
  rintro e w1 ⟨rfl, hp⟩
  obtain ⟨g1, f⟩ := F0.out.step hp
  have F1 := Lib.hid f
  have l1 := Wr.num_len s0 (u64of m.kind) 1
  obtain ⟨s1, E1⟩ : ∃ x, Hid (x = (s0.num (u64of m.kind) 1)) := ⟨_, Lib.hid rfl⟩
  rw [← E1.out] at F1 l1
  clear hp f F0
  go_wp2_with fail
  refine (four_w B M 1 g1 s1 m.client hk.client _ F1.out.wr (F1.out.m.cell 1 rfl) (F1.out.m.frozen 1) F1.out.neB F1.out.neg (by omega)).mono ?_
  rintro e w2 ⟨rfl, hp⟩
  obtain ⟨g2, f⟩ := F1.out.step hp
  have F2 := Lib.hid f
  have l2 := Wr.num_len s1 m.client.toNat 4
  obtain ⟨s2, E2⟩ : ∃ x, Hid (x = (s1.num m.client.toNat 4)) := ⟨_, Lib.hid rfl⟩
  rw [← E2.out] at F2 l2
  clear hp f F1
  go_wp2_with fail
  go_still_tail 7, (by kernel_rfl)
  change wpList _ _ _ _ _ w2.drew
  have F2 := Lib.hid F2.out.drew
  generalize w2.drew = w2 at F2 ⊢
  go_wp2_with fail
  refine (number_w B g2 s2 ⟨M, 2, none⟩ m.xid 8 (by omega) (by omega) hk.xid.1 hk.xid.2 _ F2.out.wr (F2.out.m.cell 2 rfl) (by omega)).mono ?_
  rintro e w3 ⟨rfl, hp⟩
  obtain ⟨g3, f⟩ := F2.out.step hp
  have F3 := Lib.hid f
  have l3 := Wr.num_len s2 m.xid.toNat 8
  obtain ⟨s3, E3⟩ : ∃ x, Hid (x = (s2.num m.xid.toNat 8)) := ⟨_, Lib.hid rfl⟩
  rw [← E3.out] at F3 l3
  clear hp f F2
  have ck3 : w3.cell? ⟨M, 0, none⟩ = some (.int .i64 m.kind) := F3.out.m.cell 0 rfl
  go_wp2_with fail
  go_still_tail 8, (by kernel_rfl)
  change wpList _ _ _ _ _ w3.drew
  have F3 := Lib.hid F3.out.drew
  generalize w3.drew = w3 at F3 ⊢
  go_wp2_with fail
  refine (handle_w B M 4 g3 s3 m.h hk.h _ F3.out.wr F3.out.neB F3.out.neg (F3.out.m.cell 4 rfl) (F3.out.m.cell 5 rfl) (F3.out.m.cell 6 rfl) (F3.out.m.cell 7 rfl) (by omega)).mono ?_
  rintro e w4 ⟨rfl, hp⟩
  obtain ⟨g4, f⟩ := F3.out.step hp
  have F4 := Lib.hid f
  have l4 := Wr.put_handle_len s3 m.h
  obtain ⟨s4, E4⟩ : ∃ x, Hid (x = (s3.put m.h.lay)) := ⟨_, Lib.hid rfl⟩
  rw [← E4.out] at F4 l4
  clear hp f F3 ck3
  go_wp2_with fail
  refine (stamp_w B M g4 s4 m (.slice A m.list.length cap) hk _ F4.out.here (by omega)).mono ?_
  rintro e w5 ⟨rfl, hp⟩
  obtain ⟨g5, f⟩ := F4.out.step hp
  have F5 := Lib.hid f
  have l5 := Wr.stamp_len s4 m
  obtain ⟨s5, E5⟩ : ∃ x, Hid (x = (s4.stamp m)) := ⟨_, Lib.hid rfl⟩
  rw [← E5.out] at F5 l5
  clear hp f F4
  go_wp2_with fail
  go_ret2
  have hp := F5.out.post
  rw [E5.out, E4.out, E3.out, E2.out, E1.out, E0.out] at hp
  exact ⟨rfl, hp⟩

def Wr.head (σ : Wr) (m : Msg) : Wr := (((σ.num (u64of m.kind) 1).num m.client.toNat 4).num m.xid.toNat 8)
set_option maxHeartbeats 16000000 in
set_option maxRecDepth 100000 in
theorem fields_w_other (B M : Nat) (g0 : Option Nat) (σ : Wr) (m : Msg) (A : Option Addr) (cap : Nat) (hk : m.Ok) (w0 : World) (hF : FW w0 w0 B M g0 (m.vs (.slice A m.list.length cap)) σ g0)
    (hA : EntsR w0 A m.list) (hAB : ∀ b o, A = some ⟨b, o, none⟩ → m.list ≠ [] → b ≠ B ∧ g0 ≠ some b) (hnil : m.list = [] ∨ A.isSome = true) (hl : σ.bs.length ≤ 500000000) (hkind : m.kind ≠ 1 ∧ m.kind ≠ 2 ∧ m.kind ≠ 3 ∧ m.kind ≠ 4) :
    Calls Try.prog 32 #[.iface 75 (.pointer (some ⟨B, 0, none⟩)), .pointer (some ⟨M, 0, none⟩)] w0 fun r w' => r = .returned (.tuple #[.bool false, .bool true]) ∧ WrPost w0 B g0 (Wr.head σ m) w' := by
  unfold Wr.head
  have m1 := wm_number ⟨B, 0, none⟩; have m2 := wm_text ⟨B, 0, none⟩; have m3 := wm_handle ⟨B, 0, none⟩
  have n1 := wn_number ⟨B, 0, none⟩; have n2 := wn_text ⟨B, 0, none⟩; have n3 := wn_handle ⟨B, 0, none⟩
  obtain ⟨s0, E0⟩ : ∃ x, Hid (x = σ) := ⟨_, Lib.hid rfl⟩
  rw [← E0.out] at hF hl
  have F0 := Lib.hid hF
  have HA := Lib.hid hA
  have HAB := Lib.hid hAB
  have Hnil := Lib.hid hnil
  clear hF hA hAB hnil
  have kb1 : (m.kind == 1) = false := beq_eq_false_iff_ne.2 (by omega)
  have kb2 : (m.kind == 2) = false := beq_eq_false_iff_ne.2 (by omega)
  have kb3 : (m.kind == 3) = false := beq_eq_false_iff_ne.2 (by omega)
  have kb4 : (m.kind == 4) = false := beq_eq_false_iff_ne.2 (by omega)
  have HK := Lib.hid hkind
  clear hkind
  go_enter Try.func32, Try.ntmps32
  go_wp2_with fail
  refine (small_w B M 0 g0 s0 m.kind 1 (by omega) (by omega) hk.kind _ F0.out.wr (F0.out.m.cell 0 rfl) (F0.out.m.frozen 0) F0.out.neB F0.out.neg (by omega)).mono ?_
  rintro e w1 ⟨rfl, hp⟩
  obtain ⟨g1, f⟩ := F0.out.step hp
  have F1 := Lib.hid f
  have l1 := Wr.num_len s0 (u64of m.kind) 1
  obtain ⟨s1, E1⟩ : ∃ x, Hid (x = (s0.num (u64of m.kind) 1)) := ⟨_, Lib.hid rfl⟩
  rw [← E1.out] at F1 l1
  clear hp f F0
  go_wp2_with fail
  refine (four_w B M 1 g1 s1 m.client hk.client _ F1.out.wr (F1.out.m.cell 1 rfl) (F1.out.m.frozen 1) F1.out.neB F1.out.neg (by omega)).mono ?_
  rintro e w2 ⟨rfl, hp⟩
  obtain ⟨g2, f⟩ := F1.out.step hp
  have F2 := Lib.hid f
  have l2 := Wr.num_len s1 m.client.toNat 4
  obtain ⟨s2, E2⟩ : ∃ x, Hid (x = (s1.num m.client.toNat 4)) := ⟨_, Lib.hid rfl⟩
  rw [← E2.out] at F2 l2
  clear hp f F1
  go_wp2_with fail
  go_still_tail 7, (by kernel_rfl)
  change wpList _ _ _ _ _ w2.drew
  have F2 := Lib.hid F2.out.drew
  generalize w2.drew = w2 at F2 ⊢
  go_wp2_with fail
  refine (number_w B g2 s2 ⟨M, 2, none⟩ m.xid 8 (by omega) (by omega) hk.xid.1 hk.xid.2 _ F2.out.wr (F2.out.m.cell 2 rfl) (by omega)).mono ?_
  rintro e w3 ⟨rfl, hp⟩
  obtain ⟨g3, f⟩ := F2.out.step hp
  have F3 := Lib.hid f
  have l3 := Wr.num_len s2 m.xid.toNat 8
  obtain ⟨s3, E3⟩ : ∃ x, Hid (x = (s2.num m.xid.toNat 8)) := ⟨_, Lib.hid rfl⟩
  rw [← E3.out] at F3 l3
  clear hp f F2
  have ck3 : w3.cell? ⟨M, 0, none⟩ = some (.int .i64 m.kind) := F3.out.m.cell 0 rfl
  go_wp2_with fail
  go_ret2
  have hp := F3.out.post
  rw [E3.out, E2.out, E1.out, E0.out] at hp
  exact ⟨rfl, hp⟩

end Go.Proofs.Ytibcadfpengacaa

-- Bare
set_option linter.unusedVariables false
set_option linter.unusedSimpArgs false
namespace Go.Proofs.Ytibcadfpengacaa
open Go.RowKit Go.Lib Go.Proofs.YtibcadfpengacaaW.PrintWords Go.Proofs.YtibcadfpengacaaW.PrintMore Go.Proofs.YtibcadfpengacaaW.PrintLast
attribute [local go_sem high] eqHd eqAttr eqStamp eqEnt eqAsk

def noAns (status ae asn ai ag akind links size change : Int) (adata : ByteArray) (eof : Bool) (anum : Int) (len : Nat) : Bool :=
  (status == 0) && hdEq ae asn ai ag 0 0 0 0 && attrEq akind links size change 0 0 0 0 && adata.toList.isEmpty && (!eof) && (anum == 0) && ((len : Int) == 0)

def bareV (kind op he hs hi hg h2e h2s h2i h2g : Int) (name name2 : ByteArray) (off num : Int) (data : ByteArray) (status ae asn ai ag akind links size change : Int) (adata : ByteArray) (eof : Bool) (anum : Int) (len : Nat) (boot gb gn : Int) : Bool :=
  if (kind == 1) = true then noAns status ae asn ai ag akind links size change adata eof anum len && ((boot == 0) && stampEq gb gn 0 0)
  else if (kind == 2) = true then askEq op he hs hi hg h2e h2s h2i h2g name name2 off num data 0 0 0 0 0 0 0 0 0 ⟨#[]⟩ ⟨#[]⟩ 0 0 ⟨#[]⟩
  else noAns status ae asn ai ag akind links size change adata eof anum len && askEq op 0 0 0 0 h2e h2s h2i h2g name name2 off num data 0 0 0 0 0 0 0 0 0 ⟨#[]⟩ ⟨#[]⟩ 0 0 ⟨#[]⟩

theorem orFalse (b : Bool) : b = true ∨ b = false := by cases b <;> simp

theorem Blk.new1 (w : World) (M : Obj) (t : TypeId) (cs : List Value) : Blk ((w.alloc M).alloc (.cells cs.toArray t)) (w.heap.size + 1) t cs := by
  have h := Blk.new (w.alloc M) t cs
  rwa [show (w.alloc M).heap.size = w.heap.size + 1 by simp] at h
theorem Blk.new2 (w : World) (M N : Obj) (t : TypeId) (cs : List Value) : Blk (((w.alloc M).alloc N).alloc (.cells cs.toArray t)) (w.heap.size + 1 + 1) t cs := by
  have h := Blk.new ((w.alloc M).alloc N) t cs
  rwa [show ((w.alloc M).alloc N).heap.size = w.heap.size + 1 + 1 by simp] at h

/-- What a region leaves, said once for all its orders. -/
theorem regionTo {P : Program} {c : Code} {K : Act → World → Prop} {Q : Exit → Act → World → Prop} {a : Act} {w : World} (G : Nat → Nat → World → Prop) (f : Nat → Nat → Act → Act)
    (R : ∀ b c w', G b c w' → K (f b c a) w') (h : (∀ b c w', G b c w' → K (f b c a) w') → Code.wp P c (Exit.then K Q) a w) : Code.wp P c (Exit.then K Q) a w := h R

set_option maxHeartbeats 16000000 in
set_option maxRecDepth 100000 in
theorem bare_any (kind client xid op he hs hi hg h2e h2s h2i h2g : Int) (name name2 : ByteArray) (off num : Int) (data : ByteArray) (status ae asn ai ag akind links size change : Int) (adata : ByteArray) (eof : Bool) (anum : Int) (A : Option Addr) (len cap : Nat) (boot gb gn : Int) (w : World) :
    Calls Try.prog 34 #[.agg #[.int .i64 kind, .int .u32 client, .int .u64 xid, .int .i64 op, .int .u32 he, .int .u64 hs, .int .u64 hi, .int .u64 hg, .int .u32 h2e, .int .u64 h2s, .int .u64 h2i, .int .u64 h2g, .string name, .string name2, .int .u64 off, .int .u64 num, .string data, .int .i64 status, .int .u32 ae, .int .u64 asn, .int .u64 ai, .int .u64 ag, .int .i64 akind, .int .u32 links, .int .u64 size, .int .u64 change, .string adata, .bool eof, .int .u64 anum, .slice A len cap, .int .u64 boot, .int .u64 gb, .int .u64 gn]] w fun e w' => e = .returned (.bool (bareV kind op he hs hi hg h2e h2s h2i h2g name name2 off num data status ae asn ai ag akind links size change adata eof anum len boot gb gn)) ∧ Below w.heap.size w w' := by
  have mixed : Try.prog.follows Departure.mixedOrders = true := by kernel_rfl
  have b0 := Blk.new w 36 [.int .i64 kind, .int .u32 client, .int .u64 xid, .int .i64 op, .int .u32 he, .int .u64 hs, .int .u64 hi, .int .u64 hg, .int .u32 h2e, .int .u64 h2s, .int .u64 h2i, .int .u64 h2g, .string name, .string name2, .int .u64 off, .int .u64 num, .string data, .int .i64 status, .int .u32 ae, .int .u64 asn, .int .u64 ai, .int .u64 ag, .int .i64 akind, .int .u32 links, .int .u64 size, .int .u64 change, .string adata, .bool eof, .int .u64 anum, .slice A len cap, .int .u64 boot, .int .u64 gb, .int .u64 gn]
  have k0 := Lib.hid ((Below.refl w.heap.size w).alloc (Nat.le_refl _) (.cells #[.int .i64 kind, .int .u32 client, .int .u64 xid, .int .i64 op, .int .u32 he, .int .u64 hs, .int .u64 hi, .int .u64 hg, .int .u32 h2e, .int .u64 h2s, .int .u64 h2i, .int .u64 h2g, .string name, .string name2, .int .u64 off, .int .u64 num, .string data, .int .i64 status, .int .u32 ae, .int .u64 asn, .int .u64 ai, .int .u64 ag, .int .i64 akind, .int .u32 links, .int .u64 size, .int .u64 change, .string adata, .bool eof, .int .u64 anum, .slice A len cap, .int .u64 boot, .int .u64 gb, .int .u64 gn] 36))
  go_enter Try.func34, Try.ntmps34
  go_wp2
  rename_i Kc hKc
  refine regionTo (G := fun b c w' => Blk w' b 27 [.int .i64 op, .int .u32 he, .int .u64 hs, .int .u64 hi, .int .u64 hg, .int .u32 h2e, .int .u64 h2s, .int .u64 h2i, .int .u64 h2g, .string name, .string name2, .int .u64 off, .int .u64 num, .string data] ∧ Blk w' c 32 [.int .i64 status, .int .u32 ae, .int .u64 asn, .int .u64 ai, .int .u64 ag, .int .i64 akind, .int .u32 links, .int .u64 size, .int .u64 change, .string adata, .bool eof, .int .u64 anum, .slice A len cap] ∧ Blk w' w.heap.size 36 [.int .i64 kind, .int .u32 client, .int .u64 xid, .int .i64 op, .int .u32 he, .int .u64 hs, .int .u64 hi, .int .u64 hg, .int .u32 h2e, .int .u64 h2s, .int .u64 h2i, .int .u64 h2g, .string name, .string name2, .int .u64 off, .int .u64 num, .string data, .int .i64 status, .int .u32 ae, .int .u64 asn, .int .u64 ai, .int .u64 ag, .int .i64 akind, .int .u32 links, .int .u64 size, .int .u64 change, .string adata, .bool eof, .int .u64 anum, .slice A len cap, .int .u64 boot, .int .u64 gb, .int .u64 gn] ∧ w.heap.size < b ∧ w.heap.size < c ∧ b ≠ c ∧ Below w.heap.size w w')
    (f := fun b c a => (((((a.put (some 7) (.pointer (some ⟨w.heap.size, 3, none⟩))).put (some 8) (.agg #[.int .i64 op, .int .u32 he, .int .u64 hs, .int .u64 hi, .int .u64 hg, .int .u32 h2e, .int .u64 h2s, .int .u64 h2i, .int .u64 h2g, .string name, .string name2, .int .u64 off, .int .u64 num, .string data])).put (some 9) (.pointer (some ⟨w.heap.size, 17, none⟩))).put (some 10) (.agg #[.int .i64 status, .int .u32 ae, .int .u64 asn, .int .u64 ai, .int .u64 ag, .int .i64 akind, .int .u32 links, .int .u64 size, .int .u64 change, .string adata, .bool eof, .int .u64 anum, .slice A len cap])).put (some 3) (.pointer (some ⟨b, 0, none⟩))).put (some 4) (.pointer (some ⟨c, 0, none⟩))) ?R ?h
  case h =>
    intro R
    simp only [Act.put, List.setIfInBounds_toArray, List.set_cons_zero, List.set_cons_succ] at R
    have R' := Lib.hid R
    have HB0 := Lib.hid b0
    clear R hKc b0
    go_region_o
    all_goals
      refine R'.out _ _ _ ⟨?_, ?_, ?_, ?_, ?_, ?_, ?_⟩
      all_goals first
        | exact ((Blk.new1 _ _ _ _).alloc _).drew
        | exact (Blk.new2 _ _ _ _ _).drew
        | exact ((HB0.out.alloc _).alloc _).drew
        | omega
        | exact Below.drew (((k0.out.alloc (by simp) _).alloc (by simp; omega) _))
  case R =>
    rintro b c w1 ⟨q1, q2, q3, hb, hc, hbc, hB⟩
    simp only [Act.put, List.setIfInBounds_toArray, List.set_cons_zero, List.set_cons_succ]
    refine hKc _ _ ?_
    clear hKc
    have d0 := q1.cell 0 rfl
    have fz0 := q1.frozen 0
    have d1 := q1.cell 1 rfl
    have fz1 := q1.frozen 1
    have d2 := q1.cell 2 rfl
    have fz2 := q1.frozen 2
    have d3 := q1.cell 3 rfl
    have fz3 := q1.frozen 3
    have d4 := q1.cell 4 rfl
    have fz4 := q1.frozen 4
    have d5 := q1.cell 5 rfl
    have fz5 := q1.frozen 5
    have d6 := q1.cell 6 rfl
    have fz6 := q1.frozen 6
    have d7 := q1.cell 7 rfl
    have fz7 := q1.frozen 7
    have d8 := q1.cell 8 rfl
    have fz8 := q1.frozen 8
    have d9 := q1.cell 9 rfl
    have fz9 := q1.frozen 9
    have d10 := q1.cell 10 rfl
    have fz10 := q1.frozen 10
    have d11 := q1.cell 11 rfl
    have fz11 := q1.frozen 11
    have d12 := q1.cell 12 rfl
    have fz12 := q1.frozen 12
    have d13 := q1.cell 13 rfl
    have fz13 := q1.frozen 13
    have a0 := q2.cell 0 rfl
    have a1 := q2.cell 1 rfl
    have a2 := q2.cell 2 rfl
    have a3 := q2.cell 3 rfl
    have a4 := q2.cell 4 rfl
    have a5 := q2.cell 5 rfl
    have a6 := q2.cell 6 rfl
    have a7 := q2.cell 7 rfl
    have a8 := q2.cell 8 rfl
    have a9 := q2.cell 9 rfl
    have a10 := q2.cell 10 rfl
    have a11 := q2.cell 11 rfl
    have a12 := q2.cell 12 rfl
    have m0 := q3.cell 0 rfl
    have m30 := q3.cell 30 rfl
    have m31 := q3.cell 31 rfl
    have m32 := q3.cell 32 rfl
    have Q1 := Lib.hid q1
    have HBe := Lib.hid hB
    clear q1 q2 q3 hB b0
    rcases orFalse (kind == 1) with hk | hk
    · skip
      rcases orFalse ((status == 0)) with c0 | c0
      · skip
        rcases orFalse (hdEq ae asn ai ag 0 0 0 0) with c1 | c1
        · skip
          rcases orFalse (attrEq akind links size change 0 0 0 0) with c2 | c2
          · skip
            rcases orFalse (adata.toList.isEmpty) with c3 | c3
            · skip
              rcases orFalse ((!eof)) with c4 | c4
              · skip
                rcases orFalse ((anum == 0)) with c5 | c5
                · skip
                  rcases orFalse (((len : Int) == 0)) with c6 | c6
                  · skip
                    rcases orFalse (boot == 0) with cb | cb
                    · skip
                      go_wp2
                      go_ret
                      exact ⟨by first | rfl | (simp [bareV, noAns, *]; done), by repeat (first | exact HBe.out | (with_reducible apply below_alloc) | (refine below_set ?_ (by show w.heap.size ≤ b; omega)))⟩
                    · skip
                      go_wp2
                      go_ret
                      exact ⟨by first | rfl | (simp [bareV, noAns, *]; done), by repeat (first | exact HBe.out | (with_reducible apply below_alloc) | (refine below_set ?_ (by show w.heap.size ≤ b; omega)))⟩
                  · skip
                    go_wp2
                    go_ret
                    exact ⟨by first | rfl | (simp [bareV, noAns, *]; done), by repeat (first | exact HBe.out | (with_reducible apply below_alloc) | (refine below_set ?_ (by show w.heap.size ≤ b; omega)))⟩
                · skip
                  go_wp2
                  go_ret
                  exact ⟨by first | rfl | (simp [bareV, noAns, *]; done), by repeat (first | exact HBe.out | (with_reducible apply below_alloc) | (refine below_set ?_ (by show w.heap.size ≤ b; omega)))⟩
              · skip
                go_wp2
                go_ret
                exact ⟨by first | rfl | (simp [bareV, noAns, *]; done), by repeat (first | exact HBe.out | (with_reducible apply below_alloc) | (refine below_set ?_ (by show w.heap.size ≤ b; omega)))⟩
            · skip
              go_wp2
              go_ret
              exact ⟨by first | rfl | (simp [bareV, noAns, *]; done), by repeat (first | exact HBe.out | (with_reducible apply below_alloc) | (refine below_set ?_ (by show w.heap.size ≤ b; omega)))⟩
          · skip
            go_wp2
            go_ret
            exact ⟨by first | rfl | (simp [bareV, noAns, *]; done), by repeat (first | exact HBe.out | (with_reducible apply below_alloc) | (refine below_set ?_ (by show w.heap.size ≤ b; omega)))⟩
        · skip
          go_wp2
          go_ret
          exact ⟨by first | rfl | (simp [bareV, noAns, *]; done), by repeat (first | exact HBe.out | (with_reducible apply below_alloc) | (refine below_set ?_ (by show w.heap.size ≤ b; omega)))⟩
      · skip
        go_wp2
        go_ret
        exact ⟨by first | rfl | (simp [bareV, noAns, *]; done), by repeat (first | exact HBe.out | (with_reducible apply below_alloc) | (refine below_set ?_ (by show w.heap.size ≤ b; omega)))⟩
    · rcases orFalse (kind == 2) with hk2 | hk2
      · skip
        rcases orFalse ((status == 0)) with c0 | c0
        · skip
          rcases orFalse (hdEq ae asn ai ag 0 0 0 0) with c1 | c1
          · skip
            rcases orFalse (attrEq akind links size change 0 0 0 0) with c2 | c2
            · skip
              rcases orFalse (adata.toList.isEmpty) with c3 | c3
              · skip
                rcases orFalse ((!eof)) with c4 | c4
                · skip
                  rcases orFalse ((anum == 0)) with c5 | c5
                  · skip
                    rcases orFalse (((len : Int) == 0)) with c6 | c6
                    · skip
                      go_wp2
                      go_ret
                      exact ⟨by first | rfl | (simp [bareV, noAns, *]; done), by repeat (first | exact HBe.out | (with_reducible apply below_alloc) | (refine below_set ?_ (by show w.heap.size ≤ b; omega)))⟩
                    · skip
                      go_wp2
                      go_ret
                      exact ⟨by first | rfl | (simp [bareV, noAns, *]; done), by repeat (first | exact HBe.out | (with_reducible apply below_alloc) | (refine below_set ?_ (by show w.heap.size ≤ b; omega)))⟩
                  · skip
                    go_wp2
                    go_ret
                    exact ⟨by first | rfl | (simp [bareV, noAns, *]; done), by repeat (first | exact HBe.out | (with_reducible apply below_alloc) | (refine below_set ?_ (by show w.heap.size ≤ b; omega)))⟩
                · skip
                  go_wp2
                  go_ret
                  exact ⟨by first | rfl | (simp [bareV, noAns, *]; done), by repeat (first | exact HBe.out | (with_reducible apply below_alloc) | (refine below_set ?_ (by show w.heap.size ≤ b; omega)))⟩
              · skip
                go_wp2
                go_ret
                exact ⟨by first | rfl | (simp [bareV, noAns, *]; done), by repeat (first | exact HBe.out | (with_reducible apply below_alloc) | (refine below_set ?_ (by show w.heap.size ≤ b; omega)))⟩
            · skip
              go_wp2
              go_ret
              exact ⟨by first | rfl | (simp [bareV, noAns, *]; done), by repeat (first | exact HBe.out | (with_reducible apply below_alloc) | (refine below_set ?_ (by show w.heap.size ≤ b; omega)))⟩
          · skip
            go_wp2
            go_ret
            exact ⟨by first | rfl | (simp [bareV, noAns, *]; done), by repeat (first | exact HBe.out | (with_reducible apply below_alloc) | (refine below_set ?_ (by show w.heap.size ≤ b; omega)))⟩
        · skip
          go_wp2
          go_ret
          exact ⟨by first | rfl | (simp [bareV, noAns, *]; done), by repeat (first | exact HBe.out | (with_reducible apply below_alloc) | (refine below_set ?_ (by show w.heap.size ≤ b; omega)))⟩
      · skip
        rcases orFalse ((status == 0)) with c0 | c0
        · skip
          rcases orFalse (hdEq ae asn ai ag 0 0 0 0) with c1 | c1
          · skip
            rcases orFalse (attrEq akind links size change 0 0 0 0) with c2 | c2
            · skip
              rcases orFalse (adata.toList.isEmpty) with c3 | c3
              · skip
                rcases orFalse ((!eof)) with c4 | c4
                · skip
                  rcases orFalse ((anum == 0)) with c5 | c5
                  · skip
                    rcases orFalse (((len : Int) == 0)) with c6 | c6
                    · skip
                      go_wp2
                      go_ret
                      exact ⟨by first | rfl | (simp [bareV, noAns, *]; done), by repeat (first | exact HBe.out | (with_reducible apply below_alloc) | (refine below_set ?_ (by show w.heap.size ≤ b; omega)))⟩
                    · skip
                      go_wp2
                      go_ret
                      exact ⟨by first | rfl | (simp [bareV, noAns, *]; done), by repeat (first | exact HBe.out | (with_reducible apply below_alloc) | (refine below_set ?_ (by show w.heap.size ≤ b; omega)))⟩
                  · skip
                    go_wp2
                    go_ret
                    exact ⟨by first | rfl | (simp [bareV, noAns, *]; done), by repeat (first | exact HBe.out | (with_reducible apply below_alloc) | (refine below_set ?_ (by show w.heap.size ≤ b; omega)))⟩
                · skip
                  go_wp2
                  go_ret
                  exact ⟨by first | rfl | (simp [bareV, noAns, *]; done), by repeat (first | exact HBe.out | (with_reducible apply below_alloc) | (refine below_set ?_ (by show w.heap.size ≤ b; omega)))⟩
              · skip
                go_wp2
                go_ret
                exact ⟨by first | rfl | (simp [bareV, noAns, *]; done), by repeat (first | exact HBe.out | (with_reducible apply below_alloc) | (refine below_set ?_ (by show w.heap.size ≤ b; omega)))⟩
            · skip
              go_wp2
              go_ret
              exact ⟨by first | rfl | (simp [bareV, noAns, *]; done), by repeat (first | exact HBe.out | (with_reducible apply below_alloc) | (refine below_set ?_ (by show w.heap.size ≤ b; omega)))⟩
          · skip
            go_wp2
            go_ret
            exact ⟨by first | rfl | (simp [bareV, noAns, *]; done), by repeat (first | exact HBe.out | (with_reducible apply below_alloc) | (refine below_set ?_ (by show w.heap.size ≤ b; omega)))⟩
        · skip
          go_wp2
          go_ret
          exact ⟨by first | rfl | (simp [bareV, noAns, *]; done), by repeat (first | exact HBe.out | (with_reducible apply below_alloc) | (refine below_set ?_ (by show w.heap.size ≤ b; omega)))⟩

end Go.Proofs.Ytibcadfpengacaa

-- Plongx0
namespace Go.Proofs.Ytibcadfpengacaa.Plong
open Go.RowKit Go.Proofs.YtibcadfpengacaaW.PrintWords Go.Proofs.YtibcadfpengacaaW.PrintLast Go.Proofs.YtibcadfpengacaaW.PrintMore
attribute [local go_sem] max2_int min2_int max_two min_two max_three min_three max_four min_four   -- for this text's walks alone
set_option linter.unusedVariables false
set_option linter.unusedSimpArgs false



def errW : Option Int → Value
  | none => .nilIface
  | some c => .iface 0 (.int .i64 c)
theorem errW_none : errW none = .nilIface := rfl
theorem errW_some (c : Int) : errW (some c) = .iface 0 (.int .i64 c) := rfl

theorem info9 : (Try.prog.info? 9).map (fun i => (i.zero, i.size, i.bytes)) = some (some (.string ⟨#[]⟩), 1, 16) := by kernel_rfl
-- the values' own types
/-! #### struct type 99 -/
structure S99 where
  f0 : ByteArray
  f1 : Int
  f2 : Int
def z99 : S99 := ⟨(⟨#[]⟩ : ByteArray), (0 : Int), (0 : Int)⟩
def k99 : Kd S99 := Kd.iso (Kd.pair Kd.string (Kd.pair (Kd.int .u64) (Kd.int .u64))) (fun x : S99 => (x.f0, x.f1, x.f2))
theorem k99_open {w : World} {x : S99} {cs : List Value} (h : k99.K w x cs) : cs = [.string x.f0, .int .u64 x.f1, .int .u64 x.f2] := by
  obtain ⟨_, _, rfl, rfl, ⟨_, _, rfl, rfl, rfl⟩⟩ := h
  exact rfl
theorem k99_mk (w : World) (x : S99)  : k99.K w x [.string x.f0, .int .u64 x.f1, .int .u64 x.f2] := ⟨[.string x.f0], [.int .u64 x.f1, .int .u64 x.f2], rfl, rfl, ⟨[.int .u64 x.f1], [.int .u64 x.f2], rfl, rfl, rfl⟩⟩
def rd_T99 (xs : List S99) (i : Int) : S99 := xs.getD i.toNat z99
theorem at_T99 {w : World} {A : Option Addr} {n : Nat} {xs : List S99} (h : Kd.C k99 w A n xs) (i : Int) (h0 : 0 ≤ i) (h1 : i < n) : ∃ ad , A = some ad ∧ w.cell? (ad.add (i.toNat * 3)) = some (.string (rd_T99 xs i).f0) ∧ w.cell? ⟨(ad.add (i.toNat * 3)).block, (ad.add (i.toNat * 3)).off + 1, none⟩ = some (.int .u64 (rd_T99 xs i).f1) ∧ w.cell? ⟨(ad.add (i.toNat * 3)).block, (ad.add (i.toNat * 3)).off + 2, none⟩ = some (.int .u64 (rd_T99 xs i).f2) := by
  obtain ⟨ad, c, e, _, hK, hc0⟩ := Kd.C_get h z99 i h0 h1
  have hc : ∀ j u, c[j]? = some u → w.cell? (ad.add (i.toNat * 3 + j)) = some u := hc0
  obtain rfl := k99_open hK
  exact ⟨ad, e, hc 0 _ rfl, by rw [← add_field _ _ 1 (by omega)]; exact hc 1 _ rfl, by rw [← add_field _ _ 2 (by omega)]; exact hc 2 _ rfl⟩

end Go.Proofs.Ytibcadfpengacaa.Plong
