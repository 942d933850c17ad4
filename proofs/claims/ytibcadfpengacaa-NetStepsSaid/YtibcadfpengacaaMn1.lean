/- Words, contracts and plain laws for the claim's last text: Base, Build, Reg, PLex0, Le, POfLex0, POfLex1, Num, Ppadx0, Ppadx1, Writer, Iface, FieldsW, ListW, Eq, PtrimLeftBytex0, PtrimLeftBytex1, PtrimRightBytex0, PtrimRightBytex1. -/
import Derived.Below
import Derived.WalkKit
import Derived.KernelRfl
import Derived.Laws.Rows
import Derived.Laws.AppendOwn
import Derived.Lib.Hide
import Derived.Deep.OwnRows
import Derived.BigQuiet
import Derived.Deep.QuietTactic
import Derived.StillTailTactics
import Derived.Outline
import Derived.WalkSpells
import Derived.Deep.LoopGhost
import Derived.Deep.DeepCutAuto
import Derived.OwnWalk
import Derived.Laws.OwnMore
import Derived.Test.YtibcadfpengacaaProg
import Derived.Lib.Builder
import Derived.Lib.AppendStr
import Derived.Lib.UnsafeStr
import Derived.Test.YtibcadfpengacaaMn0
import Derived.Deep.Draws
import Derived.Deep.AppendLies
import Derived.Maps.AppendAt
import Derived.Laws.BytesArg
import Derived.Laws.MakeOwn
import Derived.Tactics
import Derived.Lib.ConvBytes
import Derived.Laws.Slices
import Derived.RowKit3
import Derived.WideLaws
import Derived.Deep.CutBlock
import Derived.Deep.RegionHeld3
import Derived.ArgAppend
import Derived.Laws.IdiomCopy
import Derived.OrdersHeld
import Derived.Laws.BitsLemmas
import Derived.RowKit
import Derived.Lib.Strings
import Derived.Lib.SliceRun
-- Base
set_option linter.unusedVariables false
set_option linter.unusedSimpArgs false
namespace Go.Proofs.Ytibcadfpengacaa
open Go.RowKit Go.Lib

/-- The block b is made of these cells; it may be written. -/
def Blk (w : World) (b : Nat) (t : TypeId) (cs : List Value) : Prop := w.heap[b]? = some (.cells cs.toArray t (0, 0))

/-- What was there and does not lie in S is as it was. -/
structure Keeps (S : Nat → Prop) (w w' : World) : Prop where
  os : w'.os = w.os
  tape : w'.tape = w.tape
  output : w'.output = w.output
  size : w.heap.size ≤ w'.heap.size
  block : ∀ k, k < w.heap.size → ¬ S k → w'.heap[k]? = w.heap[k]?

namespace Keeps
variable {S S' : Nat → Prop} {w w1 w2 : World}
theorem refl (S : Nat → Prop) (w : World) : Keeps S w w := ⟨rfl, rfl, rfl, Nat.le_refl _, fun _ _ _ => rfl⟩
theorem mono (h : Keeps S w w1) (hs : ∀ k, k < w.heap.size → S k → S' k) : Keeps S' w w1 := ⟨h.os, h.tape, h.output, h.size, fun k hk hn => h.block k hk (fun s => hn (hs k hk s))⟩
theorem trans (h : Keeps S w w1) (h' : Keeps S' w1 w2) (hs : ∀ k, k < w.heap.size → S' k → S k) : Keeps S w w2 :=
  ⟨h'.os.trans h.os, h'.tape.trans h.tape, h'.output.trans h.output, Nat.le_trans h.size h'.size, fun k hk hn => (h'.block k (Nat.lt_of_lt_of_le hk h.size) (fun s => hn (hs k hk s))).trans (h.block k hk hn)⟩
theorem drew (h : Keeps S w w1) : Keeps S w w1.drew := ⟨h.os, h.tape, h.output, h.size, h.block⟩
theorem drewN (h : Keeps S w w1) (n : Nat) : Keeps S w (w1.drewN n) := ⟨h.os, h.tape, h.output, h.size, h.block⟩
theorem alloc (h : Keeps S w w1) (o : Obj) : Keeps S w (w1.alloc o) :=
  ⟨h.os, h.tape, h.output, Nat.le_trans h.size (by simp), fun k hk hn => (Below.heap_alloc w1 o k (Nat.lt_of_lt_of_le hk h.size)).trans (h.block k hk hn)⟩
theorem setCell (h : Keeps S w w1) {a : Addr} (ha : a.block < w.heap.size → S a.block) (v : Value) : Keeps S w (w1.setCell a v) :=
  ⟨h.os, h.tape, h.output, Nat.le_trans h.size (by simp), fun k hk hn => (Below.heap_setCell w1 a v k (fun e => hn (e ▸ ha (e ▸ hk)))).trans (h.block k hk hn)⟩
theorem of_below {B : Nat} (h : Below B w w1) (hs : ∀ k, k < w.heap.size → B ≤ k → S k) : Keeps S w w1 :=
  ⟨h.os, h.tape, h.output, h.size, fun k hk hn => h.block k (Nat.lt_of_not_le (fun hb => hn (hs k hk hb)))⟩
theorem of_below_all (h : Below w.heap.size w w1) : Keeps S w w1 := of_below h (fun k hk hb => absurd hk (Nat.not_lt.2 hb))
theorem of_grown {row : Option Nat} (h : w.grownBy w1 row) (hs : ∀ k, row = some k → k < w.heap.size → S k) : Keeps S w w1 :=
  ⟨h.os, h.tape, h.output, h.size, fun k hk hn => h.block k hk (fun e => hn (hs k e.symm hk))⟩
theorem below {B : Nat} (h : Keeps S w w1) (hB : B ≤ w.heap.size) (hs : ∀ k, k < B → ¬ S k) : Below B w w1 :=
  ⟨h.os, h.tape, h.output, h.size, fun k hk => h.block k (Nat.lt_of_lt_of_le hk hB) (hs k hk)⟩
theorem cell (h : Keeps S w w1) {a : Addr} (ha : a.block < w.heap.size) (hn : ¬ S a.block) : w1.cell? a = w.cell? a := World.cell?_of_block (w := w) (h.block a.block ha hn)
theorem frozen (h : Keeps S w w1) {a : Addr} (ha : a.block < w.heap.size) (hn : ¬ S a.block) : w1.frozen? a = w.frozen? a := World.frozen?_of_block (w := w) (h.block a.block ha hn)
end Keeps

namespace Blk
variable {S : Nat → Prop} {w w1 : World} {b : Nat} {t : TypeId} {cs : List Value}
theorem lt (h : Blk w b t cs) : b < w.heap.size := (Array.getElem?_eq_some_iff.1 h).1
theorem cell (h : Blk w b t cs) (j : Nat) {v : Value} (hv : cs[j]? = some v) : w.cell? ⟨b, j, none⟩ = some v := by
  have h' : w.heap[b]? = some (.cells cs.toArray t (0, 0)) := h
  simp [World.cell?, h', hv]
theorem frozen (h : Blk w b t cs) (j : Nat) : w.frozen? ⟨b, j, none⟩ = false := by
  have h' : w.heap[b]? = some (.cells cs.toArray t (0, 0)) := h
  simp [World.frozen?, h']
theorem set (h : Blk w b t cs) (j : Nat) (v : Value) : Blk (w.setCell ⟨b, j, none⟩ v) b t (cs.set j v) := by
  have h' : w.heap[b]? = some (.cells cs.toArray t (0, 0)) := h
  have hl := h.lt
  unfold Blk World.setCell
  simp only [Array.getElem?_modify]
  rw [h']
  simp
theorem other (h : Blk w b t cs) {a : Addr} (ha : b ≠ a.block) (v : Value) : Blk (w.setCell a v) b t cs := (Below.heap_setCell w a v b ha).trans h
theorem alloc (h : Blk w b t cs) (o : Obj) : Blk (w.alloc o) b t cs := (Below.heap_alloc w o b h.lt).trans h
theorem drew (h : Blk w b t cs) : Blk w.drew b t cs := h
theorem drewN (h : Blk w b t cs) (n : Nat) : Blk (w.drewN n) b t cs := h
theorem new (w : World) (t : TypeId) (cs : List Value) : Blk (w.alloc (.cells cs.toArray t)) w.heap.size t cs := by
  show (w.heap.push _)[w.heap.size]? = _
  simp
theorem kept (h : Blk w b t cs) (k : Keeps S w w1) (hn : ¬ S b) : Blk w1 b t cs := (k.block b h.lt hn).trans h
theorem below (h : Blk w b t cs) (k : Below w.heap.size w w1) : Blk w1 b t cs := (k.block b h.lt).trans h
end Blk

/-- What is stored is what stood there: nothing turns. -/
theorem setCell_self {w : World} {b j : Nat} {v : Value} (h : w.cell? ⟨b, j, none⟩ = some v) : w.setCell ⟨b, j, none⟩ v = w := by
  cases w with
  | mk heap tape drawn os output =>
    simp only [World.setCell, World.mk.injEq, and_true]
    simp only [World.cell?] at h
    apply Array.ext_getElem?
    intro i
    rw [Array.getElem?_modify]
    by_cases hi : b = i
    · subst hi
      rw [if_pos rfl]
      cases hb : heap[b]? with
      | none => rfl
      | some o =>
        rw [hb] at h
        cases o with
        | cells c e fr =>
          simp at h
          simp only [Option.map_some, Option.isSome_none, Bool.false_eq_true, if_false, Option.some.injEq, Obj.cells.injEq, and_true]
          apply Array.ext_getElem?
          intro k
          rw [Array.getElem?_setIfInBounds]
          by_cases hk : j = k
          · subst hk
            rw [if_pos rfl]
            rw [(Array.getElem?_eq_some_iff.1 h).2.symm]
            have hl := (Array.getElem?_eq_some_iff.1 h).1
            simp [hl]
          · rw [if_neg hk]
        | _ => rfl
    · rw [if_neg hi]

end Go.Proofs.Ytibcadfpengacaa

-- Build
set_option linter.unusedVariables false
set_option linter.unusedSimpArgs false
namespace Go.Proofs.Ytibcadfpengacaa
open Go.RowKit Go.Lib

/-- append([]byte, s...): where the new row lies. -/
theorem append_string_at {P : Program} (w : World) (t u ty e : TypeId) (i : TypeInfo) (ht : P.underlying t = some (.slice e)) (hu : P.underlying u = some .string) (hi : P.info? e = some i) (hz : i.zero = some (.int .u8 0))
    (hsize : i.size = 1) (hby : i.bytes = 1) (v : Value) (n : Nat) (xs : List Value) (hown : w.ownsRow 0 e 1 v n xs) (s : ByteArray) (hbytes : n + s.size ≤ 140737488355328) :
    ∃ v' w', (Builtin.append_ #[t, u] ty #[v, .string s]).run P w = .ok v' w' ∧ w'.ownsRow 0 e 1 v' (n + s.size) (xs ++ strCells s) ∧ w.grownBy w' v.ownBlock ∧
      (v'.ownBlock = v.ownBlock ∨ v'.ownBlock = some w.heap.size) := by
  obtain ⟨v', w', hr, h1, h2, h3⟩ := run_append_own_string (P := P) w 0 t u ty e i ht hu hi hz hsize hby v n xs hown s (by unfold maxLen; omega) hbytes (Nat.zero_le _)
  refine ⟨v', w', hr, h1, h2, ?_⟩
  have hxl : xs.length = n := by simpa using hown.1
  rcases hown.2 with ⟨rfl, rfl⟩ | ⟨g, cap, cur, rfl, hbg, hg, hnc, hcm, hcs, htake⟩
  · by_cases hm : s.size = 0
    · exact .inl (by rw [h3.2 ⟨rfl, hm⟩])
    · have hr2 := run_append_nil_string (P := P) w t u ty e i (.int .u8 0) ht hu hi hz s (by omega) (by omega) (by rw [hby]; omega)
      rw [hr2] at hr
      injection hr with hv hw
      exact .inr (by rw [← hv]; rfl)
  · by_cases hroom : n + s.size ≤ cap
    · have hr2 := run_append_room_string (P := P) w t u ty e i ht hu hi hsize g n cap cur hg s hroom (by rw [hcs]; omega)
      rw [hr2] at hr
      injection hr with hv hw
      exact .inl (by rw [← hv]; rfl)
    · have holds : ∀ j u, xs[j]? = some u → w.cell? ((⟨g, 0, none⟩ : Addr).add j) = some u := hown.cells (g := g) rfl
      have hr2 := run_append_grow_string (P := P) w t u ty e i (.int .u8 0) ht hu hi hz ⟨g, 0, none⟩ n cap xs (by rw [hsize]; simpa using hxl) holds s (by omega) (by omega) (by rw [hby]; exact growslice_fits (by omega) (by omega))
      rw [hr2] at hr
      injection hr with hv hw
      exact .inr (by rw [← hv]; rfl)

/-- The same at the operation. -/
theorem wp_append_string {P : Program} {ops : Array Oper} {rest : List Oper} {o : Oper} {a : Act} {Q : Exit → Act → World → Prop} {w : World} (hgd : o.guard = none) (sl x : Operand) (t u : TypeId)
    (ho : o.op = .call { callee := .builtin .append, args := #[sl, x], argTypes := #[t, u] })
    (e : TypeId) (i : TypeInfo) (ht : P.underlying t = some (.slice e)) (hu : P.underlying u = some .string) (hi : P.info? e = some i) (hz : i.zero = some (.int .u8 0))
    (hsize : i.size = 1) (hby : i.bytes = 1) (v : Value) (n : Nat) (xs : List Value) (hs : a.eval sl = v) (hown : w.ownsRow 0 e 1 v n xs) (s : ByteArray) (hx : a.eval x = .string s) (hbytes : n + s.size ≤ 140737488355328)
    (h : ∀ v' w', w'.ownsRow 0 e 1 v' (n + s.size) (xs ++ strCells s) → w.grownBy w' v.ownBlock → (v'.ownBlock = v.ownBlock ∨ v'.ownBlock = some w.heap.size) → wpList P ops Q rest (a.put o.dst v') w') : wpList P ops Q (o :: rest) a w := by
  refine wpList_plain hgd fun K hK => ?_
  obtain ⟨v', w', hr, h2, h3, h4⟩ := append_string_at (P := P) w t u o.type e i ht hu hi hz hsize hby v n xs hown s hbytes
  unfold Oper.wp execOp
  simp only [ho, resolve, invoke, builtin, Sem.run_bind, Sem.run_pure, Result.andThen_ok, List.map_toArray, List.map_cons, List.map_nil, hs, hx, hr]
  exact hK _ _ (h v' w' h2 h3 h4)

/-- At place o of block B (of type T, its first cells: pre) lies a strings.Builder that holds bs; its row lies in block g. -/
def WAt (w : World) (B o : Nat) (T : TypeId) (pre : List Value) (g : Option Nat) (bs : List UInt8) : Prop :=
  ∃ p v, Blk w B T (pre ++ [p, v]) ∧ pre.length = o ∧ (p = .pointer none ∨ p = .pointer (some ⟨B, o, none⟩)) ∧ w.ownsRow 0 5 1 v bs.length (byteCells bs) ∧ v.ownBlock = g ∧ g ≠ some B

/-- What such a type must be. -/
structure WType (T : TypeId) (o : Nat) : Prop where
  ne : T ≠ 5
  lies : liesAt Try.prog Try.prog.depth T ((o + 2) / Try.prog.cellsOf T) o 81 1 = true

theorem WAt.lt {w : World} {B o : Nat} {T : TypeId} {pre : List Value} {g : Option Nat} {bs : List UInt8} (h : WAt w B o T pre g bs) : B < w.heap.size := by
  obtain ⟨p, v, hb, _⟩ := h
  exact hb.lt
theorem WAt.row_lt {w : World} {B o : Nat} {T : TypeId} {pre : List Value} {g : Option Nat} {bs : List UInt8} (h : WAt w B o T pre g bs) : ∀ k, g = some k → k < w.heap.size := by
  obtain ⟨p, v, hb, _, _, hown, rfl, _⟩ := h
  exact fun k hk => (hown.lt k hk).2
/-- Neither the block nor its row is turned: it stands. -/
theorem WAt.kept {S : Nat → Prop} {w w' : World} {B o : Nat} {T : TypeId} {pre : List Value} {g : Option Nat} {bs : List UInt8} (h : WAt w B o T pre g bs) (k : Keeps S w w') (hB : ¬ S B) (hg : ∀ b, g = some b → ¬ S b) : WAt w' B o T pre g bs := by
  have hl := h.row_lt
  obtain ⟨p, v, hb, h1, h2, hown, h4, h5⟩ := h
  refine ⟨p, v, hb.kept k hB, h1, h2, ?_, h4, h5⟩
  refine ⟨hown.1, ?_⟩
  rcases hown.2 with h | ⟨b, cap, cur, rfl, q1, q2, q3⟩
  · exact .inl h
  · refine .inr ⟨b, cap, cur, rfl, q1, ?_, q3⟩
    rw [k.block b (hl b (by rw [← h4]; rfl)) (hg b (by rw [← h4]; rfl))]
    exact q2
theorem WAt.below {w w' : World} {B o : Nat} {T : TypeId} {pre : List Value} {g : Option Nat} {bs : List UInt8} (h : WAt w B o T pre g bs) (k : Below w.heap.size w w') : WAt w' B o T pre g bs := h.kept (Keeps.of_below_all (S := fun _ => False) k) id (fun _ _ => id)
/-- Another cell of its block is written. -/
theorem WAt.put {w : World} {B o : Nat} {T : TypeId} {pre : List Value} {g : Option Nat} {bs : List UInt8} (h : WAt w B o T pre g bs) (i : Nat) (hi : i < o) (x : Value) : WAt (w.setCell ⟨B, i, none⟩ x) B o T (pre.set i x) g bs := by
  obtain ⟨p, v, hb, h1, h2, hown, h4, h5⟩ := h
  have hb' := hb.set i x
  rw [List.set_append_left _ _ (by omega)] at hb'
  refine ⟨p, v, hb', by simpa using h1, h2, ?_, h4, h5⟩
  refine ⟨hown.1, ?_⟩
  rcases hown.2 with h | ⟨b, cap, cur, rfl, q1, q2, q3⟩
  · exact .inl h
  · refine .inr ⟨b, cap, cur, rfl, q1, ?_, q3⟩
    rw [Below.heap_setCell w _ x b (fun e => h5 (by rw [← h4, e]; rfl))]
    exact q2
theorem WAt.pre_cell {w : World} {B o : Nat} {T : TypeId} {pre : List Value} {g : Option Nat} {bs : List UInt8} (h : WAt w B o T pre g bs) (i : Nat) {x : Value} (hx : pre[i]? = some x) : w.cell? ⟨B, i, none⟩ = some x ∧ w.frozen? ⟨B, i, none⟩ = false := by
  obtain ⟨p, v, hb, h1, h2, hown, h4, h5⟩ := h
  refine ⟨hb.cell i ?_, hb.frozen i⟩
  rw [List.getElem?_append_left (List.getElem?_eq_some_iff.1 hx).1]
  exact hx

theorem infoByte : (Try.prog.info? 5).map (fun i => (i.zero, i.size, i.bytes)) = some (some (.int .u8 0), 1, 1) := by kernel_rfl
theorem infoBuilder : (Try.prog.info? 81).map (·.size) = some 2 := by kernel_rfl

set_option maxHeartbeats 1000000 in
set_option maxRecDepth 100000 in
theorem copyCheck_used (B o : Nat) (w : World) (h0 : w.cell? ⟨B, o, none⟩ = some (.pointer (some ⟨B, o, none⟩))) :
    Calls Try.prog 94 #[.pointer (some ⟨B, o, none⟩)] w fun e w' => e = .returned (.tuple #[]) ∧ w' = w := by
  obtain ⟨j, hj, _⟩ := Option.map_eq_some_iff.1 infoBuilder
  go_enter Try.func94, Try.ntmps94
  go_wp2
  rw [Lib.run_neq_ptr_same w _ Try.underlying78 hj]
  go_wp2
  go_end0
  exact ⟨rfl, rfl⟩

set_option maxHeartbeats 1000000 in
set_option maxRecDepth 100000 in
theorem copyCheck_fresh (B o : Nat) (T : TypeId) (hT : WType T o) (w : World) (h0 : w.cell? ⟨B, o, none⟩ = some (.pointer none)) (hsh : w.shape? B = some (T, o + 2)) (hfz : w.frozen? ⟨B, o, none⟩ = false) :
    Calls Try.prog 94 #[.pointer (some ⟨B, o, none⟩)] w fun e w' => e = .returned (.tuple #[]) ∧ w' = w.setCell ⟨B, o, none⟩ (.pointer (some ⟨B, o, none⟩)) := by
  obtain ⟨j, hj, hjs⟩ := Option.map_eq_some_iff.1 infoBuilder
  have hlies := Lib.hid hT.lies
  go_enter Try.func94, Try.ntmps94
  go_wp2
  rw [Lib.run_to_unsafe w ⟨B, o, none⟩ Try.underlying78 Try.underlying162 hj (by rw [hjs]; decide) hsh (by show o < o + 2; omega)]
  simp only [Result.andThen]
  rw [Oper.upon_value]
  go_wp2
  rw [run_callFunc_extern Try.func96 (by kernel_rfl) (by kernel_rfl) (by kernel_rfl) (e := Extern.AbiNoEscape.same) (by kernel_rfl)]
  rw [Lib.run_noEscape]
  simp only [Result.andThen]
  rw [Oper.upon_value]
  go_wp2
  rw [Lib.run_from_unsafe w ⟨B, o, none⟩ Try.underlying162 Try.underlying78 hj hsh hlies.out]
  simp only [Result.andThen]
  rw [Oper.upon_value]
  go_wp2
  go_end0
  exact ⟨rfl, rfl⟩

/-- copyCheck: behind it the builder holds its own address. -/
theorem copyCheck_any {w : World} {B o : Nat} {T : TypeId} {pre : List Value} {g : Option Nat} {bs : List UInt8} (hT : WType T o) (h : WAt w B o T pre g bs) :
    Calls Try.prog 94 #[.pointer (some ⟨B, o, none⟩)] w fun e w' => e = .returned (.tuple #[]) ∧ (∃ v, Blk w' B T (pre ++ [.pointer (some ⟨B, o, none⟩), v]) ∧ w'.ownsRow 0 5 1 v bs.length (byteCells bs) ∧ v.ownBlock = g) ∧ Keeps (fun k => k = B) w w' := by
  obtain ⟨p, v, hb, h1, h2, hown, h4, h5⟩ := h
  have hc : w.cell? ⟨B, o, none⟩ = some p := hb.cell o (by rw [← h1, List.getElem?_append_right (Nat.le_refl _)]; simp)
  rcases h2 with rfl | rfl
  · have hsh : w.shape? B = some (T, o + 2) := by
      have hb' : w.heap[B]? = some (.cells (pre ++ [.pointer none, v]).toArray T (0, 0)) := hb
      simp [World.shape?, hb', h1]
    refine (copyCheck_fresh B o T hT w hc hsh (hb.frozen o)).mono ?_
    rintro e w' ⟨rfl, rfl⟩
    refine ⟨rfl, ⟨v, ?_, ?_, h4⟩, Keeps.setCell (S := fun k => k = B) (Keeps.refl _ _) (fun _ => rfl) _⟩
    · have := hb.set o (.pointer (some ⟨B, o, none⟩))
      rw [List.set_append_right _ _ (by omega), show o - pre.length = 0 from by omega] at this
      exact this
    · refine ⟨hown.1, ?_⟩
      rcases hown.2 with h | ⟨b, cap, cur, rfl, q1, q2, q3⟩
      · exact .inl h
      · refine .inr ⟨b, cap, cur, rfl, q1, ?_, q3⟩
        rw [Below.heap_setCell w _ _ b (fun e => h5 (by rw [← h4, e]; rfl))]
        exact q2
  · refine (copyCheck_used B o w hc).mono ?_
    rintro e w' ⟨rfl, rfl⟩
    exact ⟨rfl, ⟨v, hb, hown, h4⟩, Keeps.refl _ _⟩

set_option maxHeartbeats 1000000 in
set_option maxRecDepth 100000 in
theorem writeString_any {w : World} {B o : Nat} {T : TypeId} {pre : List Value} {g : Option Nat} {bs : List UInt8} (hT : WType T o) (h : WAt w B o T pre g bs) (s : ByteArray) (hlen : bs.length + s.size ≤ 140737488355328) :
    Calls Try.prog 89 #[.pointer (some ⟨B, o, none⟩), .string s] w fun e w' => e = .returned (.tuple #[.int .i64 s.size, .nilIface]) ∧ ∃ g', WAt w' B o T pre g' (bs ++ s.data.toList) ∧ (g' = g ∨ ∃ k, g' = some k ∧ w.heap.size ≤ k) ∧ Keeps (fun k => k = B ∨ some k = g) w w' := by
  obtain ⟨i0, hi, hz0, hz1, hz2⟩ := info_parts infoByte
  have hlt := h.lt
  have hrl := h.row_lt
  have hpl : pre.length = o := by obtain ⟨_, _, _, h1, _⟩ := h; exact h1
  have hgB : g ≠ some B := by obtain ⟨_, _, _, _, _, _, _, h5⟩ := h; exact h5
  have C := Lib.hid (copyCheck_any hT h)
  have HT := Lib.hid hT
  have Hrl := Lib.hid hrl
  have HgB := Lib.hid hgB
  clear h hT hrl hgB
  go_enter Try.func89, Try.ntmps89
  go_wp2_with fail
  refine C.out.mono ?_
  rintro e w1 ⟨rfl, ⟨v, hb1, hown1, hv⟩, hk1⟩
  have Hv := Lib.hid hv
  have Hb1 := Lib.hid hb1
  have Hk1 := Lib.hid hk1
  have c1 : w1.cell? ⟨B, o + 1, none⟩ = some v := hb1.cell (o + 1) (by rw [← hpl, List.getElem?_append_right (by omega), show pre.length + 1 - pre.length = 1 from by omega]; rfl)
  have hs1 : w.heap.size ≤ w1.heap.size := hk1.size
  clear hv hb1 hk1 C
  go_wp2_with (at_builtin; refine wp_append_string rfl _ _ 79 9 rfl 5 i0 Try.underlying79 Try.underlying9 hi hz0 hz1 hz2 _ _ _ rfl hown1 s rfl ?c4 ?_)
  case c4 => omega
  intro v' w2 hown' hgrow hat
  have hb2 : Blk w2 B T (pre ++ [.pointer (some ⟨B, o, none⟩), v]) := by
    refine (hgrow.block B (by omega) (fun e => HgB.out (by rw [← Hv.out]; exact e.symm))).trans Hb1.out
  have d1 : w2.cell? ⟨B, o + 1, none⟩ = some v := hb2.cell (o + 1) (by rw [← hpl, List.getElem?_append_right (by omega), show pre.length + 1 - pre.length = 1 from by omega]; rfl)
  have f1 : w2.frozen? ⟨B, o + 1, none⟩ = false := hb2.frozen _
  obtain ⟨ao, n', cap, rfl⟩ : ∃ ao n' cap, v' = .slice ao n' cap := by
    rcases hown'.2 with ⟨hv, _⟩ | ⟨g, cap, cur, hv, _⟩
    · exact ⟨_, _, _, hv⟩
    · exact ⟨_, _, _, hv⟩
  have Hat := Lib.hid hat
  have Hgrow := Lib.hid hgrow
  have Hown := Lib.hid hown'
  have Hb2 := Lib.hid hb2
  clear hat hgrow hown' hb2
  go_wp2
  go_ret2
  have hng : (Value.slice ao n' cap).ownBlock ≠ some B := by
    rcases Hat.out with h | h
    · rw [h, Hv.out]; exact HgB.out
    · rw [h]; intro e; injection e with e; omega
  refine ⟨rfl, (Value.slice ao n' cap).ownBlock, ⟨_, .slice ao n' cap, ?_, hpl, .inr rfl, ?_, rfl, hng⟩, ?_, ?_⟩
  · have := Hb2.out.set (o + 1) (.slice ao n' cap)
    rw [List.set_append_right _ _ (by omega), show o + 1 - pre.length = 1 from by omega] at this
    exact this
  · have hh := Hown.out
    rw [List.length_append, show s.data.toList.length = s.size by rw [Array.length_toList]; rfl, byteCells_append]
    refine ⟨hh.1, ?_⟩
    rcases hh.2 with h | ⟨b, cap', cur, hb, q1, q2, q3⟩
    · exact .inl h
    · refine .inr ⟨b, cap', cur, hb, q1, ?_, q3⟩
      rw [Below.heap_setCell _ _ _ b (fun e => hng (by rw [hb, e]; rfl))]
      exact q2
  · rcases Hat.out with h | h
    · exact .inl (by rw [h, Hv.out])
    · exact .inr ⟨_, h, by omega⟩
  · refine (Hk1.out.mono (S' := fun k => k = B ∨ some k = g) (fun k _ h => .inl h)).trans ((Keeps.of_grown Hgrow.out (S := fun k => k = B ∨ some k = g) (fun k hk _ => .inr (by rw [← Hv.out]; exact hk.symm))).setCell (fun _ => .inl rfl) _) (fun k _ h => h)

end Go.Proofs.Ytibcadfpengacaa

-- Reg
set_option linter.unusedVariables false
namespace Go.Proofs.Ytibcadfpengacaa
open Go.Proofs.YtibcadfpengacaaW.PrintLast Go.Proofs.YtibcadfpengacaaW.PrintWords

/-- Of n operations the first k have come up. -/
def lk (n k : Nat) : Array Bool := (List.replicate k true ++ List.replicate (n - k) false).toArray

section
variable {P : Program} {ops : Array Oper} {Q : Exit → Act → World → Prop} {S : World → Prop} {ds : List Nat} {md : Region.Mode}

theorem startT (S : World → Prop) (ds : List Nat) {id : Nat} {a : Act} {w : World} (n : Nat) (hm : P.follows .mixedOrders = true) (hn : ops.size = n) (hS : S w.drew)
    (h : wpAnyLast P .any ops Q S ds n (lk n 0) a w.drew) : (Code.region id ops true).wp P Q a w :=
  start_ (ds := ds) (lk n 0) hm hn (by simp [lk]) hS (fun _ => h)

/-- Operation k, whose result lies in slot N, yields v in every world. -/
theorem pureT (k N : Nat) {n fuel : Nat} {oi : Oper} {v : Value} {a a' : Act} {w : World} (hi : ops[k]? = some oi) (hN : oi.dst = some N) (hc : anyB md ops (lk n k) (lk n (k + 1)) k = true)
    (hQ : ∀ c a w, Q (.panic c) (a.put oi.dst v) w → Q (.panic c) a w) (hy : Yields P ops oi v a) (ha : a.put (some N) v = a')
    (h : wpAnyLast P md ops Q S ds fuel (lk n (k + 1)) a' w) : wpAnyLast P md ops Q S ds (fuel + 1) (lk n k) a w :=
  pure_ (lk n (k + 1)) hi hN hc hQ hy ha h

/-- Operation k, whose result lies in slot N, yields v in every world that meets S. -/
theorem takeT (k N : Nat) {n fuel : Nat} {oi : Oper} {v : Value} {a a' : Act} {w : World} (hi : ops[k]? = some oi) (hN : oi.dst = some N) (hc : takeB md ops ds (lk n k) (lk n (k + 1)) k = true)
    (hQ : ∀ c a w, Q (.panic c) (a.put oi.dst v) w → Q (.panic c) a w) (hy : YieldsIf P ops S oi v a) (hS : S w) (ha : a.put (some N) v = a')
    (h : wpAnyLast P md ops Q S ds fuel (lk n (k + 1)) a' w) : wpAnyLast P md ops Q S ds (fuel + 1) (lk n k) a w :=
  take_ (lk n (k + 1)) hi hN hc hQ hy hS ha h

/-- From operation k on one alone may come up at a time. -/
def forcedB (md : Region.Mode) (ops : Array Oper) (n : Nat) : Nat → Nat → Bool
  | 0, k => Region.ready md ops (lk n k) == []
  | m + 1, k => readyB md ops (lk n k) (lk n (k + 1)) k && forcedB md ops n m (k + 1)

theorem restT_aux {n : Nat} : ∀ (m k : Nat) (a : Act) (w : World), forcedB md ops n m k = true → (List.range' k m).all (fun i => ds.contains i) = true → k + m = ops.size → wpList P ops Q (ops.toList.drop k) a w → wpAnyLast P md ops Q S ds m (lk n k) a w := by
  intro m
  induction m with
  | zero =>
    intro k a w hf hds hk h
    rw [List.drop_of_length_le (by rw [Array.length_toList]; omega)] at h
    exact done_ hf h
  | succ m ih =>
    intro k a w hf hds hk h
    rw [List.range'_succ, List.all_cons, Bool.and_eq_true, List.contains_iff_mem] at hds
    simp only [forcedB, Bool.and_eq_true] at hf
    have hlt : k < ops.size := by omega
    have hi : ops[k]? = some (ops[k]'hlt) := Array.getElem?_eq_getElem hlt
    rw [List.drop_eq_getElem_cons (by rw [Array.length_toList]; exact hlt)] at h
    have hr := hf.1
    simp only [readyB, Bool.and_eq_true, beq_iff_eq] at hr
    obtain ⟨h1, h2⟩ := hr
    refine wpAnyLast_all h1 (by simp) ?_
    intro i hmem
    obtain rfl : i = k := by simpa using hmem
    rw [h2]
    unfold wpOp
    rw [hi]
    have e : ops.toList[i]'(by rw [Array.length_toList]; exact hlt) = ops[i]'hlt := by simp
    rw [e] at h
    unfold wpList at h
    simp only
    by_cases hw : Region.wanted (ops[i]'hlt) (yielded ops a.tmps) = true
    · rw [if_pos hw] at h ⊢
      refine h.imp (fun h => ?_) id
      exact Oper.wp_mono (fun a' w' h' => ⟨fun hn => absurd hds.1 hn, ih (i + 1) a' w' hf.2 hds.2 (by omega) h'⟩) h
    · rw [if_neg hw] at h ⊢
      exact ⟨fun hn => absurd hds.1 hn, ih (i + 1) _ w hf.2 hds.2 (by omega) h⟩

theorem restT {n k m : Nat} {a : Act} {w : World} (hf : (forcedB md ops n m k && (List.range' k m).all (fun i => ds.contains i)) = true) (hk : k + m = ops.size) (h : wpList P ops Q (ops.toList.drop k) a w) : wpAnyLast P md ops Q S ds m (lk n k) a w := by
  rw [Bool.and_eq_true] at hf
  exact restT_aux m k a w hf.1 hf.2 hk h
end
end Go.Proofs.Ytibcadfpengacaa

-- PLex0
namespace Go.Proofs.Ytibcadfpengacaa.PLe
open Go.RowKit Go.Proofs.YtibcadfpengacaaW.PrintWords Go.Proofs.YtibcadfpengacaaW.PrintLast Go.Proofs.YtibcadfpengacaaW.PrintMore
attribute [local go_sem] max2_int min2_int max_two min_two max_three min_three max_four min_four   -- for this text's walks alone
set_option linter.unusedVariables false
set_option linter.unusedSimpArgs false



def errW : Option Int → Value
  | none => .nilIface
  | some c => .iface 0 (.int .i64 c)
theorem errW_none : errW none = .nilIface := rfl
theorem errW_some (c : Int) : errW (some c) = .iface 0 (.int .i64 c) := rfl

theorem info5 : (Try.prog.info? 5).map (fun i => (i.zero, i.size, i.bytes)) = some (some (.int .u8 0), 1, 1) := by kernel_rfl
-- the values' own types

end Go.Proofs.Ytibcadfpengacaa.PLe

-- Le
namespace Go.Proofs.Ytibcadfpengacaa.PLe
open Go.RowKit Go.Proofs.YtibcadfpengacaaW.PrintWords Go.Proofs.YtibcadfpengacaaW.PrintLast Go.Proofs.YtibcadfpengacaaW.PrintMore
attribute [local go_sem] max2_int min2_int max_two min_two max_three min_three max_four min_four   -- for this text's walks alone
set_option linter.unusedVariables false
set_option linter.unusedSimpArgs false

/-! ### num_most: function 95 -/
def num_most.f (a0 : Int) (a1 : Int) : Option (Bool) := if a1 = 8 then (some true) else (if 0 ≤ (wrap64 (8 * a1)) then (some ((shr .u64 a0 (wrap64 (8 * a1))) == 0)) else (none))
set_option maxHeartbeats 8000000 in
set_option maxRecDepth 100000 in
theorem num_most.calls (a0 : Int) (a1 : Int) (r : Bool) (w : World) (h : num_most.f a0 a1 = some r) :
    Calls Try.prog 95 #[.int .u64 a0, .int .i64 a1] w fun e w' => e = .returned (.bool r) ∧ Drawn0 w w' := by
  have H : (if a1 = 8 then (some true) else (if 0 ≤ (wrap64 (8 * a1)) then (some ((shr .u64 a0 (wrap64 (8 * a1))) == 0)) else (none))) = some r := h
  clear h
  by_cases c3 : a1 = 8
  · rw [if_pos c3] at H
    have c3b0 : (a1 == 8) = true := beq_iff_eq.mpr c3
    have c3b1 : (a1 != 8) = false := bne_eq_false_iff_eq.mpr c3
    clear c3
    obtain rfl := Option.some.inj H
    go_enter Try.func95, Try.ntmps95
    go_wp2
    go_ret
    exact ⟨by first | rfl | (simp; done) | (simp [*]; done), by repeat (first | exact Drawn0.refl _ | apply Drawn0.step)⟩
  · rw [if_neg c3] at H
    have c3b0 : (a1 == 8) = false := beq_eq_false_iff_ne.mpr c3
    have c3b1 : (a1 != 8) = true := bne_iff_ne.mpr c3
    obtain ⟨ji4, hji4⟩ : ∃ j_ : Int, (wrap64 (8 * a1)) = j_ := ⟨_, rfl⟩
    replace H : (if 0 ≤ (ji4) then (some ((shr .u64 a0 (ji4)) == 0)) else (none)) = some r := by first | (rw [hji4] at H; exact H) | (simp only [hji4] at H ⊢; exact H)
    have hji4w : (IntKind.i64.wrap (8 * a1)) = ji4 := (i64_w _).trans hji4
    by_cases c5 : 0 ≤ (ji4)
    · rw [if_pos c5] at H
      have c5b0 := eq_true c5
      have c5b1 : decide (0 ≤ (ji4)) = true := decide_eq_true c5
      clear c5
      obtain ⟨ji6, hji6⟩ : ∃ j_ : Int, (shr .u64 a0 (ji4)) = j_ := ⟨_, rfl⟩
      replace H : (some ((ji6) == 0)) = some r := by first | (rw [hji6] at H; exact H) | (simp only [hji6] at H ⊢; exact H)
      have hji6_ : (a0 / 2 ^ min (ji4).toNat 64) = ji6 := hji6
      have hji6z : (ji4) ≤ 64 → (a0 / 2 ^ (ji4).toNat) = ji6 := shr_small hji6
      obtain rfl := Option.some.inj H
      go_enter Try.func95, Try.ntmps95
      go_wp2
      go_ret
      exact ⟨by first | rfl | (simp; done) | (simp only [← hji4, ← hji6] <;> (first | rfl | simp)) | (simp [*]; done), by repeat (first | exact Drawn0.refl _ | apply Drawn0.step)⟩
    · rw [if_neg c5] at H
      exact absurd H (by simp)

/-! ### num_Le: function 91 -/
mutual
def num_Le.j0 : Nat → Int → Int → Bool → Option (ByteArray × Int)
  | 0, _, _, _ => none
  | k + 1, x0, x1, x19 => if x19 = true then (some ((⟨#[]⟩ : ByteArray), 100)) else (if 0 ≤ x1 then (if (x1 : Int).toNat ≤ 281474976710656 then ((some (List.replicate (x1 : Int).toNat 0 : List Int)).bind fun y102 => (num_Le.l0 k x0 y102 (y102.length : Int) 0)) else (none)) else (none))
def num_Le.l0 : Nat → Int → List Int → Int → Int → Option (ByteArray × Int)
  | 0, _, _, _, _ => none
  | k + 1, x0, x6, x23, x24 => if x24 < x23 then (if 0 ≤ (wrap64 (8 * x24)) then (if 0 ≤ x24 then (if x24 < (x6.length : Int) then (num_Le.l0 k x0 (x6.set (x24 : Int).toNat ((shr .u64 x0 (wrap64 (8 * x24))) % 256)) x23 (wrap64 (x24 + 1))) else (none)) else (none)) else (none)) else (some (strOfNums x6, 0))
end
def num_Le.f (k : Nat) (a0 : Int) (a1 : Int) : Option (ByteArray × Int) := if a1 < 1 then (num_Le.j0 k a0 a1 true) else (if a1 > 8 then (num_Le.j0 k a0 a1 true) else ((num_most.f a0 a1).bind fun t101 => (num_Le.j0 k a0 a1 (!t101))))
theorem num_Le.mono_l : ∀ k, (∀ y0 y1 y2, LeO (num_Le.j0 k y0 y1 y2) (num_Le.j0 (k + 1) y0 y1 y2)) ∧ (∀ y0 y1 y2 y3, LeO (num_Le.l0 k y0 y1 y2 y3) (num_Le.l0 (k + 1) y0 y1 y2 y3))
  | 0 => ⟨fun _ _ _ r h => by simp [num_Le.j0] at h, fun _ _ _ _ r h => by simp [num_Le.l0] at h⟩
  | k + 1 => by
    obtain ⟨ih0, ih1⟩ := num_Le.mono_l k
    refine ⟨?_, ?_⟩
    · intro y0 y1 y2
      unfold num_Le.j0
      repeat' first
      | (with_reducible exact ih0 _ _ _)
      | (with_reducible exact ih1 _ _ _ _)
      | (with_reducible exact LeO.refl _)
      | (with_reducible exact LeO.none _)
      | (with_reducible refine LeO.ite ?_ ?_)
      | (with_reducible refine LeO.bind ?_ (fun _ => ?_))
      | exact ih0 _ _ _
      | exact ih1 _ _ _ _
      | exact LeO.none _
      | refine LeO.ite ?_ ?_
      | refine LeO.bind ?_ (fun _ => ?_)
    · intro y0 y1 y2 y3
      unfold num_Le.l0
      repeat' first
      | (with_reducible exact ih0 _ _ _)
      | (with_reducible exact ih1 _ _ _ _)
      | (with_reducible exact LeO.refl _)
      | (with_reducible exact LeO.none _)
      | (with_reducible refine LeO.ite ?_ ?_)
      | (with_reducible refine LeO.bind ?_ (fun _ => ?_))
      | exact ih0 _ _ _
      | exact ih1 _ _ _ _
      | exact LeO.none _
      | refine LeO.ite ?_ ?_
      | refine LeO.bind ?_ (fun _ => ?_)
theorem num_Le.mono : ∀ a0 a1 k, LeO (num_Le.f k a0 a1) (num_Le.f (k + 1) a0 a1) := by
  intro a0 a1 k
  obtain ⟨ih0, ih1⟩ := num_Le.mono_l k
  unfold num_Le.f
  repeat' first
      | (with_reducible exact ih0 _ _ _)
      | (with_reducible exact ih1 _ _ _ _)
      | (with_reducible exact LeO.refl _)
      | (with_reducible exact LeO.none _)
      | (with_reducible refine LeO.ite ?_ ?_)
      | (with_reducible refine LeO.bind ?_ (fun _ => ?_))
      | exact ih0 _ _ _
      | exact ih1 _ _ _ _
      | exact LeO.none _
      | refine LeO.ite ?_ ?_
      | refine LeO.bind ?_ (fun _ => ?_)
set_option maxHeartbeats 8000000 in
set_option maxRecDepth 100000 in
theorem num_Le.calls (k : Nat) (a0 : Int) (a1 : Int) (r1 : ByteArray) (r2 : Int) (w : World) (h : num_Le.f k a0 a1 = some (r1, r2)) :
    Calls Try.prog 91 #[.int .u64 a0, .int .i64 a1] w fun e w' => e = .returned (.tuple #[.string r1, .int .i64 r2]) ∧ Below w.heap.size w w' := by
  have HB := Aside0.mk (Below.refl w.heap.size w)
  have H : (if a1 < 1 then (num_Le.j0 k a0 a1 true) else (if a1 > 8 then (num_Le.j0 k a0 a1 true) else ((num_most.f a0 a1).bind fun t101 => (num_Le.j0 k a0 a1 (!t101))))) = some (r1, r2) := h
  clear h
  have HC3 := Aside0.mk H
  clear H
  go_enter Try.func91, Try.ntmps91
  go_upto_region 1 with (fail)
  go_cut [19] (fun v19 wc => ∃ (kq : Nat) (x19_2 : Bool), v19 = .bool x19_2 ∧ Aside0 (num_Le.j0 kq a0 a1 x19_2 = some (r1, r2)) ∧ Aside0 (kq ≤ k) ∧ Aside0 (Below w.heap.size w wc))
  case first =>
    have H := HC3.out
    clear HC3
    by_cases c4 : a1 < 1
    · rw [if_pos c4] at H
      have c4b0 : decide (a1 < 1) = true := decide_eq_true c4
      clear c4
      (first | rw [c4b0] | (simp only [i64_w, i32_w]; rw [c4b0]) | skip)
      have H' := Aside0.mk H
      clear H
      go_wp2
      go_meet
      case rel => exact ⟨_, (true), (by first | rfl | (simp; done) | (simp [*]; done)), H', ⟨by first | omega | exact Nat.le_refl _⟩, ⟨by repeat (first | (with_reducible first | exact HB.out | apply below_alloc | apply pw_below_drewN | apply below_drew1) | exact HB.out)⟩⟩
    · rw [if_neg c4] at H
      have c4b0 : decide (a1 < 1) = false := decide_eq_false c4
      clear c4
      (first | rw [c4b0] | (simp only [i64_w, i32_w]; rw [c4b0]) | skip)
      by_cases c5 : a1 > 8
      · rw [if_pos c5] at H
        have c5b0 : decide (8 < a1) = true := decide_eq_true c5
        clear c5
        have H' := Aside0.mk H
        clear H
        go_wp2
        go_meet
        case rel => exact ⟨_, (true), (by first | rfl | (simp; done) | (simp [*]; done)), H', ⟨by first | omega | exact Nat.le_refl _⟩, ⟨by repeat (first | (with_reducible first | exact HB.out | apply below_alloc | apply pw_below_drewN | apply below_drew1) | exact HB.out)⟩⟩
      · rw [if_neg c5] at H
        have c5b0 : decide (8 < a1) = false := decide_eq_false c5
        clear c5
        replace H := Option.bind_eq_some_iff.mp H
        obtain ⟨t101, A60, H⟩ := H
        replace H : (num_Le.j0 k a0 a1 (!t101)) = some (r1, r2) := H
        have A6 := Aside0.mk A60
        clear A60
        have H' := Aside0.mk H
        clear H
        go_wp2_with (first | (go_at_call 95; (with_reducible refine (num_most.calls a0 a1 t101 _ A6.out).mono ?_); rintro e w' ⟨rfl, ⟨nd, rfl⟩⟩))
        go_meet
        case rel => exact ⟨_, (!t101), (by first | rfl | (simp; done) | (simp [*]; done)), H', ⟨by first | omega | exact Nat.le_refl _⟩, ⟨by repeat (first | (with_reducible first | exact HB.out | apply below_alloc | apply pw_below_drewN | apply below_drew1) | exact HB.out)⟩⟩
  case rest =>
    clear HC3
    try clear p2
    try clear c4
    try clear c4b0
    try clear c5
    try clear c5b0
    obtain ⟨kq, x19_2, rfl, HA, HJ2, HB⟩ := hcut
    cases kq with
    | zero => exact absurd HA.out (by simp [num_Le.j0])
    | succ kj2 =>
      have H := HA.out
      clear HA
      simp only [num_Le.j0] at H
      by_cases c7 : x19_2 = true
      · subst c7
        have H1 : (some ((⟨#[]⟩ : ByteArray), 100)) = some (r1, r2) := by rw [if_pos rfl] at H; exact H
        clear H
        have H := H1
        clear H1
        simp only [Option.some.injEq, Prod.mk.injEq] at H
        obtain ⟨rfl, rfl⟩ := H
        go_wp2
        go_ret2
        exact ⟨by first | rfl | (simp [errW_none, errW_some] <;> rfl) | (simp [*, errW_none, errW_some] <;> rfl), by repeat (first | (with_reducible first | exact HB.out | apply below_alloc | apply pw_below_drewN | apply below_drew1) | exact HB.out)⟩
      · replace c7 := Bool.eq_false_iff.mpr c7
        subst c7
        have H1 : (if 0 ≤ a1 then (if (a1 : Int).toNat ≤ 281474976710656 then ((some (List.replicate (a1 : Int).toNat 0 : List Int)).bind fun y102 => (num_Le.l0 kj2 a0 y102 (y102.length : Int) 0)) else (none)) else (none)) = some (r1, r2) := by rw [if_neg (show ¬ (false = true) by decide)] at H; exact H
        clear H
        have H := H1
        clear H1
        by_cases c8 : 0 ≤ a1
        · rw [if_pos c8] at H
          have c8b0 := eq_true c8
          have c8b1 : decide (0 ≤ a1) = true := decide_eq_true c8
          clear c8
          by_cases c9 : (a1 : Int).toNat ≤ 281474976710656
          · rw [if_pos c9] at H
            have c9b0 := eq_true c9
            have c9b1 : decide ((a1 : Int).toNat ≤ 281474976710656) = true := decide_eq_true c9
            clear c9
            obtain ⟨y102, hy102⟩ : ∃ y_ : List Int, y_ = (List.replicate (a1 : Int).toNat 0) := ⟨_, rfl⟩
            replace H : (num_Le.l0 kj2 a0 y102 (y102.length : Int) 0) = some (r1, r2) := by first | (rw [hy102]; with_reducible exact H) | (have H2_ := (Option.bind_some _ _).symm.trans H; rw [hy102]; with_reducible exact H2_) | (have H2_ := (Option.bind_some _ _).symm.trans H; with_reducible exact H2_) | with_reducible exact H | (rw [hy102]; exact H) | exact H
            have Ny102 := Aside0.mk hy102
            clear hy102
            have H' := Aside0.mk H
            clear H
            go_wp2_with (first | ((with_reducible refine gate_dst (N := 21) rfl ?_); refine Kd.R_make (Kd.int .u8) _ 5 rfl (N := 21) rfl 79 _ _ rfl a1 rfl rfl Try.underlying79 (.int .u8 0) 1 info5 rfl (by decide) (by omega) 0 (ok := fun _ => True) (okp := fun _ => True) rfl (fun _ hk => hk) trivial (of_decide_eq_true (by first | (with_reducible assumption) | assumption)) (Nat.le_trans (Nat.mul_le_mul_right _ (of_decide_eq_true (by first | (with_reducible assumption) | assumption) : a1.toNat ≤ 281474976710656)) (by omega)) (Below.refl _ _) (Nat.le_refl _) ?_; intro v103 w10 ho11 hb hg_ hnew_; clear hg_ hnew_; (first | rw [← Ny102.out] at ho11 | (simp only [Int.reduceToNat] at ho11; rw [← Ny102.out] at ho11)); have n0_ := Aside0.mk (Kd.R_lower ho11 (below_size (by repeat (first | (with_reducible first | exact HB.out | apply below_alloc | apply pw_below_drewN | apply below_drew1) | exact HB.out)))); have n1_ := Aside0.mk (below_step (by repeat (first | (with_reducible first | exact HB.out | apply below_alloc | apply pw_below_drewN | apply below_drew1) | exact HB.out)) hb); clear HB; have HO104 := n0_; have HB := n1_; clear n0_ n1_; clear hb ho11; obtain ⟨Ao12, co12, eo12⟩ := Kd.R_slice HO104.out; subst eo12))
            go_loopg [24] kj2 (fun kq v24 w' => ∃ (x6_2 : List Int) (x24_2 : Int), v24 = .int .i64 x24_2 ∧ Aside0 (num_Le.l0 kq a0 x6_2 (y102.length : Int) x24_2 = some (r1, r2)) ∧ Aside0 (kq ≤ kj2) ∧ Aside0 (Kd.R (Kd.int .u8) 5 w' w.heap.size (fun _ => True) (.slice Ao12 y102.length co12) x6_2) ∧ Aside0 (Below w.heap.size w w'))
            case atStart => exact ⟨(y102), (0), (by first | rfl | (simp; done) | (simp [*]; done)), H', ⟨Nat.le_refl _⟩, ⟨by (with_reducible repeat (first | apply Kd.R_alloc | apply Kd.R_drewN | apply Kd.R_drew)); exact HO104.out⟩, ⟨by repeat (first | (with_reducible first | exact HB.out | apply below_alloc | apply pw_below_drewN | apply below_drew1) | exact HB.out)⟩⟩
            case round =>
              clear H'
              try clear p2
              try clear c4
              try clear c4b0
              try clear c5
              try clear c5b0
              try clear c7
              try clear c8
              try clear c8b0
              try clear c8b1
              try clear c9
              try clear c9b0
              try clear c9b1
              try clear p2
              obtain ⟨x6_2, x24_2, rfl, HA, HK2, HO_6, HB⟩ := hrel
              have hl6_2 := (Kd.R_reads' HO_6.out).1
              rw [hl6_2] at HO_6
              (try simp only [hl6_2])
              cases gk with
              | zero => exact absurd HA.out (by simp [num_Le.l0])
              | succ k2 =>
                have H := HA.out
                clear HA
                simp only [num_Le.l0] at H
                by_cases c13 : x24_2 < (y102.length : Int)
                · rw [if_pos c13] at H
                  have c13b0 : decide (x24_2 < (y102.length : Int)) = true := decide_eq_true c13
                  clear c13
                  obtain ⟨ji14, hji14⟩ : ∃ j_ : Int, (wrap64 (8 * x24_2)) = j_ := ⟨_, rfl⟩
                  replace H : (if 0 ≤ (ji14) then (if 0 ≤ x24_2 then (if x24_2 < (x6_2.length : Int) then (num_Le.l0 k2 a0 (x6_2.set (x24_2 : Int).toNat ((shr .u64 a0 (ji14)) % 256)) (y102.length : Int) (wrap64 (x24_2 + 1))) else (none)) else (none)) else (none)) = some (r1, r2) := by first | (rw [hji14] at H; exact H) | (simp only [hji14] at H ⊢; exact H)
                  have hji14w : (IntKind.i64.wrap (8 * x24_2)) = ji14 := (i64_w _).trans hji14
                  by_cases c15 : 0 ≤ (ji14)
                  · rw [if_pos c15] at H
                    have c15b0 := eq_true c15
                    have c15b1 : decide (0 ≤ (ji14)) = true := decide_eq_true c15
                    clear c15
                    obtain ⟨ji16, hji16⟩ : ∃ j_ : Int, (shr .u64 a0 (ji14)) = j_ := ⟨_, rfl⟩
                    replace H : (if 0 ≤ x24_2 then (if x24_2 < (x6_2.length : Int) then (num_Le.l0 k2 a0 (x6_2.set (x24_2 : Int).toNat ((ji16) % 256)) (y102.length : Int) (wrap64 (x24_2 + 1))) else (none)) else (none)) = some (r1, r2) := by first | (rw [hji16] at H; exact H) | (simp only [hji16] at H ⊢; exact H)
                    have hji16_ : (a0 / 2 ^ min (ji14).toNat 64) = ji16 := hji16
                    have hji16z : (ji14) ≤ 64 → (a0 / 2 ^ (ji14).toNat) = ji16 := shr_small hji16
                    by_cases c17 : 0 ≤ x24_2
                    · rw [if_pos c17] at H
                      have c17b0 : decide (0 ≤ x24_2) = true := decide_eq_true c17
                      clear c17
                      by_cases c18 : x24_2 < (x6_2.length : Int)
                      · rw [if_pos c18] at H
                        have c18b0 : decide (x24_2 < (x6_2.length : Int)) = true := decide_eq_true c18
                        clear c18
                        obtain ⟨y105, hy105⟩ : ∃ y_ : List Int, y_ = (x6_2.set (x24_2 : Int).toNat ((ji16) % 256)) := ⟨_, rfl⟩
                        replace H : (num_Le.l0 k2 a0 y105 (y102.length : Int) (wrap64 (x24_2 + 1))) = some (r1, r2) := by first | (rw [hy105]; with_reducible exact H) | (have H2_ := (Option.bind_some _ _).symm.trans H; rw [hy105]; with_reducible exact H2_) | (have H2_ := (Option.bind_some _ _).symm.trans H; with_reducible exact H2_) | with_reducible exact H | (rw [hy105]; exact H) | exact H
                        have Ny105 := Aside0.mk hy105
                        clear hy105
                        have H' := Aside0.mk H
                        clear H
                        have p19 : 0 ≤ (x24_2 : Int) := of_decide_eq_true (by first | (with_reducible assumption) | assumption)
                        have q19 : (x24_2 : Int) < ((x6_2.length : Int) : Int) := of_decide_eq_true (by first | (with_reducible assumption) | assumption)
                        obtain ⟨go19, co19, eo19, gb19, gl19, cl19, HG19⟩ := Kd.R_form HO_6.out (by omega)
                        (first | cases eo19 | (injection eo19 with ea_ en_ ec_; (first | subst ea_ | (injection ea_ with ea_; subst ea_)); subst ec_; clear en_))
                        have GB19 := Aside0.mk gb19
                        have GG19 := Aside0.mk HG19
                        clear gb19 gl19 HG19
                        obtain ⟨hx19_0, hf19_0⟩ := Kd.R_celln 0 HO_6.out (x24_2 : Int) p19 q19
                        replace p19 := eq_true p19
                        replace q19 := eq_true q19
                        have HP20 := Kd.R_putg HO_6.out (x24_2 : Int) ((ji16) % 256)
                        go_wp2_with (first | ((with_reducible refine gate_store (t := 5) (p := 34) rfl ?_); refine store_event (t := 5) (p := 34) (v := ?vo_w21) (w1 := (wr.setCell ⟨go19, (x24_2 : Int).toNat, none⟩ (.int .u8 ((ji16) % 256)))) ?hg ?ho ?hn ?hr ?_; (case ho => rfl); (case hg => rfl); (case hn => rfl); (case hr => first | (go_simp; done) | (go_simp; rfl)); intro w21 hw; have hg : wr.grownBy w21 (some go19) := (by rw [hw]; exact HP20.2); have hp_ : Kd.R (Kd.int .u8) 5 w21 w.heap.size (fun _ => True) (.slice (some ⟨go19, 0, none⟩) x6_2.length co12) y105 := (by rw [hw, Ny105.out]; exact HP20.1); clear HP20; have n0_ := Aside0.mk (hp_); have n1_ := Aside0.mk ((by rw [hw]; exact below_set (HB.out) GB19.out : Below w.heap.size w w21)); clear HO_6; clear HB; have HO_6 := n0_; have HB := n1_; clear n0_ n1_; clear hg hw hp_))
                        (try simp only [← hl6_2])
                        go_roundg k2
                        case measure => have := HJ2.out; have := HK2.out; omega
                        case rel => exact ⟨(y105), (wrap64 (x24_2 + 1)), (by first | rfl | (simp; done) | (simp [*]; done)), H', ⟨by have := HJ2.out; have := HK2.out; omega⟩, ⟨by (try simp only [hl6_2]); (with_reducible repeat (first | apply Kd.R_alloc | apply Kd.R_drewN | apply Kd.R_drew)); exact HO_6.out⟩, ⟨by repeat (first | (with_reducible first | exact HB.out | apply below_alloc | apply pw_below_drewN | apply below_drew1) | exact HB.out)⟩⟩
                      · rw [if_neg c18] at H
                        exact absurd H (by simp)
                    · rw [if_neg c17] at H
                      exact absurd H (by simp)
                  · rw [if_neg c15] at H
                    exact absurd H (by simp)
                · rw [if_neg c13] at H
                  have c13b0 : decide (x24_2 < (y102.length : Int)) = false := decide_eq_false c13
                  clear c13
                  simp only [Option.some.injEq, Prod.mk.injEq] at H
                  obtain ⟨rfl, rfl⟩ := H
                  have hcv22 := own_string (P := Try.prog) Try.underlying79 Try.underlying5 Try.underlying9 (Kd.own_of_R HO_6.out)
                  have c13b1 : decide (x24_2 < (x6_2.length : Int)) = false := by rw [← hl6_2]; exact c13b0
                  go_wp2
                  go_ret2
                  exact ⟨by first | rfl | (simp [errW_none, errW_some] <;> rfl) | (simp [*, errW_none, errW_some] <;> rfl), by repeat (first | (with_reducible first | exact HB.out | apply below_alloc | apply pw_below_drewN | apply below_drew1) | exact HB.out)⟩
          · rw [if_neg c9] at H
            exact absurd H (by simp)
        · rw [if_neg c8] at H
          exact absurd H (by simp)

end Go.Proofs.Ytibcadfpengacaa.PLe

-- POfLex0
namespace Go.Proofs.Ytibcadfpengacaa.POfLe
open Go.RowKit Go.Proofs.YtibcadfpengacaaW.PrintWords Go.Proofs.YtibcadfpengacaaW.PrintLast Go.Proofs.YtibcadfpengacaaW.PrintMore
attribute [local go_sem] max2_int min2_int max_two min_two max_three min_three max_four min_four   -- for this text's walks alone
set_option linter.unusedVariables false
set_option linter.unusedSimpArgs false



def errW : Option Int → Value
  | none => .nilIface
  | some c => .iface 0 (.int .i64 c)
theorem errW_none : errW none = .nilIface := rfl
theorem errW_some (c : Int) : errW (some c) = .iface 0 (.int .i64 c) := rfl

-- the values' own types

end Go.Proofs.Ytibcadfpengacaa.POfLe

-- POfLex1
namespace Go.Proofs.Ytibcadfpengacaa.POfLe
open Go.RowKit Go.Proofs.YtibcadfpengacaaW.PrintWords Go.Proofs.YtibcadfpengacaaW.PrintLast Go.Proofs.YtibcadfpengacaaW.PrintMore
attribute [local go_sem] max2_int min2_int max_two min_two max_three min_three max_four min_four   -- for this text's walks alone
set_option linter.unusedVariables false
set_option linter.unusedSimpArgs false

/-! ### num_OfLe: function 102 -/
mutual
def num_OfLe.j0 : Nat → ByteArray → Bool → Option (Int × Int)
  | 0, _, _ => none
  | k + 1, x0, x13 => if x13 = true then (some (0, 100)) else (num_OfLe.l0 k x0 0 (x0.size : Int) 0)
def num_OfLe.l0 : Nat → ByteArray → Int → Int → Int → Option (Int × Int)
  | 0, _, _, _, _ => none
  | k + 1, x0, x4, x15, x16 => if x16 < x15 then (if 0 ≤ x16 then (if x16 < (x0.size : Int) then (if 0 ≤ (wrap64 (8 * x16)) then (num_OfLe.l0 k x0 (Go.bits .or .u64 x4 (shl .u64 (IntKind.u64.wrap (bt x0 x16)) (wrap64 (8 * x16)))) x15 (wrap64 (x16 + 1))) else (none)) else (none)) else (none)) else (some (x4, 0))
end
def num_OfLe.f (k : Nat) (a0 : ByteArray) : Option (Int × Int) := if (a0.size : Int) < 1 then (num_OfLe.j0 k a0 true) else (num_OfLe.j0 k a0 (decide ((a0.size : Int) > 8)))
theorem num_OfLe.mono_l : ∀ k, (∀ y0 y1, LeO (num_OfLe.j0 k y0 y1) (num_OfLe.j0 (k + 1) y0 y1)) ∧ (∀ y0 y1 y2 y3, LeO (num_OfLe.l0 k y0 y1 y2 y3) (num_OfLe.l0 (k + 1) y0 y1 y2 y3))
  | 0 => ⟨fun _ _ r h => by simp [num_OfLe.j0] at h, fun _ _ _ _ r h => by simp [num_OfLe.l0] at h⟩
  | k + 1 => by
    obtain ⟨ih0, ih1⟩ := num_OfLe.mono_l k
    refine ⟨?_, ?_⟩
    · intro y0 y1
      unfold num_OfLe.j0
      repeat' first
      | (with_reducible exact ih0 _ _)
      | (with_reducible exact ih1 _ _ _ _)
      | (with_reducible exact LeO.refl _)
      | (with_reducible exact LeO.none _)
      | (with_reducible refine LeO.ite ?_ ?_)
      | (with_reducible refine LeO.bind ?_ (fun _ => ?_))
      | exact ih0 _ _
      | exact ih1 _ _ _ _
      | exact LeO.none _
      | refine LeO.ite ?_ ?_
      | refine LeO.bind ?_ (fun _ => ?_)
    · intro y0 y1 y2 y3
      unfold num_OfLe.l0
      repeat' first
      | (with_reducible exact ih0 _ _)
      | (with_reducible exact ih1 _ _ _ _)
      | (with_reducible exact LeO.refl _)
      | (with_reducible exact LeO.none _)
      | (with_reducible refine LeO.ite ?_ ?_)
      | (with_reducible refine LeO.bind ?_ (fun _ => ?_))
      | exact ih0 _ _
      | exact ih1 _ _ _ _
      | exact LeO.none _
      | refine LeO.ite ?_ ?_
      | refine LeO.bind ?_ (fun _ => ?_)
theorem num_OfLe.mono : ∀ a0 k, LeO (num_OfLe.f k a0) (num_OfLe.f (k + 1) a0) := by
  intro a0 k
  obtain ⟨ih0, ih1⟩ := num_OfLe.mono_l k
  unfold num_OfLe.f
  repeat' first
      | (with_reducible exact ih0 _ _)
      | (with_reducible exact ih1 _ _ _ _)
      | (with_reducible exact LeO.refl _)
      | (with_reducible exact LeO.none _)
      | (with_reducible refine LeO.ite ?_ ?_)
      | (with_reducible refine LeO.bind ?_ (fun _ => ?_))
      | exact ih0 _ _
      | exact ih1 _ _ _ _
      | exact LeO.none _
      | refine LeO.ite ?_ ?_
      | refine LeO.bind ?_ (fun _ => ?_)
set_option maxHeartbeats 8000000 in
set_option maxRecDepth 100000 in
theorem num_OfLe.calls (k : Nat) (a0 : ByteArray) (r1 : Int) (r2 : Int) (w : World) (h : num_OfLe.f k a0 = some (r1, r2)) :
    Calls Try.prog 102 #[.string a0] w fun e w' => e = .returned (.tuple #[.int .u64 r1, .int .i64 r2]) ∧ Drawn0 w w' := by
  have H : (if (a0.size : Int) < 1 then (num_OfLe.j0 k a0 true) else (num_OfLe.j0 k a0 (decide ((a0.size : Int) > 8)))) = some (r1, r2) := h
  clear h
  have HC2 := Aside0.mk H
  clear H
  go_enter Try.func102, Try.ntmps102
  go_upto_region 1 with (fail)
  go_cut [13] (fun v13 wc => ∃ (kq : Nat) (x13_1 : Bool), v13 = .bool x13_1 ∧ Aside0 (num_OfLe.j0 kq a0 x13_1 = some (r1, r2)) ∧ Aside0 (kq ≤ k) ∧ Drawn0 w wc)
  case first =>
    have H := HC2.out
    clear HC2
    by_cases c3 : (a0.size : Int) < 1
    · rw [if_pos c3] at H
      have c3b0 : decide ((a0.size : Int) < 1) = true := decide_eq_true c3
      have c3b1 : decide (a0.size < 1) = true := decide_eq_true (by omega)
      clear c3
      (first | rw [c3b0] | (simp only [i64_w, i32_w]; rw [c3b0]) | skip)
      have H' := Aside0.mk H
      clear H
      go_wp2
      go_meet
      case rel => exact ⟨_, (true), (by first | rfl | (simp; done) | (simp [*]; done)), H', ⟨by first | omega | exact Nat.le_refl _⟩, by repeat (first | exact Drawn0.refl _ | apply Drawn0.step)⟩
    · rw [if_neg c3] at H
      have c3b0 : decide ((a0.size : Int) < 1) = false := decide_eq_false c3
      have c3b1 : decide (a0.size < 1) = false := decide_eq_false (by omega)
      clear c3
      (first | rw [c3b0] | (simp only [i64_w, i32_w]; rw [c3b0]) | skip)
      have H' := Aside0.mk H
      clear H
      go_wp2
      go_meet
      case rel => exact ⟨_, (decide ((a0.size : Int) > 8)), (by first | rfl | (simp; done) | (simp [*]; done)), H', ⟨by first | omega | exact Nat.le_refl _⟩, by repeat (first | exact Drawn0.refl _ | apply Drawn0.step)⟩
  case rest =>
    clear HC2
    try clear c1
    try clear p2
    try clear c3
    try clear c3b0
    try clear c3b1
    obtain ⟨kq, x13_1, rfl, HA, HJ1, ⟨mc1, rfl⟩⟩ := hcut
    cases kq with
    | zero => exact absurd HA.out (by simp [num_OfLe.j0])
    | succ kj1 =>
      have H := HA.out
      clear HA
      simp only [num_OfLe.j0] at H
      by_cases c4 : x13_1 = true
      · subst c4
        have H1 : (some (0, 100)) = some (r1, r2) := by rw [if_pos rfl] at H; exact H
        clear H
        have H := H1
        clear H1
        simp only [Option.some.injEq, Prod.mk.injEq] at H
        obtain ⟨rfl, rfl⟩ := H
        go_wp2
        go_ret2
        exact ⟨by first | rfl | (simp; done) | (simp [*]; done), by repeat (first | exact Drawn0.refl _ | apply Drawn0.step)⟩
      · replace c4 := Bool.eq_false_iff.mpr c4
        subst c4
        have H1 : (num_OfLe.l0 kj1 a0 0 (a0.size : Int) 0) = some (r1, r2) := by rw [if_neg (show ¬ (false = true) by decide)] at H; exact H
        clear H
        have H := H1
        clear H1
        have H' := Aside0.mk H
        clear H
        go_wp2
        go_loopg [4, 16] kj1 (fun kq v4 v16 w' => ∃ (x4_2 : Int) (x16_2 : Int), v4 = .int .u64 x4_2 ∧ v16 = .int .i64 x16_2 ∧ Aside0 (num_OfLe.l0 kq a0 x4_2 (a0.size : Int) x16_2 = some (r1, r2)) ∧ Aside0 (kq ≤ kj1) ∧ Drawn0 w w')
        case atStart => exact ⟨(0), (0), (by first | rfl | (simp; done) | (simp [*]; done)), (by first | rfl | (simp; done) | (simp [*]; done)), H', ⟨Nat.le_refl _⟩, by repeat (first | exact Drawn0.refl _ | apply Drawn0.step)⟩
        case round =>
          clear H'
          try clear c1
          try clear p2
          try clear c3
          try clear c3b0
          try clear c3b1
          try clear c4
          try clear p2
          obtain ⟨x4_2, x16_2, rfl, rfl, HA, HK2, ⟨m2, rfl⟩⟩ := hrel
          cases gk with
          | zero => exact absurd HA.out (by simp [num_OfLe.l0])
          | succ k2 =>
            have H := HA.out
            clear HA
            simp only [num_OfLe.l0] at H
            by_cases c5 : x16_2 < (a0.size : Int)
            · rw [if_pos c5] at H
              have c5b0 : decide (x16_2 < (a0.size : Int)) = true := decide_eq_true c5
              clear c5
              by_cases c6 : 0 ≤ x16_2
              · rw [if_pos c6] at H
                have c6b0 : decide (0 ≤ x16_2) = true := decide_eq_true c6
                clear c6
                by_cases c7 : x16_2 < (a0.size : Int)
                · rw [if_pos c7] at H
                  have c7b0 : decide (x16_2 < (a0.size : Int)) = true := decide_eq_true c7
                  clear c7
                  obtain ⟨ji9, hji9⟩ : ∃ j_ : Int, (wrap64 (8 * x16_2)) = j_ := ⟨_, rfl⟩
                  replace H : (if 0 ≤ (ji9) then (num_OfLe.l0 k2 a0 (Go.bits .or .u64 x4_2 (shl .u64 (IntKind.u64.wrap (bt a0 x16_2)) (ji9))) (a0.size : Int) (wrap64 (x16_2 + 1))) else (none)) = some (r1, r2) := by first | (rw [hji9] at H; exact H) | (simp only [hji9] at H ⊢; exact H)
                  have hji9w : (IntKind.i64.wrap (8 * x16_2)) = ji9 := (i64_w _).trans hji9
                  by_cases c10 : 0 ≤ (ji9)
                  · rw [if_pos c10] at H
                    have c10b0 := eq_true c10
                    have c10b1 : decide (0 ≤ (ji9)) = true := decide_eq_true c10
                    clear c10
                    obtain ⟨ji11, hji11⟩ : ∃ j_ : Int, (shl .u64 (IntKind.u64.wrap (bt a0 x16_2)) (ji9)) = j_ := ⟨_, rfl⟩
                    replace H : (num_OfLe.l0 k2 a0 (Go.bits .or .u64 x4_2 (ji11)) (a0.size : Int) (wrap64 (x16_2 + 1))) = some (r1, r2) := by first | (rw [hji11] at H; exact H) | (simp only [hji11] at H ⊢; exact H)
                    have hji11_ : (IntKind.u64.wrap ((IntKind.u64.wrap (bt a0 x16_2)) * 2 ^ min (ji9).toNat 64)) = ji11 := hji11
                    have hji11z : (ji9) ≤ 64 → (IntKind.u64.wrap ((IntKind.u64.wrap (bt a0 x16_2)) * 2 ^ (ji9).toNat)) = ji11 := shl_small hji11
                    have H' := Aside0.mk H
                    clear H
                    have p8 : 0 ≤ (x16_2 : Int) := of_decide_eq_true (by first | (with_reducible assumption) | assumption)
                    have q8 : x16_2 < (a0.size : Int) := of_decide_eq_true (by first | (with_reducible assumption) | assumption)
                    have hx8 := bt_at a0 x16_2
                    replace p8 := eq_true p8
                    replace q8 := eq_true q8
                    go_wp2
                    go_roundg k2
                    case measure => have := HJ1.out; have := HK2.out; omega
                    case rel => exact ⟨(Go.bits .or .u64 x4_2 (ji11)), (wrap64 (x16_2 + 1)), (by first | rfl | (simp; done) | (simp only [← hji11] <;> (first | rfl | simp)) | (simp [*]; done)), (by first | rfl | (simp; done) | (simp [*]; done)), H', ⟨by have := HJ1.out; have := HK2.out; omega⟩, by repeat (first | exact Drawn0.refl _ | apply Drawn0.step)⟩
                  · rw [if_neg c10] at H
                    exact absurd H (by simp)
                · rw [if_neg c7] at H
                  exact absurd H (by simp)
              · rw [if_neg c6] at H
                exact absurd H (by simp)
            · rw [if_neg c5] at H
              have c5b0 : decide (x16_2 < (a0.size : Int)) = false := decide_eq_false c5
              clear c5
              simp only [Option.some.injEq, Prod.mk.injEq] at H
              obtain ⟨rfl, rfl⟩ := H
              go_wp2
              go_ret2
              exact ⟨by first | rfl | (simp; done) | (simp [*]; done), by repeat (first | exact Drawn0.refl _ | apply Drawn0.step)⟩

end Go.Proofs.Ytibcadfpengacaa.POfLe

-- Num
namespace Go.Proofs.Ytibcadfpengacaa
open Go.RowKit Go.Proofs.YtibcadfpengacaaW.PrintWords Go.Proofs.YtibcadfpengacaaW.PrintLast Go.Proofs.YtibcadfpengacaaW.PrintMore Go.Proofs.Ytibcadfpengacaa.PLe Go.Proofs.Ytibcadfpengacaa.POfLe

/-- A number's n lowest bytes, the lowest first. -/
def leB (x : Nat) : Nat → List UInt8
  | 0 => []
  | n + 1 => UInt8.ofNat (x % 256) :: leB (x / 256) n
/-- The number of bytes, the lowest first. -/
def ofLe : List UInt8 → Nat
  | [] => 0
  | b :: l => b.toNat + 256 * ofLe l

theorem leB_length (n : Nat) : ∀ x, (leB x n).length = n := by
  induction n with
  | zero => intro x; rfl
  | succ n ih => intro x; simp [leB, ih]
theorem ofLe_leB (n : Nat) : ∀ x, x < 256 ^ n → ofLe (leB x n) = x := by
  induction n with
  | zero => intro x h; simp at h; simp [leB, ofLe, h]
  | succ n ih =>
    intro x h
    have h2 : x / 256 < 256 ^ n := by rw [Nat.pow_succ] at h; omega
    simp only [leB, ofLe, ih _ h2]
    rw [UInt8.toNat_ofNat', Nat.mod_eq_of_lt (by omega : x % 256 < 2 ^ 8)]
    omega
theorem leB_ofLe (l : List UInt8) : leB (ofLe l) l.length = l := by
  induction l with
  | nil => rfl
  | cons b l ih =>
    have hb := b.toNat_lt
    have e1 : (b.toNat + 256 * ofLe l) % 256 = b.toNat := by omega
    have e2 : (b.toNat + 256 * ofLe l) / 256 = ofLe l := by omega
    simp only [List.length_cons, leB, ofLe, e1, e2, ih, UInt8.ofNat_toNat]
theorem ofLe_lt (l : List UInt8) : ofLe l < 256 ^ l.length := by
  induction l with
  | nil => decide
  | cons b l ih =>
    have hb := b.toNat_lt
    simp only [List.length_cons, ofLe, Nat.pow_succ]
    omega

theorem u64_wrap (n : Int) : IntKind.u64.wrap n = n % 18446744073709551616 := by simp [IntKind.wrap, IntKind.bits, IntKind.signed]
theorem u32_wrap (n : Int) : IntKind.u32.wrap n = n % 4294967296 := by simp [IntKind.wrap, IntKind.bits, IntKind.signed]

theorem shr_byte (x i : Nat) (hi : i < 8) : shr .u64 (x : Int) (wrap64 (8 * (i : Int))) = ((x / 256 ^ i : Nat) : Int) := by
  have hw : wrap64 (8 * (i : Int)) = ((8 * i : Nat) : Int) := by unfold wrap64; omega
  rw [hw]
  unfold shr
  have hb : IntKind.u64.bits = 64 := rfl
  rw [Int.toNat_natCast, hb, Nat.min_eq_left (by omega), show (256 : Nat) = 2 ^ 8 from rfl, ← Nat.pow_mul]
  simp

def digs (x : Nat) (i d : Nat) : List Int := (List.range' i d).map fun j => ((x / 256 ^ j % 256 : Nat) : Int)

theorem le_loop (x n : Nat) (hn : n ≤ 8) (d : Nat) : ∀ (k i : Nat) (ys zs : List Int), i + d = n → d < k → ys.length = i → zs.length = d →
    num_Le.l0 k (x : Int) (ys ++ zs) (n : Int) (i : Int) = some (strOfNums (ys ++ digs x i d), 0) := by
  induction d with
  | zero =>
    intro k i ys zs h1 h2 h3 h4
    obtain ⟨k, rfl⟩ : ∃ m, k = m + 1 := ⟨k - 1, by omega⟩
    simp only [num_Le.l0]
    rw [if_neg (by omega), List.eq_nil_of_length_eq_zero h4]
    rfl
  | succ d ih =>
    intro k i ys zs h1 h2 h3 h4
    obtain ⟨k, rfl⟩ : ∃ m, k = m + 1 := ⟨k - 1, by omega⟩
    cases zs with
    | nil => simp at h4
    | cons z zs =>
      have hl : (ys ++ z :: zs).length = n := by simp at h4 ⊢; omega
      have hw1 : wrap64 ((i : Int) + 1) = ((i + 1 : Nat) : Int) := by unfold wrap64; omega
      have hw8 : 0 ≤ wrap64 (8 * (i : Int)) := by unfold wrap64; omega
      simp only [num_Le.l0]
      rw [if_pos (by omega), if_pos hw8, if_pos (by omega), if_pos (by rw [hl]; omega), shr_byte x i (by omega), hw1, Int.toNat_natCast]
      have hset : (ys ++ z :: zs).set i (((x / 256 ^ i : Nat) : Int) % 256) = (ys ++ [((x / 256 ^ i % 256 : Nat) : Int)]) ++ zs := by
        rw [← h3, List.set_append_right _ _ (Nat.le_refl _)]
        simp
      rw [hset, ih k (i + 1) (ys ++ [((x / 256 ^ i % 256 : Nat) : Int)]) zs (by omega) (by omega) (by simp; omega) (by simpa using h4)]
      simp [digs, List.range'_succ]

theorem digs_leB (x : Nat) (d : Nat) : ∀ i, (digs x i d).map (fun n : Int => UInt8.ofNat n.toNat) = leB (x / 256 ^ i) d := by
  induction d with
  | zero => intro i; rfl
  | succ d ih =>
    intro i
    have h := ih (i + 1)
    unfold digs at h ⊢
    rw [List.range'_succ, List.map_cons, List.map_cons, h, leB, Int.toNat_natCast, Nat.pow_succ, Nat.div_div_eq_div_mul]

/-- What num.Le answers. -/
def leS (x n : Nat) : ByteArray := ⟨(leB x n).toArray⟩
theorem leS_size (x n : Nat) : (leS x n).size = n := by
  show (leB x n).toArray.size = n
  rw [List.size_toArray, leB_length]

theorem le_f (x n : Nat) (h1 : 1 ≤ n) (h8 : n ≤ 8) (hx : x < 256 ^ 8) : num_Le.f (n + 3) (x : Int) (n : Int) = if x < 256 ^ n then some (leS x n, 0) else some (⟨#[]⟩, 100) := by
  have hm : num_most.f (x : Int) (n : Int) = some (decide (x < 256 ^ n)) := by
    unfold num_most.f
    by_cases h : n = 8
    · subst h
      rw [if_pos (by omega), decide_eq_true hx]
    · rw [if_neg (by omega), if_pos (by unfold wrap64; omega), shr_byte x n (by omega)]
      have hp : 0 < 256 ^ n := Nat.pow_pos (by decide)
      congr 1
      rw [Bool.eq_iff_iff, beq_iff_eq, decide_eq_true_iff]
      constructor
      · intro h
        have h' : x / 256 ^ n = 0 := by omega
        exact (Nat.div_eq_zero_iff.1 h').resolve_left (by omega)
      · intro h
        rw [Nat.div_eq_of_lt h]
        rfl
  unfold num_Le.f
  rw [if_neg (by omega), if_neg (by omega), hm, Option.bind_some]
  by_cases h : x < 256 ^ n
  · rw [if_pos h, decide_eq_true h]
    simp only [num_Le.j0, Bool.not_true, Bool.false_eq_true, if_false]
    rw [if_pos (by omega), Int.toNat_natCast, if_pos (by omega), Option.bind_some, List.length_replicate]
    have := le_loop x n h8 n (n + 2) 0 [] (List.replicate n 0) (by omega) (by omega) rfl (by simp)
    rw [List.nil_append] at this
    rw [show ((0 : Nat) : Int) = 0 from rfl] at this
    rw [this]
    congr 2
    unfold strOfNums leS
    rw [List.nil_append, digs_leB, Nat.pow_zero, Nat.div_one]
  · rw [if_neg h, decide_eq_false h]
    simp only [num_Le.j0, Bool.not_false, if_true]

theorem le_calls (x : Int) (n : Nat) (h1 : 1 ≤ n) (h8 : n ≤ 8) (hx0 : 0 ≤ x) (hx : x < 18446744073709551616) (w : World) :
    Calls Try.prog 91 #[.int .u64 x, .int .i64 n] w fun e w' => e = .returned (.tuple #[.string (if x.toNat < 256 ^ n then leS x.toNat n else ⟨#[]⟩), .int .i64 (if x.toNat < 256 ^ n then 0 else 100)]) ∧ Below w.heap.size w w' := by
  obtain ⟨y, rfl⟩ := Int.eq_ofNat_of_zero_le hx0
  have hf := le_f y n h1 h8 (by omega)
  rw [Int.toNat_natCast]
  by_cases h : y < 256 ^ n
  · rw [if_pos h] at hf ⊢
    rw [if_pos h]
    exact num_Le.calls _ _ _ _ _ w hf
  · rw [if_neg h] at hf ⊢
    rw [if_neg h]
    exact num_Le.calls _ _ _ _ _ w hf

theorem or_add (a b i : Nat) (ha : a < 256 ^ i) (hb : b < 256) (hi : i < 8) : Go.bits .or .u64 (a : Int) ((b * 256 ^ i : Nat) : Int) = ((a + b * 256 ^ i : Nat) : Int) := by
  have hp : (256 : Nat) ^ i = 2 ^ (8 * i) := by rw [Nat.pow_mul]
  have hle : (256 : Nat) ^ (i + 1) ≤ 256 ^ 8 := Nat.pow_le_pow_right (by decide) hi
  have hs : b * 256 ^ i + 256 ^ i ≤ 256 ^ (i + 1) := by
    have : (b + 1) * 256 ^ i ≤ 256 * 256 ^ i := Nat.mul_le_mul_right _ (by omega)
    rw [Nat.pow_succ, Nat.mul_comm (256 ^ i) 256]
    rw [Nat.add_mul, Nat.one_mul] at this
    exact this
  have h8 : (256 : Nat) ^ 8 = 18446744073709551616 := by decide
  show IntKind.u64.wrap ((BitVec.ofInt 64 (a : Int) ||| BitVec.ofInt 64 ((b * 256 ^ i : Nat) : Int)).toNat : Int) = _
  rw [BitVec.ofInt_natCast, BitVec.ofInt_natCast, BitVec.toNat_or, BitVec.toNat_ofNat, BitVec.toNat_ofNat, Nat.mod_eq_of_lt (show a < 2 ^ 64 by omega), Nat.mod_eq_of_lt (show b * 256 ^ i < 2 ^ 64 by omega), u64_wrap]
  have e : a ||| b * 256 ^ i = a + b * 256 ^ i := by
    rw [hp] at ha ⊢
    rw [Nat.or_comm, Nat.mul_comm b, ← Nat.two_pow_add_eq_or_of_lt ha b, Nat.add_comm]
  rw [e]
  omega

theorem ofLe_append (l : List UInt8) (b : UInt8) : ofLe (l ++ [b]) = ofLe l + b.toNat * 256 ^ l.length := by
  induction l with
  | nil => simp [ofLe]
  | cons c l ih =>
    simp only [List.cons_append, ofLe, ih, List.length_cons, Nat.pow_succ]
    rw [Nat.mul_add, ← Nat.add_assoc, Nat.mul_comm (256 ^ l.length) 256, ← Nat.mul_assoc, ← Nat.mul_assoc, Nat.mul_comm 256 b.toNat]

theorem ofLe_loop (s : ByteArray) (hs : s.size ≤ 8) (d : Nat) : ∀ (k i : Nat), i + d = s.size → d < k →
    num_OfLe.l0 k s (ofLe (s.data.toList.take i) : Int) (s.size : Int) (i : Int) = some ((ofLe s.data.toList : Int), 0) := by
  have hlen : s.data.toList.length = s.size := by rw [Array.length_toList]; rfl
  induction d with
  | zero =>
    intro k i h1 h2
    obtain ⟨k, rfl⟩ : ∃ m, k = m + 1 := ⟨k - 1, by omega⟩
    simp only [num_OfLe.l0]
    rw [if_neg (by omega), List.take_of_length_le (by omega)]
  | succ d ih =>
    intro k i h1 h2
    obtain ⟨k, rfl⟩ : ∃ m, k = m + 1 := ⟨k - 1, by omega⟩
    have hi : i < s.size := by omega
    have hw1 : wrap64 ((i : Int) + 1) = ((i + 1 : Nat) : Int) := by unfold wrap64; omega
    have hw8 : wrap64 (8 * (i : Int)) = ((8 * i : Nat) : Int) := by unfold wrap64; omega
    have hb : bt s (i : Int) = ((s[i]'hi).toNat : Int) := by
      unfold bt
      rw [dif_pos (show (i : Int).toNat < s.size by omega)]
      rfl
    have hlt := (s[i]'hi).toNat_lt
    have htl : (s.data.toList.take i).length = i := by rw [List.length_take]; omega
    have ht := ofLe_lt (s.data.toList.take i)
    rw [htl] at ht
    have hsh : shl .u64 (IntKind.u64.wrap ((s[i]'hi).toNat : Int)) ((8 * i : Nat) : Int) = (((s[i]'hi).toNat * 256 ^ i : Nat) : Int) := by
      have hle : (256 : Nat) ^ (i + 1) ≤ 256 ^ 8 := Nat.pow_le_pow_right (by decide) (by omega)
      have h8 : (256 : Nat) ^ 8 = 18446744073709551616 := by decide
      have hm : (s[i]'hi).toNat * 256 ^ i < 256 ^ (i + 1) := by
        rw [Nat.pow_succ, Nat.mul_comm (256 ^ i) 256]
        exact Nat.mul_lt_mul_of_pos_right (by omega) (Nat.pow_pos (by decide))
      unfold shl
      rw [u64_wrap ((s[i]'hi).toNat : Int), Int.toNat_natCast, show IntKind.u64.bits = 64 from rfl, Nat.min_eq_left (by omega), u64_wrap]
      have e : (((s[i]'hi).toNat : Int) % 18446744073709551616) * 2 ^ (8 * i) = (((s[i]'hi).toNat * 256 ^ i : Nat) : Int) := by
        have e2 : (2 : Int) ^ (8 * i) = ((256 ^ i : Nat) : Int) := by
          rw [show (256 : Nat) = 2 ^ 8 from rfl, ← Nat.pow_mul]
          simp
        rw [Int.emod_eq_of_lt (by omega) (by omega), e2, Int.natCast_mul]
      rw [e]
      omega
    simp only [num_OfLe.l0]
    rw [if_pos (by omega), if_pos (by omega), if_pos (by omega), hw8, if_pos (by omega), hb, hsh, or_add _ _ _ ht (by omega) (by omega), hw1]
    have hsn : ofLe (s.data.toList.take (i + 1)) = ofLe (s.data.toList.take i) + (s[i]'hi).toNat * 256 ^ i := by
      rw [List.take_succ_eq_append_getElem (by omega), ofLe_append, htl]
      rfl
    rw [← hsn]
    exact ih k (i + 1) (by omega) (by omega)

theorem ofLe_f (s : ByteArray) : num_OfLe.f (s.size + 3) s = if 1 ≤ s.size ∧ s.size ≤ 8 then some ((ofLe s.data.toList : Int), 0) else some (0, 100) := by
  unfold num_OfLe.f
  by_cases h1 : s.size < 1
  · rw [if_pos (by omega), if_neg (by omega)]
    simp only [num_OfLe.j0, if_true]
  · rw [if_neg (by omega)]
    by_cases h8 : s.size ≤ 8
    · rw [if_pos (by omega), decide_eq_false (by omega)]
      simp only [num_OfLe.j0, Bool.false_eq_true, if_false]
      have := ofLe_loop s h8 s.size (s.size + 2) 0 (by omega) (by omega)
      rw [List.take_zero] at this
      exact this
    · rw [if_neg (by omega), decide_eq_true (by omega)]
      simp only [num_OfLe.j0, if_true]

/-- What num.OfLe answers: a number. -/
def ofS (s : ByteArray) : Nat := if 1 ≤ s.size ∧ s.size ≤ 8 then ofLe s.data.toList else 0
theorem ofS_lt (s : ByteArray) : ofS s < 18446744073709551616 := by
  unfold ofS
  split
  · rename_i h
    have h1 := ofLe_lt s.data.toList
    have hlen : s.data.toList.length = s.size := by rw [Array.length_toList]; rfl
    have h2 : (256 : Nat) ^ s.data.toList.length ≤ 256 ^ 8 := Nat.pow_le_pow_right (by decide) (by omega)
    have h8 : (256 : Nat) ^ 8 = 18446744073709551616 := by decide
    omega
  · omega

def ofE (s : ByteArray) : Int := if 1 ≤ s.size ∧ s.size ≤ 8 then 0 else 100
theorem ofLe_calls (s : ByteArray) (w : World) :
    Calls Try.prog 102 #[.string s] w fun e w' => e = .returned (.tuple #[.int .u64 (ofS s : Int), .int .i64 (ofE s)]) ∧ Drawn0 w w' := by
  have hf := ofLe_f s
  unfold ofS ofE
  by_cases h : 1 ≤ s.size ∧ s.size ≤ 8
  · rw [if_pos h] at hf ⊢
    rw [if_pos h]
    exact num_OfLe.calls _ _ _ _ w hf
  · rw [if_neg h] at hf ⊢
    rw [if_neg h]
    exact num_OfLe.calls _ _ _ _ w hf

end Go.Proofs.Ytibcadfpengacaa

-- Ppadx0
namespace Go.Proofs.Ytibcadfpengacaa.Ppad
open Go.RowKit Go.Proofs.YtibcadfpengacaaW.PrintWords Go.Proofs.YtibcadfpengacaaW.PrintLast Go.Proofs.YtibcadfpengacaaW.PrintMore
attribute [local go_sem] max2_int min2_int max_two min_two max_three min_three max_four min_four   -- for this text's walks alone
set_option linter.unusedVariables false
set_option linter.unusedSimpArgs false



def errW : Option Int → Value
  | none => .nilIface
  | some c => .iface 0 (.int .i64 c)
theorem errW_none : errW none = .nilIface := rfl
theorem errW_some (c : Int) : errW (some c) = .iface 0 (.int .i64 c) := rfl

-- the values' own types

end Go.Proofs.Ytibcadfpengacaa.Ppad

-- Ppadx1
namespace Go.Proofs.Ytibcadfpengacaa.Ppad
open Go.RowKit Go.Proofs.YtibcadfpengacaaW.PrintWords Go.Proofs.YtibcadfpengacaaW.PrintLast Go.Proofs.YtibcadfpengacaaW.PrintMore
attribute [local go_sem] max2_int min2_int max_two min_two max_three min_three max_four min_four   -- for this text's walks alone
set_option linter.unusedVariables false
set_option linter.unusedSimpArgs false

/-! ### wire_pad: function 93 -/
def wire_pad.f (a0 : Int) : Option (Int) := some (Int.tmod (wrap64 (4 - (Int.tmod a0 4))) 4)
set_option maxHeartbeats 8000000 in
set_option maxRecDepth 100000 in
theorem wire_pad.calls (a0 : Int) (r : Int) (w : World) (h : wire_pad.f a0 = some r) :
    Calls Try.prog 93 #[.int .i64 a0] w fun e w' => e = .returned (.int .i64 r) ∧ Drawn0 w w' := by
  have H : (some (Int.tmod (wrap64 (4 - (Int.tmod a0 4))) 4)) = some r := h
  clear h
  obtain rfl := Option.some.inj H
  go_enter Try.func93, Try.ntmps93
  go_wp2
  go_ret
  exact ⟨by first | rfl | (simp; done) | (simp [*]; done), by repeat (first | exact Drawn0.refl _ | apply Drawn0.step)⟩

end Go.Proofs.Ytibcadfpengacaa.Ppad

-- Writer
set_option linter.unusedVariables false
set_option linter.unusedSimpArgs false
namespace Go.Proofs.Ytibcadfpengacaa
open Go.RowKit Go.Lib Go.Proofs.YtibcadfpengacaaW.PrintWords

theorem wtype : WType 83 1 := ⟨by decide, by kernel_rfl⟩

/-- A writer at block B: its code, its bytes. -/
abbrev WrS (w : World) (B : Nat) (c : Int) (g : Option Nat) (bs : List UInt8) : Prop := WAt w B 1 83 [.int .i64 c] g bs

/-- A writer's code and bytes. -/
structure Wr where
  c : Int
  bs : List UInt8

def WrPost (w : World) (B : Nat) (g : Option Nat) (σ : Wr) (w' : World) : Prop :=
  ∃ g', WrS w' B σ.c g' σ.bs ∧ (g' = g ∨ ∃ k, g' = some k ∧ w.heap.size ≤ k) ∧ Keeps (fun k => k = B ∨ some k = g) w w'

theorem WrPost.step {w w1 w2 : World} {B : Nat} {g g1 : Option Nat} {σ : Wr} (h1 : g1 = g ∨ ∃ k, g1 = some k ∧ w.heap.size ≤ k) (k1 : Keeps (fun k => k = B ∨ some k = g) w w1) (h : WrPost w1 B g1 σ w2) : WrPost w B g σ w2 := by
  obtain ⟨g2, q1, q2, q3⟩ := h
  refine ⟨g2, q1, ?_, k1.trans q3 ?_⟩
  · rcases q2 with rfl | ⟨k, hk, hle⟩
    · exact h1
    · exact .inr ⟨k, hk, Nat.le_trans k1.size hle⟩
  · rintro k hk (rfl | he)
    · exact .inl rfl
    · rcases h1 with rfl | ⟨j, hj, hle⟩
      · exact .inr he
      · rw [hj] at he; injection he with he; omega
theorem WrPost.trans {w w1 w2 : World} {B : Nat} {g : Option Nat} {σ σ' : Wr} (h1 : WrPost w B g σ w1) (h2 : ∀ g1, WrS w1 B σ.c g1 σ.bs → WrPost w1 B g1 σ' w2) : WrPost w B g σ' w2 := by
  obtain ⟨g1, q1, q2, q3⟩ := h1
  exact WrPost.step q2 q3 (h2 g1 q1)

def Wr.fail (σ : Wr) (e : Int) : Wr := ⟨if σ.c = 0 then e else σ.c, σ.bs⟩
def Wr.put (σ : Wr) (l : List UInt8) : Wr := ⟨σ.c, σ.bs ++ l⟩
def Wr.num (σ : Wr) (x n : Nat) : Wr := if x < 256 ^ n then σ.put (leB x n) else σ.fail 2200
def padN (n : Nat) : Nat := (4 - n % 4) % 4
def Wr.text (σ : Wr) (s : ByteArray) : Wr := if 4096 < s.size then σ.fail 2201 else ((σ.num s.size 4).put s.data.toList).put (List.replicate (padN s.size) 0)

theorem Wr.fail_len (σ : Wr) (e : Int) : (σ.fail e).bs.length = σ.bs.length := rfl
theorem Wr.num_len (σ : Wr) (x n : Nat) : (σ.num x n).bs.length ≤ σ.bs.length + n := by
  unfold Wr.num
  split
  · simp [Wr.put, leB_length]
  · simp [Wr.fail]
theorem Wr.text_len (σ : Wr) (s : ByteArray) : (σ.text s).bs.length ≤ σ.bs.length + 4104 := by
  unfold Wr.text
  split
  · simp [Wr.fail]
  · have h1 := σ.num_len s.size 4
    have h2 : s.data.toList.length = s.size := by rw [Array.length_toList]; rfl
    have h3 : padN s.size < 4 := by unfold padN; omega
    simp only [Wr.put, List.length_append, List.length_replicate, h2]
    omega

set_option maxHeartbeats 1000000 in
theorem fail_any (B : Nat) (g : Option Nat) (c e : Int) (bs : List UInt8) (w : World) (h : WrS w B c g bs) :
    Calls Try.prog 92 #[.pointer (some ⟨B, 0, none⟩), .int .i64 e] w fun r w' => r = .returned (.tuple #[]) ∧ WrPost w B g (Wr.fail ⟨c, bs⟩ e) w' := by
  obtain ⟨h0, hf⟩ := h.pre_cell 0 (x := .int .i64 c) rfl
  by_cases hc : c = 0
  · have hcb : (c == 0) = true := by rw [hc]; rfl
    have hs : Wr.fail ⟨c, bs⟩ e = ⟨e, bs⟩ := by unfold Wr.fail; rw [if_pos hc]
    rw [hs]
    have H := Lib.hid h
    clear h hs hc
    go_enter Try.func92, Try.ntmps92
    go_wp2
    go_end0
    exact ⟨rfl, g, H.out.put 0 (by omega) _, .inl rfl, Keeps.setCell (S := fun k => k = B ∨ some k = g) (Keeps.refl _ _) (fun _ => .inl rfl) _⟩
  · have hcb : (c == 0) = false := beq_eq_false_iff_ne.2 hc
    have hs : Wr.fail ⟨c, bs⟩ e = ⟨c, bs⟩ := by unfold Wr.fail; rw [if_neg hc]
    rw [hs]
    have H := Lib.hid h
    clear h hs hc
    go_enter Try.func92, Try.ntmps92
    go_wp2
    go_end0
    exact ⟨rfl, g, H.out, .inl rfl, Keeps.refl _ _⟩

theorem writeS (B : Nat) (g : Option Nat) (σ : Wr) (s : ByteArray) (w : World) (h : WrS w B σ.c g σ.bs) (hl : σ.bs.length + s.size ≤ 140737488355328) :
    Calls Try.prog 89 #[.pointer (some ⟨B, 1, none⟩), .string s] w fun r w' => r = .returned (.tuple #[.int .i64 s.size, .nilIface]) ∧ WrPost w B g (σ.put s.data.toList) w' :=
  (writeString_any wtype h s hl).mono fun _ _ ⟨h1, h2⟩ => ⟨h1, h2⟩

set_option maxHeartbeats 1000000 in
theorem number_w (B : Nat) (g : Option Nat) (σ : Wr) (a : Addr) (x : Int) (n : Nat) (h1 : 1 ≤ n) (h8 : n ≤ 8) (hx0 : 0 ≤ x) (hx : x < 18446744073709551616) (w : World) (h : WrS w B σ.c g σ.bs) (ha : w.cell? a = some (.int .u64 x)) (hl : σ.bs.length ≤ 1000000000) :
    Calls Try.prog 87 #[.pointer (some ⟨B, 0, none⟩), .pointer (some a), .int .i64 n] w fun r w' => r = .returned (.tuple #[]) ∧ WrPost w B g (σ.num x.toNat n) w' := by
  have C := Lib.hid (le_calls x n h1 h8 hx0 hx)
  have hz := leS_size x.toNat n
  by_cases hfit : x.toNat < 256 ^ n
  · have hs : σ.num x.toNat n = σ.put (leS x.toNat n).data.toList := by unfold Wr.num; rw [if_pos hfit]; rfl
    rw [hs]
    simp only [if_pos hfit] at C
    have H := Lib.hid h
    clear h hs
    go_enter Try.func87, Try.ntmps87
    go_wp2_with fail
    refine (C.out _).mono ?_
    rintro e w1 ⟨rfl, hb1⟩
    have h' : WrS w1 B σ.c g σ.bs := H.out.kept (Keeps.of_below_all (S := fun _ => False) hb1) id (fun _ _ => id)
    have Hw := Lib.hid (writeS B g σ (leS x.toNat n) w1 h' (by omega))
    have Hb := Lib.hid hb1
    clear h' hb1
    go_wp2_with fail
    refine Hw.out.mono ?_
    rintro e w2 ⟨rfl, hp⟩
    have Hp := Lib.hid hp
    clear hp
    go_wp2_with fail
    go_end0
    exact ⟨rfl, WrPost.step (.inl rfl) (Keeps.of_below_all Hb.out) Hp.out⟩
  · have hs : σ.num x.toNat n = σ.fail 2200 := by unfold Wr.num; rw [if_neg hfit]
    rw [hs]
    simp only [if_neg hfit] at C
    have H := Lib.hid h
    clear h hs
    go_enter Try.func87, Try.ntmps87
    go_wp2_with fail
    refine (C.out _).mono ?_
    rintro e w1 ⟨rfl, hb1⟩
    have h' : WrS w1 B σ.c g σ.bs := H.out.kept (Keeps.of_below_all (S := fun _ => False) hb1) id (fun _ _ => id)
    have Hw := Lib.hid (fail_any B g σ.c 2200 σ.bs w1 h')
    have Hb := Lib.hid hb1
    clear h' hb1
    go_wp2_with fail
    refine Hw.out.mono ?_
    rintro e w2 ⟨rfl, g2, hp, hg2, hk2⟩
    have Hw2 := Lib.hid (writeS B g2 (σ.fail 2200) ⟨#[]⟩ w2 hp (by show (σ.fail 2200).bs.length + 0 ≤ _; rw [Wr.fail_len]; omega))
    have Hg2 := Lib.hid hg2
    have Hk2 := Lib.hid hk2
    clear hp hg2 hk2
    go_wp2_with fail
    refine Hw2.out.mono ?_
    rintro e w3 ⟨rfl, hp⟩
    have Hp := Lib.hid hp
    clear hp
    go_wp2_with fail
    go_end0
    have e1 : (σ.fail 2200).put (⟨#[]⟩ : ByteArray).data.toList = σ.fail 2200 := by simp [Wr.put]
    refine ⟨rfl, WrPost.step (.inl rfl) (Keeps.of_below_all Hb.out) (WrPost.step Hg2.out Hk2.out ?_)⟩
    have := Hp.out
    rw [e1] at this
    exact this

theorem pad_any (n : Nat) (hn : n ≤ 4096) (w : World) : Calls Try.prog 93 #[.int .i64 n] w fun e w' => e = .returned (.int .i64 (padN n)) ∧ w' = w := by
  have h1 : Int.tmod (n : Int) 4 = (n : Int) % 4 := Int.tmod_eq_emod_of_nonneg (by omega)
  have hw : wrap64 (4 - (n : Int) % 4) = 4 - (n : Int) % 4 := by unfold wrap64; omega
  have hw2 : wrap64 ((4 - (n : Int) % 4) % 4) = (padN n : Int) := by unfold wrap64 padN; omega
  have h0 : (0 : Int) ≤ n := by omega
  have H1 := Lib.hid h1; have Hw := Lib.hid hw; have Hw2 := Lib.hid hw2
  clear h1 hw hw2
  go_enter Try.func93, Try.ntmps93
  go_wp2
  go_ret
  refine ⟨?_, rfl⟩
  have e : (4 - (n : Int) % 4) % 4 = (padN n : Int) := by unfold padN; omega
  simp [e]

set_option maxHeartbeats 4000000 in
set_option maxRecDepth 100000 in
theorem text_w (B : Nat) (g : Option Nat) (σ : Wr) (a : Addr) (s : ByteArray) (hs0 : s.size ≤ 140737488351232) (w : World) (h : WrS w B σ.c g σ.bs) (ha : w.cell? a = some (.string s)) (haB : a.block ≠ B) (hag : g ≠ some a.block) (hl : σ.bs.length ≤ 900000000) :
    Calls Try.prog 88 #[.pointer (some ⟨B, 0, none⟩), .pointer (some a)] w fun r w' => r = .returned (.tuple #[]) ∧ WrPost w B g (σ.text s) w' := by
  have hlt : a.block < w.heap.size := World.block_lt_of_cell? w a ha
  have hBlt := h.lt
  have hrl := h.row_lt
  by_cases hbig : 4096 < s.size
  · have hs : σ.text s = σ.fail 2201 := by unfold Wr.text; rw [if_pos hbig]
    rw [hs]
    have hbz : (4096 : Int) < (s.size : Int) := by omega
    have H := Lib.hid h
    clear h hs
    rcases Nat.lt_or_ge 4097 s.size with hb2 | hb2
    all_goals
      first
      | have hb3 : (4097 : Int) < (s.size : Int) := by omega
      | have hb3 : ¬ ((4097 : Int) < (s.size : Int)) := by omega
      clear hb2 hbig
      go_enter Try.func88, Try.ntmps88
      go_wp2_with fail
      refine (fail_any B g σ.c 2201 σ.bs _ (H.out.kept (Keeps.alloc (S := fun _ => False) (Keeps.refl _ w) _) id (fun _ _ => id))).mono ?_
      rintro e w2 ⟨rfl, hp⟩
      have Hp := Lib.hid hp
      clear hp
      go_wp2_with fail
      exact bodyPost_ret (results_none (by rfl) _ _ _) rfl ⟨rfl, WrPost.step (.inl rfl) (Keeps.alloc (Keeps.refl _ w) _) Hp.out⟩
  · have hs : σ.text s = ((σ.num s.size 4).put s.data.toList).put (List.replicate (padN s.size) 0) := by unfold Wr.text; rw [if_neg hbig]
    rw [hs]
    have hz : s.data.toList.length = s.size := by rw [Array.length_toList]; rfl
    have hn4 := Wr.num_len σ s.size 4
    have hpad : padN s.size ≤ 3 := by unfold padN; omega
    have hle : (s.size : Int) ≤ 4096 := by omega
    have H := Lib.hid h
    clear h hs hbig
    go_enter Try.func88, Try.ntmps88
    go_wp2_with fail
    have h1 := (H.out.kept (Keeps.alloc (S := fun _ => False) (Keeps.refl _ w) (.cells #[.int .u64 s.size] 23)) id (fun _ _ => id))
    refine (number_w B g σ ⟨w.heap.size, 0, none⟩ s.size 4 (by omega) (by omega) (by omega) (by omega) _ h1 (by simp) (by omega)).mono ?_
    rintro e w2 ⟨rfl, g2, q1, q2, q3⟩
    clear h1
    have ha2 : w2.cell? a = some (.string s) := by
      rw [q3.cell (by show a.block < (w.heap.push _).size; simp; omega) (by rintro (e | e); exact haB e; exact hag e.symm), World.cell?_alloc_lt (h := hlt)]
      exact ha
    have Q1 := Lib.hid q1
    have K2 := Lib.hid ((Keeps.alloc (S := fun k => k = B ∨ some k = g) (Keeps.refl _ w) (.cells #[.int .u64 s.size] 23)).trans q3 (fun _ _ h => h))
    have G2 := Lib.hid (show g2 = g ∨ ∃ k, g2 = some k ∧ w.heap.size ≤ k by
      rcases q2 with e | ⟨k, e, hle⟩
      · exact .inl e
      · exact .inr ⟨k, e, by simp at hle; omega⟩)
    have hs2 := K2.out.size
    clear q1 q2 q3
    go_wp2_with fail
    go_still_tail 6, (by kernel_rfl)
    have hz2 := (σ.num_len s.size 4)
    have F : ∀ x, w2.drew = x → WrS x B (σ.num s.size 4).c g2 (σ.num s.size 4).bs ∧ x.cell? a = some (.string s) ∧ Keeps (fun k => k = B ∨ some k = g) w x := by
      rintro x rfl
      exact ⟨Q1.out, ha2, K2.out.drew⟩
    change wpList _ _ _ _ _ w2.drew
    generalize hx : w2.drew = x
    obtain ⟨q1, hax, kx⟩ := F x hx
    have hsx := kx.size
    have Hw := Lib.hid (writeS B g2 (σ.num s.size 4) s x q1 (by omega))
    have Kx := Lib.hid kx
    clear F hx ha2 K2 Q1 q1 kx hs2 w2
    go_wp2_with fail
    refine Hw.out.mono ?_
    rintro e w3 ⟨rfl, g3, q1, q2, q3⟩
    have ha3 : w3.cell? a = some (.string s) := by
      rw [q3.cell (by omega) ?_]
      · exact hax
      · rintro (e | e)
        · exact haB e
        · rcases G2.out with e2 | ⟨k, e2, hk⟩
          · rw [e2] at e; exact hag e.symm
          · rw [e2] at e; injection e with e; omega
    have K3 := Lib.hid (q3)
    have Q3 := Lib.hid q1
    have G3 := Lib.hid q2
    have hs3 := q3.size
    clear q1 q2 q3 Hw
    go_wp2_with fail
    refine wp_region_still_tail 9 (by kernel_rfl) (by kernel_rfl) ?_
    simp only [List.take_succ_cons, List.take_zero, List.drop_succ_cons, List.drop_zero]
    iterate 7 still_step
    still_call (pad_any s.size (by omega) _)
    have hp0 : (0 : Int) ≤ (padN s.size : Int) := by omega
    have hp3 : (padN s.size : Int) ≤ 3 := by omega
    still_step
    refine wpStill_nil ?_
    have F : ∀ y, w3.drew = y → WrS y B ((σ.num s.size 4).put s.data.toList).c g3 ((σ.num s.size 4).put s.data.toList).bs ∧ Keeps (fun k => k = B ∨ some k = g2) x y := by
      rintro y rfl
      exact ⟨Q3.out, K3.out.drew⟩
    change wpList _ _ _ _ _ w3.drew
    generalize hy : w3.drew = y
    obtain ⟨q1, ky⟩ := F y hy
    have Hw := Lib.hid (writeS B g3 ((σ.num s.size 4).put s.data.toList) ((⟨#[0, 0, 0]⟩ : ByteArray).extract 0 (padN s.size)) y q1 (by
      have : ((σ.num s.size 4).put s.data.toList).bs.length = (σ.num s.size 4).bs.length + s.size := by simp [Wr.put, hz]
      rw [this, ByteArray.size_extract]
      omega))
    have Ky := Lib.hid ky
    clear F hy ha3 K3 Q3 q1 ky hs3 w3
    go_wp2_with fail
    refine Hw.out.mono ?_
    rintro e w4 ⟨rfl, hp⟩
    have Hp := Lib.hid hp
    clear hp
    go_wp2_with fail
    go_end0
    have e3 : ((⟨#[0, 0, 0]⟩ : ByteArray).extract 0 (padN s.size)).data.toList = List.replicate (padN s.size) 0 := by
      generalize padN s.size = m at hpad
      rcases (show m = 0 ∨ m = 1 ∨ m = 2 ∨ m = 3 by omega) with rfl | rfl | rfl | rfl <;> rfl
    have hpp := Hp.out
    rw [e3] at hpp
    exact ⟨rfl, WrPost.step G2.out Kx.out (WrPost.step G3.out Ky.out hpp)⟩

structure Hd where
  ex : Int
  snap : Int
  ino : Int
  gen : Int
deriving DecidableEq

def Hd.vs (h : Hd) : List Value := [.int .u32 h.ex, .int .u64 h.snap, .int .u64 h.ino, .int .u64 h.gen]
structure Hd.Ok (h : Hd) : Prop where
  ex0 : 0 ≤ h.ex
  ex1 : h.ex < 4294967296
  snap0 : 0 ≤ h.snap
  snap1 : h.snap < 18446744073709551616
  ino0 : 0 ≤ h.ino
  ino1 : h.ino < 18446744073709551616
  gen0 : 0 ≤ h.gen
  gen1 : h.gen < 18446744073709551616
def Hd.lay (h : Hd) : List UInt8 := leB h.ex.toNat 4 ++ leB h.snap.toNat 8 ++ leB h.ino.toNat 8 ++ leB h.gen.toNat 8
theorem Hd.lay_length (h : Hd) : h.lay.length = 28 := by simp [Hd.lay, leB_length]
def Hd.layS (h : Hd) : ByteArray := leS h.ex.toNat 4 ++ leS h.snap.toNat 8 ++ leS h.ino.toNat 8 ++ leS h.gen.toNat 8
theorem Hd.layS_data (h : Hd) : h.layS.data.toList = h.lay := by
  simp [Hd.layS, Hd.lay, ByteArray.data_append, leS]

set_option maxHeartbeats 4000000 in
set_option maxRecDepth 100000 in
theorem handleEncode_any (h : Hd) (hk : h.Ok) (w : World) :
    Calls Try.prog 90 #[.agg #[.int .u32 h.ex, .int .u64 h.snap, .int .u64 h.ino, .int .u64 h.gen]] w fun e w' => e = .returned (.string h.layS) ∧ Below w.heap.size w w' := by
  obtain ⟨ex, snap, ino, gen⟩ := h
  obtain ⟨ex0, ex1, snap0, snap1, ino0, ino1, gen0, gen1⟩ := hk
  simp only at ex0 ex1 snap0 snap1 ino0 ino1 gen0 gen1
  have hfit4 : ex.toNat < 256 ^ 4 := by have : (256 : Nat) ^ 4 = 4294967296 := by decide
                                        omega
  have h8 : (256 : Nat) ^ 8 = 18446744073709551616 := by decide
  have c1 := le_calls ex 4 (by omega) (by omega) ex0 (by omega)
  have c2 := le_calls snap 8 (by omega) (by omega) snap0 snap1
  have c3 := le_calls ino 8 (by omega) (by omega) ino0 ino1
  have c4 := le_calls gen 8 (by omega) (by omega) gen0 gen1
  simp only [if_pos hfit4, if_pos (show snap.toNat < 256 ^ 8 by omega), if_pos (show ino.toNat < 256 ^ 8 by omega), if_pos (show gen.toNat < 256 ^ 8 by omega)] at c1 c2 c3 c4
  have s1 := leS_size ex.toNat 4
  have s2 := leS_size snap.toNat 8
  have s3 := leS_size ino.toNat 8
  have s4 := leS_size gen.toNat 8
  unfold Hd.layS
  simp only
  generalize leS ex.toNat 4 = b1 at c1 s1
  generalize leS snap.toNat 8 = b2 at c2 s2
  generalize leS ino.toNat 8 = b3 at c3 s3
  generalize leS gen.toNat 8 = b4 at c4 s4
  have C1 := Lib.hid c1; have C2 := Lib.hid c2; have C3 := Lib.hid c3; have C4 := Lib.hid c4
  have z1 : (9223372036854775807 < b1.size + b2.size) = False := eq_false (by omega)
  have z2 : (9223372036854775807 < b1.size + b2.size + b3.size) = False := eq_false (by omega)
  have z3 : (9223372036854775807 < b1.size + b2.size + b3.size + b4.size) = False := eq_false (by omega)
  clear c1 c2 c3 c4 s1 s2 s3 s4 hfit4 h8
  go_enter Try.func90, Try.ntmps90
  go_wp2_with fail
  refine (C1.out _).mono ?_
  rintro e w1 ⟨rfl, q1⟩
  have d0 : w1.cell? ⟨w.heap.size, 1, none⟩ = some (.int .u64 snap) := by rw [q1.cell (by simp)]; simp
  have d1 : w1.cell? ⟨w.heap.size, 2, none⟩ = some (.int .u64 ino) := by rw [q1.cell (by simp)]; simp
  have d2 : w1.cell? ⟨w.heap.size, 3, none⟩ = some (.int .u64 gen) := by rw [q1.cell (by simp)]; simp
  have Q1 := Lib.hid (((Below.refl w.heap.size w).alloc (Nat.le_refl _) (.cells #[.int .u32 ex, .int .u64 snap, .int .u64 ino, .int .u64 gen] 25)).trans (q1.mono (by simp)))
  clear q1
  have hsz1 := Q1.out.size
  have i0 : ∀ w, (Instr.index 159 (.agg #[.int .u64 snap, .int .u64 ino, .int .u64 gen]) (.int .i64 0)).run Try.prog w = .ok (.int .u64 snap) w := fun _ => by kernel_rfl
  have i1 : ∀ w, (Instr.index 159 (.agg #[.int .u64 snap, .int .u64 ino, .int .u64 gen]) (.int .i64 1)).run Try.prog w = .ok (.int .u64 ino) w := fun _ => by kernel_rfl
  have i2 : ∀ w, (Instr.index 159 (.agg #[.int .u64 snap, .int .u64 ino, .int .u64 gen]) (.int .i64 2)).run Try.prog w = .ok (.int .u64 gen) w := fun _ => by kernel_rfl
  go_wp2_with fail
  refine wp_loop_rounds 4 ?_
  rw [rounds_succ]
  go_wp2_with fail
  refine (C2.out _).mono ?_
  rintro e w2 ⟨rfl, q2⟩
  have Q2 := Lib.hid (Q1.out.trans (q2.mono (by omega)))
  have hsz2 := Q2.out.size
  clear q2
  go_wp2_with fail
  rw [rounds_succ]
  go_wp2_with fail
  refine (C3.out _).mono ?_
  rintro e w3 ⟨rfl, q3⟩
  have Q3 := Lib.hid (Q2.out.trans (q3.mono (by omega)))
  have hsz3 := Q3.out.size
  clear q3
  go_wp2_with fail
  rw [rounds_succ]
  go_wp2_with fail
  refine (C4.out _).mono ?_
  rintro e w4 ⟨rfl, q4⟩
  have Q4 := Lib.hid (Q3.out.trans (q4.mono (by omega)))
  clear q4
  go_wp2_with fail
  rw [rounds_succ]
  go_wp2_with fail
  go_ret
  exact ⟨rfl, Q4.out⟩

set_option maxHeartbeats 4000000 in
set_option maxRecDepth 100000 in
theorem handle_w (B M o : Nat) (g : Option Nat) (σ : Wr) (h : Hd) (hk : h.Ok) (w : World) (hW : WrS w B σ.c g σ.bs) (hMB : M ≠ B) (hMg : g ≠ some M)
    (h0 : w.cell? ⟨M, o, none⟩ = some (.int .u32 h.ex)) (h1 : w.cell? ⟨M, o + 1, none⟩ = some (.int .u64 h.snap)) (h2 : w.cell? ⟨M, o + 2, none⟩ = some (.int .u64 h.ino)) (h3 : w.cell? ⟨M, o + 3, none⟩ = some (.int .u64 h.gen)) (hl : σ.bs.length ≤ 900000000) :
    Calls Try.prog 86 #[.pointer (some ⟨B, 0, none⟩), .pointer (some ⟨M, o, none⟩)] w fun r w' => r = .returned (.tuple #[]) ∧ WrPost w B g (σ.put h.lay) w' := by
  have C := Lib.hid (handleEncode_any h hk)
  have hd := Hd.layS_data h
  have hz : h.layS.size = 28 := by rw [← h.lay_length, ← hd, Array.length_toList]; rfl
  have H := Lib.hid hW
  have Hd := Lib.hid hd
  have Hz := Lib.hid hz
  clear hW hd hz hk
  go_enter Try.func86, Try.ntmps86
  go_wp2_with fail
  refine startT (fun w' => w'.cell? ⟨M, o, none⟩ = some (.int .u32 h.ex) ∧ w'.cell? ⟨M, o + 1, none⟩ = some (.int .u64 h.snap) ∧ w'.cell? ⟨M, o + 2, none⟩ = some (.int .u64 h.ino) ∧ w'.cell? ⟨M, o + 3, none⟩ = some (.int .u64 h.gen)) [6, 7] 8 (by kernel_rfl) rfl ⟨h0, h1, h2, h3⟩ ?_
  refine pureT 0 4 (v := ?_) (a' := ?_) rfl rfl (by kernel_rfl) (fun _ _ _ h => h) (Or.inl ⟨by rfl, ?_⟩) ?_ ?_
  rotate_left 2
  · intro w'; go_simp; try with_reducible rfl
  · simp only [Act.put, List.setIfInBounds_toArray, List.set_cons_zero, List.set_cons_succ]; try rfl
  refine pureT 1 5 (v := ?_) (a' := ?_) rfl rfl (by kernel_rfl) (fun _ _ _ h => h) (Or.inl ⟨by rfl, ?_⟩) ?_ ?_
  rotate_left 2
  · intro w'; go_simp; try with_reducible rfl
  · simp only [Act.put, List.setIfInBounds_toArray, List.set_cons_zero, List.set_cons_succ]; try rfl
  refine pureT 2 6 (v := ?_) (a' := ?_) rfl rfl (by kernel_rfl) (fun _ _ _ h => h) (Or.inl ⟨by rfl, ?_⟩) ?_ ?_
  rotate_left 2
  · intro w'; go_simp; try with_reducible rfl
  · simp only [Act.put, List.setIfInBounds_toArray, List.set_cons_zero, List.set_cons_succ]; try rfl
  refine pureT 3 7 (v := ?_) (a' := ?_) rfl rfl (by kernel_rfl) (fun _ _ _ h => h) (Or.inl ⟨by rfl, ?_⟩) ?_ ?_
  rotate_left 2
  · intro w'; go_simp; try with_reducible rfl
  · simp only [Act.put, List.setIfInBounds_toArray, List.set_cons_zero, List.set_cons_succ]; try rfl
  refine pureT 4 8 (v := ?_) (a' := ?_) rfl rfl (by kernel_rfl) (fun _ _ _ h => h) (Or.inl ⟨by rfl, ?_⟩) ?_ ?_
  rotate_left 2
  · intro w'; go_simp; try with_reducible rfl
  · simp only [Act.put, List.setIfInBounds_toArray, List.set_cons_zero, List.set_cons_succ]; try rfl
  refine takeT 5 9 (v := ?_) (a' := ?_) rfl rfl (by kernel_rfl) (fun _ _ _ h => h) (Or.inl ⟨by rfl, ?_⟩) ⟨h0, h1, h2, h3⟩ ?_ ?_
  rotate_left 2
  · rintro w' ⟨g0, g1, g2, g3⟩; go_simp; try with_reducible rfl
  · simp only [Act.put, List.setIfInBounds_toArray, List.set_cons_zero, List.set_cons_succ]; try rfl
  refine restT (m := 2) (by kernel_rfl) rfl ?_
  simp only [List.drop_succ_cons, List.drop_zero]
  have F : ∀ x, w.drew = x → WrS x B σ.c g σ.bs ∧ Keeps (fun k => k = B ∨ some k = g) w x := by
    rintro x rfl
    exact ⟨H.out, (Keeps.refl _ _).drew⟩
  change wpList _ _ _ _ _ w.drew
  generalize hx : w.drew = x
  obtain ⟨q1, kx⟩ := F x hx
  have Q1 := Lib.hid q1
  have Kx := Lib.hid kx
  clear F hx q1 kx h0 h1 h2 h3
  go_wp2_with fail
  refine (C.out _).mono ?_
  rintro e w1 ⟨rfl, hb1⟩
  have Hw := Lib.hid (writeS B g σ h.layS w1 (Q1.out.below hb1) (by rw [Hz.out]; omega))
  have Hb := Lib.hid hb1
  clear hb1
  go_wp2_with fail
  refine Hw.out.mono ?_
  rintro e w2 ⟨rfl, hp⟩
  have Hp := Lib.hid hp
  clear hp
  go_wp2_with fail
  go_end0
  have hpp := Hp.out
  rw [Hd.out] at hpp
  exact ⟨rfl, WrPost.step (.inl rfl) Kx.out (WrPost.step (.inl rfl) (Keeps.of_below_all Hb.out) hpp)⟩

end Go.Proofs.Ytibcadfpengacaa

-- Iface
namespace Go.Proofs.Ytibcadfpengacaa
theorem wm_number (a : Addr) (w : World) : (method 291 75 (.pointer (some a)) "holt/wire.number").run Try.prog w = .ok (87, .pointer (some a)) w := by kernel_rfl
theorem wm_text (a : Addr) (w : World) : (method 291 75 (.pointer (some a)) "holt/wire.text").run Try.prog w = .ok (88, .pointer (some a)) w := by kernel_rfl
theorem wm_handle (a : Addr) (w : World) : (method 291 75 (.pointer (some a)) "holt/wire.handle").run Try.prog w = .ok (86, .pointer (some a)) w := by kernel_rfl
theorem rm_number (a : Addr) (w : World) : (method 291 90 (.pointer (some a)) "holt/wire.number").run Try.prog w = .ok (98, .pointer (some a)) w := by kernel_rfl
theorem rm_text (a : Addr) (w : World) : (method 291 90 (.pointer (some a)) "holt/wire.text").run Try.prog w = .ok (100, .pointer (some a)) w := by kernel_rfl
theorem rm_handle (a : Addr) (w : World) : (method 291 90 (.pointer (some a)) "holt/wire.handle").run Try.prog w = .ok (97, .pointer (some a)) w := by kernel_rfl
theorem wn_number (a : Addr) (w : World) : (nilAhead 291 75 (.pointer (some a)) "holt/wire.number").run Try.prog w = .ok (some false) w := by kernel_rfl
theorem wn_text (a : Addr) (w : World) : (nilAhead 291 75 (.pointer (some a)) "holt/wire.text").run Try.prog w = .ok (some false) w := by kernel_rfl
theorem wn_handle (a : Addr) (w : World) : (nilAhead 291 75 (.pointer (some a)) "holt/wire.handle").run Try.prog w = .ok (some false) w := by kernel_rfl
theorem rn_number (a : Addr) (w : World) : (nilAhead 291 90 (.pointer (some a)) "holt/wire.number").run Try.prog w = .ok (some false) w := by kernel_rfl
theorem rn_text (a : Addr) (w : World) : (nilAhead 291 90 (.pointer (some a)) "holt/wire.text").run Try.prog w = .ok (some false) w := by kernel_rfl
theorem rn_handle (a : Addr) (w : World) : (nilAhead 291 90 (.pointer (some a)) "holt/wire.handle").run Try.prog w = .ok (some false) w := by kernel_rfl
end Go.Proofs.Ytibcadfpengacaa

-- FieldsW
set_option linter.unusedVariables false
set_option linter.unusedSimpArgs false
namespace Go.Proofs.Ytibcadfpengacaa
open Go.RowKit Go.Lib Go.Proofs.YtibcadfpengacaaW.PrintWords Go.Proofs.YtibcadfpengacaaW.PrintMore Go.Proofs.YtibcadfpengacaaW.PrintLast

structure Ent where
  name : ByteArray
  ino : Int
  cookie : Int
def Ent.vs (e : Ent) : List Value := [.string e.name, .int .u64 e.ino, .int .u64 e.cookie]

/-- A message. -/
structure Msg where
  kind : Int
  client : Int
  xid : Int
  op : Int
  h : Hd
  h2 : Hd
  name : ByteArray
  name2 : ByteArray
  off : Int
  num : Int
  data : ByteArray
  status : Int
  ah : Hd
  akind : Int
  links : Int
  size : Int
  change : Int
  adata : ByteArray
  eof : Bool
  anum : Int
  list : List Ent
  boot : Int
  gb : Int
  gn : Int

/-- Its cells; L: its list's. -/
abbrev Msg.vs (m : Msg) (L : Value) : List Value :=
  [.int .i64 m.kind, .int .u32 m.client, .int .u64 m.xid, .int .i64 m.op, .int .u32 m.h.ex, .int .u64 m.h.snap, .int .u64 m.h.ino, .int .u64 m.h.gen,
   .int .u32 m.h2.ex, .int .u64 m.h2.snap, .int .u64 m.h2.ino, .int .u64 m.h2.gen, .string m.name, .string m.name2, .int .u64 m.off, .int .u64 m.num, .string m.data,
   .int .i64 m.status, .int .u32 m.ah.ex, .int .u64 m.ah.snap, .int .u64 m.ah.ino, .int .u64 m.ah.gen, .int .i64 m.akind, .int .u32 m.links, .int .u64 m.size, .int .u64 m.change,
   .string m.adata, .bool m.eof, .int .u64 m.anum, L, .int .u64 m.boot, .int .u64 m.gb, .int .u64 m.gn]

def U64 (x : Int) : Prop := 0 ≤ x ∧ x < 18446744073709551616
def U32 (x : Int) : Prop := 0 ≤ x ∧ x < 4294967296
def I64 (x : Int) : Prop := -9223372036854775808 ≤ x ∧ x < 9223372036854775808
def Siz (s : ByteArray) : Prop := s.size ≤ 140737488351232

/-- What a message's numbers and texts are, whatever it is. -/
structure Msg.Ok (m : Msg) : Prop where
  kind : I64 m.kind
  client : U32 m.client
  xid : U64 m.xid
  op : I64 m.op
  h : m.h.Ok
  h2 : m.h2.Ok
  name : Siz m.name
  name2 : Siz m.name2
  off : U64 m.off
  num : U64 m.num
  data : Siz m.data
  status : I64 m.status
  ah : m.ah.Ok
  akind : I64 m.akind
  links : U32 m.links
  size : U64 m.size
  change : U64 m.change
  adata : Siz m.adata
  anum : U64 m.anum
  list : ∀ e ∈ m.list, Siz e.name ∧ U64 e.ino ∧ U64 e.cookie
  len : m.list.length ≤ 4398046511104
  boot : U64 m.boot
  gb : U64 m.gb
  gn : U64 m.gn

def u64of (v : Int) : Nat := (v % 18446744073709551616).toNat

set_option maxHeartbeats 4000000 in
set_option maxRecDepth 100000 in
theorem small_w (B M o : Nat) (g : Option Nat) (σ : Wr) (v : Int) (n : Nat) (h1 : 1 ≤ n) (h8 : n ≤ 8) (hv : I64 v) (w : World) (h : WrS w B σ.c g σ.bs) (hc : w.cell? ⟨M, o, none⟩ = some (.int .i64 v)) (hf : w.frozen? ⟨M, o, none⟩ = false) (hMB : M ≠ B) (hMg : g ≠ some M) (hl : σ.bs.length ≤ 900000000) :
    Calls Try.prog 47 #[.iface 75 (.pointer (some ⟨B, 0, none⟩)), .pointer (some ⟨M, o, none⟩), .int .i64 n] w fun r w' => r = .returned (.tuple #[]) ∧ WrPost w B g (σ.num (u64of v) n) w' := by
  unfold u64of
  have hu : IntKind.u64.wrap v = v % 18446744073709551616 := u64_wrap v
  have hb : IntKind.i64.wrap (IntKind.u64.wrap v) = v := by have := hv.1; have := hv.2; rw [hu, IntKind.wrap_i64]; omega
  have hx0 : 0 ≤ IntKind.u64.wrap v := by rw [hu]; omega
  have hx1 : IntKind.u64.wrap v < 18446744073709551616 := by rw [hu]; omega
  rw [← hu]
  have HB := Lib.hid hb; have HX1 := Lib.hid hx1
  have Hh := Lib.hid h
  have Hc := Lib.hid hc
  have hMl : M < w.heap.size := World.block_lt_of_cell? w ⟨M, o, none⟩ hc
  have hm := wm_number ⟨B, 0, none⟩
  clear hb hx1 hu h
  go_enter Try.func47, Try.ntmps47
  go_wp2_with fail
  have K0 := (Keeps.refl (fun k => k = B ∨ some k = g) w).alloc (.cells #[.int .u64 (IntKind.u64.wrap v)] 23)
  have h0 := Hh.out.kept (S := fun _ => False) ((Keeps.refl _ w).alloc (.cells #[.int .u64 (IntKind.u64.wrap v)] 23)) id (fun _ _ => id)
  have y0 := Blk.new w 23 [.int .u64 (IntKind.u64.wrap v)]
  refine (number_w B g σ ⟨w.heap.size, 0, none⟩ (IntKind.u64.wrap v) n h1 h8 hx0 HX1.out _ h0 (y0.cell 0 rfl) (by omega)).mono ?_
  rintro e w2 ⟨rfl, g2, q1, q2, q3⟩
  have hgl := Hh.out.row_lt
  have hBl := Hh.out.lt
  have y2 := y0.kept q3 (by rintro (e | e); omega; exact absurd (hgl _ e.symm) (Nat.lt_irrefl _))
  have cy : w2.cell? ⟨w.heap.size, 0, none⟩ = some (.int .u64 (IntKind.u64.wrap v)) := y2.cell 0 rfl
  have hcM : w2.cell? ⟨M, o, none⟩ = some (.int .i64 v) := by
    rw [q3.cell (by show M < (w.heap.push _).size; simp; omega) (by rintro (e | e); exact hMB e; exact hMg e.symm), World.cell?_alloc_lt (h := hMl)]
    exact Hc.out
  have hfM : w2.frozen? ⟨M, o, none⟩ = false := by
    rw [q3.frozen (by show M < (w.heap.push _).size; simp; omega) (by rintro (e | e); exact hMB e; exact hMg e.symm), World.frozen?_of_block (w := w) (Below.heap_alloc w _ M hMl)]
    exact hf
  have HP := Lib.hid (show WrPost w B g (σ.num (IntKind.u64.wrap v).toNat n) w2 from WrPost.step (.inl rfl) K0 ⟨g2, q1, q2, q3⟩)
  have HcM := Lib.hid hcM
  clear q1 q2 q3 y2 K0 h0 y0 hc
  go_wp2_with fail
  go_end0
  have hbb := HB.out
  have e : wrap64 (IntKind.u64.wrap v) = v := by
    have := hbb
    rw [IntKind.wrap_i64] at this
    unfold wrap64
    exact this
  rw [e, setCell_self HcM.out]
  exact ⟨rfl, HP.out⟩

set_option maxHeartbeats 4000000 in
set_option maxRecDepth 100000 in
theorem four_w (B M o : Nat) (g : Option Nat) (σ : Wr) (v : Int) (hv : U32 v) (w : World) (h : WrS w B σ.c g σ.bs) (hc : w.cell? ⟨M, o, none⟩ = some (.int .u32 v)) (hf : w.frozen? ⟨M, o, none⟩ = false) (hMB : M ≠ B) (hMg : g ≠ some M) (hl : σ.bs.length ≤ 900000000) :
    Calls Try.prog 48 #[.iface 75 (.pointer (some ⟨B, 0, none⟩)), .pointer (some ⟨M, o, none⟩)] w fun r w' => r = .returned (.tuple #[]) ∧ WrPost w B g (σ.num v.toNat 4) w' := by
  have hx0 : 0 ≤ v := hv.1
  have hx1 : v < 18446744073709551616 := by have := hv.2; omega
  have hv2 : v < 4294967296 := hv.2
  have hu : IntKind.u64.wrap v = v := by rw [u64_wrap]; omega
  have hb : IntKind.u32.wrap v = v := by rw [u32_wrap]; omega
  have HX1 := Lib.hid hx1
  have HB := Lib.hid hb
  have Hh := Lib.hid h
  have Hc := Lib.hid hc
  have Hf := Lib.hid hf
  have hMl : M < w.heap.size := World.block_lt_of_cell? w ⟨M, o, none⟩ hc
  have hm := wm_number ⟨B, 0, none⟩
  clear hx1 h hb
  go_enter Try.func48, Try.ntmps48
  go_wp2_with fail
  have K0 := (Keeps.refl (fun k => k = B ∨ some k = g) w).alloc (.cells #[.int .u64 v] 23)
  have h0 := Hh.out.kept (S := fun _ => False) ((Keeps.refl _ w).alloc (.cells #[.int .u64 v] 23)) id (fun _ _ => id)
  have y0 := Blk.new w 23 [.int .u64 v]
  refine (number_w B g σ ⟨w.heap.size, 0, none⟩ v 4 (by omega) (by omega) hx0 HX1.out _ h0 (y0.cell 0 rfl) (by omega)).mono ?_
  rintro e w2 ⟨rfl, g2, q1, q2, q3⟩
  have hgl := Hh.out.row_lt
  have hBl := Hh.out.lt
  have y2 := y0.kept q3 (by rintro (e | e); omega; exact absurd (hgl _ e.symm) (Nat.lt_irrefl _))
  have cy : w2.cell? ⟨w.heap.size, 0, none⟩ = some (.int .u64 v) := y2.cell 0 rfl
  have hcM : w2.cell? ⟨M, o, none⟩ = some (.int .u32 v) := by
    rw [q3.cell (by show M < (w.heap.push _).size; simp; omega) (by rintro (e | e); exact hMB e; exact hMg e.symm), World.cell?_alloc_lt (h := hMl)]
    exact Hc.out
  have hfM : w2.frozen? ⟨M, o, none⟩ = false := by
    rw [q3.frozen (by show M < (w.heap.push _).size; simp; omega) (by rintro (e | e); exact hMB e; exact hMg e.symm), World.frozen?_of_block (w := w) (Below.heap_alloc w _ M hMl)]
    exact Hf.out
  have HP := Lib.hid (show WrPost w B g (σ.num v.toNat 4) w2 from WrPost.step (.inl rfl) K0 ⟨g2, q1, q2, q3⟩)
  have HcM := Lib.hid hcM
  clear q1 q2 q3 y2 K0 h0 y0 hc
  go_wp2_with fail
  go_end0
  rw [setCell_self HcM.out]
  exact ⟨rfl, HP.out⟩

set_option maxHeartbeats 4000000 in
set_option maxRecDepth 100000 in
theorem flag_w (B M o : Nat) (g : Option Nat) (σ : Wr) (v : Bool) (w : World) (h : WrS w B σ.c g σ.bs) (hc : w.cell? ⟨M, o, none⟩ = some (.bool v)) (hf : w.frozen? ⟨M, o, none⟩ = false) (hMB : M ≠ B) (hMg : g ≠ some M) (hl : σ.bs.length ≤ 900000000) :
    Calls Try.prog 50 #[.iface 75 (.pointer (some ⟨B, 0, none⟩)), .pointer (some ⟨M, o, none⟩)] w fun r w' => r = .returned (.bool true) ∧ WrPost w B g (σ.num v.toNat 1) w' := by
  have Hh := Lib.hid h
  have Hc := Lib.hid hc
  have Hf := Lib.hid hf
  have hMl : M < w.heap.size := World.block_lt_of_cell? w ⟨M, o, none⟩ hc
  have hm := wm_number ⟨B, 0, none⟩
  clear h
  have body : ∀ (x : Int) (w2 : World), (x = v.toNat) → ∀ g2, WrS w2 B (σ.num x.toNat 1).c g2 (σ.num x.toNat 1).bs → (g2 = g ∨ ∃ k, g2 = some k ∧ (w.alloc (.cells #[.int .u64 x] 23)).heap.size ≤ k) → Keeps (fun k => k = B ∨ some k = g) (w.alloc (.cells #[.int .u64 x] 23)) w2 →
      w2.cell? ⟨w.heap.size, 0, none⟩ = some (.int .u64 x) ∧ w2.cell? ⟨M, o, none⟩ = some (.bool v) ∧ w2.frozen? ⟨M, o, none⟩ = false ∧ Hid (WrPost w B g (σ.num v.toNat 1) w2) := by
    intro x w2 hx g2 q1 q2 q3
    have K0 := (Keeps.refl (fun k => k = B ∨ some k = g) w).alloc (.cells #[.int .u64 x] 23)
    have y0 := Blk.new w 23 [.int .u64 x]
    have hgl := Hh.out.row_lt
    have hBl := Hh.out.lt
    have y2 := y0.kept q3 (by rintro (e | e); omega; exact absurd (hgl _ e.symm) (Nat.lt_irrefl _))
    refine ⟨y2.cell 0 rfl, ?_, ?_, ?_⟩
    · rw [q3.cell (by show M < (w.heap.push _).size; simp; omega) (by rintro (e | e); exact hMB e; exact hMg e.symm), World.cell?_alloc_lt (h := hMl)]
      exact Hc.out
    · rw [q3.frozen (by show M < (w.heap.push _).size; simp; omega) (by rintro (e | e); exact hMB e; exact hMg e.symm), World.frozen?_of_block (w := w) (Below.heap_alloc w _ M hMl)]
      exact Hf.out
    · have := WrPost.step (.inl rfl) K0 ⟨g2, q1, q2, q3⟩
      rw [hx, Int.toNat_natCast] at this
      exact Lib.hid this
  have HB := Lib.hid body
  clear body
  cases v with
  | true =>
    go_enter Try.func50, Try.ntmps50
    go_wp2_with fail
    refine (number_w B g σ ⟨w.heap.size, 0, none⟩ 1 1 (by omega) (by omega) (by omega) (by omega) _ (Hh.out.kept (S := fun _ => False) ((Keeps.refl _ w).alloc (.cells #[.int .u64 1] 23)) id (fun _ _ => id)) ((Blk.new w 23 [.int .u64 1]).cell 0 rfl) (by omega)).mono ?_
    rintro e w2 ⟨rfl, g2, q1, q2, q3⟩
    obtain ⟨c1, c2, c3, HP⟩ := HB.out 1 w2 rfl g2 q1 q2 q3
    have C2 := Lib.hid c2
    clear q1 q2 q3 hc
    go_wp2_with fail
    go_ret
    rw [setCell_self C2.out]
    exact ⟨rfl, HP.out⟩
  | false =>
    go_enter Try.func50, Try.ntmps50
    go_wp2_with fail
    refine (number_w B g σ ⟨w.heap.size, 0, none⟩ 0 1 (by omega) (by omega) (by omega) (by omega) _ (Hh.out.kept (S := fun _ => False) ((Keeps.refl _ w).alloc (.cells #[.int .u64 0] 23)) id (fun _ _ => id)) ((Blk.new w 23 [.int .u64 0]).cell 0 rfl) (by omega)).mono ?_
    rintro e w2 ⟨rfl, g2, q1, q2, q3⟩
    obtain ⟨c1, c2, c3, HP⟩ := HB.out 0 w2 rfl g2 q1 q2 q3
    have C2 := Lib.hid c2
    clear q1 q2 q3 hc
    go_wp2_with fail
    go_ret
    rw [setCell_self C2.out]
    exact ⟨rfl, HP.out⟩

/-- A writer at B and a message's cells at M, on the way from w0 to w. -/
structure FW (w0 w : World) (B M : Nat) (g0 : Option Nat) (cs : List Value) (σ : Wr) (g : Option Nat) : Prop where
  wr : WrS w B σ.c g σ.bs
  m : Blk w M 36 cs
  keep : Keeps (fun k => k = B ∨ some k = g0) w0 w
  fresh : g = g0 ∨ ∃ k, g = some k ∧ w0.heap.size ≤ k
  neB : M ≠ B
  neg0 : g0 ≠ some M
  lt : M < w0.heap.size
theorem FW.neg {w0 w : World} {B M : Nat} {g0 g : Option Nat} {cs : List Value} {σ : Wr} (h : FW w0 w B M g0 cs σ g) : g ≠ some M := by
  rcases h.fresh with e | ⟨k, e, hle⟩
  · rw [e]; exact h.neg0
  · rw [e]; intro e2; injection e2 with e2; have := h.lt; omega
theorem FW.drew {w0 w : World} {B M : Nat} {g0 g : Option Nat} {cs : List Value} {σ : Wr} (h : FW w0 w B M g0 cs σ g) : FW w0 w.drew B M g0 cs σ g := ⟨h.wr, h.m, h.keep.drew, h.fresh, h.neB, h.neg0, h.lt⟩
theorem FW.step {w0 w w' : World} {B M : Nat} {g0 g : Option Nat} {cs : List Value} {σ σ' : Wr} (h : FW w0 w B M g0 cs σ g) (hp : WrPost w B g σ' w') : ∃ g', FW w0 w' B M g0 cs σ' g' := by
  obtain ⟨g', q1, q2, q3⟩ := hp
  refine ⟨g', q1, h.m.kept q3 (by rintro (e | e); exact h.neB e; exact h.neg e.symm), h.keep.trans q3 ?_, ?_, h.neB, h.neg0, h.lt⟩
  · rintro k hk (e | e)
    · exact .inl e
    · rcases h.fresh with e2 | ⟨j, e2, hle⟩
      · exact .inr (by rw [← e2]; exact e)
      · rw [e2] at e; injection e with e; omega
  · rcases q2 with e | ⟨k, e, hle⟩
    · rw [e]; exact h.fresh
    · exact .inr ⟨k, e, Nat.le_trans h.keep.size hle⟩
theorem FW.post {w0 w : World} {B M : Nat} {g0 g : Option Nat} {cs : List Value} {σ : Wr} (h : FW w0 w B M g0 cs σ g) : WrPost w0 B g0 σ w := ⟨g, h.wr, h.fresh, h.keep⟩
theorem Wr.put_handle_len (σ : Wr) (h : Hd) : (σ.put h.lay).bs.length ≤ σ.bs.length + 28 := by
  simp [Wr.put, Hd.lay_length]

-- PRINTED BY genw.py FROM HERE

def Wr.ask (σ : Wr) (m : Msg) : Wr := ((((((((σ.num (u64of m.op) 1).put m.h.lay).put m.h2.lay).text m.name).text m.name2).num m.off.toNat 8).num m.num.toNat 8).text m.data)
set_option maxHeartbeats 8000000 in
set_option maxRecDepth 100000 in
theorem ask_w (B M : Nat) (g0 : Option Nat) (σ : Wr) (m : Msg) (L : Value) (hk : m.Ok) (w0 : World) (hF : FW w0 w0 B M g0 (m.vs L) σ g0) (hl : σ.bs.length ≤ 800000000) :
    Calls Try.prog 49 #[.iface 75 (.pointer (some ⟨B, 0, none⟩)), .pointer (some ⟨M, 3, none⟩)] w0 fun r w' => r = .returned (.tuple #[]) ∧ WrPost w0 B g0 (Wr.ask σ m) w' := by
  unfold Wr.ask
  have m1 := wm_number ⟨B, 0, none⟩; have m2 := wm_text ⟨B, 0, none⟩; have m3 := wm_handle ⟨B, 0, none⟩
  have n1 := wn_number ⟨B, 0, none⟩; have n2 := wn_text ⟨B, 0, none⟩; have n3 := wn_handle ⟨B, 0, none⟩
  obtain ⟨s0, E0⟩ : ∃ x, Hid (x = σ) := ⟨_, Lib.hid rfl⟩
  rw [← E0.out] at hF hl
  have F0 := Lib.hid hF
  clear hF
  go_enter Try.func49, Try.ntmps49
  go_wp2_with fail
  refine (small_w B M 3 g0 s0 m.op 1 (by omega) (by omega) hk.op _ F0.out.wr (F0.out.m.cell 3 rfl) (F0.out.m.frozen 3) F0.out.neB F0.out.neg (by omega)).mono ?_
  rintro e w1 ⟨rfl, hp⟩
  obtain ⟨g1, f⟩ := F0.out.step hp
  have F1 := Lib.hid f
  have l1 := Wr.num_len s0 (u64of m.op) 1
  obtain ⟨s1, E1⟩ : ∃ x, Hid (x = (s0.num (u64of m.op) 1)) := ⟨_, Lib.hid rfl⟩
  rw [← E1.out] at F1 l1
  clear hp f F0
  go_wp2_with fail
  go_still_tail 7, (by kernel_rfl)
  change wpList _ _ _ _ _ w1.drew
  have F1 := Lib.hid F1.out.drew
  generalize w1.drew = w1 at F1 ⊢
  go_wp2_with fail
  refine (handle_w B M 4 g1 s1 m.h hk.h _ F1.out.wr F1.out.neB F1.out.neg (F1.out.m.cell 4 rfl) (F1.out.m.cell 5 rfl) (F1.out.m.cell 6 rfl) (F1.out.m.cell 7 rfl) (by omega)).mono ?_
  rintro e w2 ⟨rfl, hp⟩
  obtain ⟨g2, f⟩ := F1.out.step hp
  have F2 := Lib.hid f
  have l2 := Wr.put_handle_len s1 m.h
  obtain ⟨s2, E2⟩ : ∃ x, Hid (x = (s1.put m.h.lay)) := ⟨_, Lib.hid rfl⟩
  rw [← E2.out] at F2 l2
  clear hp f F1
  go_wp2_with fail
  go_still_tail 7, (by kernel_rfl)
  change wpList _ _ _ _ _ w2.drew
  have F2 := Lib.hid F2.out.drew
  generalize w2.drew = w2 at F2 ⊢
  go_wp2_with fail
  refine (handle_w B M 8 g2 s2 m.h2 hk.h2 _ F2.out.wr F2.out.neB F2.out.neg (F2.out.m.cell 8 rfl) (F2.out.m.cell 9 rfl) (F2.out.m.cell 10 rfl) (F2.out.m.cell 11 rfl) (by omega)).mono ?_
  rintro e w3 ⟨rfl, hp⟩
  obtain ⟨g3, f⟩ := F2.out.step hp
  have F3 := Lib.hid f
  have l3 := Wr.put_handle_len s2 m.h2
  obtain ⟨s3, E3⟩ : ∃ x, Hid (x = (s2.put m.h2.lay)) := ⟨_, Lib.hid rfl⟩
  rw [← E3.out] at F3 l3
  clear hp f F2
  go_wp2_with fail
  go_still_tail 7, (by kernel_rfl)
  change wpList _ _ _ _ _ w3.drew
  have F3 := Lib.hid F3.out.drew
  generalize w3.drew = w3 at F3 ⊢
  go_wp2_with fail
  refine (text_w B g3 s3 ⟨M, 12, none⟩ m.name hk.name _ F3.out.wr (F3.out.m.cell 12 rfl) F3.out.neB F3.out.neg (by omega)).mono ?_
  rintro e w4 ⟨rfl, hp⟩
  obtain ⟨g4, f⟩ := F3.out.step hp
  have F4 := Lib.hid f
  have l4 := Wr.text_len s3 m.name
  obtain ⟨s4, E4⟩ : ∃ x, Hid (x = (s3.text m.name)) := ⟨_, Lib.hid rfl⟩
  rw [← E4.out] at F4 l4
  clear hp f F3
  go_wp2_with fail
  go_still_tail 7, (by kernel_rfl)
  change wpList _ _ _ _ _ w4.drew
  have F4 := Lib.hid F4.out.drew
  generalize w4.drew = w4 at F4 ⊢
  go_wp2_with fail
  refine (text_w B g4 s4 ⟨M, 13, none⟩ m.name2 hk.name2 _ F4.out.wr (F4.out.m.cell 13 rfl) F4.out.neB F4.out.neg (by omega)).mono ?_
  rintro e w5 ⟨rfl, hp⟩
  obtain ⟨g5, f⟩ := F4.out.step hp
  have F5 := Lib.hid f
  have l5 := Wr.text_len s4 m.name2
  obtain ⟨s5, E5⟩ : ∃ x, Hid (x = (s4.text m.name2)) := ⟨_, Lib.hid rfl⟩
  rw [← E5.out] at F5 l5
  clear hp f F4
  go_wp2_with fail
  go_still_tail 7, (by kernel_rfl)
  change wpList _ _ _ _ _ w5.drew
  have F5 := Lib.hid F5.out.drew
  generalize w5.drew = w5 at F5 ⊢
  go_wp2_with fail
  refine (number_w B g5 s5 ⟨M, 14, none⟩ m.off 8 (by omega) (by omega) hk.off.1 hk.off.2 _ F5.out.wr (F5.out.m.cell 14 rfl) (by omega)).mono ?_
  rintro e w6 ⟨rfl, hp⟩
  obtain ⟨g6, f⟩ := F5.out.step hp
  have F6 := Lib.hid f
  have l6 := Wr.num_len s5 m.off.toNat 8
  obtain ⟨s6, E6⟩ : ∃ x, Hid (x = (s5.num m.off.toNat 8)) := ⟨_, Lib.hid rfl⟩
  rw [← E6.out] at F6 l6
  clear hp f F5
  go_wp2_with fail
  go_still_tail 7, (by kernel_rfl)
  change wpList _ _ _ _ _ w6.drew
  have F6 := Lib.hid F6.out.drew
  generalize w6.drew = w6 at F6 ⊢
  go_wp2_with fail
  refine (number_w B g6 s6 ⟨M, 15, none⟩ m.num 8 (by omega) (by omega) hk.num.1 hk.num.2 _ F6.out.wr (F6.out.m.cell 15 rfl) (by omega)).mono ?_
  rintro e w7 ⟨rfl, hp⟩
  obtain ⟨g7, f⟩ := F6.out.step hp
  have F7 := Lib.hid f
  have l7 := Wr.num_len s6 m.num.toNat 8
  obtain ⟨s7, E7⟩ : ∃ x, Hid (x = (s6.num m.num.toNat 8)) := ⟨_, Lib.hid rfl⟩
  rw [← E7.out] at F7 l7
  clear hp f F6
  go_wp2_with fail
  go_still_tail 7, (by kernel_rfl)
  change wpList _ _ _ _ _ w7.drew
  have F7 := Lib.hid F7.out.drew
  generalize w7.drew = w7 at F7 ⊢
  go_wp2_with fail
  refine (text_w B g7 s7 ⟨M, 16, none⟩ m.data hk.data _ F7.out.wr (F7.out.m.cell 16 rfl) F7.out.neB F7.out.neg (by omega)).mono ?_
  rintro e w8 ⟨rfl, hp⟩
  obtain ⟨g8, f⟩ := F7.out.step hp
  have F8 := Lib.hid f
  have l8 := Wr.text_len s7 m.data
  obtain ⟨s8, E8⟩ : ∃ x, Hid (x = (s7.text m.data)) := ⟨_, Lib.hid rfl⟩
  rw [← E8.out] at F8 l8
  clear hp f F7
  go_wp2_with fail
  go_end0
  have hp := F8.out.post
  rw [E8.out, E7.out, E6.out, E5.out, E4.out, E3.out, E2.out, E1.out, E0.out] at hp
  exact ⟨rfl, hp⟩

def Wr.stamp (σ : Wr) (m : Msg) : Wr := (((σ.num m.boot.toNat 8).num m.gb.toNat 8).num m.gn.toNat 8)
set_option maxHeartbeats 8000000 in
set_option maxRecDepth 100000 in
theorem stamp_w (B M : Nat) (g0 : Option Nat) (σ : Wr) (m : Msg) (L : Value) (hk : m.Ok) (w0 : World) (hF : FW w0 w0 B M g0 (m.vs L) σ g0) (hl : σ.bs.length ≤ 800000000) :
    Calls Try.prog 52 #[.iface 75 (.pointer (some ⟨B, 0, none⟩)), .pointer (some ⟨M, 0, none⟩)] w0 fun r w' => r = .returned (.tuple #[]) ∧ WrPost w0 B g0 (Wr.stamp σ m) w' := by
  unfold Wr.stamp
  have m1 := wm_number ⟨B, 0, none⟩; have m2 := wm_text ⟨B, 0, none⟩; have m3 := wm_handle ⟨B, 0, none⟩
  have n1 := wn_number ⟨B, 0, none⟩; have n2 := wn_text ⟨B, 0, none⟩; have n3 := wn_handle ⟨B, 0, none⟩
  obtain ⟨s0, E0⟩ : ∃ x, Hid (x = σ) := ⟨_, Lib.hid rfl⟩
  rw [← E0.out] at hF hl
  have F0 := Lib.hid hF
  clear hF
  go_enter Try.func52, Try.ntmps52
  go_wp2_with fail
  go_still_tail 7, (by kernel_rfl)
  change wpList _ _ _ _ _ w0.drew
  have F0 := Lib.hid F0.out.drew
  generalize w0.drew = w0 at F0 ⊢
  go_wp2_with fail
  refine (number_w B g0 s0 ⟨M, 30, none⟩ m.boot 8 (by omega) (by omega) hk.boot.1 hk.boot.2 _ F0.out.wr (F0.out.m.cell 30 rfl) (by omega)).mono ?_
  rintro e w1 ⟨rfl, hp⟩
  obtain ⟨g1, f⟩ := F0.out.step hp
  have F1 := Lib.hid f
  have l1 := Wr.num_len s0 m.boot.toNat 8
  obtain ⟨s1, E1⟩ : ∃ x, Hid (x = (s0.num m.boot.toNat 8)) := ⟨_, Lib.hid rfl⟩
  rw [← E1.out] at F1 l1
  clear hp f F0
  go_wp2_with fail
  go_still_tail 8, (by kernel_rfl)
  change wpList _ _ _ _ _ w1.drew
  have F1 := Lib.hid F1.out.drew
  generalize w1.drew = w1 at F1 ⊢
  go_wp2_with fail
  refine (number_w B g1 s1 ⟨M, 31, none⟩ m.gb 8 (by omega) (by omega) hk.gb.1 hk.gb.2 _ F1.out.wr (F1.out.m.cell 31 rfl) (by omega)).mono ?_
  rintro e w2 ⟨rfl, hp⟩
  obtain ⟨g2, f⟩ := F1.out.step hp
  have F2 := Lib.hid f
  have l2 := Wr.num_len s1 m.gb.toNat 8
  obtain ⟨s2, E2⟩ : ∃ x, Hid (x = (s1.num m.gb.toNat 8)) := ⟨_, Lib.hid rfl⟩
  rw [← E2.out] at F2 l2
  clear hp f F1
  go_wp2_with fail
  go_still_tail 8, (by kernel_rfl)
  change wpList _ _ _ _ _ w2.drew
  have F2 := Lib.hid F2.out.drew
  generalize w2.drew = w2 at F2 ⊢
  go_wp2_with fail
  refine (number_w B g2 s2 ⟨M, 32, none⟩ m.gn 8 (by omega) (by omega) hk.gn.1 hk.gn.2 _ F2.out.wr (F2.out.m.cell 32 rfl) (by omega)).mono ?_
  rintro e w3 ⟨rfl, hp⟩
  obtain ⟨g3, f⟩ := F2.out.step hp
  have F3 := Lib.hid f
  have l3 := Wr.num_len s2 m.gn.toNat 8
  obtain ⟨s3, E3⟩ : ∃ x, Hid (x = (s2.num m.gn.toNat 8)) := ⟨_, Lib.hid rfl⟩
  rw [← E3.out] at F3 l3
  clear hp f F2
  go_wp2_with fail
  go_end0
  have hp := F3.out.post
  rw [E3.out, E2.out, E1.out, E0.out] at hp
  exact ⟨rfl, hp⟩

end Go.Proofs.Ytibcadfpengacaa

-- ListW
set_option linter.unusedVariables false
set_option linter.unusedSimpArgs false
namespace Go.Proofs.Ytibcadfpengacaa
open Go.RowKit Go.Lib Go.Proofs.YtibcadfpengacaaW.PrintWords Go.Proofs.YtibcadfpengacaaW.PrintMore Go.Proofs.YtibcadfpengacaaW.PrintLast

/-- A slice's entries, as they are read. -/
def EntsR (w : World) (A : Option Addr) (es : List Ent) : Prop :=
  ∀ (i : Nat) (e : Ent), es[i]? = some e → ∃ b o, A = some ⟨b, o, none⟩ ∧ w.cell? ⟨b, o + i * 3, none⟩ = some (.string e.name) ∧ w.cell? ⟨b, o + i * 3 + 1, none⟩ = some (.int .u64 e.ino) ∧ w.cell? ⟨b, o + i * 3 + 2, none⟩ = some (.int .u64 e.cookie)

def Wr.ent (σ : Wr) (e : Ent) : Wr := ((σ.text e.name).num e.ino.toNat 8).num e.cookie.toNat 8
def Wr.ents (σ : Wr) (es : List Ent) : Wr := es.foldl Wr.ent σ
theorem Wr.ent_len (σ : Wr) (e : Ent) : (σ.ent e).bs.length ≤ σ.bs.length + 4120 := by
  unfold Wr.ent
  have h1 := Wr.num_len ((σ.text e.name).num e.ino.toNat 8) e.cookie.toNat 8
  have h2 := Wr.num_len (σ.text e.name) e.ino.toNat 8
  have h3 := Wr.text_len σ e.name
  omega
theorem Wr.ents_len (es : List Ent) : ∀ σ : Wr, (σ.ents es).bs.length ≤ σ.bs.length + 4120 * es.length := by
  induction es with
  | nil => intro σ; exact Nat.le_refl _
  | cons e es ih =>
    intro σ
    have h1 := ih (σ.ent e)
    have h2 := Wr.ent_len σ e
    show ((σ.ent e).ents es).bs.length ≤ _
    simp only [List.length_cons]
    omega
theorem Wr.ents_snoc (σ : Wr) (es : List Ent) (k : Nat) (h : k < es.length) : σ.ents (es.take (k + 1)) = (σ.ents (es.take k)).ent (es[k]'h) := by
  unfold Wr.ents
  rw [List.take_succ_eq_append_getElem h, List.foldl_append]
  rfl

set_option maxHeartbeats 8000000 in
set_option maxRecDepth 100000 in
theorem list_w_long (B M o : Nat) (g0 : Option Nat) (σ : Wr) (A : Option Addr) (cap : Nat) (es : List Ent) (cs : List Value) (w0 : World) (hF : FW w0 w0 B M g0 cs σ g0) (hL : cs[o]? = some (.slice A es.length cap))
    (hA : EntsR w0 A es) (hAB : ∀ b o, A = some ⟨b, o, none⟩ → es ≠ [] → b ≠ B ∧ g0 ≠ some b) (hes : ∀ e ∈ es, Siz e.name ∧ U64 e.ino ∧ U64 e.cookie) (hlen : es.length ≤ 4398046511104) (hnil : es = [] ∨ A.isSome = true) (hl : σ.bs.length ≤ 700000000) (h64 : ¬ es.length ≤ 64) :
    Calls Try.prog 51 #[.iface 75 (.pointer (some ⟨B, 0, none⟩)), .pointer (some ⟨M, o, none⟩)] w0 fun r w' => r = .returned (.bool false) ∧ WrPost w0 B g0 (σ.num es.length 4) w' := by
  have m1 := wm_number ⟨B, 0, none⟩; have m2 := wm_text ⟨B, 0, none⟩
  have n1 := wn_number ⟨B, 0, none⟩; have n2 := wn_text ⟨B, 0, none⟩
  have hc := hF.m.cell o hL
  have hlz : (es.length : Int) ≤ 4398046511104 := by omega
  have hlw : IntKind.u64.wrap (es.length : Int) = (es.length : Int) := by rw [u64_wrap]; omega
  have F0 := Lib.hid hF
  have HA := Lib.hid hA
  have HAB := Lib.hid hAB
  have Hes := Lib.hid hes
  have Hnil := Lib.hid hnil
  have hMl := hF.lt
  clear hF hA hAB hes hnil
  go_enter Try.func51, Try.ntmps51
  go_wp2_with fail
  have f0 : FW w0 (w0.alloc (.cells #[.int .u64 es.length] 23)) B M g0 cs σ g0 :=
    ⟨F0.out.wr.kept (S := fun _ => False) ((Keeps.refl _ _).alloc _) id (fun _ _ => id), F0.out.m.alloc _, F0.out.keep.alloc _, F0.out.fresh, F0.out.neB, F0.out.neg0, F0.out.lt⟩
  have y0 := Blk.new w0 23 [.int .u64 es.length]
  refine (number_w B g0 σ ⟨w0.heap.size, 0, none⟩ es.length 4 (by omega) (by omega) (by omega) (by omega) _ f0.wr (y0.cell 0 rfl) (by omega)).mono ?_
  rintro e w1 ⟨rfl, hp⟩
  obtain ⟨g1, f1⟩ := f0.step hp
  have hgl := F0.out.wr.row_lt
  have hBl := F0.out.wr.lt
  have y1 : Blk w1 w0.heap.size 23 [.int .u64 es.length] := by
    obtain ⟨_, _, _, q3⟩ := hp
    exact y0.kept q3 (by rintro (e | e); omega; exact absurd (hgl _ e.symm) (Nat.lt_irrefl _))
  have cy := y1.cell 0 rfl
  have cL := f1.m.cell o hL
  have l1 := Wr.num_len σ es.length 4
  rw [Int.toNat_natCast] at f1
  obtain ⟨s1, E1⟩ : ∃ x, Hid (x = σ.num es.length 4) := ⟨_, Lib.hid rfl⟩
  rw [← E1.out] at f1 l1
  have F1 := Lib.hid f1
  clear hp f1 f0 y0 hc
  have h64z : (64 : Int) < (es.length : Int) := by omega
  go_wp2_with fail
  go_ret
  have hp := F1.out.post
  rw [E1.out] at hp
  exact ⟨rfl, hp⟩

set_option maxHeartbeats 8000000 in
set_option maxRecDepth 100000 in
theorem list_w_short (B M o : Nat) (g0 : Option Nat) (σ : Wr) (A : Option Addr) (cap : Nat) (es : List Ent) (cs : List Value) (w0 : World) (hF : FW w0 w0 B M g0 cs σ g0) (hL : cs[o]? = some (.slice A es.length cap))
    (hA : EntsR w0 A es) (hAB : ∀ b o, A = some ⟨b, o, none⟩ → es ≠ [] → b ≠ B ∧ g0 ≠ some b) (hes : ∀ e ∈ es, Siz e.name ∧ U64 e.ino ∧ U64 e.cookie) (hlen : es.length ≤ 4398046511104) (hnil : es = [] ∨ A.isSome = true) (hl : σ.bs.length ≤ 700000000) (h64 : es.length ≤ 64) :
    Calls Try.prog 51 #[.iface 75 (.pointer (some ⟨B, 0, none⟩)), .pointer (some ⟨M, o, none⟩)] w0 fun r w' => r = .returned (.bool true) ∧ WrPost w0 B g0 ((σ.num es.length 4).ents es) w' := by
  have m1 := wm_number ⟨B, 0, none⟩; have m2 := wm_text ⟨B, 0, none⟩
  have n1 := wn_number ⟨B, 0, none⟩; have n2 := wn_text ⟨B, 0, none⟩
  have hc := hF.m.cell o hL
  have hlz : (es.length : Int) ≤ 4398046511104 := by omega
  have hlw : IntKind.u64.wrap (es.length : Int) = (es.length : Int) := by rw [u64_wrap]; omega
  have F0 := Lib.hid hF
  have HA := Lib.hid hA
  have HAB := Lib.hid hAB
  have Hes := Lib.hid hes
  have Hnil := Lib.hid hnil
  have hMl := hF.lt
  clear hF hA hAB hes hnil
  go_enter Try.func51, Try.ntmps51
  go_wp2_with fail
  have f0 : FW w0 (w0.alloc (.cells #[.int .u64 es.length] 23)) B M g0 cs σ g0 :=
    ⟨F0.out.wr.kept (S := fun _ => False) ((Keeps.refl _ _).alloc _) id (fun _ _ => id), F0.out.m.alloc _, F0.out.keep.alloc _, F0.out.fresh, F0.out.neB, F0.out.neg0, F0.out.lt⟩
  have y0 := Blk.new w0 23 [.int .u64 es.length]
  refine (number_w B g0 σ ⟨w0.heap.size, 0, none⟩ es.length 4 (by omega) (by omega) (by omega) (by omega) _ f0.wr (y0.cell 0 rfl) (by omega)).mono ?_
  rintro e w1 ⟨rfl, hp⟩
  obtain ⟨g1, f1⟩ := f0.step hp
  have hgl := F0.out.wr.row_lt
  have hBl := F0.out.wr.lt
  have y1 : Blk w1 w0.heap.size 23 [.int .u64 es.length] := by
    obtain ⟨_, _, _, q3⟩ := hp
    exact y0.kept q3 (by rintro (e | e); omega; exact absurd (hgl _ e.symm) (Nat.lt_irrefl _))
  have cy := y1.cell 0 rfl
  have cL := f1.m.cell o hL
  have l1 := Wr.num_len σ es.length 4
  rw [Int.toNat_natCast] at f1
  obtain ⟨s1, E1⟩ : ∃ x, Hid (x = σ.num es.length 4) := ⟨_, Lib.hid rfl⟩
  rw [← E1.out] at f1 l1
  have F1 := Lib.hid f1
  clear hp f1 f0 y0 hc
  have h64z : (es.length : Int) ≤ 64 := by omega
  have qT : ∀ w, (binOp .eql 30 (.slice A es.length cap) (.slice none 0 0)).run Try.prog w = .ok (.bool A.isNone) w := fun w => Lib.run_eql_slice_nil w _ _ A es.length cap 0 0 Try.underlying30
  have cs0 := Lib.hid (show s1 = s1.ents (es.take 0) from rfl)
  cases hAn : A.isNone with
  | true =>
    have he : es = [] := by
      rcases Hnil.out with h | h
      · exact h
      · cases A with
        | none => cases h
        | some a => cases hAn
    subst he
    obtain rfl : A = none := by cases A with | none => rfl | some a => cases hAn
    have qT2 : ∀ w, (binOp .eql 30 (.slice none 0 cap) (.slice none 0 0)).run Try.prog w = .ok (.bool true) w := qT
    have hp := F1.out.post
    rw [E1.out] at hp
    have Hp := Lib.hid hp
    clear hp qT
    go_wp2_with fail
    refine wp_loop_rounds 1 ?_
    rw [rounds_succ]
    go_wp2_with fail
    go_ret
    exact ⟨rfl, Hp.out⟩
  | false =>
    rw [hAn] at qT
    obtain ⟨ad, rfl⟩ : ∃ ad, A = some ad := by cases A with | none => cases hAn | some a => exact ⟨a, rfl⟩
    go_wp2_with fail
    go_loopg [33] es.length (fun gk i wr => ∃ k : Nat, k + gk = es.length ∧ i = .int .i64 k ∧ ∃ g, Hid (FW w0 wr B M g0 cs (s1.ents (es.take k)) g))
    case atStart => exact ⟨0, by omega, rfl, g1, F1⟩
    case round =>
      obtain ⟨k, hk, rfl, g, F⟩ := hrel
      clear cL cy y1
      by_cases hlt : k < es.length
      · have hkz : (k : Int) < (es.length : Int) := by omega
        have hsn := Lib.hid (Wr.ents_snoc s1 es k hlt)
        obtain ⟨b, oA, hAd, c0, c1, c2⟩ := HA.out k (es[k]'hlt) (List.getElem?_eq_getElem hlt)
        injection hAd with hAd
        subst hAd
        obtain ⟨adB, adg⟩ := HAB.out b oA rfl (by intro h; rw [h] at hlt; simp at hlt)
        have hen := Hes.out (es[k]'hlt) (List.getElem_mem hlt)
        have hbl : b < w0.heap.size := World.block_lt_of_cell? w0 ⟨b, oA + k * 3, none⟩ c0
        generalize es[k]'hlt = en at *
        obtain ⟨he1, he2, he3⟩ := hen
        have hlen2 := Wr.ents_len (es.take k) s1
        have htl : (es.take k).length ≤ 64 := by rw [List.length_take]; omega
        obtain ⟨t0, T0⟩ : ∃ x, Hid (x = s1.ents (es.take k)) := ⟨_, Lib.hid rfl⟩
        rw [← T0.out] at F hlen2
        have hl0 : t0.bs.length ≤ 800000000 := by omega
        have cL : wr.cell? ⟨M, o, none⟩ = some (.slice (some ⟨b, oA, none⟩) es.length cap) := F.out.m.cell o hL
        have C0 := Lib.hid c0; have C1 := Lib.hid c1; have C2 := Lib.hid c2
        clear c0 c1 c2 hlen2 htl
        go_wp2_with fail
        go_still_tail 7, (by kernel_rfl)
        change wpList _ _ _ _ _ wr.drew
        have F := Lib.hid F.out.drew
        generalize wr.drew = wr at F ⊢
        have cc : wr.cell? ⟨b, oA + k * 3, none⟩ = some (.string en.name) := by
          rw [F.out.keep.cell hbl (by rintro (e | e); exact adB e; exact adg e.symm)]
          exact C0.out
        go_wp2_with fail
        refine (text_w B g t0 ⟨b, oA + k * 3, none⟩ en.name he1 _ F.out.wr cc adB (by rcases F.out.fresh with e | ⟨j, e, hle⟩; rw [e]; exact adg; rw [e]; intro e2; injection e2 with e2; have e3 : j = b := e2; omega) (by omega)).mono ?_
        rintro e v1 ⟨rfl, hp⟩
        obtain ⟨h1, f⟩ := F.out.step hp
        have G1 := Lib.hid f
        have ll1 := Wr.text_len t0 en.name
        obtain ⟨t1, T1⟩ : ∃ x, Hid (x = t0.text en.name) := ⟨_, Lib.hid rfl⟩
        rw [← T1.out] at G1 ll1
        clear hp f cc F
        clear cL
        go_wp2_with fail
        go_still_tail 7, (by kernel_rfl)
        change wpList _ _ _ _ _ v1.drew
        have G1 := Lib.hid G1.out.drew
        generalize v1.drew = v1 at G1 ⊢
        have cc : v1.cell? ⟨b, oA + k * 3 + 1, none⟩ = some (.int .u64 en.ino) := by
          rw [G1.out.keep.cell hbl (by rintro (e | e); exact adB e; exact adg e.symm)]
          exact C1.out
        go_wp2_with fail
        refine (number_w B h1 t1 ⟨b, oA + k * 3 + 1, none⟩ en.ino 8 (by omega) (by omega) he2.1 he2.2 _ G1.out.wr cc (by omega)).mono ?_
        rintro e v2 ⟨rfl, hp⟩
        obtain ⟨h2, f⟩ := G1.out.step hp
        have G2 := Lib.hid f
        have ll2 := Wr.num_len t1 en.ino.toNat 8
        obtain ⟨t2, T2⟩ : ∃ x, Hid (x = t1.num en.ino.toNat 8) := ⟨_, Lib.hid rfl⟩
        rw [← T2.out] at G2 ll2
        clear hp f cc G1
        go_wp2_with fail
        go_still_tail 7, (by kernel_rfl)
        change wpList _ _ _ _ _ v2.drew
        have G2 := Lib.hid G2.out.drew
        generalize v2.drew = v2 at G2 ⊢
        have cc : v2.cell? ⟨b, oA + k * 3 + 2, none⟩ = some (.int .u64 en.cookie) := by
          rw [G2.out.keep.cell hbl (by rintro (e | e); exact adB e; exact adg e.symm)]
          exact C2.out
        go_wp2_with fail
        refine (number_w B h2 t2 ⟨b, oA + k * 3 + 2, none⟩ en.cookie 8 (by omega) (by omega) he3.1 he3.2 _ G2.out.wr cc (by omega)).mono ?_
        rintro e v3 ⟨rfl, hp⟩
        obtain ⟨h3, f⟩ := G2.out.step hp
        have G3 := Lib.hid f
        have ll3 := Wr.num_len t2 en.cookie.toNat 8
        obtain ⟨t3, T3⟩ : ∃ x, Hid (x = t2.num en.cookie.toNat 8) := ⟨_, Lib.hid rfl⟩
        rw [← T3.out] at G3 ll3
        clear hp f cc G2
        go_wp2_with fail
        have e3 : t3 = s1.ents (es.take (k + 1)) := by
          rw [hsn.out, T3.out, T2.out, T1.out, T0.out]
          rfl
        rw [e3] at G3
        go_roundg (es.length - (k + 1))
        case measure => omega
        case rel => exact ⟨k + 1, by omega, by go_num, h3, G3⟩
      · have hke : k = es.length := by omega
        have hp := F.out.post
        rw [hke, List.take_of_length_le (Nat.le_refl _), E1.out] at hp
        have Hp := Lib.hid hp
        have hkz : ¬ ((k : Int) < (es.length : Int)) := by omega
        clear hp F
        go_wp2_with fail
        go_ret
        exact ⟨rfl, Hp.out⟩

theorem EntsR.kept {w0 w : World} {S : Nat → Prop} {A : Option Addr} {es : List Ent} (h : EntsR w0 A es) (k : Keeps S w0 w) (hS : ∀ b o, A = some ⟨b, o, none⟩ → es ≠ [] → ¬ S b) : EntsR w A es := by
  intro i e hi
  obtain ⟨b, o, hA, c0, c1, c2⟩ := h i e hi
  have hne : es ≠ [] := by intro h; rw [h] at hi; simp at hi
  have hl : b < w0.heap.size := World.block_lt_of_cell? w0 ⟨b, o + i * 3, none⟩ c0
  exact ⟨b, o, hA, by rw [k.cell hl (hS b o hA hne)]; exact c0, by rw [k.cell hl (hS b o hA hne)]; exact c1, by rw [k.cell hl (hS b o hA hne)]; exact c2⟩
theorem EntsR.lt {w0 : World} {A : Option Addr} {es : List Ent} (h : EntsR w0 A es) : ∀ b o, A = some ⟨b, o, none⟩ → es ≠ [] → b < w0.heap.size := by
  intro b o hA hne
  cases es with
  | nil => exact absurd rfl hne
  | cons e es =>
    obtain ⟨b', o', hA', c0, _⟩ := h 0 e rfl
    rw [hA] at hA'
    injection hA' with hA'
    injection hA' with h1 h2
    subst h1
    exact World.block_lt_of_cell? w0 ⟨b, o' + 0 * 3, none⟩ c0
theorem FW.here {w0 w : World} {B M : Nat} {g0 g : Option Nat} {cs : List Value} {σ : Wr} (h : FW w0 w B M g0 cs σ g) : FW w w B M g cs σ g := ⟨h.wr, h.m, Keeps.refl _ _, .inl rfl, h.neB, h.neg, h.m.lt⟩
/-- What lay there at the beginning and is neither the writer's block nor its row is not the row now. -/
theorem FW.off {w0 w : World} {B M b : Nat} {g0 g : Option Nat} {cs : List Value} {σ : Wr} (h : FW w0 w B M g0 cs σ g) (hb : b < w0.heap.size) (hg : g0 ≠ some b) : g ≠ some b := by
  rcases h.fresh with e | ⟨k, e, hle⟩
  · rw [e]; exact hg
  · rw [e]; intro e2; injection e2 with e2; omega

end Go.Proofs.Ytibcadfpengacaa

-- Eq
set_option linter.unusedVariables false
set_option linter.unusedSimpArgs false
namespace Go.Proofs.Ytibcadfpengacaa
open Go.RowKit Go.Lib Go.Proofs.YtibcadfpengacaaW.PrintWords Go.Proofs.YtibcadfpengacaaW.PrintMore Go.Proofs.YtibcadfpengacaaW.PrintLast

def hdEq (x0 x1 x2 x3 y0 y1 y2 y3 : Int) : Bool := x0 == y0 && (x1 == y1 && (x2 == y2 && (x3 == y3)))
def attrEq (x0 x1 x2 x3 y0 y1 y2 y3 : Int) : Bool := x0 == y0 && (x1 == y1 && (x2 == y2 && (x3 == y3)))
def stampEq (x0 x1 y0 y1 : Int) : Bool := x0 == y0 && (x1 == y1)
def entEq (x0 : ByteArray) (x1 x2 : Int) (y0 : ByteArray) (y1 y2 : Int) : Bool := x0.toList == y0.toList && (x1 == y1 && (x2 == y2))
def askEq (x0 x1 x2 x3 x4 x5 x6 x7 x8 : Int) (x9 x10 : ByteArray) (x11 x12 : Int) (x13 : ByteArray) (y0 y1 y2 y3 y4 y5 y6 y7 y8 : Int) (y9 y10 : ByteArray) (y11 y12 : Int) (y13 : ByteArray) : Bool :=
  x0 == y0 && (hdEq x1 x2 x3 x4 y1 y2 y3 y4 && (hdEq x5 x6 x7 x8 y5 y6 y7 y8 && (x9.toList == y9.toList && (x10.toList == y10.toList && (x11 == y11 && (x12 == y12 && (x13.toList == y13.toList)))))))

theorem eqHd (d : Nat) (w : World) (x0 y0 : Int) (x1 y1 : Int) (x2 y2 : Int) (x3 y3 : Int) :
    (Op.equalIn (d + 2) 25 (.agg #[.int .u32 x0, .int .u64 x1, .int .u64 x2, .int .u64 x3]) (.agg #[.int .u32 y0, .int .u64 y1, .int .u64 y2, .int .u64 y3])).run Try.prog w = .ok (hdEq x0 x1 x2 x3 y0 y1 y2 y3) w := by
  unfold hdEq
  refine eqA_of Try.underlying25 (by kernel_rfl) ?_
  refine eqf_cons (by rfl) (by go_simp; rfl) (by go_simp; rfl) (by go_simp) ?_
  refine eqf_cons (by rfl) (by go_simp; rfl) (by go_simp; rfl) (by go_simp) ?_
  refine eqf_cons (by rfl) (by go_simp; rfl) (by go_simp; rfl) (by go_simp) ?_
  exact eqf_last (by rfl) (by go_simp; rfl) (by go_simp; rfl) (by go_simp)

theorem eqAttr (d : Nat) (w : World) (x0 y0 : Int) (x1 y1 : Int) (x2 y2 : Int) (x3 y3 : Int) :
    (Op.equalIn (d + 2) 29 (.agg #[.int .i64 x0, .int .u32 x1, .int .u64 x2, .int .u64 x3]) (.agg #[.int .i64 y0, .int .u32 y1, .int .u64 y2, .int .u64 y3])).run Try.prog w = .ok (attrEq x0 x1 x2 x3 y0 y1 y2 y3) w := by
  unfold attrEq
  refine eqA_of Try.underlying29 (by kernel_rfl) ?_
  refine eqf_cons (by rfl) (by go_simp; rfl) (by go_simp; rfl) (by go_simp) ?_
  refine eqf_cons (by rfl) (by go_simp; rfl) (by go_simp; rfl) (by go_simp) ?_
  refine eqf_cons (by rfl) (by go_simp; rfl) (by go_simp; rfl) (by go_simp) ?_
  exact eqf_last (by rfl) (by go_simp; rfl) (by go_simp; rfl) (by go_simp)

theorem eqStamp (d : Nat) (w : World) (x0 y0 : Int) (x1 y1 : Int) :
    (Op.equalIn (d + 2) 34 (.agg #[.int .u64 x0, .int .u64 x1]) (.agg #[.int .u64 y0, .int .u64 y1])).run Try.prog w = .ok (stampEq x0 x1 y0 y1) w := by
  unfold stampEq
  refine eqA_of Try.underlying34 (by kernel_rfl) ?_
  refine eqf_cons (by rfl) (by go_simp; rfl) (by go_simp; rfl) (by go_simp) ?_
  exact eqf_last (by rfl) (by go_simp; rfl) (by go_simp; rfl) (by go_simp)

theorem eqEnt (d : Nat) (w : World) (x0 y0 : ByteArray) (x1 y1 : Int) (x2 y2 : Int) :
    (Op.equalIn (d + 2) 99 (.agg #[.string x0, .int .u64 x1, .int .u64 x2]) (.agg #[.string y0, .int .u64 y1, .int .u64 y2])).run Try.prog w = .ok (entEq x0 x1 x2 y0 y1 y2) w := by
  unfold entEq
  refine eqA_of Try.underlying99 (by kernel_rfl) ?_
  refine eqf_cons (by rfl) (by go_simp; rfl) (by go_simp; rfl) (by go_simp) ?_
  refine eqf_cons (by rfl) (by go_simp; rfl) (by go_simp; rfl) (by go_simp) ?_
  exact eqf_last (by rfl) (by go_simp; rfl) (by go_simp; rfl) (by go_simp)

theorem eqAsk (d : Nat) (w : World) (x0 y0 : Int) (x1 y1 : Int) (x2 y2 : Int) (x3 y3 : Int) (x4 y4 : Int) (x5 y5 : Int) (x6 y6 : Int) (x7 y7 : Int) (x8 y8 : Int) (x9 y9 : ByteArray) (x10 y10 : ByteArray) (x11 y11 : Int) (x12 y12 : Int) (x13 y13 : ByteArray) :
    (Op.equalIn (d + 3) 27 (.agg #[.int .i64 x0, .int .u32 x1, .int .u64 x2, .int .u64 x3, .int .u64 x4, .int .u32 x5, .int .u64 x6, .int .u64 x7, .int .u64 x8, .string x9, .string x10, .int .u64 x11, .int .u64 x12, .string x13]) (.agg #[.int .i64 y0, .int .u32 y1, .int .u64 y2, .int .u64 y3, .int .u64 y4, .int .u32 y5, .int .u64 y6, .int .u64 y7, .int .u64 y8, .string y9, .string y10, .int .u64 y11, .int .u64 y12, .string y13])).run Try.prog w = .ok (askEq x0 x1 x2 x3 x4 x5 x6 x7 x8 x9 x10 x11 x12 x13 y0 y1 y2 y3 y4 y5 y6 y7 y8 y9 y10 y11 y12 y13) w := by
  unfold askEq
  refine eqA_of Try.underlying27 (by kernel_rfl) ?_
  refine eqf_cons (by rfl) (by go_simp; rfl) (by go_simp; rfl) (by go_simp) ?_
  refine eqf_cons (by rfl) (by go_simp) (by go_simp) (eqHd (d + 0) w _ _ _ _ _ _ _ _) ?_
  refine eqf_cons (by rfl) (by go_simp) (by go_simp) (eqHd (d + 0) w _ _ _ _ _ _ _ _) ?_
  refine eqf_cons (by rfl) (by go_simp; rfl) (by go_simp; rfl) (by go_simp) ?_
  refine eqf_cons (by rfl) (by go_simp; rfl) (by go_simp; rfl) (by go_simp) ?_
  refine eqf_cons (by rfl) (by go_simp; rfl) (by go_simp; rfl) (by go_simp) ?_
  refine eqf_cons (by rfl) (by go_simp; rfl) (by go_simp; rfl) (by go_simp) ?_
  exact eqf_last (by rfl) (by go_simp; rfl) (by go_simp; rfl) (by go_simp)

end Go.Proofs.Ytibcadfpengacaa

-- PtrimLeftBytex0
namespace Go.Proofs.Ytibcadfpengacaa.PtrimLeftByte
open Go.RowKit Go.Proofs.YtibcadfpengacaaW.PrintWords Go.Proofs.YtibcadfpengacaaW.PrintLast Go.Proofs.YtibcadfpengacaaW.PrintMore
attribute [local go_sem] max2_int min2_int max_two min_two max_three min_three max_four min_four   -- for this text's walks alone
set_option linter.unusedVariables false
set_option linter.unusedSimpArgs false



def errW : Option Int → Value
  | none => .nilIface
  | some c => .iface 0 (.int .i64 c)
theorem errW_none : errW none = .nilIface := rfl
theorem errW_some (c : Int) : errW (some c) = .iface 0 (.int .i64 c) := rfl

-- the values' own types

end Go.Proofs.Ytibcadfpengacaa.PtrimLeftByte

-- PtrimLeftBytex1
namespace Go.Proofs.Ytibcadfpengacaa.PtrimLeftByte
open Go.RowKit Go.Proofs.YtibcadfpengacaaW.PrintWords Go.Proofs.YtibcadfpengacaaW.PrintLast Go.Proofs.YtibcadfpengacaaW.PrintMore
attribute [local go_sem] max2_int min2_int max_two min_two max_three min_three max_four min_four   -- for this text's walks alone
set_option linter.unusedVariables false
set_option linter.unusedSimpArgs false

/-! ### strings_trimLeftByte: function 105 -/
def strings_trimLeftByte.l0 : Nat → ByteArray → Int → Option (ByteArray)
  | 0, _, _ => none
  | k + 1, x0, x1 => if (x0.size : Int) > 0 then (if 0 < (x0.size : Int) then (if (bt x0 0) = x1 then (if 1 ≤ (x0.size : Int) then (strings_trimLeftByte.l0 k (x0.extract 1 x0.size) x1) else (none)) else (some x0)) else (none)) else (some x0)
def strings_trimLeftByte.f (k : Nat) (a0 : ByteArray) (a1 : Int) : Option (ByteArray) := strings_trimLeftByte.l0 k a0 a1
theorem strings_trimLeftByte.mono_l : ∀ k, (∀ y0 y1, LeO (strings_trimLeftByte.l0 k y0 y1) (strings_trimLeftByte.l0 (k + 1) y0 y1))
  | 0 => fun _ _ r h => by simp [strings_trimLeftByte.l0] at h
  | k + 1 => by
    have ih0 := strings_trimLeftByte.mono_l k
    · intro y0 y1
      unfold strings_trimLeftByte.l0
      repeat' first
      | (with_reducible exact ih0 _ _)
      | (with_reducible exact LeO.refl _)
      | (with_reducible exact LeO.none _)
      | (with_reducible refine LeO.ite ?_ ?_)
      | (with_reducible refine LeO.bind ?_ (fun _ => ?_))
      | exact ih0 _ _
      | exact LeO.none _
      | refine LeO.ite ?_ ?_
      | refine LeO.bind ?_ (fun _ => ?_)
theorem strings_trimLeftByte.mono : ∀ a0 a1 k, LeO (strings_trimLeftByte.f k a0 a1) (strings_trimLeftByte.f (k + 1) a0 a1) := by
  intro a0 a1 k
  have ih0 := strings_trimLeftByte.mono_l k
  unfold strings_trimLeftByte.f
  repeat' first
      | (with_reducible exact ih0 _ _)
      | (with_reducible exact LeO.refl _)
      | (with_reducible exact LeO.none _)
      | (with_reducible refine LeO.ite ?_ ?_)
      | (with_reducible refine LeO.bind ?_ (fun _ => ?_))
      | exact ih0 _ _
      | exact LeO.none _
      | refine LeO.ite ?_ ?_
      | refine LeO.bind ?_ (fun _ => ?_)
set_option maxHeartbeats 8000000 in
set_option maxRecDepth 100000 in
theorem strings_trimLeftByte.calls (k : Nat) (a0 : ByteArray) (a1 : Int) (r : ByteArray) (w : World) (h : strings_trimLeftByte.f k a0 a1 = some r) :
    Calls Try.prog 105 #[.string a0, .int .u8 a1] w fun e w' => e = .returned (.string r) ∧ Drawn0 w w' := by
  have H : (strings_trimLeftByte.l0 k a0 a1) = some r := h
  clear h
  have H' := Aside0.mk H
  clear H
  go_enter Try.func105, Try.ntmps105
  go_wp2
  go_loopg [0] k (fun kq v0 w' => ∃ (x0_1 : ByteArray), v0 = .string x0_1 ∧ Aside0 (strings_trimLeftByte.l0 kq x0_1 a1 = some r) ∧ Aside0 (kq ≤ k) ∧ Drawn0 w w')
  case atStart => exact ⟨(a0), (by first | rfl | (simp; done) | (simp [*]; done)), H', ⟨Nat.le_refl _⟩, by repeat (first | exact Drawn0.refl _ | apply Drawn0.step)⟩
  case round =>
    clear H'
    try clear c1
    try clear p2
    obtain ⟨x0_1, rfl, HA, HK1, ⟨m1, rfl⟩⟩ := hrel
    cases gk with
    | zero => exact absurd HA.out (by simp [strings_trimLeftByte.l0])
    | succ k1 =>
      have H := HA.out
      clear HA
      simp only [strings_trimLeftByte.l0] at H
      by_cases c3 : (x0_1.size : Int) > 0
      · rw [if_pos c3] at H
        have c3b0 : decide (0 < (x0_1.size : Int)) = true := decide_eq_true c3
        have c3b1 : decide (0 < x0_1.size) = true := decide_eq_true (by omega)
        clear c3
        by_cases c4 : 0 < (x0_1.size : Int)
        · rw [if_pos c4] at H
          have c4b0 : decide (0 < (x0_1.size : Int)) = true := decide_eq_true c4
          have c4b1 : decide (0 < x0_1.size) = true := decide_eq_true (by omega)
          clear c4
          by_cases c6 : (bt x0_1 0) = a1
          · rw [if_pos c6] at H
            have c6b0 : ((bt x0_1 0) == a1) = true := beq_iff_eq.mpr c6
            have c6b1 : ((bt x0_1 0) != a1) = false := bne_eq_false_iff_eq.mpr c6
            clear c6
            by_cases c7 : 1 ≤ (x0_1.size : Int)
            · rw [if_pos c7] at H
              have c7b0 := eq_true c7
              have c7b1 : decide (1 ≤ (x0_1.size : Int)) = true := decide_eq_true c7
              clear c7
              have H' := Aside0.mk H
              clear H
              have p5 : 0 ≤ (0 : Int) := (by omega)
              have q5 : 0 < x0_1.size := (by have : (0 : Int) < (x0_1.size : Int) := of_decide_eq_true (by first | (with_reducible assumption) | assumption); omega)
              have hx5 : ∀ h : 0 < x0_1.size, ((x0_1[0]'h).toNat : Int) = bt x0_1 0 := bt_at x0_1 0
              clear p5
              have qi5 : (0 < (x0_1.size : Int)) = True := eq_true (of_decide_eq_true (by first | (with_reducible assumption) | assumption))
              replace q5 := eq_true q5
              go_wp2
              go_roundg k1
              case measure => have := HK1.out; omega
              case rel => exact ⟨(x0_1.extract 1 x0_1.size), (by first | rfl | (simp; done) | (simp [*]; done)), H', ⟨by have := HK1.out; omega⟩, by repeat (first | exact Drawn0.refl _ | apply Drawn0.step)⟩
            · rw [if_neg c7] at H
              exact absurd H (by simp)
          · rw [if_neg c6] at H
            have c6b0 : ((bt x0_1 0) == a1) = false := beq_eq_false_iff_ne.mpr c6
            have c6b1 : ((bt x0_1 0) != a1) = true := bne_iff_ne.mpr c6
            obtain rfl := Option.some.inj H
            have p5 : 0 ≤ (0 : Int) := (by omega)
            have q5 : 0 < x0_1.size := (by have : (0 : Int) < (x0_1.size : Int) := of_decide_eq_true (by first | (with_reducible assumption) | assumption); omega)
            have hx5 : ∀ h : 0 < x0_1.size, ((x0_1[0]'h).toNat : Int) = bt x0_1 0 := bt_at x0_1 0
            clear p5
            have qi5 : (0 < (x0_1.size : Int)) = True := eq_true (of_decide_eq_true (by first | (with_reducible assumption) | assumption))
            replace q5 := eq_true q5
            go_wp2
            go_ret
            exact ⟨by first | rfl | (simp; done) | (simp [*]; done), by repeat (first | exact Drawn0.refl _ | apply Drawn0.step)⟩
        · rw [if_neg c4] at H
          exact absurd H (by simp)
      · rw [if_neg c3] at H
        have c3b0 : decide (0 < (x0_1.size : Int)) = false := decide_eq_false c3
        have c3b1 : decide (0 < x0_1.size) = false := decide_eq_false (by omega)
        clear c3
        obtain rfl := Option.some.inj H
        go_wp2
        go_ret
        exact ⟨by first | rfl | (simp; done) | (simp [*]; done), by repeat (first | exact Drawn0.refl _ | apply Drawn0.step)⟩

end Go.Proofs.Ytibcadfpengacaa.PtrimLeftByte

-- PtrimRightBytex0
namespace Go.Proofs.Ytibcadfpengacaa.PtrimRightByte
open Go.RowKit Go.Proofs.YtibcadfpengacaaW.PrintWords Go.Proofs.YtibcadfpengacaaW.PrintLast Go.Proofs.YtibcadfpengacaaW.PrintMore
attribute [local go_sem] max2_int min2_int max_two min_two max_three min_three max_four min_four   -- for this text's walks alone
set_option linter.unusedVariables false
set_option linter.unusedSimpArgs false



def errW : Option Int → Value
  | none => .nilIface
  | some c => .iface 0 (.int .i64 c)
theorem errW_none : errW none = .nilIface := rfl
theorem errW_some (c : Int) : errW (some c) = .iface 0 (.int .i64 c) := rfl

-- the values' own types

end Go.Proofs.Ytibcadfpengacaa.PtrimRightByte

-- PtrimRightBytex1
namespace Go.Proofs.Ytibcadfpengacaa.PtrimRightByte
open Go.RowKit Go.Proofs.YtibcadfpengacaaW.PrintWords Go.Proofs.YtibcadfpengacaaW.PrintLast Go.Proofs.YtibcadfpengacaaW.PrintMore
attribute [local go_sem] max2_int min2_int max_two min_two max_three min_three max_four min_four   -- for this text's walks alone
set_option linter.unusedVariables false
set_option linter.unusedSimpArgs false

/-! ### strings_trimRightByte: function 106 -/
def strings_trimRightByte.l0 : Nat → ByteArray → Int → Option (ByteArray)
  | 0, _, _ => none
  | k + 1, x0, x1 => if (x0.size : Int) > 0 then (if 0 ≤ (wrap64 ((x0.size : Int) - 1)) then (if (wrap64 ((x0.size : Int) - 1)) < (x0.size : Int) then (if (bt x0 (wrap64 ((x0.size : Int) - 1))) = x1 then (if (wrap64 ((x0.size : Int) - 1)) ≤ (x0.size : Int) then (strings_trimRightByte.l0 k (x0.extract 0 ((wrap64 ((x0.size : Int) - 1)) : Int).toNat) x1) else (none)) else (some x0)) else (none)) else (none)) else (some x0)
def strings_trimRightByte.f (k : Nat) (a0 : ByteArray) (a1 : Int) : Option (ByteArray) := strings_trimRightByte.l0 k a0 a1
theorem strings_trimRightByte.mono_l : ∀ k, (∀ y0 y1, LeO (strings_trimRightByte.l0 k y0 y1) (strings_trimRightByte.l0 (k + 1) y0 y1))
  | 0 => fun _ _ r h => by simp [strings_trimRightByte.l0] at h
  | k + 1 => by
    have ih0 := strings_trimRightByte.mono_l k
    · intro y0 y1
      unfold strings_trimRightByte.l0
      repeat' first
      | (with_reducible exact ih0 _ _)
      | (with_reducible exact LeO.refl _)
      | (with_reducible exact LeO.none _)
      | (with_reducible refine LeO.ite ?_ ?_)
      | (with_reducible refine LeO.bind ?_ (fun _ => ?_))
      | exact ih0 _ _
      | exact LeO.none _
      | refine LeO.ite ?_ ?_
      | refine LeO.bind ?_ (fun _ => ?_)
theorem strings_trimRightByte.mono : ∀ a0 a1 k, LeO (strings_trimRightByte.f k a0 a1) (strings_trimRightByte.f (k + 1) a0 a1) := by
  intro a0 a1 k
  have ih0 := strings_trimRightByte.mono_l k
  unfold strings_trimRightByte.f
  repeat' first
      | (with_reducible exact ih0 _ _)
      | (with_reducible exact LeO.refl _)
      | (with_reducible exact LeO.none _)
      | (with_reducible refine LeO.ite ?_ ?_)
      | (with_reducible refine LeO.bind ?_ (fun _ => ?_))
      | exact ih0 _ _
      | exact LeO.none _
      | refine LeO.ite ?_ ?_
      | refine LeO.bind ?_ (fun _ => ?_)
set_option maxHeartbeats 8000000 in
set_option maxRecDepth 100000 in
theorem strings_trimRightByte.calls (k : Nat) (a0 : ByteArray) (a1 : Int) (r : ByteArray) (w : World) (h : strings_trimRightByte.f k a0 a1 = some r) :
    Calls Try.prog 106 #[.string a0, .int .u8 a1] w fun e w' => e = .returned (.string r) ∧ Drawn0 w w' := by
  have H : (strings_trimRightByte.l0 k a0 a1) = some r := h
  clear h
  have H' := Aside0.mk H
  clear H
  go_enter Try.func106, Try.ntmps106
  go_wp2
  go_loopg [0] k (fun kq v0 w' => ∃ (x0_1 : ByteArray), v0 = .string x0_1 ∧ Aside0 (strings_trimRightByte.l0 kq x0_1 a1 = some r) ∧ Aside0 (kq ≤ k) ∧ Drawn0 w w')
  case atStart => exact ⟨(a0), (by first | rfl | (simp; done) | (simp [*]; done)), H', ⟨Nat.le_refl _⟩, by repeat (first | exact Drawn0.refl _ | apply Drawn0.step)⟩
  case round =>
    clear H'
    try clear c1
    try clear p2
    obtain ⟨x0_1, rfl, HA, HK1, ⟨m1, rfl⟩⟩ := hrel
    cases gk with
    | zero => exact absurd HA.out (by simp [strings_trimRightByte.l0])
    | succ k1 =>
      have H := HA.out
      clear HA
      simp only [strings_trimRightByte.l0] at H
      by_cases c3 : (x0_1.size : Int) > 0
      · rw [if_pos c3] at H
        have c3b0 : decide (0 < (x0_1.size : Int)) = true := decide_eq_true c3
        have c3b1 : decide (0 < x0_1.size) = true := decide_eq_true (by omega)
        clear c3
        obtain ⟨ji4, hji4⟩ : ∃ j_ : Int, (wrap64 ((x0_1.size : Int) - 1)) = j_ := ⟨_, rfl⟩
        replace H : (if 0 ≤ (ji4) then (if (ji4) < (x0_1.size : Int) then (if (bt x0_1 (ji4)) = a1 then (if (ji4) ≤ (x0_1.size : Int) then (strings_trimRightByte.l0 k1 (x0_1.extract 0 ((ji4) : Int).toNat) a1) else (none)) else (some x0_1)) else (none)) else (none)) = some r := by first | (rw [hji4] at H; exact H) | (simp only [hji4] at H ⊢; exact H)
        have hji4w : (IntKind.i64.wrap ((x0_1.size : Int) - 1)) = ji4 := (i64_w _).trans hji4
        by_cases c5 : 0 ≤ (ji4)
        · rw [if_pos c5] at H
          have c5b0 : decide (0 ≤ (ji4)) = true := decide_eq_true c5
          clear c5
          by_cases c6 : (ji4) < (x0_1.size : Int)
          · rw [if_pos c6] at H
            have c6b0 : decide ((ji4) < (x0_1.size : Int)) = true := decide_eq_true c6
            clear c6
            by_cases c8 : (bt x0_1 (ji4)) = a1
            · rw [if_pos c8] at H
              have c8b0 : ((bt x0_1 (ji4)) == a1) = true := beq_iff_eq.mpr c8
              have c8b1 : ((bt x0_1 (ji4)) != a1) = false := bne_eq_false_iff_eq.mpr c8
              clear c8
              have c9b0 := eq_true (of_decide_eq_true (by first | (with_reducible assumption) | assumption) : 0 ≤ (ji4))
              by_cases c10 : (ji4) ≤ (x0_1.size : Int)
              · rw [if_pos c10] at H
                have c10b0 := eq_true c10
                have c10b1 : decide ((ji4) ≤ (x0_1.size : Int)) = true := decide_eq_true c10
                clear c10
                have H' := Aside0.mk H
                clear H
                have p7 : 0 ≤ ((ji4) : Int) := of_decide_eq_true (by first | (with_reducible assumption) | assumption)
                have q7 : (ji4) < (x0_1.size : Int) := of_decide_eq_true (by first | (with_reducible assumption) | assumption)
                have hx7 := bt_at x0_1 (ji4)
                replace p7 := eq_true p7
                replace q7 := eq_true q7
                go_wp2
                go_roundg k1
                case measure => have := HK1.out; omega
                case rel => exact ⟨(x0_1.extract 0 ((ji4) : Int).toNat), (by first | rfl | (simp; done) | (simp only [← hji4] <;> (first | rfl | simp)) | (simp [*]; done)), H', ⟨by have := HK1.out; omega⟩, by repeat (first | exact Drawn0.refl _ | apply Drawn0.step)⟩
              · rw [if_neg c10] at H
                exact absurd H (by simp)
            · rw [if_neg c8] at H
              have c8b0 : ((bt x0_1 (ji4)) == a1) = false := beq_eq_false_iff_ne.mpr c8
              have c8b1 : ((bt x0_1 (ji4)) != a1) = true := bne_iff_ne.mpr c8
              obtain rfl := Option.some.inj H
              have p7 : 0 ≤ ((ji4) : Int) := of_decide_eq_true (by first | (with_reducible assumption) | assumption)
              have q7 : (ji4) < (x0_1.size : Int) := of_decide_eq_true (by first | (with_reducible assumption) | assumption)
              have hx7 := bt_at x0_1 (ji4)
              replace p7 := eq_true p7
              replace q7 := eq_true q7
              go_wp2
              go_ret
              exact ⟨by first | rfl | (simp; done) | (simp only [← hji4] <;> (first | rfl | simp)) | (simp [*]; done), by repeat (first | exact Drawn0.refl _ | apply Drawn0.step)⟩
          · rw [if_neg c6] at H
            exact absurd H (by simp)
        · rw [if_neg c5] at H
          exact absurd H (by simp)
      · rw [if_neg c3] at H
        have c3b0 : decide (0 < (x0_1.size : Int)) = false := decide_eq_false c3
        have c3b1 : decide (0 < x0_1.size) = false := decide_eq_false (by omega)
        clear c3
        obtain rfl := Option.some.inj H
        go_wp2
        go_ret
        exact ⟨by first | rfl | (simp; done) | (simp [*]; done), by repeat (first | exact Drawn0.refl _ | apply Drawn0.step)⟩

end Go.Proofs.Ytibcadfpengacaa.PtrimRightByte
