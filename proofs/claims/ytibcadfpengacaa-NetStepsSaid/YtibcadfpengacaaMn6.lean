/- Words, contracts and plain laws for the claim's last text: RefO, RefP, RefQ, PlainE, PlainD, Awake, Encodes, Open, Shelf, Net, NetS, NetC. -/
import Derived.Test.YtibcadfpengacaaMn5
import Derived.Deep.Slices
import Derived.ChangeStays
import Derived.OpenVars
import Derived.SizedLaws
import Derived.Ground.Names2Prog
import Derived.Shelf.Slices.Delete
import Derived.Test.YtibcadfpengacaaProg
import Derived.Test.YtibcadfpengacaaMn4
import Derived.Deep.AppendLies
import Derived.Sort.OwnSorted
-- RefO
set_option linter.unusedVariables false
set_option linter.unusedSimpArgs false
namespace Go.Proofs.Ytibcadfpengacaa
open Go.RowKit Go.Lib Go.Proofs.YtibcadfpengacaaW.PrintWords Go.Proofs.YtibcadfpengacaaW.PrintMore Go.Proofs.YtibcadfpengacaaW.PrintLast

def zask : List Value := [.int .i64 0, .int .u32 0, .int .u64 0, .int .u64 0, .int .u64 0, .int .u32 0, .int .u64 0, .int .u64 0, .int .u64 0, .string ⟨#[]⟩, .string ⟨#[]⟩, .int .u64 0, .int .u64 0, .string ⟨#[]⟩]
theorem run_allocAsk (ev : Operand → Value) (o : Oper) (ho : o.op = .alloc 27) (w : World) : (execOp ev o).run Try.prog w = .ok (.value (.pointer (some ⟨w.heap.size, 0, none⟩))) (w.alloc (.cells zask.toArray 27 (0, 0))) := by
  unfold execOp
  rw [ho]
  kernel_rfl
def askCells (m : Msg) : List Value := [.int .i64 m.op, .int .u32 m.h.ex, .int .u64 m.h.snap, .int .u64 m.h.ino, .int .u64 m.h.gen, .int .u32 m.h2.ex, .int .u64 m.h2.snap, .int .u64 m.h2.ino, .int .u64 m.h2.gen, .string m.name, .string m.name2, .int .u64 m.off, .int .u64 m.num, .string m.data]
theorem askCells_one (m : Msg) : ∀ v ∈ askCells m, v.oneCell' = true := by
  intro v hv
  simp only [askCells, List.mem_cons, List.not_mem_nil, or_false] at hv
  rcases hv with h | h | h | h | h | h | h | h | h | h | h | h | h | h <;> (subst h; rfl)

set_option maxHeartbeats 8000000 in
set_option maxRecDepth 100000 in
theorem layCall_raw (x : List Value) (m : Msg) (A : Option Addr) (c : Nat) (hx : MsgAt x m A c) (p1 p2 p3 : ByteArray) (g1 : p1.size ≤ 5000) (g2 : p2.size ≤ 5000) (g3 : p3.size ≤ 5000) (P1 : Says 55 (.int .i64 m.kind) p1) (P2 : Says 56 (.int .u32 m.client) p2) (P3 : Says 57 (.int .u64 m.xid) p3) (t1 t2 t3 t4 t5 t6 t7 t8 : ByteArray) (hs : t1.size ≤ 5000 ∧ t2.size ≤ 5000 ∧ t3.size ≤ 5000 ∧ t4.size ≤ 5000 ∧ t5.size ≤ 5000 ∧ t6.size ≤ 5000 ∧ t7.size ≤ 5000 ∧ t8.size ≤ 5000)
    (H1 : Says 55 (.int .i64 m.op) t1) (H2 : Says 58 (.agg #[.int .u32 m.h.ex, .int .u64 m.h.snap, .int .u64 m.h.ino, .int .u64 m.h.gen]) t2) (H3 : Says 58 (.agg #[.int .u32 m.h2.ex, .int .u64 m.h2.snap, .int .u64 m.h2.ino, .int .u64 m.h2.gen]) t3)
    (H4 : Says 59 (.string m.name) t4) (H5 : Says 59 (.string m.name2) t5) (H6 : Says 57 (.int .u64 m.off) t6) (H7 : Says 57 (.int .u64 m.num) t7) (H8 : Says 59 (.string m.data) t8)
    (hk1 : m.kind = 1) : Says 38 (.agg x.toArray) (p1 ++ p2 ++ p3 ++ t1 ++ t2 ++ t3 ++ t4 ++ t5 ++ t6 ++ t7 ++ t8) := by
  intro w
  have HX := Lib.hid hx
  have C1 := Lib.hid H1; have C2 := Lib.hid H2; have C3 := Lib.hid H3; have C4 := Lib.hid H4; have C5 := Lib.hid H5; have C6 := Lib.hid H6; have C7 := Lib.hid H7; have C8 := Lib.hid H8
  have HT := Lib.hid hs
  have k1 : (m.kind == 1) = true := by simp [hk1]
  have Hk1 := Lib.hid hk1
  clear H1 H2 H3 H4 H5 H6 H7 H8 hs hk1
  have D1 := Lib.hid P1; have D2 := Lib.hid P2; have D3 := Lib.hid P3
  have G := Lib.hid (show p1.size ≤ 5000 ∧ p2.size ≤ 5000 ∧ p3.size ≤ 5000 from ⟨g1, g2, g3⟩)
  have f2 := lt_False (n := p1.size + p2.size) (by omega)
  have f3 := lt_False (n := p1.size + p2.size + p3.size) (by omega)
  clear P1 P2 P3 g1 g2 g3 hx
  go_enter Try.func38, Try.ntmps38
  go_wp2_with (first
    | ((with_reducible refine gate_dst (N := 1) rfl ?_); refine box_event rfl (N := 1) rfl (run_box _ _ _ 36 _ x.toArray rfl rfl _) ?_; intro gx hgx v1 hbox hbel; have BX := Lib.hid (show Blk v1 gx 36 x from hbox); have BL := Lib.hid hbel; have HGX := Lib.hid hgx; clear hbox hbel hgx))
  have ST := Lib.hid (show ∀ w0 w1 : World, Below w0.heap.size w0 w1 → Blk w0 gx 36 x → Blk w1 gx 36 x from fun _ _ hb h => h.below hb)
  have k0 : Kp (fun w1 => Blk w1 gx 36 x) w v1 := ⟨BX.out, BL.out⟩
  go_region_held3 (fun w' => w'.cell? ⟨gx, 0, none⟩ = some (.int .i64 m.kind) ∧ w'.cell? ⟨gx, 1, none⟩ = some (.int .u32 m.client) ∧ w'.cell? ⟨gx, 2, none⟩ = some (.int .u64 m.xid) ∧ Kp (fun w1 => Blk w1 gx 36 x) w w')
    ((go_split_ands; first
      | (have q := Kp.next ST hb (by assumption); exact ⟨q.h.cell 0 HX.out.c0, q.h.cell 1 HX.out.c1, q.h.cell 2 HX.out.c2, q⟩)
      | (have q := Kp.drew ST k0; exact ⟨q.h.cell 0 HX.out.c0, q.h.cell 1 HX.out.c1, q.h.cell 2 HX.out.c2, q⟩)))
    ((first
        | (go_at_call 55; with_reducible refine (D1.out.at _).mono ?_; rintro e w' ⟨rfl, hb⟩)
        | (go_at_call 56; with_reducible refine (D2.out.at _).mono ?_; rintro e w' ⟨rfl, hb⟩)
        | (go_at_call 57; with_reducible refine (D3.out.at _).mono ?_; rintro e w' ⟨rfl, hb⟩)))
  go_split_ands
  rename_i q
  have Q0 := Lib.hid q
  have cX0 := Q0.out.h.cell 0 HX.out.c0
  clear q k0 BX BL HGX
  generalize hp : p1 ++ p2 ++ p3 = p at *
  have Hp := Lib.hid hp
  have hps : p.size ≤ 15000 := by rw [← hp, ByteArray.size_append, ByteArray.size_append]; have := G.out; omega
  have HPS := Lib.hid hps
  clear hp hps f2 f3 D1 D2 D3
  go_wp2_with (first
    | ((with_reducible refine gate_dst (N := 23) rfl ?_); refine wpList_load_mid rfl 27 _ rfl gx 3 rfl (askCells m) _ (Q0.out.h.part 3 _ HX.out.ask) Try.underlying27 rfl infoAsk ?_)
    | ((with_reducible refine gate_dst (N := 4) rfl ?_); refine box_event rfl (N := 4) rfl (run_allocAsk _ _ rfl _) ?_; intro gb hgb v4 hbox hbel; have BB0 := Lib.hid (show Blk v4 gb 27 zask from hbox); have BL4 := Lib.hid (Q0.out.below.trans (hbel.mono Q0.out.below.size)); have HGB := Lib.hid (show w.heap.size ≤ gb by rw [hgb]; exact Q0.out.below.size); clear hbox hbel hgb)
    | ((with_reducible refine gate_store (t := 27) (p := 4) rfl ?_); refine wpList_store_mid rfl 27 _ _ rfl gb 0 (askCells m).toArray rfl rfl ?ht ?hi ?h1 ?_; (case ht => exact BB0.out.there 14 (Nat.le_refl 14)); (case hi => exact infoAsk); (case h1 => exact all_oneCell_toArray (askCells_one m)); have BB := Lib.hid (BB0.out.setAll (askCells m) rfl); have KC := Lib.hid (Keeps.setCells (S := fun k => k = gb) (askCells m) 0 v4 (Keeps.refl _ _) (fun _ => rfl)); change wpList _ _ _ _ _ (v4.setCells gb 0 (askCells m)); generalize v4.setCells gb 0 (askCells m) = v5 at BB KC ⊢; clear BB0))
  have BL5 := BL4.out.trans (KC.out.below (B := w.heap.size) BL4.out.size (fun k hk => by show ¬ k = gb; have := HGB.out; omega))
  have ST2 := Lib.hid (show ∀ w0 w1 : World, Below w0.heap.size w0 w1 → Blk w0 gb 27 (askCells m) → Blk w1 gb 27 (askCells m) from fun _ _ hb h => h.below hb)
  have k0 : Kp (fun w1 => Blk w1 gb 27 (askCells m)) w v5 := ⟨BB.out, BL5⟩
  clear BL5 BL4 KC BB
  have e1 := lt_False (n := p.size + t1.size) (by have := HPS.out; have := HT.out; omega)
  have e2 := lt_False (n := p.size + t1.size + t2.size) (by have := HPS.out; have := HT.out; omega)
  have e3 := lt_False (n := p.size + t1.size + t2.size + t3.size) (by have := HPS.out; have := HT.out; omega)
  have e4 := lt_False (n := p.size + t1.size + t2.size + t3.size + t4.size) (by have := HPS.out; have := HT.out; omega)
  have e5 := lt_False (n := p.size + t1.size + t2.size + t3.size + t4.size + t5.size) (by have := HPS.out; have := HT.out; omega)
  have e6 := lt_False (n := p.size + t1.size + t2.size + t3.size + t4.size + t5.size + t6.size) (by have := HPS.out; have := HT.out; omega)
  have e7 := lt_False (n := p.size + t1.size + t2.size + t3.size + t4.size + t5.size + t6.size + t7.size) (by have := HPS.out; have := HT.out; omega)
  have e8 := lt_False (n := p.size + t1.size + t2.size + t3.size + t4.size + t5.size + t6.size + t7.size + t8.size) (by have := HPS.out; have := HT.out; omega)
  go_region_held3 (fun w' => w'.cell? ⟨gb, 0, none⟩ = some (.int .i64 m.op) ∧ w'.cell? ⟨gb, 1, none⟩ = some (.int .u32 m.h.ex) ∧ w'.cell? ⟨gb, 2, none⟩ = some (.int .u64 m.h.snap) ∧ w'.cell? ⟨gb, 3, none⟩ = some (.int .u64 m.h.ino) ∧ w'.cell? ⟨gb, 4, none⟩ = some (.int .u64 m.h.gen) ∧ w'.cell? ⟨gb, 5, none⟩ = some (.int .u32 m.h2.ex) ∧ w'.cell? ⟨gb, 6, none⟩ = some (.int .u64 m.h2.snap) ∧ w'.cell? ⟨gb, 7, none⟩ = some (.int .u64 m.h2.ino) ∧ w'.cell? ⟨gb, 8, none⟩ = some (.int .u64 m.h2.gen) ∧ w'.cell? ⟨gb, 9, none⟩ = some (.string m.name) ∧ w'.cell? ⟨gb, 10, none⟩ = some (.string m.name2) ∧ w'.cell? ⟨gb, 11, none⟩ = some (.int .u64 m.off) ∧ w'.cell? ⟨gb, 12, none⟩ = some (.int .u64 m.num) ∧ w'.cell? ⟨gb, 13, none⟩ = some (.string m.data) ∧ Kp (fun w1 => Blk w1 gb 27 (askCells m)) w w')
    ((go_split_ands; first
      | (have q := Kp.next ST2 hb (by assumption); exact ⟨q.h.cell 0 rfl, q.h.cell 1 rfl, q.h.cell 2 rfl, q.h.cell 3 rfl, q.h.cell 4 rfl, q.h.cell 5 rfl, q.h.cell 6 rfl, q.h.cell 7 rfl, q.h.cell 8 rfl, q.h.cell 9 rfl, q.h.cell 10 rfl, q.h.cell 11 rfl, q.h.cell 12 rfl, q.h.cell 13 rfl, q⟩)
      | (have q := Kp.drew ST2 k0; exact ⟨q.h.cell 0 rfl, q.h.cell 1 rfl, q.h.cell 2 rfl, q.h.cell 3 rfl, q.h.cell 4 rfl, q.h.cell 5 rfl, q.h.cell 6 rfl, q.h.cell 7 rfl, q.h.cell 8 rfl, q.h.cell 9 rfl, q.h.cell 10 rfl, q.h.cell 11 rfl, q.h.cell 12 rfl, q.h.cell 13 rfl, q⟩)))
    ((first
        | (go_at_call 55; with_reducible refine (C1.out.at _).mono ?_; rintro e w' ⟨rfl, hb⟩)
        | (go_at_call 58; with_reducible refine (C2.out.at _).mono ?_; rintro e w' ⟨rfl, hb⟩)
        | (go_at_call 58; with_reducible refine (C3.out.at _).mono ?_; rintro e w' ⟨rfl, hb⟩)
        | (go_at_call 59; with_reducible refine (C4.out.at _).mono ?_; rintro e w' ⟨rfl, hb⟩)
        | (go_at_call 59; with_reducible refine (C5.out.at _).mono ?_; rintro e w' ⟨rfl, hb⟩)
        | (go_at_call 57; with_reducible refine (C6.out.at _).mono ?_; rintro e w' ⟨rfl, hb⟩)
        | (go_at_call 57; with_reducible refine (C7.out.at _).mono ?_; rintro e w' ⟨rfl, hb⟩)
        | (go_at_call 59; with_reducible refine (C8.out.at _).mono ?_; rintro e w' ⟨rfl, hb⟩)))
  go_split_ands
  rename_i q
  have Q := Lib.hid q.below
  clear q
  go_wp2
  go_ret
  exact ⟨by rw [Hp.out]; rfl, Q.out⟩

end Go.Proofs.Ytibcadfpengacaa

-- RefP
set_option linter.unusedVariables false
set_option linter.unusedSimpArgs false
namespace Go.Proofs.Ytibcadfpengacaa
open Go.RowKit Go.Lib Go.Proofs.YtibcadfpengacaaW.PrintWords Go.Proofs.YtibcadfpengacaaW.PrintMore Go.Proofs.YtibcadfpengacaaW.PrintLast

def zans : List Value := [.int .i64 0, .int .u32 0, .int .u64 0, .int .u64 0, .int .u64 0, .int .i64 0, .int .u32 0, .int .u64 0, .int .u64 0, .string ⟨#[]⟩, .bool false, .int .u64 0, .slice none 0 0]
theorem run_allocAns (ev : Operand → Value) (o : Oper) (ho : o.op = .alloc 32) (w : World) : (execOp ev o).run Try.prog w = .ok (.value (.pointer (some ⟨w.heap.size, 0, none⟩))) (w.alloc (.cells zans.toArray 32 (0, 0))) := by
  unfold execOp
  rw [ho]
  kernel_rfl
def ansCells (m : Msg) (A : Option Addr) (c : Nat) : List Value := [.int .i64 m.status, .int .u32 m.ah.ex, .int .u64 m.ah.snap, .int .u64 m.ah.ino, .int .u64 m.ah.gen, .int .i64 m.akind, .int .u32 m.links, .int .u64 m.size, .int .u64 m.change, .string m.adata, .bool m.eof, .int .u64 m.anum, .slice A m.list.length c]
theorem ansCells_one (m : Msg) (A : Option Addr) (c : Nat) : ∀ v ∈ ansCells m A c, v.oneCell' = true := by
  intro v hv
  simp only [ansCells, List.mem_cons, List.not_mem_nil, or_false] at hv
  rcases hv with h | h | h | h | h | h | h | h | h | h | h | h | h <;> (subst h; rfl)

def entS (s : ByteArray) (e : Ent) : ByteArray := s ++ txtS e.name ++ leS e.ino.toNat 8 ++ leS e.cookie.toNat 8
def laidEnts (p : ByteArray) (es : List Ent) : ByteArray := es.foldl entS p
theorem laidEnts_snoc (p : ByteArray) (es : List Ent) (k : Nat) (h : k < es.length) : laidEnts p (es.take (k + 1)) = entS (laidEnts p (es.take k)) (es[k]'h) := by
  unfold laidEnts
  rw [List.take_succ_eq_append_getElem h, List.foldl_append]
  rfl
theorem laidEnts_size (es : List Ent) (hs : ∀ e ∈ es, e.name.size ≤ 4096) : ∀ p : ByteArray, (laidEnts p es).size ≤ p.size + 4120 * es.length := by
  induction es with
  | nil => intro p; exact Nat.le_refl _
  | cons e es ih =>
    intro p
    have h1 := ih (fun e he => hs e (List.mem_cons_of_mem _ he)) (entS p e)
    have h2 := txtS_size e.name (hs e List.mem_cons_self)
    have h3 : (entS p e).size = p.size + (txtS e.name).size + 8 + 8 := by simp [entS, ByteArray.size_append, leS_size]
    show (laidEnts (entS p e) es).size ≤ _
    rw [List.length_cons]
    omega

set_option maxHeartbeats 8000000 in
set_option maxRecDepth 100000 in
theorem layReply_raw (x : List Value) (m : Msg) (A : Option Addr) (c : Nat) (hx : MsgAt x m A c) (p1 p2 p3 : ByteArray) (g1 : p1.size ≤ 5000) (g2 : p2.size ≤ 5000) (g3 : p3.size ≤ 5000) (P1 : Says 55 (.int .i64 m.kind) p1) (P2 : Says 56 (.int .u32 m.client) p2) (P3 : Says 57 (.int .u64 m.xid) p3) (t1 t2 t3 t4 t5 t6 t7 t8 t9 t10 tl : ByteArray) (hs : t1.size ≤ 5000 ∧ t2.size ≤ 5000 ∧ t3.size ≤ 5000 ∧ t4.size ≤ 5000 ∧ t5.size ≤ 5000 ∧ t6.size ≤ 5000 ∧ t7.size ≤ 5000 ∧ t8.size ≤ 5000 ∧ t9.size ≤ 5000 ∧ t10.size ≤ 5000 ∧ tl.size ≤ 5000)
    (H1 : Says 55 (.int .i64 m.status) t1) (H2 : Says 58 (.agg #[.int .u32 m.ah.ex, .int .u64 m.ah.snap, .int .u64 m.ah.ino, .int .u64 m.ah.gen]) t2) (H3 : Says 55 (.int .i64 m.akind) t3)
    (H4 : Says 56 (.int .u32 m.links) t4) (H5 : Says 57 (.int .u64 m.size) t5) (H6 : Says 57 (.int .u64 m.change) t6) (H7 : Says 59 (.string m.adata) t7) (H8 : Says 60 (.bool m.eof) t8) (H9 : Says 57 (.int .u64 m.anum) t9) (H10 : Says 56 (.int .u32 m.list.length) t10)
    (HL : Says 61 (.agg x.toArray) tl) (hE : ∀ e ∈ m.list, e.name.size ≤ 4096 ∧ U64 e.ino ∧ U64 e.cookie) (hl : m.list.length ≤ 64)
    (hk2 : m.kind = 2) (w : World) (hA : EntsR w A m.list) : Calls Try.prog 38 #[.agg x.toArray] w fun e w' => e = .returned (.string (laidEnts (p1 ++ p2 ++ p3 ++ t1 ++ t2 ++ t3 ++ t4 ++ t5 ++ t6 ++ t7 ++ t8 ++ t9 ++ t10) m.list ++ tl)) ∧ Below w.heap.size w w' := by
  have HX := Lib.hid hx
  have C1 := Lib.hid H1; have C2 := Lib.hid H2; have C3 := Lib.hid H3; have C4 := Lib.hid H4; have C5 := Lib.hid H5; have C6 := Lib.hid H6; have C7 := Lib.hid H7; have C8 := Lib.hid H8; have C9 := Lib.hid H9; have C10 := Lib.hid H10; have CL := Lib.hid HL
  have HT := Lib.hid hs; have HE := Lib.hid hE; have Hl := Lib.hid hl; have HA := Lib.hid hA
  have k1 : (m.kind == 1) = false := by simp [hk2]
  have k2 : (m.kind == 2) = true := by simp [hk2]
  have Hk2 := Lib.hid hk2
  clear H1 H2 H3 H4 H5 H6 H7 H8 H9 H10 HL hs hk2 hE hl hA
  have D1 := Lib.hid P1; have D2 := Lib.hid P2; have D3 := Lib.hid P3
  have G := Lib.hid (show p1.size ≤ 5000 ∧ p2.size ≤ 5000 ∧ p3.size ≤ 5000 from ⟨g1, g2, g3⟩)
  have f2 := lt_False (n := p1.size + p2.size) (by omega)
  have f3 := lt_False (n := p1.size + p2.size + p3.size) (by omega)
  clear P1 P2 P3 g1 g2 g3 hx
  go_enter Try.func38, Try.ntmps38
  go_wp2_with (first
    | ((with_reducible refine gate_dst (N := 1) rfl ?_); refine box_event rfl (N := 1) rfl (run_box _ _ _ 36 _ x.toArray rfl rfl _) ?_; intro gx hgx v1 hbox hbel; have BX := Lib.hid (show Blk v1 gx 36 x from hbox); have BL := Lib.hid hbel; have HGX := Lib.hid hgx; clear hbox hbel hgx))
  have ST := Lib.hid (show ∀ w0 w1 : World, Below w0.heap.size w0 w1 → Blk w0 gx 36 x → Blk w1 gx 36 x from fun _ _ hb h => h.below hb)
  have k0 : Kp (fun w1 => Blk w1 gx 36 x) w v1 := ⟨BX.out, BL.out⟩
  go_region_held3 (fun w' => w'.cell? ⟨gx, 0, none⟩ = some (.int .i64 m.kind) ∧ w'.cell? ⟨gx, 1, none⟩ = some (.int .u32 m.client) ∧ w'.cell? ⟨gx, 2, none⟩ = some (.int .u64 m.xid) ∧ Kp (fun w1 => Blk w1 gx 36 x) w w')
    ((go_split_ands; first
      | (have q := Kp.next ST hb (by assumption); exact ⟨q.h.cell 0 HX.out.c0, q.h.cell 1 HX.out.c1, q.h.cell 2 HX.out.c2, q⟩)
      | (have q := Kp.drew ST k0; exact ⟨q.h.cell 0 HX.out.c0, q.h.cell 1 HX.out.c1, q.h.cell 2 HX.out.c2, q⟩)))
    ((first
        | (go_at_call 55; with_reducible refine (D1.out.at _).mono ?_; rintro e w' ⟨rfl, hb⟩)
        | (go_at_call 56; with_reducible refine (D2.out.at _).mono ?_; rintro e w' ⟨rfl, hb⟩)
        | (go_at_call 57; with_reducible refine (D3.out.at _).mono ?_; rintro e w' ⟨rfl, hb⟩)))
  go_split_ands
  rename_i q
  have Q0 := Lib.hid q
  have cX0 := Q0.out.h.cell 0 HX.out.c0
  clear q k0 BX BL HGX
  generalize hp : p1 ++ p2 ++ p3 = p at *
  have Hp := Lib.hid hp
  have hps : p.size ≤ 15000 := by rw [← hp, ByteArray.size_append, ByteArray.size_append]; have := G.out; omega
  have HPS := Lib.hid hps
  clear hp hps f2 f3 D1 D2 D3
  go_wp2_with (first
    | ((with_reducible refine gate_dst (N := 60) rfl ?_); refine wpList_load_mid rfl 32 _ rfl gx 17 rfl (ansCells m A c) _ (Q0.out.h.part 17 _ HX.out.ans) Try.underlying32 rfl infoAns ?_)
    | ((with_reducible refine gate_dst (N := 5) rfl ?_); refine box_event rfl (N := 5) rfl (run_allocAns _ _ rfl _) ?_; intro ga hga v4 hbox hbel; have BB0 := Lib.hid (show Blk v4 ga 32 zans from hbox); have BX4 := Lib.hid (Q0.out.h.below hbel); have BL4 := Lib.hid (Q0.out.below.trans (hbel.mono Q0.out.below.size)); have HGB := Lib.hid (show w.heap.size ≤ ga ∧ gx ≠ ga from ⟨by rw [hga]; exact Q0.out.below.size, by have := Q0.out.h.lt; omega⟩); clear hbox hbel hga)
    | ((with_reducible refine gate_store (t := 32) (p := 5) rfl ?_); refine wpList_store_mid rfl 32 _ _ rfl ga 0 (ansCells m A c).toArray rfl rfl ?ht ?hi ?h1 ?_; (case ht => exact BB0.out.there 13 (Nat.le_refl 13)); (case hi => exact infoAns); (case h1 => exact all_oneCell_toArray (ansCells_one m A c)); have BB := Lib.hid (BB0.out.setAll (ansCells m A c) rfl); have KC := Lib.hid (Keeps.setCells (S := fun k => k = ga) (ansCells m A c) 0 v4 (Keeps.refl _ _) (fun _ => rfl)); change wpList _ _ _ _ _ (v4.setCells ga 0 (ansCells m A c)); generalize v4.setCells ga 0 (ansCells m A c) = v5 at BB KC ⊢; clear BB0))
  have BL5 := BL4.out.trans (KC.out.below (B := w.heap.size) BL4.out.size (fun k hk => by show ¬ k = ga; have := HGB.out.1; omega))
  have BX5 := BX4.out.kept KC.out (show ¬ gx = ga from HGB.out.2)
  have ST2 := Lib.hid (show ∀ w0 w1 : World, Below w0.heap.size w0 w1 → (Blk w0 ga 32 (ansCells m A c) ∧ EntsR w0 A m.list ∧ Blk w0 gx 36 x) → (Blk w1 ga 32 (ansCells m A c) ∧ EntsR w1 A m.list ∧ Blk w1 gx 36 x) from fun _ _ hb h => ⟨h.1.below hb, h.2.1.below hb, h.2.2.below hb⟩)
  have k0 : Kp (fun w1 => Blk w1 ga 32 (ansCells m A c) ∧ EntsR w1 A m.list ∧ Blk w1 gx 36 x) w v5 := ⟨⟨BB.out, HA.out.below BL5, BX5⟩, BL5⟩
  have hw : (m.list.length : Int) % 4294967296 = (m.list.length : Int) := by have := Hl.out; omega
  have hw2 : IntKind.u32.wrap (m.list.length : Int) = (m.list.length : Int) := by rw [u32_wrap]; have := Hl.out; omega
  clear BL5 BL4 KC BB BX5 BX4 HA
  have e1 := lt_False (n := p.size + t1.size) (by have := HPS.out; have := HT.out; omega)
  have e2 := lt_False (n := p.size + t1.size + t2.size) (by have := HPS.out; have := HT.out; omega)
  have e3 := lt_False (n := p.size + t1.size + t2.size + t3.size) (by have := HPS.out; have := HT.out; omega)
  have e4 := lt_False (n := p.size + t1.size + t2.size + t3.size + t4.size) (by have := HPS.out; have := HT.out; omega)
  have e5 := lt_False (n := p.size + t1.size + t2.size + t3.size + t4.size + t5.size) (by have := HPS.out; have := HT.out; omega)
  have e6 := lt_False (n := p.size + t1.size + t2.size + t3.size + t4.size + t5.size + t6.size) (by have := HPS.out; have := HT.out; omega)
  have e7 := lt_False (n := p.size + t1.size + t2.size + t3.size + t4.size + t5.size + t6.size + t7.size) (by have := HPS.out; have := HT.out; omega)
  have e8 := lt_False (n := p.size + t1.size + t2.size + t3.size + t4.size + t5.size + t6.size + t7.size + t8.size) (by have := HPS.out; have := HT.out; omega)
  have e9 := lt_False (n := p.size + t1.size + t2.size + t3.size + t4.size + t5.size + t6.size + t7.size + t8.size + t9.size) (by have := HPS.out; have := HT.out; omega)
  have e10 := lt_False (n := p.size + t1.size + t2.size + t3.size + t4.size + t5.size + t6.size + t7.size + t8.size + t9.size + t10.size) (by have := HPS.out; have := HT.out; omega)
  go_region_held3 (fun w' => w'.cell? ⟨ga, 0, none⟩ = some (.int .i64 m.status) ∧ w'.cell? ⟨ga, 1, none⟩ = some (.int .u32 m.ah.ex) ∧ w'.cell? ⟨ga, 2, none⟩ = some (.int .u64 m.ah.snap) ∧ w'.cell? ⟨ga, 3, none⟩ = some (.int .u64 m.ah.ino) ∧ w'.cell? ⟨ga, 4, none⟩ = some (.int .u64 m.ah.gen) ∧ w'.cell? ⟨ga, 5, none⟩ = some (.int .i64 m.akind) ∧ w'.cell? ⟨ga, 6, none⟩ = some (.int .u32 m.links) ∧ w'.cell? ⟨ga, 7, none⟩ = some (.int .u64 m.size) ∧ w'.cell? ⟨ga, 8, none⟩ = some (.int .u64 m.change) ∧ w'.cell? ⟨ga, 9, none⟩ = some (.string m.adata) ∧ w'.cell? ⟨ga, 10, none⟩ = some (.bool m.eof) ∧ w'.cell? ⟨ga, 11, none⟩ = some (.int .u64 m.anum) ∧ w'.cell? ⟨ga, 12, none⟩ = some (.slice A m.list.length c) ∧ Kp (fun w1 => Blk w1 ga 32 (ansCells m A c) ∧ EntsR w1 A m.list ∧ Blk w1 gx 36 x) w w')
    ((go_split_ands; first
      | (have q := Kp.next ST2 hb (by assumption); exact ⟨q.h.1.cell 0 rfl, q.h.1.cell 1 rfl, q.h.1.cell 2 rfl, q.h.1.cell 3 rfl, q.h.1.cell 4 rfl, q.h.1.cell 5 rfl, q.h.1.cell 6 rfl, q.h.1.cell 7 rfl, q.h.1.cell 8 rfl, q.h.1.cell 9 rfl, q.h.1.cell 10 rfl, q.h.1.cell 11 rfl, q.h.1.cell 12 rfl, q⟩)
      | (have q := Kp.drew ST2 k0; exact ⟨q.h.1.cell 0 rfl, q.h.1.cell 1 rfl, q.h.1.cell 2 rfl, q.h.1.cell 3 rfl, q.h.1.cell 4 rfl, q.h.1.cell 5 rfl, q.h.1.cell 6 rfl, q.h.1.cell 7 rfl, q.h.1.cell 8 rfl, q.h.1.cell 9 rfl, q.h.1.cell 10 rfl, q.h.1.cell 11 rfl, q.h.1.cell 12 rfl, q⟩)))
    ((first
        | (go_at_call 55; with_reducible refine (C1.out.at _).mono ?_; rintro e w' ⟨rfl, hb⟩)
        | (go_at_call 58; with_reducible refine (C2.out.at _).mono ?_; rintro e w' ⟨rfl, hb⟩)
        | (go_at_call 55; with_reducible refine (C3.out.at _).mono ?_; rintro e w' ⟨rfl, hb⟩)
        | (go_at_call 56; with_reducible refine (C4.out.at _).mono ?_; rintro e w' ⟨rfl, hb⟩)
        | (go_at_call 57; with_reducible refine (C5.out.at _).mono ?_; rintro e w' ⟨rfl, hb⟩)
        | (go_at_call 57; with_reducible refine (C6.out.at _).mono ?_; rintro e w' ⟨rfl, hb⟩)
        | (go_at_call 59; with_reducible refine (C7.out.at _).mono ?_; rintro e w' ⟨rfl, hb⟩)
        | (go_at_call 60; with_reducible refine (C8.out.at _).mono ?_; rintro e w' ⟨rfl, hb⟩)
        | (go_at_call 57; with_reducible refine (C9.out.at _).mono ?_; rintro e w' ⟨rfl, hb⟩)
        | (go_at_call 56; with_reducible refine (C10.out.at _).mono ?_; rintro e w' ⟨rfl, hb⟩)))
  go_split_ands
  rename_i q
  have Q1 := Lib.hid q
  clear q k0 Q0
  generalize hp' : p ++ t1 ++ t2 ++ t3 ++ t4 ++ t5 ++ t6 ++ t7 ++ t8 ++ t9 ++ t10 = p' at *
  have Hp' := Lib.hid hp'
  have hps' : p'.size ≤ 65000 := by rw [← hp']; simp only [ByteArray.size_append]; have := HPS.out; have := HT.out; omega
  have HPS' := Lib.hid hps'
  clear hp' hps' e1 e2 e3 e4 e5 e6 e7 e8 e9 e10 C1 C2 C3 C4 C5 C6 C7 C8 C9 C10 hw hw2
  have c12 := Q1.out.h.1.cell 12 rfl
  generalize hn : m.list.length = n at *
  have Hn := Lib.hid hn
  clear hn
  go_wp2_with fail
  go_loopw [3, 6] (fun v i wr => ∃ k : Nat, k ≤ n ∧ i = .int .i64 k ∧ v = .string (laidEnts p' (m.list.take k)) ∧ Kp (fun w1 => Blk w1 ga 32 (ansCells m A c) ∧ EntsR w1 A m.list ∧ Blk w1 gx 36 x) w wr) (fun _ i _ => n - (RowKit.intOf i).toNat)
  case atStart => exact ⟨0, Nat.zero_le _, rfl, rfl, Q1.out⟩
  case round =>
    obtain ⟨k, hk, rfl, rfl, hq⟩ := hrel
    have c12 : wr.cell? ⟨ga, 12, none⟩ = some (.slice A n c) := (hq.h.1.cell 12 rfl).trans (by rw [Hn.out])
    have hn64 : n ≤ 64 := by have := Hl.out; have := Hn.out; omega
    by_cases hlt : k < n
    · obtain ⟨e, he⟩ : ∃ e, m.list[k]? = some e := ⟨_, List.getElem?_eq_getElem (by have := Hn.out; omega)⟩
      have hmem : e ∈ m.list := List.mem_of_getElem? he
      obtain ⟨hz1, hz2, hz3⟩ := HE.out e hmem
      obtain ⟨b, o, hA, y1, y2, y3⟩ := hq.h.2.1 k e he
      have hstep : laidEnts p' (m.list.take (k + 1)) = entS (laidEnts p' (m.list.take k)) e := by
        have hkl : k < m.list.length := by have := Hn.out; omega
        rw [laidEnts_snoc p' m.list k hkl]
        congr 1
        exact (List.getElem?_eq_some_iff.1 he).2
      have hsz : (laidEnts p' (m.list.take k)).size ≤ 65000 + 4120 * 64 := by
        have h1 := laidEnts_size (m.list.take k) (fun e he => (HE.out e (List.mem_of_mem_take he)).1) p'
        have h2 : (m.list.take k).length ≤ 64 := by rw [List.length_take]; have := Hl.out; omega
        have h3 := HPS'.out
        omega
      have T1 := Lib.hid (text_says e.name hz1)
      have T2 := Lib.hid (show Says 57 (.int .u64 e.ino) (leS e.ino.toNat 8) from fun w => l8_any _ hz2 w)
      have T3 := Lib.hid (show Says 57 (.int .u64 e.cookie) (leS e.cookie.toNat 8) from fun w => l8_any _ hz3 w)
      have hs1 := txtS_size e.name hz1
      have hs2 := leS_size e.ino.toNat 8
      have hs3 := leS_size e.cookie.toNat 8
      have HST := Lib.hid hstep
      unfold entS at HST
      generalize txtS e.name = u1 at *
      generalize leS e.ino.toNat 8 = u2 at *
      generalize leS e.cookie.toNat 8 = u3 at *
      generalize laidEnts p' (m.list.take k) = pk at *
      have g1 := lt_False (n := pk.size + u1.size) (by omega)
      have g2 := lt_False (n := pk.size + u1.size + u2.size) (by omega)
      have g3 := lt_False (n := pk.size + u1.size + u2.size + u3.size) (by omega)
      have hki0 : (0 : Int) ≤ (k : Int) := Int.natCast_nonneg _
      have hki1 : (k : Int) < (n : Int) := by omega
      have HA := Lib.hid hA
      have kq := hq
      have HY := Lib.hid (show wr.cell? ⟨b, o + k * 3, none⟩ = some (.string e.name) ∧ wr.cell? ⟨b, o + k * 3 + 1, none⟩ = some (.int .u64 e.ino) ∧ wr.cell? ⟨b, o + k * 3 + 2, none⟩ = some (.int .u64 e.cookie) from ⟨y1, y2, y3⟩)
      have ST3 := Lib.hid (show ∀ w0 w1 : World, Below w0.heap.size w0 w1 → ((Blk w0 ga 32 (ansCells m A c) ∧ EntsR w0 A m.list ∧ Blk w0 gx 36 x) ∧ w0.cell? ⟨b, o + k * 3, none⟩ = some (.string e.name) ∧ w0.cell? ⟨b, o + k * 3 + 1, none⟩ = some (.int .u64 e.ino) ∧ w0.cell? ⟨b, o + k * 3 + 2, none⟩ = some (.int .u64 e.cookie)) → (Blk w1 ga 32 (ansCells m A c) ∧ EntsR w1 A m.list ∧ Blk w1 gx 36 x) ∧ w1.cell? ⟨b, o + k * 3, none⟩ = some (.string e.name) ∧ w1.cell? ⟨b, o + k * 3 + 1, none⟩ = some (.int .u64 e.ino) ∧ w1.cell? ⟨b, o + k * 3 + 2, none⟩ = some (.int .u64 e.cookie) from fun w0 w1 hb h => ⟨ST2.out _ _ hb h.1, (hb.cell (World.block_lt_of_cell? w0 _ h.2.1)).trans h.2.1, (hb.cell (World.block_lt_of_cell? w0 _ h.2.2.1)).trans h.2.2.1, (hb.cell (World.block_lt_of_cell? w0 _ h.2.2.2)).trans h.2.2.2⟩)
      have k3 : Kp (fun w0 => (Blk w0 ga 32 (ansCells m A c) ∧ EntsR w0 A m.list ∧ Blk w0 gx 36 x) ∧ w0.cell? ⟨b, o + k * 3, none⟩ = some (.string e.name) ∧ w0.cell? ⟨b, o + k * 3 + 1, none⟩ = some (.int .u64 e.ino) ∧ w0.cell? ⟨b, o + k * 3 + 2, none⟩ = some (.int .u64 e.cookie)) w wr := ⟨⟨hq.h, HY.out⟩, hq.below⟩
      have HK3 := Lib.hid k3
      clear hz1 hz2 hz3 hstep hsz hs1 hs2 hs3 he hmem hq y1 y2 y3 kq k3
      have HC12 := Lib.hid (show some (Value.slice A m.list.length c) = some (Value.slice (some ⟨b, o, none⟩) n c) by rw [HA.out, Hn.out])
      clear hA
      go_wp2
      have k3 := HK3.out
      go_region_held3 (fun w' => w'.cell? ⟨ga, 12, none⟩ = some (.slice (some ⟨b, o, none⟩) n c) ∧ w'.cell? ⟨b, o + k * 3, none⟩ = some (.string e.name) ∧ w'.cell? ⟨b, o + k * 3 + 1, none⟩ = some (.int .u64 e.ino) ∧ w'.cell? ⟨b, o + k * 3 + 2, none⟩ = some (.int .u64 e.cookie) ∧ Kp (fun w0 => (Blk w0 ga 32 (ansCells m A c) ∧ EntsR w0 A m.list ∧ Blk w0 gx 36 x) ∧ w0.cell? ⟨b, o + k * 3, none⟩ = some (.string e.name) ∧ w0.cell? ⟨b, o + k * 3 + 1, none⟩ = some (.int .u64 e.ino) ∧ w0.cell? ⟨b, o + k * 3 + 2, none⟩ = some (.int .u64 e.cookie)) w w')
        ((go_split_ands; first
          | (have q := Kp.next ST3 hb (by assumption); exact ⟨(q.h.1.1.cell 12 rfl).trans HC12.out, q.h.2.1, q.h.2.2.1, q.h.2.2.2, q⟩)
          | (have q := Kp.drew ST3 k3; exact ⟨(q.h.1.1.cell 12 rfl).trans HC12.out, q.h.2.1, q.h.2.2.1, q.h.2.2.2, q⟩)))
        ((first
            | (go_at_call 59; with_reducible refine (T1.out.at _).mono ?_; rintro e w' ⟨rfl, hb⟩)
            | (go_at_call 57; with_reducible refine (T2.out.at _).mono ?_; rintro e w' ⟨rfl, hb⟩)
            | (go_at_call 57; with_reducible refine (T3.out.at _).mono ?_; rintro e w' ⟨rfl, hb⟩)))
      go_split_ands
      rename_i q
      have Q := Lib.hid q
      clear q k3
      go_wp2
      go_roundw
      case rel => exact ⟨k + 1, by omega, by go_num, by rw [HST.out], Q.out.h.1, Q.out.below⟩
      case measure => simp [RowKit.intOf]; omega
    · have he : k = n := by omega
      subst he
      have hfull : m.list.take k = m.list := List.take_of_length_le (by have := Hn.out; omega)
      have HF := Lib.hid (show laidEnts p' (m.list.take k) = laidEnts p' m.list by rw [hfull])
      have hsz : (laidEnts p' (m.list.take k)).size ≤ 65000 + 4120 * 64 := by
        have h1 := laidEnts_size (m.list.take k) (fun e he => (HE.out e (List.mem_of_mem_take he)).1) p'
        have h2 : (m.list.take k).length ≤ 64 := by rw [List.length_take]; have := Hl.out; omega
        have h3 := HPS'.out
        omega
      have HQ := Lib.hid hq
      clear hfull hq
      generalize laidEnts p' (m.list.take k) = pk at *
      have g1 := lt_False (n := pk.size + tl.size) (by have := HT.out; omega)
      clear hsz
      go_wp2_with (first
        | ((with_reducible refine gate_dst (N := 141) rfl ?_); refine wpList_load_mid rfl 36 _ rfl gx 0 rfl x _ ?hc Try.underlying36 rfl ?hi ?_; (case hc => exact HQ.out.h.2.2.range); (case hi => rw [HX.out.len]; exact infoMsg)))
      refine (CL.out.at _).mono ?_
      rintro e w4 ⟨rfl, hb⟩
      have KB := Lib.hid (HQ.out.below.trans (hb.mono HQ.out.below.size))
      clear hb
      go_wp2_with fail
      go_ret
      exact ⟨by rw [← Hp'.out, ← Hp.out] at HF; rw [HF.out]; rfl, KB.out⟩

end Go.Proofs.Ytibcadfpengacaa

-- RefQ
set_option linter.unusedVariables false
set_option linter.unusedSimpArgs false
namespace Go.Proofs.Ytibcadfpengacaa
open Go.RowKit Go.Lib Go.Proofs.YtibcadfpengacaaW.PrintWords Go.Proofs.YtibcadfpengacaaW.PrintMore Go.Proofs.YtibcadfpengacaaW.PrintLast

def toR (e : Ent) : PRlong.S99 := ⟨e.name, e.ino, e.cookie⟩
theorem kR_of {w : World} {A : Option Addr} {es : List Ent} (hlen : es.length ≤ 4398046511104) (hA : EntsR w A es) : Kd.C PRlong.k99 w A (es.map toR).length (es.map toR) := by
  refine ⟨rfl, by rw [List.length_map]; omega, fun h => ?_⟩
  rw [List.length_map] at h
  obtain ⟨b, o, e, _⟩ := hA 0 _ (List.getElem?_eq_getElem h)
  refine ⟨⟨b, o, none⟩, e, fun j p hp => ?_⟩
  have hj : j < es.length := by
    have := (List.getElem?_eq_some_iff.1 hp).1
    rwa [List.length_map] at this
  have hpe : p = toR (es[j]'hj) := by simpa [hj] using hp.symm
  subst hpe
  obtain ⟨b2, o2, e2, q0, q1, q2⟩ := hA j _ (List.getElem?_eq_getElem hj)
  obtain ⟨rfl, rfl⟩ : b2 = b ∧ o2 = o := by rw [e] at e2; injection e2 with e2; injection e2 with e3 e4; exact ⟨e3.symm, e4.symm⟩
  refine ⟨_, rfl, PRlong.k99_mk w _, fun i u hu => ?_⟩
  have q0' : w.cell? (Addr.add ⟨b2, o2, none⟩ (j * 3)) = some (.string (es[j]'hj).name) := by rw [addr_plus]; exact q0
  have q1' : w.cell? (Addr.add ⟨b2, o2, none⟩ (j * 3 + 1)) = some (.int .u64 (es[j]'hj).ino) := by rw [addr_plus]; exact q1
  have q2' : w.cell? (Addr.add ⟨b2, o2, none⟩ (j * 3 + 2)) = some (.int .u64 (es[j]'hj).cookie) := by rw [addr_plus]; exact q2
  match i, hu with
  | 0, hu => obtain rfl := Option.some.inj hu; exact q0'
  | 1, hu => obtain rfl := Option.some.inj hu; exact q1'
  | 2, hu => obtain rfl := Option.some.inj hu; exact q2'
  | i + 3, hu => exact absurd hu (by simp)

def bigS (s : ByteArray) : Bool := decide (4096 < s.size)
theorem refLong_l1 (L : List ByteArray) (es : List PRlong.S99) (hL : L.length ≤ 8796093022208) (P0 : Int) (P1 : Int) (P2 : Int) (P3 : Int) (P4 : Int) (P5 : Int) (P6 : Int) (P7 : Int) (P8 : Int) (P9 : Int) (P10 : Int) (P11 : Int) (P12 : ByteArray) (P13 : ByteArray) (P14 : Int) (P15 : Int) (P16 : ByteArray) (P17 : Int) (P18 : Int) (P19 : Int) (P20 : Int) (P21 : Int) (P22 : Int) (P23 : Int) (P24 : Int) (P25 : Int) (P26 : ByteArray) (P27 : Bool) (P28 : Int) (P30 : Int) (P31 : Int) (P32 : Int) :
    ∀ (r j k : Nat), j + r = L.length → r < k → PRlong.holtref22_long.l1 k L (j : Int) P0 P1 P2 P3 P4 P5 P6 P7 P8 P9 P10 P11 P12 P13 P14 P15 P16 P17 P18 P19 P20 P21 P22 P23 P24 P25 P26 P27 P28 es P30 P31 P32 = some ((L.drop j).any bigS || decide (64 < es.length)) := by
  intro r
  induction r with
  | zero =>
    intro j k hj hk
    obtain ⟨k, rfl⟩ : ∃ m, k = m + 1 := ⟨k - 1, by omega⟩
    rw [PRlong.holtref22_long.l1, if_neg (by omega), List.drop_eq_nil_of_le (by omega)]
    have e : decide ((es.length : Int) > 64) = decide (64 < es.length) := decide_eq_decide.2 (by omega)
    rw [e]
    simp
  | succ r ih =>
    intro j k hj hk
    obtain ⟨k, rfl⟩ : ∃ m, k = m + 1 := ⟨k - 1, by omega⟩
    have hjl : j < L.length := by omega
    have hg : rdOf ByteArray.empty L (j : Int) = L[j]'hjl := by
      unfold rdOf
      simp [List.getD, hjl]
    rw [PRlong.holtref22_long.l1, if_pos (by omega), if_pos (by omega), hg, List.drop_eq_getElem_cons hjl, List.any_cons]
    by_cases hb : 4096 < (L[j]'hjl).size
    · rw [if_pos (by omega)]
      simp [bigS, hb]
    · rw [if_neg (by omega)]
      have hi := ih (j + 1) k (by omega) (by omega)
      have hw : wrap64 ((j : Int) + 1) = ((j + 1 : Nat) : Int) := by clear hi ih; unfold wrap64; omega
      rw [hw, hi]
      simp [bigS, hb]
theorem refLong_l0 (B : List ByteArray) (hB : B.length = 4) (es : List Ent) (hes : es.length ≤ 4398046511104) (P0 : Int) (P1 : Int) (P2 : Int) (P3 : Int) (P4 : Int) (P5 : Int) (P6 : Int) (P7 : Int) (P8 : Int) (P9 : Int) (P10 : Int) (P11 : Int) (P12 : ByteArray) (P13 : ByteArray) (P14 : Int) (P15 : Int) (P16 : ByteArray) (P17 : Int) (P18 : Int) (P19 : Int) (P20 : Int) (P21 : Int) (P22 : Int) (P23 : Int) (P24 : Int) (P25 : Int) (P26 : ByteArray) (P27 : Bool) (P28 : Int) (P30 : Int) (P31 : Int) (P32 : Int) :
    ∀ (r i k : Nat), i + r = es.length → r + (es.length + 6) < k → PRlong.holtref22_long.l0 k (B ++ (es.take i).map (·.name)) (i : Int) P0 P1 P2 P3 P4 P5 P6 P7 P8 P9 P10 P11 P12 P13 P14 P15 P16 P17 P18 P19 P20 P21 P22 P23 P24 P25 P26 P27 P28 (es.map toR) P30 P31 P32 = some ((B ++ es.map (·.name)).any bigS || decide (64 < es.length)) := by
  intro r
  induction r with
  | zero =>
    intro i k hi hk
    obtain ⟨k, rfl⟩ : ∃ m, k = m + 1 := ⟨k - 1, by omega⟩
    have hl1 := refLong_l1 (B ++ es.map (·.name)) (es.map toR) (by rw [List.length_append, List.length_map]; omega) P0 P1 P2 P3 P4 P5 P6 P7 P8 P9 P10 P11 P12 P13 P14 P15 P16 P17 P18 P19 P20 P21 P22 P23 P24 P25 P26 P27 P28 P30 P31 P32 (B ++ es.map (·.name)).length 0 k (by omega) (by rw [List.length_append, List.length_map]; omega)
    rw [List.drop_zero, List.length_map, show ((0 : Nat) : Int) = 0 from rfl] at hl1
    rw [PRlong.holtref22_long.l0, if_neg (by rw [List.length_map]; omega), List.take_of_length_le (by omega), hl1]
  | succ r ih =>
    intro i k hi hk
    obtain ⟨k, rfl⟩ : ∃ m, k = m + 1 := ⟨k - 1, by omega⟩
    have hil : i < es.length := by omega
    have h1 : (i : Int) < ((es.map toR).length : Int) := by rw [List.length_map]; omega
    have hg : PRlong.rd_T99 (es.map toR) (i : Int) = toR (es[i]'hil) := by
      unfold PRlong.rd_T99
      simp [List.getD, hil]
    have h2 : (B ++ (es.take i).map (·.name)).length < 8796093022208 := by rw [List.length_append, List.length_map, List.length_take]; omega
    have hi2 := ih (i + 1) k (by omega) (by omega)
    rw [List.take_succ_eq_append_getElem hil, List.map_append, ← List.append_assoc] at hi2
    have hw : wrap64 ((i : Int) + 1) = ((i + 1 : Nat) : Int) := by clear hi2 ih h1; unfold wrap64; omega
    rw [PRlong.holtref22_long.l0, if_pos h1, if_pos (by omega), if_pos h2, hg, hw]
    exact hi2

theorem refLong_any (m : Msg) (A : Option Addr) (c : Nat) (hlen : m.list.length ≤ 4398046511104) (hcap : m.list.length ≤ c) (w : World) (hA : EntsR w A m.list) :
    Calls Try.prog 36 #[.agg (m.vs (.slice A m.list.length c)).toArray] w fun e w' => e = .returned (.bool m.long) ∧ Below w.heap.size w w' := by
  have h0 : PRlong.holtref22_long.f (m.list.length + (m.list.length + 8)) m.kind m.client m.xid m.op m.h.ex m.h.snap m.h.ino m.h.gen m.h2.ex m.h2.snap m.h2.ino m.h2.gen m.name m.name2 m.off m.num m.data m.status m.ah.ex m.ah.snap m.ah.ino m.ah.gen m.akind m.links m.size m.change m.adata m.eof m.anum (m.list.map toR) m.boot m.gb m.gn = some m.long := by
    have h := refLong_l0 [m.name, m.name2, m.data, m.adata] rfl m.list hlen m.kind m.client m.xid m.op m.h.ex m.h.snap m.h.ino m.h.gen m.h2.ex m.h2.snap m.h2.ino m.h2.gen m.name m.name2 m.off m.num m.data m.status m.ah.ex m.ah.snap m.ah.ino m.ah.gen m.akind m.links m.size m.change m.adata m.eof m.anum m.boot m.gb m.gn m.list.length 0 (m.list.length + (m.list.length + 8)) (by omega) (by omega)
    rw [List.take_zero, List.map_nil, List.append_nil, show ((0 : Nat) : Int) = 0 from rfl] at h
    unfold PRlong.holtref22_long.f
    rw [h]
    congr 1
    unfold Msg.long
    rw [List.any_append, List.any_map]
    simp only [List.any_cons, List.any_nil, Bool.or_false, bigS]
    simp only [Bool.or_assoc]
    rfl
  have := PRlong.holtref22_long.calls (m.list.length + (m.list.length + 8)) m.kind m.client m.xid m.op m.h.ex m.h.snap m.h.ino m.h.gen m.h2.ex m.h2.snap m.h2.ino m.h2.gen m.name m.name2 m.off m.num m.data m.status m.ah.ex m.ah.snap m.ah.ino m.ah.gen m.akind m.links m.size m.change m.adata m.eof m.anum A c (m.list.map toR) m.boot m.gb m.gn m.long w (kR_of hlen hA) (by rw [List.length_map]; exact hcap) h0
  rw [List.length_map] at this
  exact this

/-- The reference's bytes. -/
def Msg.headS (m : Msg) : ByteArray := oneS m.kind ++ leS m.client.toNat 4 ++ leS m.xid.toNat 8
def Msg.layS (m : Msg) : ByteArray :=
  if m.kind = 1 then m.headS ++ oneS m.op ++ m.h.layS ++ m.h2.layS ++ txtS m.name ++ txtS m.name2 ++ leS m.off.toNat 8 ++ leS m.num.toNat 8 ++ txtS m.data
  else if m.kind = 2 then laidEnts (m.headS ++ oneS m.status ++ m.ah.layS ++ oneS m.akind ++ leS m.links.toNat 4 ++ leS m.size.toNat 8 ++ leS m.change.toNat 8 ++ txtS m.adata ++ leS m.eof.toNat 1 ++ leS m.anum.toNat 8 ++ leS m.list.length 4) m.list ++ tailS m
  else m.headS ++ m.h.layS ++ tailS m
theorem Hd.layS_size (h : Hd) : h.layS.size = 28 := by simp [Hd.layS, ByteArray.size_append, leS_size]
theorem oneS_size (x : Int) : (oneS x).size = 1 := leS_size _ _

theorem lay_any (x : List Value) (m : Msg) (A : Option Addr) (c : Nat) (hx : MsgAt x m A c) (hk : m.Ok) (hl : m.long = false) (w : World) (hA : EntsR w A m.list) :
    Calls Try.prog 38 #[.agg x.toArray] w fun e w' => e = .returned (.string m.layS) ∧ Below w.heap.size w w' := by
  unfold Msg.long at hl
  simp only [Bool.or_eq_false_iff, decide_eq_false_iff_not, List.any_eq_false, decide_eq_true_eq] at hl
  obtain ⟨⟨⟨⟨⟨l1, l2⟩, l3⟩, l4⟩, l5⟩, l6⟩ := hl
  have g : ∀ x n, n ≤ 8 → (leS x n).size ≤ 5000 := fun x n h => by rw [leS_size]; omega
  have g28 : ∀ h : Hd, h.layS.size ≤ 5000 := fun h => by rw [Hd.layS_size]; omega
  have g1 : ∀ x, (oneS x).size ≤ 5000 := fun x => by rw [oneS_size]; omega
  have gt : ∀ s : ByteArray, ¬ 4096 < s.size → (txtS s).size ≤ 5000 := fun s h => Nat.le_trans (txtS_size s (by omega)) (by omega)
  have p1 := one_says m.kind
  have p2 : Says 56 (.int .u32 m.client) _ := fun w => l4_any _ hk.client w
  have p3 : Says 57 (.int .u64 m.xid) _ := fun w => l8_any _ hk.xid w
  have tl := tail_says x m A c hx hk
  unfold Msg.layS Msg.headS
  by_cases h1 : m.kind = 1
  · rw [if_pos h1]
    exact layCall_raw x m A c hx _ _ _ (g1 _) (g _ _ (by omega)) (g _ _ (by omega)) p1 p2 p3 _ _ _ _ _ _ _ _ ⟨g1 _, g28 _, g28 _, gt _ l1, gt _ l2, g _ _ (by omega), g _ _ (by omega), gt _ l3⟩
      (one_says _) (refHd_says _ hk.h) (refHd_says _ hk.h2) (text_says _ (by omega)) (text_says _ (by omega)) (fun w => l8_any _ hk.off w) (fun w => l8_any _ hk.num w) (text_says _ (by omega)) h1 w
  by_cases h2 : m.kind = 2
  · rw [if_neg h1, if_pos h2]
    have hlen : Says 56 (.int .u32 m.list.length) (leS m.list.length 4) := fun w => l4_any (m.list.length : Int) ⟨by omega, by omega⟩ w
    exact layReply_raw x m A c hx _ _ _ (g1 _) (g _ _ (by omega)) (g _ _ (by omega)) p1 p2 p3 _ _ _ _ _ _ _ _ _ _ _ ⟨g1 _, g28 _, g1 _, g _ _ (by omega), g _ _ (by omega), g _ _ (by omega), gt _ l4, g _ _ (by omega), g _ _ (by omega), g _ _ (by omega), by rw [tailS_size]; omega⟩
      (one_says _) (refHd_says _ hk.ah) (one_says _) (fun w => l4_any _ hk.links w) (fun w => l8_any _ hk.size w) (fun w => l8_any _ hk.change w) (text_says _ (by omega)) (yes_says _) (fun w => l8_any _ hk.anum w) hlen tl
      (fun e he => ⟨by have := l5 e he; omega, (hk.list e he).2.1, (hk.list e he).2.2⟩) (by omega) h2 w hA
  · rw [if_neg h1, if_neg h2]
    exact layBack_raw x m A c hx _ _ _ (g1 _) (g _ _ (by omega)) (g _ _ (by omega)) p1 p2 p3 _ _ (g28 _) (by rw [tailS_size]; omega) (refHd_says _ hk.h) tl h1 h2 w

/-- What the reference's Encode answers. -/
def Msg.refE (m : Msg) : ByteArray × Int := if m.long = true then (⟨#[]⟩, 2201) else if m.mayB = false then (⟨#[]⟩, 2200) else (m.layS, 0)

set_option maxHeartbeats 4000000 in
set_option maxRecDepth 100000 in
theorem refEncode_raw (x : List Value) (hxl : x.length = 33) (lng may : Bool) (s : ByteArray) (P : World → Prop) (hP : ∀ w w1, Below w.heap.size w w1 → P w → P w1)
    (hL : ∀ w, P w → Calls Try.prog 36 #[.agg x.toArray] w fun e w' => e = .returned (.bool lng) ∧ Below w.heap.size w w')
    (hM : ∀ w, P w → Calls Try.prog 37 #[.agg x.toArray] w fun e w' => e = .returned (.bool may) ∧ Below w.heap.size w w')
    (hS : lng = false → ∀ w, P w → Calls Try.prog 38 #[.agg x.toArray] w fun e w' => e = .returned (.string s) ∧ Below w.heap.size w w') (w : World) (hw : P w) :
    Calls Try.prog 10 #[.agg x.toArray] w fun e w' => e = .returned (.tuple #[.string (if lng = true then (⟨#[]⟩, 2201) else if may = false then (⟨#[]⟩, 2200) else (s, 0) : ByteArray × Int).1, .int .i64 (if lng = true then (⟨#[]⟩, 2201) else if may = false then (⟨#[]⟩, 2200) else (s, 0) : ByteArray × Int).2]) ∧ Below w.heap.size w w' := by
  have HL := Lib.hid hL; have HM := Lib.hid hM; have HS := Lib.hid hS; have HP := Lib.hid hP; have Hxl := Lib.hid hxl; have HW := Lib.hid hw
  clear hL hM hS hP hxl hw
  cases lng
  rotate_left
  · simp only [if_true]
    go_enter Try.func10, Try.ntmps10
    go_wp2_with (first
      | ((with_reducible refine gate_dst (N := 1) rfl ?_); refine box_event rfl (N := 1) rfl (run_box _ _ _ 36 _ x.toArray rfl rfl _) ?_; intro gx hgx v1 hbox hbel; have BX := Lib.hid (show Blk v1 gx 36 x from hbox); have BL := Lib.hid hbel; clear hbox hbel hgx)
      | ((with_reducible refine gate_dst (N := 4) rfl ?_); refine wpList_load_mid rfl 36 _ rfl gx 0 rfl x _ ?hc Try.underlying36 rfl ?hi ?_; (case hc => exact BX.out.range); (case hi => rw [Hxl.out]; exact infoMsg)))
    refine (HL.out v1 (HP.out _ _ BL.out HW.out)).mono ?_
    rintro e w2 ⟨rfl, hb⟩
    have KB := Lib.hid (BL.out.trans (hb.mono BL.out.size))
    clear hb
    go_wp2_with fail
    go_ret2
    exact ⟨rfl, KB.out⟩
  cases may
  · simp only [if_true, Bool.false_eq_true, if_false]
    go_enter Try.func10, Try.ntmps10
    go_wp2_with (first
      | ((with_reducible refine gate_dst (N := 1) rfl ?_); refine box_event rfl (N := 1) rfl (run_box _ _ _ 36 _ x.toArray rfl rfl _) ?_; intro gx hgx v1 hbox hbel; have BX := Lib.hid (show Blk v1 gx 36 x from hbox); have BL := Lib.hid hbel; clear hbox hbel hgx)
      | ((with_reducible refine gate_dst (N := 4) rfl ?_); refine wpList_load_mid rfl 36 _ rfl gx 0 rfl x _ ?hc Try.underlying36 rfl ?hi ?_; (case hc => exact BX.out.range); (case hi => rw [Hxl.out]; exact infoMsg)))
    refine (HL.out v1 (HP.out _ _ BL.out HW.out)).mono ?_
    rintro e w2 ⟨rfl, hb⟩
    have BX2 := Lib.hid (BX.out.below hb)
    have KB := Lib.hid (BL.out.trans (hb.mono BL.out.size))
    have PW := Lib.hid (HP.out _ _ hb (HP.out _ _ BL.out HW.out))
    clear hb
    go_wp2_with (first
      | ((with_reducible refine gate_dst (N := 6) rfl ?_); refine wpList_load_mid rfl 36 _ rfl gx 0 rfl x _ ?hc Try.underlying36 rfl ?hi ?_; (case hc => exact BX2.out.range); (case hi => rw [Hxl.out]; exact infoMsg)))
    refine (HM.out w2 PW.out).mono ?_
    rintro e w3 ⟨rfl, hb⟩
    have KB3 := Lib.hid (KB.out.trans (hb.mono KB.out.size))
    clear hb
    go_wp2_with fail
    go_ret2
    exact ⟨rfl, KB3.out⟩
  · simp only [Bool.false_eq_true, if_false, Bool.true_eq_false]
    go_enter Try.func10, Try.ntmps10
    go_wp2_with (first
      | ((with_reducible refine gate_dst (N := 1) rfl ?_); refine box_event rfl (N := 1) rfl (run_box _ _ _ 36 _ x.toArray rfl rfl _) ?_; intro gx hgx v1 hbox hbel; have BX := Lib.hid (show Blk v1 gx 36 x from hbox); have BL := Lib.hid hbel; clear hbox hbel hgx)
      | ((with_reducible refine gate_dst (N := 4) rfl ?_); refine wpList_load_mid rfl 36 _ rfl gx 0 rfl x _ ?hc Try.underlying36 rfl ?hi ?_; (case hc => exact BX.out.range); (case hi => rw [Hxl.out]; exact infoMsg)))
    refine (HL.out v1 (HP.out _ _ BL.out HW.out)).mono ?_
    rintro e w2 ⟨rfl, hb⟩
    have BX2 := Lib.hid (BX.out.below hb)
    have KB := Lib.hid (BL.out.trans (hb.mono BL.out.size))
    have PW := Lib.hid (HP.out _ _ hb (HP.out _ _ BL.out HW.out))
    clear hb
    go_wp2_with (first
      | ((with_reducible refine gate_dst (N := 6) rfl ?_); refine wpList_load_mid rfl 36 _ rfl gx 0 rfl x _ ?hc Try.underlying36 rfl ?hi ?_; (case hc => exact BX2.out.range); (case hi => rw [Hxl.out]; exact infoMsg)))
    refine (HM.out w2 PW.out).mono ?_
    rintro e w3 ⟨rfl, hb⟩
    have BX3 := Lib.hid (BX2.out.below hb)
    have KB3 := Lib.hid (KB.out.trans (hb.mono KB.out.size))
    have PW3 := Lib.hid (HP.out _ _ hb PW.out)
    clear hb
    go_wp2_with (first
      | ((with_reducible refine gate_dst (N := 9) rfl ?_); refine wpList_load_mid rfl 36 _ rfl gx 0 rfl x _ ?hc Try.underlying36 rfl ?hi ?_; (case hc => exact BX3.out.range); (case hi => rw [Hxl.out]; exact infoMsg)))
    refine (HS.out (by trivial) w3 PW3.out).mono ?_
    rintro e w4 ⟨rfl, hb⟩
    have KB4 := Lib.hid (KB3.out.trans (hb.mono KB3.out.size))
    clear hb
    go_wp2_with fail
    go_ret2
    exact ⟨rfl, KB4.out⟩

theorem refEncode_any (m : Msg) (A : Option Addr) (c : Nat) (hk : m.Ok) (hcap : m.list.length ≤ c) (w : World) (hA : EntsR w A m.list) :
    Calls Try.prog 10 #[.agg (m.vs (.slice A m.list.length c)).toArray] w fun e w' => e = .returned (.tuple #[.string m.refE.1, .int .i64 m.refE.2]) ∧ Below w.heap.size w w' :=
  refEncode_raw (m.vs (.slice A m.list.length c)) rfl m.long m.mayB m.layS (fun w => EntsR w A m.list) (fun _ _ hb h => h.below hb) (fun w h => refLong_any m A c hk.len hcap w h) (fun w _ => may_any _ m A c (MsgAt.of m A c) w) (fun hl w h => lay_any _ m A c (MsgAt.of m A c) hk hl w h) w hA

end Go.Proofs.Ytibcadfpengacaa

-- PlainE
set_option linter.unusedVariables false
set_option linter.unusedSimpArgs false
namespace Go.Proofs.Ytibcadfpengacaa
open Go.RowKit Go.Lib

/-! ### A writer, step by step -/
theorem Wr.num_ok (σ : Wr) (x n : Nat) (h : x < 256 ^ n) : σ.num x n = σ.put (leB x n) := by unfold Wr.num; rw [if_pos h]
theorem Wr.put_put (σ : Wr) (a b : List UInt8) : (σ.put a).put b = σ.put (a ++ b) := by simp [Wr.put]
theorem Wr.text_ok (σ : Wr) (s : ByteArray) (h : s.size ≤ 4096) : σ.text s = σ.put (txt s) := by
  unfold Wr.text
  rw [if_neg (by omega), Wr.num_ok _ _ _ (by have : (256 : Nat) ^ 4 = 4294967296 := by decide
                                             omega), Wr.put_put, Wr.put_put]
  rfl
def entL (e : Ent) : List UInt8 := txt e.name ++ leB e.ino.toNat 8 ++ leB e.cookie.toNat 8
theorem u64_lt {x : Int} (h : U64 x) : x.toNat < 256 ^ 8 := by
  have h1 := h.1; have h2 := h.2
  have : (256 : Nat) ^ 8 = 18446744073709551616 := by decide
  omega
theorem u32_lt {x : Int} (h : U32 x) : x.toNat < 256 ^ 4 := by
  have h1 := h.1; have h2 := h.2
  have : (256 : Nat) ^ 4 = 4294967296 := by decide
  omega
theorem Wr.ents_ok (es : List Ent) (h : ∀ e ∈ es, e.name.size ≤ 4096 ∧ U64 e.ino ∧ U64 e.cookie) : ∀ σ : Wr, σ.ents es = σ.put (es.flatMap entL) := by
  induction es with
  | nil => intro σ; simp [Wr.ents, Wr.put]
  | cons e es ih =>
    intro σ
    obtain ⟨h1, h2, h3⟩ := h e List.mem_cons_self
    have hi := ih (fun e he => h e (List.mem_cons_of_mem _ he)) (σ.ent e)
    show (σ.ent e).ents es = _
    rw [hi]
    unfold Wr.ent
    rw [Wr.text_ok _ _ h1, Wr.num_ok _ _ _ (u64_lt h2), Wr.num_ok _ _ _ (u64_lt h3), Wr.put_put, Wr.put_put, Wr.put_put, List.flatMap_cons]
    unfold entL
    simp only [List.append_assoc]

theorem Wr.put_c (σ : Wr) (l : List UInt8) : (σ.put l).c = σ.c := rfl
theorem Wr.num_c (σ : Wr) (x n : Nat) (h : σ.c ≠ 0) : (σ.num x n).c = σ.c := by
  unfold Wr.num
  split
  · rfl
  · show (if σ.c = 0 then _ else σ.c) = σ.c
    rw [if_neg h]
theorem Wr.text_c (σ : Wr) (s : ByteArray) (h : σ.c ≠ 0) : (σ.text s).c = σ.c := by
  unfold Wr.text
  split
  · show (if σ.c = 0 then _ else σ.c) = σ.c
    rw [if_neg h]
  · rw [Wr.put_c, Wr.put_c, Wr.num_c _ _ _ h]
theorem Wr.ents_c (es : List Ent) : ∀ σ : Wr, σ.c ≠ 0 → (σ.ents es).c = σ.c := by
  induction es with
  | nil => intro σ _; rfl
  | cons e es ih =>
    intro σ h
    have h1 : (σ.ent e).c = σ.c := by
      unfold Wr.ent
      have a := Wr.text_c σ e.name h
      have b := Wr.num_c (σ.text e.name) e.ino.toNat 8 (by rw [a]; exact h)
      rw [Wr.num_c _ _ _ (by rw [b, a]; exact h), b, a]
    show ((σ.ent e).ents es).c = _
    rw [ih _ (by rw [h1]; exact h), h1]
theorem Wr.num_bad (σ : Wr) (x n : Nat) (h : σ.c = 0) (hx : ¬ x < 256 ^ n) : (σ.num x n).c = 2200 := by
  unfold Wr.num
  rw [if_neg hx]
  show (if σ.c = 0 then _ else σ.c) = _
  rw [if_pos h]
theorem Wr.num_stay (σ : Wr) (x n : Nat) (h : σ.c = 2200) : (σ.num x n).c = 2200 := by rw [Wr.num_c _ _ _ (by rw [h]; decide), h]
theorem Wr.text_stay (σ : Wr) (s : ByteArray) (h : σ.c = 2200) : (σ.text s).c = 2200 := by rw [Wr.text_c _ _ (by rw [h]; decide), h]
theorem Wr.ents_stay (σ : Wr) (es : List Ent) (h : σ.c = 2200) : (σ.ents es).c = 2200 := by rw [Wr.ents_c _ _ (by rw [h]; decide), h]
theorem Wr.put_stay (σ : Wr) (l : List UInt8) (h : σ.c = 2200) : (σ.put l).c = 2200 := h

theorem smallB_lt {x : Int} (h : smallB x = true) : u64of x = x.toNat ∧ x.toNat < 256 ^ 1 ∧ (x % 256).toNat = x.toNat := by
  have h' : 0 ≤ x ∧ x ≤ 255 := of_decide_eq_true h
  refine ⟨?_, ?_, ?_⟩
  · unfold u64of; omega
  · have : (256 : Nat) ^ 1 = 256 := by decide
    omega
  · omega
theorem smallB_ge {x : Int} (hx : I64 x) (h : smallB x = false) : ¬ u64of x < 256 ^ 1 := by
  have h' : ¬ (0 ≤ x ∧ x ≤ 255) := of_decide_eq_false h
  have h1 := hx.1; have h2 := hx.2
  have : (256 : Nat) ^ 1 = 256 := by decide
  unfold u64of
  omega

/-! ### The bytes, as lists -/
def one1 (x : Int) : List UInt8 := leB (x % 256).toNat 1
def Msg.headL (m : Msg) : List UInt8 := one1 m.kind ++ leB m.client.toNat 4 ++ leB m.xid.toNat 8
def tailL (m : Msg) : List UInt8 := leB m.boot.toNat 8 ++ leB m.gb.toNat 8 ++ leB m.gn.toNat 8
def Msg.layL (m : Msg) : List UInt8 :=
  if m.kind = 1 then m.headL ++ one1 m.op ++ m.h.lay ++ m.h2.lay ++ txt m.name ++ txt m.name2 ++ leB m.off.toNat 8 ++ leB m.num.toNat 8 ++ txt m.data
  else if m.kind = 2 then m.headL ++ one1 m.status ++ m.ah.lay ++ one1 m.akind ++ leB m.links.toNat 4 ++ leB m.size.toNat 8 ++ leB m.change.toNat 8 ++ txt m.adata ++ leB m.eof.toNat 1 ++ leB m.anum.toNat 8 ++ leB m.list.length 4 ++ m.list.flatMap entL ++ tailL m
  else m.headL ++ m.h.lay ++ tailL m
theorem laid_data (es : List Ent) : ∀ p : ByteArray, (laidEnts p es).data.toList = p.data.toList ++ es.flatMap entL := by
  induction es with
  | nil => intro p; simp [laidEnts]
  | cons e es ih =>
    intro p
    have := ih (entS p e)
    show (laidEnts (entS p e) es).data.toList = _
    rw [this, List.flatMap_cons]
    simp [entS, entL, ByteArray.data_append, txtS, leS]
theorem hd_data (h : Hd) : h.layS.data.toList = h.lay := by simp [Hd.layS, Hd.lay, ByteArray.data_append, leS]
theorem layS_data (m : Msg) : m.layS.data.toList = m.layL := by
  unfold Msg.layS Msg.layL
  split
  · simp only [Msg.headS, Msg.headL, ByteArray.data_append, Array.toList_append, hd_data, txtS, leS, oneS, one1]
  · split
    · simp only [Msg.headS, Msg.headL, ByteArray.data_append, Array.toList_append, laid_data, hd_data, txtS, leS, oneS, one1, tailS, tailL, List.append_assoc]
    · simp only [Msg.headS, Msg.headL, ByteArray.data_append, Array.toList_append, hd_data, leS, oneS, one1, tailS, tailL, List.append_assoc]

theorem ask_swap (op a b c d h2e h2s h2i h2g : Int) (name name2 : ByteArray) (off num : Int) (data : ByteArray) :
    askEq op a b c d h2e h2s h2i h2g name name2 off num data 0 a b c d 0 0 0 0 ⟨#[]⟩ ⟨#[]⟩ 0 0 ⟨#[]⟩ = askEq op 0 0 0 0 h2e h2s h2i h2g name name2 off num data 0 0 0 0 0 0 0 0 0 ⟨#[]⟩ ⟨#[]⟩ 0 0 ⟨#[]⟩ := by
  unfold askEq
  rw [hdEq_self, hdEq_self]

theorem pick (m : Msg) (b : Bool) : (if b = false then ([], 2200) else (m.layL, 0) : List UInt8 × Int) = ((if b = false then (⟨#[]⟩, 2200) else (m.layS, 0) : ByteArray × Int).1.data.toList, (if b = false then (⟨#[]⟩, 2200) else (m.layS, 0) : ByteArray × Int).2) := by
  cases b
  · rfl
  · rw [if_neg (by decide), if_neg (by decide), layS_data]
theorem enc_eq (m : Msg) (hk : m.Ok) : m.enc = (m.refE.1.data.toList, m.refE.2) := by
  unfold Msg.enc Msg.refE
  by_cases hl : m.long = true
  · rw [if_pos hl, encV_long (.inr (.inr hl))]
  have hl' : m.long = false := by simpa using hl
  rw [if_neg hl]
  have hl2 := hl'
  unfold Msg.long at hl2
  simp only [Bool.or_eq_false_iff, decide_eq_false_iff_not, List.any_eq_false, decide_eq_true_eq] at hl2
  obtain ⟨⟨⟨⟨⟨l1, l2⟩, l3⟩, l4⟩, l5⟩, l6⟩ := hl2
  have hes : ∀ e ∈ m.list, e.name.size ≤ 4096 ∧ U64 e.ino ∧ U64 e.cookie := fun e he => ⟨by have := l5 e he; omega, (hk.list e he).2.1, (hk.list e he).2.2⟩
  have hsh : m.short = true := decide_eq_true (fun _ => by omega)
  have hll : m.list.length < 256 ^ 4 := by have : (256 : Nat) ^ 4 = 4294967296 := by decide
                                           omega
  have he1 : m.eof.toNat < 256 ^ 1 := by cases m.eof <;> decide
  have hN : ∀ (σ : Wr) b, σ.c = 0 ∨ σ.c = 2200 → ¬ (σ.c = 2201 ∨ m.short = false ∨ b = true) ∨ b = true := fun σ b h => by
    cases b
    · left; rintro (h2 | h2 | h2)
      · rcases h with h | h <;> (rw [h] at h2; revert h2; decide)
      · rw [hsh] at h2; cases h2
      · cases h2
    · right; rfl
  have bad : ∀ σ : Wr, σ.c = 2200 → encV σ m.fine m.short m.long m.bare = ([], 2200) := fun σ h =>
    encV_form (by rw [hl', hsh, h]; decide) (.inl (by rw [h]; decide))
  have good : ∀ l : List UInt8, m.fine = true → encV (Wr.put ⟨0, []⟩ l) m.fine m.short m.long m.bare = if m.bare = false then ([], 2200) else (l, 0) := fun l hf => by
    by_cases hb : m.bare = false
    · rw [if_pos hb, encV_form (by rw [hl', hsh]; simp [Wr.put]) (.inr (.inr hb))]
    · rw [if_neg hb, encV_ok (by rw [hl', hsh]; simp [Wr.put]) (by rw [hf]; simp [Wr.put, hb])]
      rfl
  by_cases h1 : m.kind = 1
  · have hf : m.fine = true := decide_eq_true (.inl h1)
    have hbare : m.bare = (m.noAns && ((m.boot == 0) && stampEq m.gb m.gn 0 0)) := by unfold Msg.bare bareV Msg.noAns; rw [if_pos (by simp [h1])]
    have hmay : m.mayB = (smallB m.op && m.noAns && (m.boot == 0) && stampEq m.gb m.gn 0 0) := by unfold Msg.mayB; rw [if_pos h1]
    have hfl : Wr.fields ⟨0, []⟩ m = Wr.call ⟨0, []⟩ m := by unfold Wr.fields; rw [if_pos h1]
    have hkd : u64of m.kind = m.kind.toNat ∧ m.kind.toNat < 256 ^ 1 ∧ (m.kind % 256).toNat = m.kind.toNat := smallB_lt (by rw [h1]; rfl)
    rw [hfl]
    cases hs : smallB m.op with
    | true =>
      obtain ⟨o1, o2, o3⟩ := smallB_lt hs
      have hcall : Wr.call ⟨0, []⟩ m = Wr.put ⟨0, []⟩ m.layL := by
        unfold Wr.call Wr.ask Msg.layL Msg.headL one1
        rw [if_pos h1, hkd.1, hkd.2.2, o1, o3, Wr.num_ok _ _ _ hkd.2.1, Wr.num_ok _ _ _ (u32_lt hk.client), Wr.num_ok _ _ _ (u64_lt hk.xid), Wr.num_ok _ _ _ o2, Wr.text_ok _ _ (by omega), Wr.text_ok _ _ (by omega), Wr.num_ok _ _ _ (u64_lt hk.off), Wr.num_ok _ _ _ (u64_lt hk.num), Wr.text_ok _ _ (by omega)]
        simp only [Wr.put_put, List.append_assoc]
      rw [hcall, good _ hf, hbare, hmay, hs, Bool.true_and, Bool.and_assoc]
      exact pick m _
    | false =>
      have hc : (Wr.call ⟨0, []⟩ m).c = 2200 := by
        unfold Wr.call Wr.ask
        rw [hkd.1, Wr.num_ok _ _ _ hkd.2.1, Wr.num_ok _ _ _ (u32_lt hk.client), Wr.num_ok _ _ _ (u64_lt hk.xid)]
        exact Wr.text_stay _ _ (Wr.num_stay _ _ _ (Wr.num_stay _ _ _ (Wr.text_stay _ _ (Wr.text_stay _ _ (Wr.put_stay _ _ (Wr.put_stay _ _ (Wr.num_bad _ _ _ rfl (smallB_ge hk.op hs))))))))
      rw [bad _ hc, hmay, hs]
      rfl
  by_cases h2 : m.kind = 2
  · have hf : m.fine = true := decide_eq_true (.inr (.inl h2))
    have hbare : m.bare = askEq m.op m.h.ex m.h.snap m.h.ino m.h.gen m.h2.ex m.h2.snap m.h2.ino m.h2.gen m.name m.name2 m.off m.num m.data 0 0 0 0 0 0 0 0 0 ⟨#[]⟩ ⟨#[]⟩ 0 0 ⟨#[]⟩ := by unfold Msg.bare bareV; rw [if_neg (by simp [h2]), if_pos (by simp [h2])]
    have hmay : m.mayB = (askEq m.op m.h.ex m.h.snap m.h.ino m.h.gen m.h2.ex m.h2.snap m.h2.ino m.h2.gen m.name m.name2 m.off m.num m.data 0 0 0 0 0 0 0 0 0 ⟨#[]⟩ ⟨#[]⟩ 0 0 ⟨#[]⟩ && smallB m.status && smallB m.akind) := by unfold Msg.mayB; rw [if_neg h1, if_pos h2]
    have hfl : Wr.fields ⟨0, []⟩ m = Wr.reply ⟨0, []⟩ m := by unfold Wr.fields; rw [if_neg h1, if_pos h2, if_pos (by omega)]
    have hkd : u64of m.kind = m.kind.toNat ∧ m.kind.toNat < 256 ^ 1 ∧ (m.kind % 256).toNat = m.kind.toNat := smallB_lt (by rw [h2]; rfl)
    rw [hfl]
    cases hs : smallB m.status with
    | true =>
      obtain ⟨o1, o2, o3⟩ := smallB_lt hs
      cases hs2 : smallB m.akind with
      | true =>
        obtain ⟨q1, q2, q3⟩ := smallB_lt hs2
        have hcall : Wr.reply ⟨0, []⟩ m = Wr.put ⟨0, []⟩ m.layL := by
          unfold Wr.reply Wr.stamp Msg.layL Msg.headL one1 tailL
          rw [if_neg h1, if_pos h2, hkd.1, hkd.2.2, o1, o3, q1, q3, Wr.num_ok _ _ _ hkd.2.1, Wr.num_ok _ _ _ (u32_lt hk.client), Wr.num_ok _ _ _ (u64_lt hk.xid), Wr.num_ok _ _ _ o2, Wr.num_ok _ _ _ q2, Wr.num_ok _ _ _ (u32_lt hk.links), Wr.num_ok _ _ _ (u64_lt hk.size), Wr.num_ok _ _ _ (u64_lt hk.change), Wr.text_ok _ _ (by omega), Wr.num_ok _ _ _ he1, Wr.num_ok _ _ _ (u64_lt hk.anum), Wr.num_ok _ _ _ hll, Wr.ents_ok _ hes, Wr.num_ok _ _ _ (u64_lt hk.boot), Wr.num_ok _ _ _ (u64_lt hk.gb), Wr.num_ok _ _ _ (u64_lt hk.gn)]
          simp only [Wr.put_put, List.append_assoc]
        rw [hcall, good _ hf, hbare, hmay, hs, hs2, Bool.and_true, Bool.and_true]
        exact pick m _
      | false =>
        have hc : (Wr.reply ⟨0, []⟩ m).c = 2200 := by
          unfold Wr.reply Wr.stamp
          rw [hkd.1, o1, Wr.num_ok _ _ _ hkd.2.1, Wr.num_ok _ _ _ (u32_lt hk.client), Wr.num_ok _ _ _ (u64_lt hk.xid), Wr.num_ok _ _ _ o2]
          refine Wr.num_stay _ _ _ (Wr.num_stay _ _ _ (Wr.num_stay _ _ _ (Wr.ents_stay _ _ (Wr.num_stay _ _ _ (Wr.num_stay _ _ _ (Wr.num_stay _ _ _ (Wr.text_stay _ _ (Wr.num_stay _ _ _ (Wr.num_stay _ _ _ (Wr.num_stay _ _ _ (Wr.num_bad _ _ _ ?_ (smallB_ge hk.akind hs2))))))))))))
          rfl
        rw [bad _ hc, hmay, hs, hs2, Bool.and_false]
        rfl
    | false =>
      have hc : (Wr.reply ⟨0, []⟩ m).c = 2200 := by
        unfold Wr.reply Wr.stamp
        rw [hkd.1, Wr.num_ok _ _ _ hkd.2.1, Wr.num_ok _ _ _ (u32_lt hk.client), Wr.num_ok _ _ _ (u64_lt hk.xid)]
        refine Wr.num_stay _ _ _ (Wr.num_stay _ _ _ (Wr.num_stay _ _ _ (Wr.ents_stay _ _ (Wr.num_stay _ _ _ (Wr.num_stay _ _ _ (Wr.num_stay _ _ _ (Wr.text_stay _ _ (Wr.num_stay _ _ _ (Wr.num_stay _ _ _ (Wr.num_stay _ _ _ (Wr.num_stay _ _ _ (Wr.put_stay _ _ (Wr.num_bad _ _ _ ?_ (smallB_ge hk.status hs))))))))))))))
        rfl
      rw [bad _ hc, hmay, hs, Bool.and_false, Bool.false_and]
      rfl
  by_cases h3 : m.kind = 3 ∨ m.kind = 4
  · have hf : m.fine = true := decide_eq_true (by omega)
    have hbare : m.bare = (m.noAns && askEq m.op 0 0 0 0 m.h2.ex m.h2.snap m.h2.ino m.h2.gen m.name m.name2 m.off m.num m.data 0 0 0 0 0 0 0 0 0 ⟨#[]⟩ ⟨#[]⟩ 0 0 ⟨#[]⟩) := by unfold Msg.bare bareV Msg.noAns; rw [if_neg (by simp [h1]), if_neg (by simp [h2])]
    have hmay : m.mayB = (askEq m.op 0 0 0 0 m.h2.ex m.h2.snap m.h2.ino m.h2.gen m.name m.name2 m.off m.num m.data 0 0 0 0 0 0 0 0 0 ⟨#[]⟩ ⟨#[]⟩ 0 0 ⟨#[]⟩ && m.noAns) := by unfold Msg.mayB; rw [if_neg h1, if_neg h2, if_pos h3, ask_swap]
    have hfl : Wr.fields ⟨0, []⟩ m = Wr.back ⟨0, []⟩ m := by unfold Wr.fields; rw [if_neg h1, if_neg h2, if_pos h3]
    have hkd : u64of m.kind = m.kind.toNat ∧ m.kind.toNat < 256 ^ 1 ∧ (m.kind % 256).toNat = m.kind.toNat := smallB_lt (by rcases h3 with h | h <;> (rw [h]; rfl))
    have hcall : Wr.back ⟨0, []⟩ m = Wr.put ⟨0, []⟩ m.layL := by
      unfold Wr.back Wr.stamp Msg.layL Msg.headL one1 tailL
      rw [if_neg h1, if_neg h2, hkd.1, hkd.2.2, Wr.num_ok _ _ _ hkd.2.1, Wr.num_ok _ _ _ (u32_lt hk.client), Wr.num_ok _ _ _ (u64_lt hk.xid), Wr.num_ok _ _ _ (u64_lt hk.boot), Wr.num_ok _ _ _ (u64_lt hk.gb), Wr.num_ok _ _ _ (u64_lt hk.gn)]
      simp only [Wr.put_put, List.append_assoc]
    rw [hfl, hcall, good _ hf, hbare, hmay, Bool.and_comm]
    exact pick m _
  · have hf : m.fine = false := decide_eq_false (by omega)
    have hmay : m.mayB = false := by unfold Msg.mayB; rw [if_neg h1, if_neg h2, if_neg h3]
    have hfl : Wr.fields ⟨0, []⟩ m = Wr.head ⟨0, []⟩ m := by unfold Wr.fields; rw [if_neg h1, if_neg h2, if_neg h3]
    have hc : (Wr.head ⟨0, []⟩ m).c = 0 ∨ (Wr.head ⟨0, []⟩ m).c = 2200 := by
      unfold Wr.head
      by_cases hx : u64of m.kind < 256 ^ 1
      · left
        rw [Wr.num_ok _ _ _ hx, Wr.num_ok _ _ _ (u32_lt hk.client), Wr.num_ok _ _ _ (u64_lt hk.xid)]
        rfl
      · right
        exact Wr.num_stay _ _ _ (Wr.num_stay _ _ _ (Wr.num_bad _ _ _ rfl hx))
    have hb : ¬ ((Wr.head ⟨0, []⟩ m).c = 2201 ∨ m.short = false ∨ m.long = true) := by
      rw [hsh, hl']
      rintro (h | h | h)
      · rcases hc with h' | h' <;> (rw [h'] at h; revert h; decide)
      · cases h
      · cases h
    rw [hfl, encV_form hb (.inr (.inl hf)), hmay]
    rfl

end Go.Proofs.Ytibcadfpengacaa

-- PlainD
set_option linter.unusedVariables false
set_option linter.unusedSimpArgs false
namespace Go.Proofs.Ytibcadfpengacaa
open Go.RowKit Go.Lib

def mk (l : List UInt8) : Rd := ⟨0, ⟨l.toArray⟩⟩
theorem mk_size (l : List UInt8) : (mk l).s.size = l.length := by
  show l.toArray.size = l.length
  simp
theorem took_mk (a t : List UInt8) (n : Nat) (h : a.length = n) : (mk (a ++ t)).took n = ⟨a.toArray⟩ := by
  unfold Rd.took
  rw [if_neg (by rw [mk_size, List.length_append]; omega), extract_eq]
  subst h
  show (⟨(List.take (a.length - 0) (List.drop 0 (a ++ t).toArray.toList)).toArray⟩ : ByteArray) = _
  simp
theorem left_mk (a t : List UInt8) (n : Nat) (h : a.length = n) : (mk (a ++ t)).left n = mk t := by
  unfold Rd.left
  have hs : (mk (a ++ t)).s.size = a.length + t.length := by rw [mk_size, List.length_append]
  rw [if_neg (by omega), extract_eq, hs]
  subst h
  show (⟨0, ⟨(List.take (a.length + t.length - a.length) (List.drop a.length (a ++ t).toArray.toList)).toArray⟩⟩ : Rd) = _
  simp [mk]
theorem ofS_leB (x n : Nat) (h1 : 1 ≤ n) (h8 : n ≤ 8) (hx : x < 256 ^ n) : ofS ⟨(leB x n).toArray⟩ = x := by
  unfold ofS
  have hs : (⟨(leB x n).toArray⟩ : ByteArray).size = n := leS_size x n
  rw [if_pos ⟨by omega, by omega⟩]
  exact ofLe_leB n x hx
theorem num_mk (x n : Nat) (h1 : 1 ≤ n) (h8 : n ≤ 8) (hx : x < 256 ^ n) (t : List UInt8) : (mk (leB x n ++ t)).num n = x := by
  unfold Rd.num
  rw [took_mk _ _ _ (leB_length _ _), ofS_leB x n h1 h8 hx]
theorem leftn_mk (x n : Nat) (t : List UInt8) : (mk (leB x n ++ t)).left n = mk t := left_mk _ _ _ (leB_length _ _)
theorem lay_length (h : Hd) : h.lay.length = 28 := by simp [Hd.lay, leB_length]
theorem tookh_mk (h : Hd) (t : List UInt8) : (mk (h.lay ++ t)).took 28 = ⟨h.lay.toArray⟩ := took_mk _ _ _ (lay_length h)
theorem lefth_mk (h : Hd) (t : List UInt8) : (mk (h.lay ++ t)).left 28 = mk t := left_mk _ _ _ (lay_length h)
theorem decH_lay (h : Hd) (hk : h.Ok) : decH ⟨h.lay.toArray⟩ = h := by
  have hs : (⟨h.lay.toArray⟩ : ByteArray).size = 28 := by
    show h.lay.toArray.size = 28
    rw [List.size_toArray, lay_length]
  unfold decH
  rw [if_pos hs]
  simp only [extract_eq]
  have l4 := leB_length 4 h.ex.toNat
  have l8a := leB_length 8 h.snap.toNat
  have l8b := leB_length 8 h.ino.toNat
  have l8c := leB_length 8 h.gen.toNat
  have e1 : (List.take (4 - 0) (List.drop 0 h.lay)) = leB h.ex.toNat 4 := by
    unfold Hd.lay
    rw [List.append_assoc, List.append_assoc, List.drop_zero, List.take_append_of_le_length (by omega), List.take_of_length_le (by omega)]
  have e2 : (List.take (12 - 4) (List.drop 4 h.lay)) = leB h.snap.toNat 8 := by
    unfold Hd.lay
    rw [List.append_assoc, List.append_assoc, List.drop_append_of_le_length (by omega), List.drop_eq_nil_of_le (by omega), List.nil_append, List.take_append_of_le_length (by omega), List.take_of_length_le (by omega)]
  have e3 : (List.take (20 - 12) (List.drop 12 h.lay)) = leB h.ino.toNat 8 := by
    unfold Hd.lay
    rw [List.append_assoc, List.drop_append_of_le_length (by rw [List.length_append]; omega), List.drop_eq_nil_of_le (by rw [List.length_append]; omega), List.nil_append, List.take_append_of_le_length (by omega), List.take_of_length_le (by omega)]
  have e4 : (List.take (28 - 20) (List.drop 20 h.lay)) = leB h.gen.toNat 8 := by
    unfold Hd.lay
    rw [List.drop_append_of_le_length (by rw [List.length_append, List.length_append]; omega), List.drop_eq_nil_of_le (by rw [List.length_append, List.length_append]; omega), List.nil_append, List.take_of_length_le (by omega)]
  have f1 : (256 : Nat) ^ 4 = 4294967296 := by decide
  have f2 : (256 : Nat) ^ 8 = 18446744073709551616 := by decide
  obtain ⟨a0, a1, b0, b1, c0, c1, d0, d1⟩ := hk
  rw [e1, e2, e3, e4, ofS_leB _ _ (by omega) (by omega) (by omega), ofS_leB _ _ (by omega) (by omega) (by omega), ofS_leB _ _ (by omega) (by omega) (by omega), ofS_leB _ _ (by omega) (by omega) (by omega)]
  cases h
  simp only [Hd.mk.injEq]
  exact ⟨Int.toNat_of_nonneg a0, Int.toNat_of_nonneg b0, Int.toNat_of_nonneg c0, Int.toNat_of_nonneg d0⟩
theorem text_mk (s : ByteArray) (h : s.size ≤ 4096) (old : ByteArray) (t : List UInt8) : (mk (txt s ++ t)).textS old = s ∧ (mk (txt s ++ t)).textR = mk t := by
  have f1 : (256 : Nat) ^ 4 = 4294967296 := by decide
  have e : txt s ++ t = leB s.size 4 ++ (s.data.toList ++ (List.replicate (padN s.size) 0 ++ t)) := by unfold txt; simp only [List.append_assoc]
  have hn := num_mk s.size 4 (by omega) (by omega) (by omega) (s.data.toList ++ (List.replicate (padN s.size) 0 ++ t))
  have hl := leftn_mk s.size 4 (s.data.toList ++ (List.replicate (padN s.size) 0 ++ t))
  have hsz : s.data.toList.length = s.size := by rw [Array.length_toList]; rfl
  have ht := took_mk s.data.toList (List.replicate (padN s.size) 0 ++ t) s.size hsz
  have hl2 := left_mk s.data.toList (List.replicate (padN s.size) 0 ++ t) s.size hsz
  have ht3 := took_mk (List.replicate (padN s.size) 0) t (padN s.size) (by simp)
  have hl3 := left_mk (List.replicate (padN s.size) 0) t (padN s.size) (by simp)
  rw [e]
  unfold Rd.textS Rd.textR
  rw [hn, if_neg (by omega), if_neg (by omega), hl, ht, hl2, ht3, hl3, if_pos ?_]
  · exact ⟨rfl, rfl⟩
  · unfold allZ
    simp
theorem ents_mk (es : List Ent) (h : ∀ e ∈ es, e.name.size ≤ 4096 ∧ U64 e.ino ∧ U64 e.cookie) (t : List UInt8) : ∀ k, k ≤ es.length →
    (mk (es.flatMap entL ++ t)).ents k = (es.take k, mk ((es.drop k).flatMap entL ++ t)) := by
  intro k
  induction k with
  | zero => intro _; simp [Rd.ents]
  | succ k ih =>
    intro hk
    have hkl : k < es.length := by omega
    rw [Rd.ents, ih (by omega)]
    dsimp only
    obtain ⟨h1, h2, h3⟩ := h _ (List.getElem_mem hkl)
    rw [List.drop_eq_getElem_cons hkl, List.flatMap_cons, List.take_succ_eq_append_getElem hkl]
    generalize es[k] = e at *
    have e1 : entL e ++ (es.drop (k + 1)).flatMap entL ++ t = txt e.name ++ (leB e.ino.toNat 8 ++ (leB e.cookie.toNat 8 ++ ((es.drop (k + 1)).flatMap entL ++ t))) := by unfold entL; simp only [List.append_assoc]
    rw [e1]
    have t1 := text_mk e.name h1 ⟨#[]⟩ (leB e.ino.toNat 8 ++ (leB e.cookie.toNat 8 ++ ((es.drop (k + 1)).flatMap entL ++ t)))
    unfold Rd.entV Rd.entR
    rw [t1.1, t1.2, num_mk _ 8 (by omega) (by omega) (u64_lt h2), leftn_mk, num_mk _ 8 (by omega) (by omega) (u64_lt h3), leftn_mk]
    congr 2
    cases e
    simp only [Ent.mk.injEq, List.cons.injEq, and_true, true_and]
    exact ⟨Int.toNat_of_nonneg h2.1, Int.toNat_of_nonneg h3.1⟩

/-! ### What may be has zeros elsewhere -/
theorem ba_nil {s : ByteArray} (h : s.toList.isEmpty = true) : s = ⟨#[]⟩ := r_nil (by simpa using h)
theorem ba_eq {s t : ByteArray} (h : (s.toList == t.toList) = true) : s = t := by
  have := eq_of_beq h
  rw [ByteArray.toList_eq, ByteArray.toList_eq] at this
  exact ByteArray.ext (Array.toList_inj.1 this)
theorem hdEq_zero {a b c d : Int} (h : hdEq a b c d 0 0 0 0 = true) : (⟨a, b, c, d⟩ : Hd) = Hd.zero := by
  unfold hdEq at h
  simp only [Bool.and_eq_true, beq_iff_eq] at h
  obtain ⟨h1, h2, h3, h4⟩ := h
  rw [h1, h2, h3, h4]
  rfl
theorem noAns_zero {m : Msg} (h : m.noAns = true) : m.status = 0 ∧ m.ah = Hd.zero ∧ m.akind = 0 ∧ m.links = 0 ∧ m.size = 0 ∧ m.change = 0 ∧ m.adata = ⟨#[]⟩ ∧ m.eof = false ∧ m.anum = 0 ∧ m.list = [] := by
  unfold Msg.noAns noAns at h
  simp only [Bool.and_eq_true, beq_iff_eq, Bool.not_eq_true', attrEq] at h
  obtain ⟨⟨⟨⟨⟨⟨h1, h2⟩, h3, h4, h5, h6⟩, h7⟩, h8⟩, h9⟩, h10⟩ := h
  exact ⟨h1, hdEq_zero h2, h3, h4, h5, h6, ba_nil h7, h8, h9, List.eq_nil_of_length_eq_zero (by omega)⟩
theorem ask_zero {m : Msg} (h : askEq m.op m.h.ex m.h.snap m.h.ino m.h.gen m.h2.ex m.h2.snap m.h2.ino m.h2.gen m.name m.name2 m.off m.num m.data 0 0 0 0 0 0 0 0 0 ⟨#[]⟩ ⟨#[]⟩ 0 0 ⟨#[]⟩ = true) :
    m.op = 0 ∧ m.h = Hd.zero ∧ m.h2 = Hd.zero ∧ m.name = ⟨#[]⟩ ∧ m.name2 = ⟨#[]⟩ ∧ m.off = 0 ∧ m.num = 0 ∧ m.data = ⟨#[]⟩ := by
  unfold askEq at h
  simp only [Bool.and_eq_true] at h
  obtain ⟨h1, h2, h3, h4, h5, h6, h7, h8⟩ := h
  exact ⟨by simpa using h1, hdEq_zero h2, hdEq_zero h3, ba_eq h4, ba_eq h5, by simpa using h6, by simpa using h7, ba_eq h8⟩
theorem ask_zero2 {m : Msg} {a b c d : Int} (h : askEq m.op a b c d m.h2.ex m.h2.snap m.h2.ino m.h2.gen m.name m.name2 m.off m.num m.data 0 a b c d 0 0 0 0 ⟨#[]⟩ ⟨#[]⟩ 0 0 ⟨#[]⟩ = true) :
    m.op = 0 ∧ m.h2 = Hd.zero ∧ m.name = ⟨#[]⟩ ∧ m.name2 = ⟨#[]⟩ ∧ m.off = 0 ∧ m.num = 0 ∧ m.data = ⟨#[]⟩ := by
  unfold askEq at h
  simp only [Bool.and_eq_true] at h
  obtain ⟨h1, h2, h3, h4, h5, h6, h7, h8⟩ := h
  exact ⟨by simpa using h1, hdEq_zero h3, ba_eq h4, ba_eq h5, by simpa using h6, by simpa using h7, ba_eq h8⟩

/-- A message that Encode takes. -/
structure Msg.Val (m : Msg) : Prop where
  ok : m.Ok
  short : m.long = false
  may : m.mayB = true

theorem nat_toNat {x : Int} (h : 0 ≤ x) : ((x.toNat : Nat) : Int) = x := Int.toNat_of_nonneg h

set_option maxRecDepth 100000 in
theorem dec_lay (m : Msg) (hv : m.Val) (t : List UInt8) : rdM (mk (m.layL ++ t)) = m ∧ rdR (mk (m.layL ++ t)) = mk t ∧ rdFine (mk (m.layL ++ t)) = true ∧ rdShort (mk (m.layL ++ t)) = true := by
  obtain ⟨hk, hl2, hm⟩ := hv
  unfold Msg.long at hl2
  simp only [Bool.or_eq_false_iff, decide_eq_false_iff_not, List.any_eq_false, decide_eq_true_eq] at hl2
  obtain ⟨⟨⟨⟨⟨l1, l2⟩, l3⟩, l4⟩, l5⟩, l6⟩ := hl2
  have hes : ∀ e ∈ m.list, e.name.size ≤ 4096 ∧ U64 e.ino ∧ U64 e.cookie := fun e he => ⟨by have := l5 e he; omega, (hk.list e he).2.1, (hk.list e he).2.2⟩
  have hll : m.list.length < 256 ^ 4 := by have : (256 : Nat) ^ 4 = 4294967296 := by decide
                                           omega
  have he1 : m.eof.toNat < 256 ^ 1 := by cases m.eof <;> decide
  have he2 : m.eof.toNat < 2 := by cases m.eof <;> decide
  have n4 : ∀ x : Int, U32 x → ∀ t, (mk (leB x.toNat 4 ++ t)).num 4 = x.toNat := fun x h t => num_mk _ 4 (by omega) (by omega) (u32_lt h) t
  have n8 : ∀ x : Int, U64 x → ∀ t, (mk (leB x.toNat 8 ++ t)).num 8 = x.toNat := fun x h t => num_mk _ 8 (by omega) (by omega) (u64_lt h) t
  have hf4 : (256 : Nat) ^ 1 = 256 := by decide
  have n1 : ∀ x : Int, smallB x = true → ∀ t, (mk (one1 x ++ t)).num 1 = x.toNat := fun x h t => by
    obtain ⟨a, b, c⟩ := smallB_lt h
    unfold one1
    rw [c]
    exact num_mk _ 1 (by omega) (by omega) b t
  have q1 : ∀ (x : Int) t, (mk (one1 x ++ t)).left 1 = mk t := fun x t => leftn_mk _ _ _
  unfold Msg.mayB at hm
  by_cases h1 : m.kind = 1
  · rw [if_pos h1] at hm
    simp only [Bool.and_eq_true, beq_iff_eq] at hm
    obtain ⟨⟨⟨s1, z1⟩, z2⟩, z3⟩ := hm
    obtain ⟨a1, a2, a3, a4, a5, a6, a7, a8, a9, a10⟩ := noAns_zero z1
    have z3' : m.gb = 0 ∧ m.gn = 0 := by unfold stampEq at z3; simpa using z3
    have hlay : m.layL ++ t = one1 m.kind ++ (leB m.client.toNat 4 ++ (leB m.xid.toNat 8 ++ (one1 m.op ++ (m.h.lay ++ (m.h2.lay ++ (txt m.name ++ (txt m.name2 ++ (leB m.off.toNat 8 ++ (leB m.num.toNat 8 ++ (txt m.data ++ t)))))))))) := by
      unfold Msg.layL Msg.headL
      rw [if_pos h1]
      simp only [List.append_assoc]
    have hk1 : smallB m.kind = true := by rw [h1]; rfl
    have d0 := fun t => n1 m.kind hk1 t
    have d1 : ∀ old t, (mk (txt m.name ++ t)).textS old = m.name := fun old t => (text_mk m.name (by omega) old t).1
    have d2 : ∀ t, (mk (txt m.name ++ t)).textR = mk t := fun t => (text_mk m.name (by omega) ⟨#[]⟩ t).2
    have d3 : ∀ old t, (mk (txt m.name2 ++ t)).textS old = m.name2 := fun old t => (text_mk m.name2 (by omega) old t).1
    have d4 : ∀ t, (mk (txt m.name2 ++ t)).textR = mk t := fun t => (text_mk m.name2 (by omega) ⟨#[]⟩ t).2
    have d5 : ∀ old t, (mk (txt m.data ++ t)).textS old = m.data := fun old t => (text_mk m.data (by omega) old t).1
    have d6 : ∀ t, (mk (txt m.data ++ t)).textR = mk t := fun t => (text_mk m.data (by omega) ⟨#[]⟩ t).2
    have hkn : (mk (m.layL ++ t)).num 1 = 1 := by rw [hlay, d0, h1]; rfl
    refine ⟨?_, ?_, ?_, ?_⟩
    · unfold rdM
      rw [if_pos hkn, hlay]
      unfold callM askM
      simp only [d0, q1, n4 _ hk.client, leftn_mk, n8 _ hk.xid, n1 _ s1, tookh_mk, lefth_mk, decH_lay _ hk.h, decH_lay _ hk.h2, d1, d2, d3, d4, d5, d6, n8 _ hk.off, n8 _ hk.num]
      have s1' : 0 ≤ m.op := (show 0 ≤ m.op ∧ m.op ≤ 255 from of_decide_eq_true s1).1
      rw [nat_toNat (show 0 ≤ m.kind by omega), nat_toNat hk.client.1, nat_toNat hk.xid.1, nat_toNat s1', nat_toNat hk.off.1, nat_toNat hk.num.1]
      obtain ⟨⟩ := m
      simp only at a1 a2 a3 a4 a5 a6 a7 a8 a9 a10 z2 z3'
      obtain ⟨z5, z4⟩ := z3'
      subst a1 a2 a3 a4 a5 a6 a7 a8 a9 a10 z2 z5 z4
      rfl
    · unfold rdR
      rw [if_pos hkn, hlay]
      unfold callR askR
      simp only [q1, leftn_mk, lefth_mk, d2, d4, d6]
    · unfold rdFine
      rw [hkn]
      rfl
    · unfold rdShort
      rw [hkn]
      rfl
  by_cases h2 : m.kind = 2
  · rw [if_neg h1, if_pos h2] at hm
    simp only [Bool.and_eq_true] at hm
    obtain ⟨⟨z1, s1⟩, s2⟩ := hm
    obtain ⟨a1, a2, a3, a4, a5, a6, a7, a8⟩ := ask_zero z1
    have hlay : m.layL ++ t = one1 m.kind ++ (leB m.client.toNat 4 ++ (leB m.xid.toNat 8 ++ (one1 m.status ++ (m.ah.lay ++ (one1 m.akind ++ (leB m.links.toNat 4 ++ (leB m.size.toNat 8 ++ (leB m.change.toNat 8 ++ (txt m.adata ++ (leB m.eof.toNat 1 ++ (leB m.anum.toNat 8 ++ (leB m.list.length 4 ++ (m.list.flatMap entL ++ (leB m.boot.toNat 8 ++ (leB m.gb.toNat 8 ++ (leB m.gn.toNat 8 ++ t)))))))))))))))) := by
      unfold Msg.layL Msg.headL tailL
      rw [if_neg h1, if_pos h2]
      simp only [List.append_assoc]
    have hk1 : smallB m.kind = true := by rw [h2]; rfl
    have d0 := fun t => n1 m.kind hk1 t
    have d1 : ∀ old t, (mk (txt m.adata ++ t)).textS old = m.adata := fun old t => (text_mk m.adata (by omega) old t).1
    have d2 : ∀ t, (mk (txt m.adata ++ t)).textR = mk t := fun t => (text_mk m.adata (by omega) ⟨#[]⟩ t).2
    have hkn : (mk (m.layL ++ t)).num 1 = 2 := by rw [hlay, d0, h2]; rfl
    have ne : ∀ t, (mk (leB m.eof.toNat 1 ++ t)).num 1 = m.eof.toNat := fun t => num_mk _ 1 (by omega) (by omega) he1 t
    have nl : ∀ t, (mk (leB m.list.length 4 ++ t)).num 4 = m.list.length := fun t => num_mk _ 4 (by omega) (by omega) hll t
    have ee := ents_mk m.list hes (leB m.boot.toNat 8 ++ (leB m.gb.toNat 8 ++ (leB m.gn.toNat 8 ++ t))) m.list.length (Nat.le_refl _)
    rw [List.take_length, List.drop_length, List.flatMap_nil, List.nil_append] at ee
    have hrep : repR (mk (m.layL ++ t)) = mk (leB m.list.length 4 ++ (m.list.flatMap entL ++ (leB m.boot.toNat 8 ++ (leB m.gb.toNat 8 ++ (leB m.gn.toNat 8 ++ t))))) := by
      rw [hlay]
      unfold repR
      simp only [q1, leftn_mk, lefth_mk, d2]
    have hrl : rdL (mk (m.layL ++ t)) = (m.list, mk (leB m.boot.toNat 8 ++ (leB m.gb.toNat 8 ++ (leB m.gn.toNat 8 ++ t)))) := by
      unfold rdL
      rw [hrep, leftn_mk, nl, ee]
    have hn64 : (repR (mk (m.layL ++ t))).num 4 ≤ 64 := by rw [hrep, nl]; omega
    refine ⟨?_, ?_, ?_, ?_⟩
    · unfold rdM
      rw [if_neg (by omega), if_pos hkn, if_pos hn64, hrl]
      dsimp only
      unfold stampM repM
      rw [hlay]
      simp only [d0, q1, n4 _ hk.client, leftn_mk, n8 _ hk.xid, n1 _ s1, n1 _ s2, tookh_mk, lefth_mk, decH_lay _ hk.ah, d1, d2, n4 _ hk.links, n8 _ hk.size, n8 _ hk.change, ne, n8 _ hk.anum, n8 _ hk.boot, n8 _ hk.gb, n8 _ hk.gn]
      have s1' : 0 ≤ m.status := (show 0 ≤ m.status ∧ m.status ≤ 255 from of_decide_eq_true s1).1
      have s2' : 0 ≤ m.akind := (show 0 ≤ m.akind ∧ m.akind ≤ 255 from of_decide_eq_true s2).1
      rw [nat_toNat (show 0 ≤ m.kind by omega), nat_toNat hk.client.1, nat_toNat hk.xid.1, nat_toNat s1', nat_toNat s2', nat_toNat hk.links.1, nat_toNat hk.size.1, nat_toNat hk.change.1, nat_toNat hk.anum.1, nat_toNat hk.boot.1, nat_toNat hk.gb.1, nat_toNat hk.gn.1]
      obtain ⟨⟩ := m
      rename_i eof _ _ _ _ _
      simp only at a1 a2 a3 a4 a5 a6 a7 a8
      subst a1 a2 a3 a4 a5 a6 a7 a8
      cases eof <;> rfl
    · unfold rdR
      rw [if_neg (by omega), if_pos hkn, if_pos hn64, hrl]
      dsimp only
      unfold stampR
      simp only [leftn_mk]
    · unfold rdFine
      rw [if_pos hkn, hlay]
      unfold flR
      simp only [q1, leftn_mk, lefth_mk, d2, ne]
      exact decide_eq_true (by omega)
    · exact decide_eq_true (fun _ => hn64)
  by_cases h3 : m.kind = 3 ∨ m.kind = 4
  · rw [if_neg h1, if_neg h2, if_pos h3] at hm
    simp only [Bool.and_eq_true] at hm
    obtain ⟨z0, z1⟩ := hm
    obtain ⟨a1, a2, a3, a4, a5, a6, a7, a8, a9, a10⟩ := noAns_zero z1
    obtain ⟨b1, b2, b3, b4, b5, b6, b7⟩ := ask_zero2 z0
    have hlay : m.layL ++ t = one1 m.kind ++ (leB m.client.toNat 4 ++ (leB m.xid.toNat 8 ++ (m.h.lay ++ (leB m.boot.toNat 8 ++ (leB m.gb.toNat 8 ++ (leB m.gn.toNat 8 ++ t)))))) := by
      unfold Msg.layL Msg.headL tailL
      rw [if_neg h1, if_neg h2]
      simp only [List.append_assoc]
    have hk1 : smallB m.kind = true := by rcases h3 with h | h <;> (rw [h]; rfl)
    have d0 := fun t => n1 m.kind hk1 t
    have hkn : (mk (m.layL ++ t)).num 1 = m.kind.toNat := by rw [hlay, d0]
    have g1 : ¬ (mk (m.layL ++ t)).num 1 = 1 := by omega
    have g2 : ¬ (mk (m.layL ++ t)).num 1 = 2 := by omega
    have g3 : (mk (m.layL ++ t)).num 1 = 3 ∨ (mk (m.layL ++ t)).num 1 = 4 := by omega
    refine ⟨?_, ?_, ?_, ?_⟩
    · unfold rdM
      rw [if_neg g1, if_neg g2, if_pos g3, hlay]
      unfold backM stampM
      simp only [d0, q1, n4 _ hk.client, leftn_mk, n8 _ hk.xid, tookh_mk, lefth_mk, decH_lay _ hk.h, n8 _ hk.boot, n8 _ hk.gb, n8 _ hk.gn]
      rw [nat_toNat (show 0 ≤ m.kind by omega), nat_toNat hk.client.1, nat_toNat hk.xid.1, nat_toNat hk.boot.1, nat_toNat hk.gb.1, nat_toNat hk.gn.1]
      obtain ⟨⟩ := m
      simp only at a1 a2 a3 a4 a5 a6 a7 a8 a9 a10 b1 b2 b3 b4 b5 b6 b7
      subst a1 a2 a3 a4 a5 a6 a7 a8 a9 a10 b1 b2 b3 b4 b5 b6 b7
      rfl
    · unfold rdR
      rw [if_neg g1, if_neg g2, if_pos g3, hlay]
      unfold backR stampR
      simp only [q1, leftn_mk, lefth_mk]
    · unfold rdFine
      rw [if_neg g2]
      exact decide_eq_true (by omega)
    · exact decide_eq_true (fun h => absurd h g2)
  · rw [if_neg h1, if_neg h2, if_neg h3] at hm
    cases hm

end Go.Proofs.Ytibcadfpengacaa

-- Awake
set_option linter.unusedVariables false
set_option linter.unusedSimpArgs false
namespace Go.Proofs.Ytibcadfpengacaa
open Go.RowKit Go.Lib Go.Proofs.YtibcadfpengacaaW.PrintWords Go.Proofs.YtibcadfpengacaaW.PrintMore Go.Proofs.YtibcadfpengacaaW.PrintLast

theorem layS_eq (m : Msg) : m.layS = ⟨m.layL.toArray⟩ := by
  refine ByteArray.ext (Array.toList_inj.1 ?_)
  rw [layS_data]
theorem dec_text (m : Msg) (hv : m.Val) (t : List UInt8) : decOk ⟨(m.layL ++ t).toArray⟩ = t.isEmpty ∧ (t = [] → decM ⟨(m.layL ++ t).toArray⟩ = m ∧ decC ⟨(m.layL ++ t).toArray⟩ = 0) ∧ (t ≠ [] → decM ⟨(m.layL ++ t).toArray⟩ = Msg.zero ∧ decC ⟨(m.layL ++ t).toArray⟩ = 2200) := by
  obtain ⟨h1, h2, h3, h4⟩ := dec_lay m hv t
  have hd : decOk ⟨(m.layL ++ t).toArray⟩ = t.isEmpty := by
    unfold decOk
    show decide ((rdR (mk (m.layL ++ t))).c = 0 ∧ (rdR (mk (m.layL ++ t))).s.size = 0 ∧ rdFine (mk (m.layL ++ t)) = true ∧ rdShort (mk (m.layL ++ t)) = true) = _
    rw [h2, h3, h4, mk_size]
    cases t <;> simp [mk]
  refine ⟨hd, fun ht => ?_, fun ht => ?_⟩
  · have : decOk ⟨(m.layL ++ t).toArray⟩ = true := by rw [hd, ht]; rfl
    unfold decM decC
    rw [if_pos this, if_pos this]
    exact ⟨h1, rfl⟩
  · have : ¬ decOk ⟨(m.layL ++ t).toArray⟩ = true := by rw [hd]; simpa using ht
    unfold decM decC
    rw [if_neg this, if_neg this]
    exact ⟨rfl, rfl⟩
theorem dec_layS (m : Msg) (hv : m.Val) : decM m.layS = m ∧ decC m.layS = 0 := by
  have h := (dec_text m hv []).2.1 rfl
  rw [List.append_nil] at h
  rw [layS_eq]
  exact h
theorem enc_val (m : Msg) (hv : m.Val) : m.enc = (m.layL, 0) := by
  rw [enc_eq m hv.ok]
  unfold Msg.refE
  rw [hv.short, hv.may, if_neg (by decide), if_neg (by decide), layS_data]

theorem num_any (e : Int) (w : World) : Calls Try.prog 11 #[.int .i64 e] w fun r w' => r = .returned (.int .i64 e) ∧ w = w' := by
  go_enter Try.func11, Try.ntmps11
  go_wp2
  go_ret
  exact ⟨rfl, rfl⟩

theorem nil_toList : (⟨#[]⟩ : ByteArray).toList = [] := by rw [ByteArray.toList_eq]
end Go.Proofs.Ytibcadfpengacaa

-- Encodes
set_option linter.unusedVariables false
set_option linter.unusedSimpArgs false
namespace Go.Proofs.Ytibcadfpengacaa
open Go.RowKit Go.Lib Go.Proofs.YtibcadfpengacaaW.PrintWords Go.Proofs.YtibcadfpengacaaW.PrintMore Go.Proofs.YtibcadfpengacaaW.PrintLast

theorem Wr.put_l (σ : Wr) (l : List UInt8) : (σ.put l).bs.length = σ.bs.length + l.length := by simp [Wr.put]
theorem Wr.fields_len (m : Msg) : (Wr.fields ⟨0, []⟩ m).bs.length ≤ 1000000 := by
  have n := fun σ x k => Wr.num_len σ x k
  have tl := fun σ s => Wr.text_len σ s
  have p := fun σ (h : Hd) => (Wr.put_l σ h.lay).trans (by rw [lay_length])
  have e := fun σ => Wr.ents_len m.list σ
  have hz : (⟨0, []⟩ : Wr).bs.length = 0 := rfl
  unfold Wr.fields
  split
  · unfold Wr.call Wr.ask
    have h1 := n ⟨0, []⟩ (u64of m.kind) 1
    generalize (Wr.num ⟨0, []⟩ (u64of m.kind) 1) = σ1 at *
    have h2 := n σ1 m.client.toNat 4
    generalize (σ1.num m.client.toNat 4) = σ2 at *
    have h3 := n σ2 m.xid.toNat 8
    generalize (σ2.num m.xid.toNat 8) = σ3 at *
    have h4 := n σ3 (u64of m.op) 1
    generalize (σ3.num (u64of m.op) 1) = σ4 at *
    have h5 := p σ4 m.h
    generalize σ4.put m.h.lay = σ5 at *
    have h6 := p σ5 m.h2
    generalize σ5.put m.h2.lay = σ6 at *
    have h7 := tl σ6 m.name
    generalize σ6.text m.name = σ7 at *
    have h8 := tl σ7 m.name2
    generalize σ7.text m.name2 = σ8 at *
    have h9 := n σ8 m.off.toNat 8
    generalize σ8.num m.off.toNat 8 = σ9 at *
    have h10 := n σ9 m.num.toNat 8
    generalize σ9.num m.num.toNat 8 = σ10 at *
    have h11 := tl σ10 m.data
    omega
  split
  · split
    · rename_i h64
      unfold Wr.reply Wr.stamp
      have h1 := n ⟨0, []⟩ (u64of m.kind) 1
      generalize (Wr.num ⟨0, []⟩ (u64of m.kind) 1) = σ1 at *
      have h2 := n σ1 m.client.toNat 4
      generalize (σ1.num m.client.toNat 4) = σ2 at *
      have h3 := n σ2 m.xid.toNat 8
      generalize (σ2.num m.xid.toNat 8) = σ3 at *
      have h4 := n σ3 (u64of m.status) 1
      generalize (σ3.num (u64of m.status) 1) = σ4 at *
      have h5 := p σ4 m.ah
      generalize σ4.put m.ah.lay = σ5 at *
      have h6 := n σ5 (u64of m.akind) 1
      generalize (σ5.num (u64of m.akind) 1) = σ6 at *
      have h7 := n σ6 m.links.toNat 4
      generalize (σ6.num m.links.toNat 4) = σ7 at *
      have h8 := n σ7 m.size.toNat 8
      generalize (σ7.num m.size.toNat 8) = σ8 at *
      have h9 := n σ8 m.change.toNat 8
      generalize (σ8.num m.change.toNat 8) = σ9 at *
      have h10 := tl σ9 m.adata
      generalize (σ9.text m.adata) = σ10 at *
      have h11 := n σ10 m.eof.toNat 1
      generalize (σ10.num m.eof.toNat 1) = σ11 at *
      have h12 := n σ11 m.anum.toNat 8
      generalize (σ11.num m.anum.toNat 8) = σ12 at *
      have h13 := n σ12 m.list.length 4
      generalize (σ12.num m.list.length 4) = σ13 at *
      have h14 := e σ13
      generalize (σ13.ents m.list) = σ14 at *
      have h15 := n σ14 m.boot.toNat 8
      generalize (σ14.num m.boot.toNat 8) = σ15 at *
      have h16 := n σ15 m.gb.toNat 8
      generalize (σ15.num m.gb.toNat 8) = σ16 at *
      have h17 := n σ16 m.gn.toNat 8
      omega
    · unfold Wr.replyLong
      have h1 := n ⟨0, []⟩ (u64of m.kind) 1
      generalize (Wr.num ⟨0, []⟩ (u64of m.kind) 1) = σ1 at *
      have h2 := n σ1 m.client.toNat 4
      generalize (σ1.num m.client.toNat 4) = σ2 at *
      have h3 := n σ2 m.xid.toNat 8
      generalize (σ2.num m.xid.toNat 8) = σ3 at *
      have h4 := n σ3 (u64of m.status) 1
      generalize (σ3.num (u64of m.status) 1) = σ4 at *
      have h5 := p σ4 m.ah
      generalize σ4.put m.ah.lay = σ5 at *
      have h6 := n σ5 (u64of m.akind) 1
      generalize (σ5.num (u64of m.akind) 1) = σ6 at *
      have h7 := n σ6 m.links.toNat 4
      generalize (σ6.num m.links.toNat 4) = σ7 at *
      have h8 := n σ7 m.size.toNat 8
      generalize (σ7.num m.size.toNat 8) = σ8 at *
      have h9 := n σ8 m.change.toNat 8
      generalize (σ8.num m.change.toNat 8) = σ9 at *
      have h10 := tl σ9 m.adata
      generalize (σ9.text m.adata) = σ10 at *
      have h11 := n σ10 m.eof.toNat 1
      generalize (σ10.num m.eof.toNat 1) = σ11 at *
      have h12 := n σ11 m.anum.toNat 8
      generalize (σ11.num m.anum.toNat 8) = σ12 at *
      have h13 := n σ12 m.list.length 4
      omega
  split
  · unfold Wr.back Wr.stamp
    have h1 := n ⟨0, []⟩ (u64of m.kind) 1
    generalize (Wr.num ⟨0, []⟩ (u64of m.kind) 1) = σ1 at *
    have h2 := n σ1 m.client.toNat 4
    generalize (σ1.num m.client.toNat 4) = σ2 at *
    have h3 := n σ2 m.xid.toNat 8
    generalize (σ2.num m.xid.toNat 8) = σ3 at *
    have h5 := p σ3 m.h
    generalize σ3.put m.h.lay = σ5 at *
    have h15 := n σ5 m.boot.toNat 8
    generalize (σ5.num m.boot.toNat 8) = σ15 at *
    have h16 := n σ15 m.gb.toNat 8
    generalize (σ15.num m.gb.toNat 8) = σ16 at *
    have h17 := n σ16 m.gn.toNat 8
    omega
  · unfold Wr.head
    have h1 := n ⟨0, []⟩ (u64of m.kind) 1
    generalize (Wr.num ⟨0, []⟩ (u64of m.kind) 1) = σ1 at *
    have h2 := n σ1 m.client.toNat 4
    generalize (σ1.num m.client.toNat 4) = σ2 at *
    have h3 := n σ2 m.xid.toNat 8
    omega

theorem encode_ref (m : Msg) (A : Option Addr) (cap : Nat) (hk : m.Ok) (hcap : m.list.length ≤ cap) (hnil : m.list = [] ∨ A.isSome = true) (w : World) (hA : EntsR w A m.list) :
    Calls Try.prog 9 #[.agg (m.vs (.slice A m.list.length cap)).toArray] w fun e w' => e = .returned (.tuple #[.string m.refE.1, .int .i64 m.refE.2]) ∧ Below w.heap.size w w' := by
  have h := encode_any m A cap hk hcap hnil (Nat.le_trans (Wr.fields_len m) (by decide)) w hA
  rw [enc_eq m hk] at h
  exact h

end Go.Proofs.Ytibcadfpengacaa

-- Open
set_option linter.unusedVariables false
set_option linter.unusedSimpArgs false
namespace Go.Proofs.Ytibcadfpengacaa
open Go.RowKit Go.Lib Go.ChangeShapes Go.WideShapes

theorem c8 : Try.prog.cellsOf 23 = 1 := by kernel_rfl
theorem c3 : Try.prog.cellsOf 3 = 1 := by kernel_rfl
theorem c4 : Try.prog.cellsOf 4 = 1 := by kernel_rfl
theorem c22 : Try.prog.cellsOf 22 = 1 := by kernel_rfl
theorem c9 : Try.prog.cellsOf 9 = 1 := by kernel_rfl
theorem c25 : Try.prog.cellsOf 25 = 4 := by kernel_rfl
theorem c29 : Try.prog.cellsOf 29 = 4 := by kernel_rfl
theorem c34 : Try.prog.cellsOf 34 = 2 := by kernel_rfl
theorem c27 : Try.prog.cellsOf 27 = 14 := by kernel_rfl
theorem c32 : Try.prog.cellsOf 32 = 13 := by kernel_rfl
theorem c36 : Try.prog.cellsOf 36 = 33 := by kernel_rfl
theorem c99 : Try.prog.cellsOf 99 = 3 := by kernel_rfl
theorem c30s : Try.prog.cellsOf 30 = 1 := by kernel_rfl
theorem b99 : Try.prog.bytesOf 99 = 32 := by kernel_rfl

theorem u64_of {v : Int} (h : (Lit.int .u64 v).wf = true) : U64 v := by
  simp [Lit.wf, IntKind.min, IntKind.max, IntKind.signed, IntKind.bits] at h
  unfold U64
  omega
theorem u32_of {v : Int} (h : (Lit.int .u32 v).wf = true) : U32 v := by
  simp [Lit.wf, IntKind.min, IntKind.max, IntKind.signed, IntKind.bits] at h
  unfold U32
  omega
theorem i64_of {v : Int} (h : (Lit.int .i64 v).wf = true) : I64 v := by
  simp [Lit.wf, IntKind.min, IntKind.max, IntKind.signed, IntKind.bits] at h
  unfold I64
  omega

section
variable {H : Type} {enc : TypeId × Value → H} {w : World} {base : Nat} {sp : Nat → Bool} {hd : Bool} {fuel : Nat}

/-- The parts of a struct that is read: one for each field. -/
theorem parts2 {α : Type} {xs : List α} (h : xs.length = 2) : ∃ x0 x1, xs = [x0, x1] := by
  match xs, h with
  | [x0, x1], _ => exact ⟨x0, x1, rfl⟩
theorem parts3 {α : Type} {xs : List α} (h : xs.length = 3) : ∃ x0 x1 x2, xs = [x0, x1, x2] := by
  match xs, h with
  | [x0, x1, x2], _ => exact ⟨x0, x1, x2, rfl⟩
theorem parts4 {α : Type} {xs : List α} (h : xs.length = 4) : ∃ x0 x1 x2 x3, xs = [x0, x1, x2, x3] := by
  match xs, h with
  | [x0, x1, x2, x3], _ => exact ⟨x0, x1, x2, x3, rfl⟩
theorem parts7 {α : Type} {xs : List α} (h : xs.length = 7) : ∃ x0 x1 x2 x3 x4 x5 x6, xs = [x0, x1, x2, x3, x4, x5, x6] := by
  match xs, h with
  | [x0, x1, x2, x3, x4, x5, x6], _ => exact ⟨x0, x1, x2, x3, x4, x5, x6, rfl⟩
theorem parts8 {α : Type} {xs : List α} (h : xs.length = 8) : ∃ x0 x1 x2 x3 x4 x5 x6 x7, xs = [x0, x1, x2, x3, x4, x5, x6, x7] := by
  match xs, h with
  | [x0, x1, x2, x3, x4, x5, x6, x7], _ => exact ⟨x0, x1, x2, x3, x4, x5, x6, x7, rfl⟩

theorem fieldAt {fs : Array Field} {n : Nat} {cs : List Value} {xs : List (DataW H × List MemPlace)} (hf : ∀ (i : Nat) (f : Field), fs[i]? = some f → DataW.trod enc Try.prog w base sp hd n f.type ((cs.drop f.offset).take (Try.prog.cellsOf f.type)) = xs[i]?)
    (i : Nat) (ty : TypeId) (off : Nat) (h : (fs[i]?).map (fun f => (f.type, f.offset)) = some (ty, off)) : DataW.trod enc Try.prog w base sp hd n ty ((cs.drop off).take (Try.prog.cellsOf ty)) = xs[i]? := by
  cases hi : fs[i]? with
  | none => rw [hi] at h; cases h
  | some f =>
    rw [hi] at h
    have h2 : f.type = ty ∧ f.offset = off := by simpa using h
    have := hf i f hi
    rw [h2.1, h2.2] at this
    exact this

theorem parts33 {α : Type} {xs : List α} (h : xs.length = 33) : ∃ a0 a1 a2 a3 a4 a5 a6 a7 a8 a9 a10 a11 a12 a13 a14 a15 a16 a17 a18 a19 a20 a21 a22 a23 a24 a25 a26 a27 a28 a29 a30 a31 a32, xs = [a0, a1, a2, a3, a4, a5, a6, a7, a8, a9, a10, a11, a12, a13, a14, a15, a16, a17, a18, a19, a20, a21, a22, a23, a24, a25, a26, a27, a28, a29, a30, a31, a32] := by
  rcases xs with _ | ⟨a0, _ | ⟨a1, _ | ⟨a2, _ | ⟨a3, _ | ⟨a4, _ | ⟨a5, _ | ⟨a6, _ | ⟨a7, _ | ⟨a8, _ | ⟨a9, _ | ⟨a10, _ | ⟨a11, _ | ⟨a12, _ | ⟨a13, _ | ⟨a14, _ | ⟨a15, _ | ⟨a16, _ | ⟨a17, _ | ⟨a18, _ | ⟨a19, _ | ⟨a20, _ | ⟨a21, _ | ⟨a22, _ | ⟨a23, _ | ⟨a24, _ | ⟨a25, _ | ⟨a26, _ | ⟨a27, _ | ⟨a28, _ | ⟨a29, _ | ⟨a30, _ | ⟨a31, _ | ⟨a32, xs⟩⟩⟩⟩⟩⟩⟩⟩⟩⟩⟩⟩⟩⟩⟩⟩⟩⟩⟩⟩⟩⟩⟩⟩⟩⟩⟩⟩⟩⟩⟩⟩⟩
  all_goals first | (simp at h; done) | skip
  cases xs with
  | nil => exact ⟨_, _, _, _, _, _, _, _, _, _, _, _, _, _, _, _, _, _, _, _, _, _, _, _, _, _, _, _, _, _, _, _, _, rfl⟩
  | cons a b => simp at h
theorem open_hd {a b c d : Value} {x : DataW H × List MemPlace} (h : DataW.trod enc Try.prog w base sp hd fuel 25 [a, b, c, d] = some x) :
    ∃ g : Hd, a = .int .u32 g.ex ∧ b = .int .u64 g.snap ∧ c = .int .u64 g.ino ∧ d = .int .u64 g.gen ∧ g.Ok := by
  obtain ⟨xs, n, rfl, rfl, _, hl, hf⟩ := DataW.trod_struct Try.underlying25 h
  obtain ⟨x0, x1, x2, x3, rfl⟩ := parts4 hl
  have h0 := fieldAt hf 0 22 0 rfl
  rw [c22] at h0
  have h1 := fieldAt hf 1 23 1 rfl
  rw [c8] at h1
  have h2 := fieldAt hf 2 23 2 rfl
  rw [c8] at h2
  have h3 := fieldAt hf 3 23 3 rfl
  rw [c8] at h3
  obtain ⟨v0, e0, y0, g0⟩ := DataW.trod_int Try.underlying22 (show _ = some x0 from h0)
  have f0 := u32_of g0
  have e0' := List.head_eq_of_cons_eq e0
  obtain ⟨v1, e1, y1, g1⟩ := DataW.trod_int Try.underlying23 (show _ = some x1 from h1)
  have f1 := u64_of g1
  have e1' := List.head_eq_of_cons_eq e1
  obtain ⟨v2, e2, y2, g2⟩ := DataW.trod_int Try.underlying23 (show _ = some x2 from h2)
  have f2 := u64_of g2
  have e2' := List.head_eq_of_cons_eq e2
  obtain ⟨v3, e3, y3, g3⟩ := DataW.trod_int Try.underlying23 (show _ = some x3 from h3)
  have f3 := u64_of g3
  have e3' := List.head_eq_of_cons_eq e3
  exact ⟨⟨v0, v1, v2, v3⟩, e0', e1', e2', e3', ⟨f0.1, f0.2, f1.1, f1.2, f2.1, f2.2, f3.1, f3.2⟩⟩
theorem open_attr {a b c d : Value} {x : DataW H × List MemPlace} (h : DataW.trod enc Try.prog w base sp hd fuel 29 [a, b, c, d] = some x) :
    ∃ k l s g : Int, a = .int .i64 k ∧ b = .int .u32 l ∧ c = .int .u64 s ∧ d = .int .u64 g ∧ I64 k ∧ U32 l ∧ U64 s ∧ U64 g := by
  obtain ⟨xs, n, rfl, rfl, _, hl, hf⟩ := DataW.trod_struct Try.underlying29 h
  obtain ⟨x0, x1, x2, x3, rfl⟩ := parts4 hl
  have h0 := fieldAt hf 0 3 0 rfl
  rw [c3] at h0
  have h1 := fieldAt hf 1 22 1 rfl
  rw [c22] at h1
  have h2 := fieldAt hf 2 23 2 rfl
  rw [c8] at h2
  have h3 := fieldAt hf 3 23 3 rfl
  rw [c8] at h3
  obtain ⟨v0, e0, y0, g0⟩ := DataW.trod_int Try.underlying3 (show _ = some x0 from h0)
  have f0 := i64_of g0
  have e0' := List.head_eq_of_cons_eq e0
  obtain ⟨v1, e1, y1, g1⟩ := DataW.trod_int Try.underlying22 (show _ = some x1 from h1)
  have f1 := u32_of g1
  have e1' := List.head_eq_of_cons_eq e1
  obtain ⟨v2, e2, y2, g2⟩ := DataW.trod_int Try.underlying23 (show _ = some x2 from h2)
  have f2 := u64_of g2
  have e2' := List.head_eq_of_cons_eq e2
  obtain ⟨v3, e3, y3, g3⟩ := DataW.trod_int Try.underlying23 (show _ = some x3 from h3)
  have f3 := u64_of g3
  have e3' := List.head_eq_of_cons_eq e3
  exact ⟨v0, v1, v2, v3, e0', e1', e2', e3', f0, f1, f2, f3⟩
theorem open_stamp {a b : Value} {x : DataW H × List MemPlace} (h : DataW.trod enc Try.prog w base sp hd fuel 34 [a, b] = some x) :
    ∃ k l : Int, a = .int .u64 k ∧ b = .int .u64 l ∧ U64 k ∧ U64 l := by
  obtain ⟨xs, n, rfl, rfl, _, hl, hf⟩ := DataW.trod_struct Try.underlying34 h
  obtain ⟨x0, x1, rfl⟩ := parts2 hl
  have h0 := fieldAt hf 0 23 0 rfl
  rw [c8] at h0
  have h1 := fieldAt hf 1 23 1 rfl
  rw [c8] at h1
  obtain ⟨v0, e0, y0, g0⟩ := DataW.trod_int Try.underlying23 (show _ = some x0 from h0)
  have f0 := u64_of g0
  have e0' := List.head_eq_of_cons_eq e0
  obtain ⟨v1, e1, y1, g1⟩ := DataW.trod_int Try.underlying23 (show _ = some x1 from h1)
  have f1 := u64_of g1
  have e1' := List.head_eq_of_cons_eq e1
  exact ⟨v0, v1, e0', e1', f0, f1⟩

/-- A string's weight stands in what is read. -/
def Reach (P : Program) (t : TypeId) (d : DataW H) : Prop := ∀ n ∈ d.weights P t, n ≤ reachBytes
theorem reach_str {l : List UInt8} (h : Reach Try.prog 9 (.lit (.string l) : DataW H)) : l.length ≤ reachBytes := h _ (by simp [DataW.weights])
theorem reach_part {fs : Array Field} {t : TypeId} {ds : List (DataW H)} (hu : Try.prog.underlying t = some (.struct fs)) (h : Reach Try.prog t (.agg ds)) (j : Nat) (ty : TypeId) (d : DataW H) (ht : (fs[j]?).map (·.type) = some ty) (hd : ds[j]? = some d) : Reach Try.prog ty d := fun n hn => h n (by
  simp only [DataW.weights, hu]
  refine DataW.weights_mem_each (j := j) (t := ty) ?_ hd n hn
  rw [List.getElem?_map, Array.getElem?_toList]
  exact ht)
theorem siz_of {s : ByteArray} (h : s.data.toList.length ≤ reachBytes) : Siz s := by
  have e : s.data.toList.length = s.size := by rw [Array.length_toList]; rfl
  unfold Siz
  have : reachBytes = 140737488351232 := rfl
  omega

theorem open_ask {l : List Value} {x : DataW H × List MemPlace} (h : DataW.trod enc Try.prog w base sp hd fuel 27 l = some x) (hr : Reach Try.prog 27 x.1) (hlen : l.length = 14) :
    ∃ (op : Int) (g g2 : Hd) (name name2 : ByteArray) (off num : Int) (data : ByteArray), l = [.int .i64 op, .int .u32 g.ex, .int .u64 g.snap, .int .u64 g.ino, .int .u64 g.gen, .int .u32 g2.ex, .int .u64 g2.snap, .int .u64 g2.ino, .int .u64 g2.gen, .string name, .string name2, .int .u64 off, .int .u64 num, .string data] ∧
      I64 op ∧ g.Ok ∧ g2.Ok ∧ Siz name ∧ Siz name2 ∧ U64 off ∧ U64 num ∧ Siz data := by
  match l, hlen with
  | [a0, a1, a2, a3, a4, a5, a6, a7, a8, a9, a10, a11, a12, a13], _ =>
  obtain ⟨xs, n, rfl, rfl, _, hl, hf⟩ := DataW.trod_struct Try.underlying27 h
  obtain ⟨x0, x1, x2, x3, x4, x5, x6, x7, rfl⟩ := parts8 hl
  have h0 := fieldAt hf 0 3 0 rfl
  rw [c3] at h0
  have h1 := fieldAt hf 1 25 1 rfl
  rw [c25] at h1
  have h2 := fieldAt hf 2 25 5 rfl
  rw [c25] at h2
  have h3 := fieldAt hf 3 9 9 rfl
  rw [c9] at h3
  have h4 := fieldAt hf 4 9 10 rfl
  rw [c9] at h4
  have h5 := fieldAt hf 5 23 11 rfl
  rw [c8] at h5
  have h6 := fieldAt hf 6 23 12 rfl
  rw [c8] at h6
  have h7 := fieldAt hf 7 9 13 rfl
  rw [c9] at h7
  obtain ⟨v0, e0, y0, g0⟩ := DataW.trod_int Try.underlying3 (show _ = some x0 from h0)
  have f0 := i64_of g0
  have e0' := List.head_eq_of_cons_eq e0
  obtain ⟨g1, i1, i2, i3, i4, gk⟩ := open_hd (show DataW.trod enc Try.prog w base sp hd n 25 [a1, a2, a3, a4] = some x1 from h1)
  obtain ⟨g2, j1, j2, j3, j4, gk2⟩ := open_hd (show DataW.trod enc Try.prog w base sp hd n 25 [a5, a6, a7, a8] = some x2 from h2)
  obtain ⟨v3, e3, y3, g3⟩ := DataW.trod_string Try.underlying9 (show _ = some x3 from h3)
  have e3' := List.head_eq_of_cons_eq e3
  obtain ⟨v4, e4, y4, g4⟩ := DataW.trod_string Try.underlying9 (show _ = some x4 from h4)
  have e4' := List.head_eq_of_cons_eq e4
  obtain ⟨v5, e5, y5, g5⟩ := DataW.trod_int Try.underlying23 (show _ = some x5 from h5)
  have f5 := u64_of g5
  have e5' := List.head_eq_of_cons_eq e5
  obtain ⟨v6, e6, y6, g6⟩ := DataW.trod_int Try.underlying23 (show _ = some x6 from h6)
  have f6 := u64_of g6
  have e6' := List.head_eq_of_cons_eq e6
  obtain ⟨v7, e7, y7, g7⟩ := DataW.trod_string Try.underlying9 (show _ = some x7 from h7)
  have e7' := List.head_eq_of_cons_eq e7
  subst y3 y4 y7
  have r3 := siz_of (reach_str (reach_part Try.underlying27 hr 3 9 _ rfl rfl))
  have r4 := siz_of (reach_str (reach_part Try.underlying27 hr 4 9 _ rfl rfl))
  have r7 := siz_of (reach_str (reach_part Try.underlying27 hr 7 9 _ rfl rfl))
  subst e0' e3' e4' e5' e6' e7' i1 i2 i3 i4 j1 j2 j3 j4
  exact ⟨v0, g1, g2, v3, v4, v5, v6, v7, rfl, f0, gk, gk2, r3, r4, f5, f6, r7⟩

theorem open_ent {l : List Value} {x : DataW H × List MemPlace} (h : DataW.trod enc Try.prog w base sp hd fuel 99 l = some x) (hr : Reach Try.prog 99 x.1) (hlen : l.length = 3) :
    ∃ e : Ent, l = e.vs ∧ Siz e.name ∧ U64 e.ino ∧ U64 e.cookie := by
  match l, hlen with
  | [a0, a1, a2], _ =>
  obtain ⟨xs, n, rfl, rfl, _, hl, hf⟩ := DataW.trod_struct Try.underlying99 h
  obtain ⟨x0, x1, x2, rfl⟩ := parts3 hl
  have h0 := fieldAt hf 0 9 0 rfl
  rw [c9] at h0
  have h1 := fieldAt hf 1 23 1 rfl
  rw [c8] at h1
  have h2 := fieldAt hf 2 23 2 rfl
  rw [c8] at h2
  obtain ⟨v0, e0, y0, g0⟩ := DataW.trod_string Try.underlying9 (show _ = some x0 from h0)
  have e0' := List.head_eq_of_cons_eq e0
  obtain ⟨v1, e1, y1, g1⟩ := DataW.trod_int Try.underlying23 (show _ = some x1 from h1)
  have f1 := u64_of g1
  have e1' := List.head_eq_of_cons_eq e1
  obtain ⟨v2, e2, y2, g2⟩ := DataW.trod_int Try.underlying23 (show _ = some x2 from h2)
  have f2 := u64_of g2
  have e2' := List.head_eq_of_cons_eq e2
  subst y0
  have r0 := siz_of (reach_str (reach_part Try.underlying99 hr 0 9 _ rfl rfl))
  subst e0' e1' e2'
  exact ⟨⟨v0, v1, v2⟩, rfl, r0, f1, f2⟩

theorem reach_elems {elems spare : List (DataW H)} (h : Reach Try.prog 30 (.slice elems spare)) : (elems.length + spare.length) * 32 ≤ reachBytes ∧ ∀ d ∈ elems, Reach Try.prog 99 d := by
  refine ⟨h _ ?_, fun d hd n hn => h n ?_⟩
  · simp only [DataW.weights, Try.underlying30, b99]
    exact List.mem_cons_self
  · simp only [DataW.weights, Try.underlying30]
    refine List.mem_cons_of_mem _ (List.mem_append_left _ ?_)
    clear h
    induction elems with
    | nil => cases hd
    | cons a r ih =>
      rw [DataW.weightsAll]
      rcases List.mem_cons.1 hd with e | e
      · subst e
        exact List.mem_append_left _ hn
      · exact List.mem_append_right _ (ih e)

instance : Inhabited Ent := ⟨⟨⟨#[]⟩, 0, 0⟩⟩
theorem open_ents {l : List Value} {x : DataW H × List MemPlace} (h : DataW.trod enc Try.prog w base sp hd fuel 30 l = some x) (hr : Reach Try.prog 30 x.1) :
    ∃ (es : List Ent) (A : Option Addr) (c : Nat), l = [.slice A es.length c] ∧ es.length ≤ c ∧ (∀ e ∈ es, Siz e.name ∧ U64 e.ino ∧ U64 e.cookie) ∧ es.length + 2 < 4398046511104 ∧ EntsR w A es ∧ (es = [] ∨ A.isSome = true) := by
  rcases Go.Deep.open_slice Try.underlying30 h with ⟨rfl, rfl⟩ | ⟨a, len, cap, m, n, D, Pl, rfl, hb, hlc, hm, hmm, rfl, hx⟩
  · exact ⟨[], none, 0, rfl, Nat.le_refl _, (fun e h => by cases h), (by decide), (fun i e h => by simp at h), .inl rfl⟩
  · have hml : len ≤ m := by rw [hmm]; split <;> omega
    obtain ⟨hr1, hr2⟩ := reach_elems hr
    have hrl : reachBytes = 140737488351232 := rfl
    have hl2 : len + 2 < 4398046511104 := by
      rw [List.length_map, List.length_range] at hr1
      omega
    obtain ⟨V, hV⟩ := Go.Deep.choose_lt (α := Ent) (n := len) (p := fun i e => w.cells? base (a.add (i * Try.prog.cellsOf 99)) (Try.prog.cellsOf 99) = some e.vs ∧ Siz e.name ∧ U64 e.ino ∧ U64 e.cookie) (fun i hi => by
      obtain ⟨cs', q1, q2⟩ := hx i (by omega)
      obtain ⟨_, ql, _⟩ := World.cells?_some q1
      rw [c99] at ql
      obtain ⟨e, rfl, z⟩ := open_ent q2 (hr2 _ (List.mem_map.2 ⟨i, List.mem_range.2 hi, rfl⟩)) ql
      exact ⟨e, q1, z⟩)
    refine ⟨(List.range len).map V, some a, cap, by rw [List.length_map, List.length_range], by rw [List.length_map, List.length_range]; exact hlc, ?_, by rw [List.length_map, List.length_range]; exact hl2, ?_, .inr rfl⟩
    · intro e he
      obtain ⟨i, hi, rfl⟩ := List.mem_map.1 he
      exact (hV i (List.mem_range.1 hi)).2
    · intro i e he
      have hi : i < len := by
        have := (List.getElem?_eq_some_iff.1 he).1
        rwa [List.length_map, List.length_range] at this
      have hev : e = V i := by simpa [hi] using he.symm
      subst hev
      obtain ⟨q1, _⟩ := hV i hi
      rw [c99] at q1
      obtain ⟨_, _, qc⟩ := World.cells?_some q1
      obtain ⟨b, o, spot⟩ := a
      have q0 := qc 0 (by omega)
      have hspot : spot = none := by
        obtain ⟨p1, _⟩ := hV 0 (by omega)
        rw [c99] at p1
        obtain ⟨_, _, pc⟩ := World.cells?_some p1
        have q0' : w.cell? ((Addr.add ⟨b, o, spot⟩ (0 * 3)).add 0) = some (.string (V 0).name) := pc 0 (by omega)
        have := World.cell?_spot q0'
        simpa [Addr.add] using this
      subst hspot
      have z1 := qc 1 (by omega)
      have z2 := qc 2 (by omega)
      rw [addr_plus] at q0 z1 z2
      rw [addr_plus] at q0 z1 z2
      exact ⟨b, o, rfl, q0, z1, z2⟩

theorem open_ans {l : List Value} {x : DataW H × List MemPlace} (h : DataW.trod enc Try.prog w base sp hd fuel 32 l = some x) (hr : Reach Try.prog 32 x.1) (hlen : l.length = 13) :
    ∃ (status : Int) (g : Hd) (ak lk sz cg : Int) (data : ByteArray) (eof : Bool) (num : Int) (es : List Ent) (A : Option Addr) (c : Nat),
      l = [.int .i64 status, .int .u32 g.ex, .int .u64 g.snap, .int .u64 g.ino, .int .u64 g.gen, .int .i64 ak, .int .u32 lk, .int .u64 sz, .int .u64 cg, .string data, .bool eof, .int .u64 num, .slice A es.length c] ∧
      I64 status ∧ g.Ok ∧ I64 ak ∧ U32 lk ∧ U64 sz ∧ U64 cg ∧ Siz data ∧ U64 num ∧ es.length ≤ c ∧ (∀ e ∈ es, Siz e.name ∧ U64 e.ino ∧ U64 e.cookie) ∧ es.length + 2 < 4398046511104 ∧ EntsR w A es ∧ (es = [] ∨ A.isSome = true) := by
  match l, hlen with
  | [a0, a1, a2, a3, a4, a5, a6, a7, a8, a9, a10, a11, a12], _ =>
  obtain ⟨xs, n, rfl, rfl, _, hl, hf⟩ := DataW.trod_struct Try.underlying32 h
  obtain ⟨x0, x1, x2, x3, x4, x5, x6, rfl⟩ := parts7 hl
  have h0 := fieldAt hf 0 3 0 rfl
  rw [c3] at h0
  have h1 := fieldAt hf 1 25 1 rfl
  rw [c25] at h1
  have h2 := fieldAt hf 2 29 5 rfl
  rw [c29] at h2
  have h3 := fieldAt hf 3 9 9 rfl
  rw [c9] at h3
  have h4 := fieldAt hf 4 4 10 rfl
  rw [c4] at h4
  have h5 := fieldAt hf 5 23 11 rfl
  rw [c8] at h5
  have h6 := fieldAt hf 6 30 12 rfl
  rw [c30s] at h6
  obtain ⟨v0, e0, y0, g0⟩ := DataW.trod_int Try.underlying3 (show _ = some x0 from h0)
  have f0 := i64_of g0
  have e0' := List.head_eq_of_cons_eq e0
  obtain ⟨g1, i1, i2, i3, i4, gk⟩ := open_hd (show DataW.trod enc Try.prog w base sp hd n 25 [a1, a2, a3, a4] = some x1 from h1)
  obtain ⟨k2, l2, s2, c2, j1, j2, j3, j4, w1, w2, w3, w4⟩ := open_attr (show DataW.trod enc Try.prog w base sp hd n 29 [a5, a6, a7, a8] = some x2 from h2)
  obtain ⟨v3, e3, y3, g3⟩ := DataW.trod_string Try.underlying9 (show _ = some x3 from h3)
  have e3' := List.head_eq_of_cons_eq e3
  obtain ⟨v4, e4, y4⟩ := DataW.trod_bool Try.underlying4 (show _ = some x4 from h4)
  have e4' := List.head_eq_of_cons_eq e4
  obtain ⟨v5, e5, y5, g5⟩ := DataW.trod_int Try.underlying23 (show _ = some x5 from h5)
  have f5 := u64_of g5
  have e5' := List.head_eq_of_cons_eq e5
  obtain ⟨es, A, c, p1, p2, p3, p4, p5, p6⟩ := open_ents (show DataW.trod enc Try.prog w base sp hd n 30 [a12] = some x6 from h6) (reach_part Try.underlying32 hr 6 30 _ rfl rfl)
  have p1' := List.head_eq_of_cons_eq p1
  subst y3
  have r3 := siz_of (reach_str (reach_part Try.underlying32 hr 3 9 _ rfl rfl))
  subst e0' e3' e4' e5' i1 i2 i3 i4 j1 j2 j3 j4 p1'
  exact ⟨v0, g1, k2, l2, s2, c2, v3, v4, v5, es, A, c, rfl, f0, gk, w1, w2, w3, w4, r3, f5, p2, p3, p4, p5, p6⟩

/-- A message that is read: its cells, its entries. -/
theorem open_msg {l : List Value} {x : DataW H × List MemPlace} (h : DataW.trod enc Try.prog w base sp hd fuel 36 l = some x) (hr : Reach Try.prog 36 x.1) :
    ∃ (m : Msg) (A : Option Addr) (c : Nat), l = m.vs (.slice A m.list.length c) ∧ m.Ok ∧ m.list.length ≤ c ∧ m.list.length + 2 < 4398046511104 ∧ EntsR w A m.list ∧ (m.list = [] ∨ A.isSome = true) := by
  obtain ⟨xs, n, rfl, rfl, hlen, hl, hf⟩ := DataW.trod_struct Try.underlying36 h
  rw [c36] at hlen
  obtain ⟨a0, a1, a2, a3, a4, a5, a6, a7, a8, a9, a10, a11, a12, a13, a14, a15, a16, a17, a18, a19, a20, a21, a22, a23, a24, a25, a26, a27, a28, a29, a30, a31, a32, rfl⟩ := parts33 hlen
  obtain ⟨x0, x1, x2, x3, x4, x5, x6, rfl⟩ := parts7 hl
  have h0 := fieldAt hf 0 3 0 rfl
  rw [c3] at h0
  have h1 := fieldAt hf 1 22 1 rfl
  rw [c22] at h1
  have h2 := fieldAt hf 2 23 2 rfl
  rw [c8] at h2
  have h3 := fieldAt hf 3 27 3 rfl
  rw [c27] at h3
  have h4 := fieldAt hf 4 32 17 rfl
  rw [c32] at h4
  have h5 := fieldAt hf 5 23 30 rfl
  rw [c8] at h5
  have h6 := fieldAt hf 6 34 31 rfl
  rw [c34] at h6
  obtain ⟨v0, e0, y0, g0⟩ := DataW.trod_int Try.underlying3 (show _ = some x0 from h0)
  have f0 := i64_of g0
  have e0' := List.head_eq_of_cons_eq e0
  obtain ⟨v1, e1, y1, g1⟩ := DataW.trod_int Try.underlying22 (show _ = some x1 from h1)
  have f1 := u32_of g1
  have e1' := List.head_eq_of_cons_eq e1
  obtain ⟨v2, e2, y2, g2⟩ := DataW.trod_int Try.underlying23 (show _ = some x2 from h2)
  have f2 := u64_of g2
  have e2' := List.head_eq_of_cons_eq e2
  obtain ⟨op, g, g2, name, name2, off, num, data, o1, o2, o3, o4, o5, o6, o7, o8, o9⟩ := open_ask (show DataW.trod enc Try.prog w base sp hd n 27 [a3, a4, a5, a6, a7, a8, a9, a10, a11, a12, a13, a14, a15, a16] = some x3 from h3) (reach_part Try.underlying36 hr 3 27 _ rfl rfl) rfl
  obtain ⟨status, ag, ak, lk, sz, cg, adata, eof, anum, es, A, c, q0, q1, q2, q3, q4, q5, q6, q7, q8, q9, q10, q11, q12, q13⟩ := open_ans (show DataW.trod enc Try.prog w base sp hd n 32 [a17, a18, a19, a20, a21, a22, a23, a24, a25, a26, a27, a28, a29] = some x4 from h4) (reach_part Try.underlying36 hr 4 32 _ rfl rfl) rfl
  obtain ⟨v5, e5, y5, g5⟩ := DataW.trod_int Try.underlying23 (show _ = some x5 from h5)
  have f5 := u64_of g5
  have e5' := List.head_eq_of_cons_eq e5
  obtain ⟨gb, gn, s1, s2, s3, s4⟩ := open_stamp (show DataW.trod enc Try.prog w base sp hd n 34 [a31, a32] = some x6 from h6)
  simp only [List.cons.injEq, and_true] at o1 q0
  obtain ⟨o10, o11, o12, o13, o14, o15, o16, o17, o18, o19, o20, o21, o22, o23⟩ := o1
  obtain ⟨r0, r1, r2, r3, r4, r5, r6, r7, r8, r9, r10, r11, r12⟩ := q0
  subst e0' e1' e2' e5' s1 s2 o10 o11 o12 o13 o14 o15 o16 o17 o18 o19 o20 o21 o22 o23 r0 r1 r2 r3 r4 r5 r6 r7 r8 r9 r10 r11 r12
  exact ⟨⟨v0, v1, v2, op, g, g2, name, name2, off, num, data, status, ag, ak, lk, sz, cg, adata, eof, anum, es, v5, gb, gn⟩, A, c, rfl,
    ⟨f0, f1, f2, o2, o3, o4, o5, o6, o7, o8, o9, q1, q2, q3, q4, q5, q6, q7, q8, q10, by show es.length ≤ 4398046511104; omega, f5, s3, s4⟩, q9, q11, q12, q13⟩

end

end Go.Proofs.Ytibcadfpengacaa

-- Shelf
namespace Go.Proofs
open Go.Shelf
def Try.laysNm224_ren : Go.Shelf.Ren := ⟨fun | 24 => 46 | n => n, fun | 24 => 101 | 9 => 9 | 3 => 3 | 4 => 4 | 0 => 0 | n => n, fun | n => n⟩
theorem Try.laysNm224 : Go.Proofs.Lays2.n24 Try.prog Try.laysNm224_ren := {
  mixed := by kernel_rfl
  f24 := Try.func46.trans (congrArg some (by kernel_rfl))
  t0 := Try.underlying0
  a0 := Try.isAgg0
  z0 := Try.sizeOf0
  v0 := Try.zeroValue0
  t3 := Try.underlying3
  a3 := Try.isAgg3
  z3 := Try.sizeOf3
  v3 := Try.zeroValue3
  t4 := Try.underlying4
  a4 := Try.isAgg4
  z4 := Try.sizeOf4
  v4 := Try.zeroValue4
  t9 := Try.underlying9
  a9 := Try.isAgg9
  z9 := Try.sizeOf9
  v9 := Try.zeroValue9
  t24 := Try.underlying101
  a24 := Try.isAgg101
  z24 := Try.sizeOf101
  v24 := Try.zeroValue101
  i9 := by kernel_rfl }
open Go.RowKit Go.Lib Go.Sort in
/-- slices.Delete at []string: "Delete modifies s in place by removing the elements s[i:j], and returns the modified slice. Delete panics if j > len(s) or s[i:j] is not a valid slice of s. Delete is O(len(s)-i), so if many items must be deleted, it is better to make a single call deleting them all together than to delete one at a time. Delete zeroes the elements s[len(s)-(j-i):len(s)]. If the result is empty, it has the same nilness as s.": FOR i ≤ j ≤ len(s) IT RETURNS THE SLICE CUT TO len(s) - (j - i) ELEMENTS; ITS CELLS HOLD what stood ahead of i, what stood from j on, then j - i zero values; all else is as it was, but for the count of draws. IN THE WORDS OF slices.Sort's CONTRACT ('Holds', 'putRow'). It asks 'zs.length ≤ cap ≤ 2^63 - 1' (every slice's). (Outside i ≤ j ≤ len(s) it panics: no contract here.) (LAID: no walk: one application.) -/
theorem Try.slices_Delete_string (blk off cap i j : Nat) (zs : List (List UInt8)) (w : World) (hH : Holds encStr w blk off zs.toArray) (hcap : zs.length ≤ cap) (hm : cap ≤ 9223372036854775807) (hij : i ≤ j) (hj : j ≤ zs.length) :
    Calls Try.prog 46 #[.slice (some ⟨blk, off, none⟩) zs.length cap, .int .i64 i, .int .i64 j] w fun e w' => e = .returned (.slice (some ⟨blk, off, none⟩) (zs.length - (j - i)) cap) ∧ ∃ q, w' = putRow encStr (Sort.ahead w q) blk off (zs.take i ++ zs.drop j ++ List.replicate (j - i) []).toArray := Any.slices_Delete_string Try.laysNm224 blk off cap i j zs w hH hcap hm hij hj
end Go.Proofs

-- Net
set_option linter.unusedVariables false
set_option linter.unusedSimpArgs false
namespace Go.Proofs.Ytibcadfpengacaa
open Go.RowKit Go.Lib Go.Proofs.YtibcadfpengacaaW.PrintWords Go.Proofs.YtibcadfpengacaaW.PrintMore Go.Proofs.YtibcadfpengacaaW.PrintLast

theorem infoStr : (Try.prog.info? 9).map (fun i => (i.zero, i.size, i.bytes)) = some (some (.string ⟨#[]⟩), 1, 16) := by kernel_rfl

/-- A net at N that holds the texts ss; their row lies in block g. -/
def NetAt (w : World) (N base : Nat) (g : Option Nat) (ss : List ByteArray) : Prop :=
  ∃ A c, Blk w N 103 [.slice A ss.length c] ∧ w.ownsRow base 9 1 (.slice A ss.length c) ss.length (ss.map .string) ∧ (Value.slice A ss.length c).ownBlock = g
theorem NetAt.lt {w : World} {N base : Nat} {g : Option Nat} {ss : List ByteArray} (h : NetAt w N base g ss) : N < w.heap.size := by
  obtain ⟨A, c, hb, _⟩ := h
  exact hb.lt
theorem NetAt.row_lt {w : World} {N base : Nat} {g : Option Nat} {ss : List ByteArray} (h : NetAt w N base g ss) : ∀ k, g = some k → base ≤ k ∧ k < w.heap.size := by
  obtain ⟨A, c, hb, hown, rfl⟩ := h
  exact fun k hk => hown.lt k hk
theorem ownsRow_keeps {S : Nat → Prop} {w w' : World} {base : Nat} {e : TypeId} {size : Nat} {v : Value} {n : Nat} {xs : List Value} (h : w.ownsRow base e size v n xs) (k : Keeps S w w') (hn : ∀ b, v.ownBlock = some b → ¬ S b) : w'.ownsRow base e size v n xs := by
  have hl := h.lt
  refine ⟨h.1, ?_⟩
  rcases h.2 with h | ⟨b, cap, cur, rfl, q0, q1, q2⟩
  · exact .inl h
  · exact .inr ⟨b, cap, cur, rfl, q0, (k.block b (hl b rfl).2 (hn b rfl)).trans q1, q2⟩
theorem NetAt.kept {S : Nat → Prop} {w w' : World} {N base : Nat} {g : Option Nat} {ss : List ByteArray} (h : NetAt w N base g ss) (k : Keeps S w w') (hN : ¬ S N) (hg : ∀ b, g = some b → ¬ S b) : NetAt w' N base g ss := by
  obtain ⟨A, c, hb, hown, rfl⟩ := h
  exact ⟨A, c, hb.kept k hN, ownsRow_keeps hown k hg, rfl⟩
theorem NetAt.below {w w' : World} {N base : Nat} {g : Option Nat} {ss : List ByteArray} (h : NetAt w N base g ss) (hb : Below w.heap.size w w') : NetAt w' N base g ss := h.kept (Keeps.of_below_all (S := fun _ => False) hb) id (fun _ _ => id)
theorem slice_cur {w : World} {base : Nat} {e : TypeId} {size : Nat} {A : Option Addr} {n c : Nat} {xs : List Value} (h : w.ownsRow base e size (.slice A n c) n xs) : (A = none ∧ n = 0 ∧ c = 0) ∨ ∃ g cur, A = some ⟨g, 0, none⟩ ∧ w.heap[g]? = some (.cells cur e (0, 0)) := by
  rcases h.2 with ⟨h1, h2⟩ | ⟨g, cap, cur, h1, _, h2, _⟩
  · injection h1 with a b c
    exact .inl ⟨a, h2, c⟩
  · injection h1 with a b c
    exact .inr ⟨g, cur, a, h2⟩
/-- The net's block is not its row's. -/
theorem NetAt.ne {w : World} {N base : Nat} {g : Option Nat} {ss : List ByteArray} (h : NetAt w N base g ss) : g ≠ some N := by
  obtain ⟨A, c, hb, hown, rfl⟩ := h
  intro e
  rcases slice_cur hown with ⟨rfl, _⟩ | ⟨g, cur, rfl, hc⟩
  · cases e
  · have e2 : g = N := by simpa [Value.ownBlock] using e
    subst e2
    have h6 := (show w.heap[g]? = _ from hb).symm.trans hc
    injection h6 with h6
    injection h6 with _ h7 _
    exact absurd h7 (by decide)
theorem NetAt.cell {w : World} {N base : Nat} {g : Option Nat} {ss : List ByteArray} (h : NetAt w N base g ss) : ∃ A c, w.cell? ⟨N, 0, none⟩ = some (.slice A ss.length c) := by
  obtain ⟨A, c, hb, _⟩ := h
  exact ⟨A, c, hb.cell 0 rfl⟩

theorem netNew_any (w : World) : Calls Try.prog 19 #[] w fun e w' => e = .returned (.pointer (some ⟨w.heap.size, 0, none⟩)) ∧ w' = w.alloc (.cells #[.slice none 0 0] 103) := by
  go_enter Try.func19, Try.ntmps19
  go_wp2
  go_ret
  exact ⟨rfl, rfl⟩
theorem NetAt.new (w : World) : NetAt (w.alloc (.cells #[.slice none 0 0] 103)) w.heap.size w.heap.size none [] :=
  ⟨none, 0, Blk.new w 103 [.slice none 0 0], World.ownsRow_nil _ _ _ _, rfl⟩

theorem may_low (N n c : Nat) (A : Option Addr) (i : Int) (h : i < 0) (w : World) (hc : w.cell? ⟨N, 0, none⟩ = some (.slice A n c)) :
    Calls Try.prog 45 #[.pointer (some ⟨N, 0, none⟩), .int .i64 i] w fun e w' => e = .returned (.int .i64 2601) ∧ w = w' := by
  go_enter Try.func45, Try.ntmps45
  go_wp2
  go_ret
  exact ⟨rfl, rfl⟩
theorem may_high (N n c : Nat) (A : Option Addr) (i : Int) (h : (n : Int) ≤ i) (w : World) (hc : w.cell? ⟨N, 0, none⟩ = some (.slice A n c)) :
    Calls Try.prog 45 #[.pointer (some ⟨N, 0, none⟩), .int .i64 i] w fun e w' => e = .returned (.int .i64 2601) ∧ w = w' := by
  have h0 : ¬ i < 0 := by omega
  have h1 : decide (i < 0) = false := by simpa using h0
  go_enter Try.func45, Try.ntmps45
  go_wp2
  go_ret
  exact ⟨rfl, rfl⟩
theorem may_ok (N n c : Nat) (A : Option Addr) (i : Int) (h0 : ¬ i < 0) (h : ¬ (n : Int) ≤ i) (w : World) (hc : w.cell? ⟨N, 0, none⟩ = some (.slice A n c)) :
    Calls Try.prog 45 #[.pointer (some ⟨N, 0, none⟩), .int .i64 i] w fun e w' => e = .returned (.int .i64 0) ∧ w = w' := by
  have h1 : decide (i < 0) = false := by simpa using h0
  have h2 : decide ((n : Int) ≤ i) = false := by simpa using h
  go_enter Try.func45, Try.ntmps45
  go_wp2
  go_ret
  exact ⟨rfl, rfl⟩

end Go.Proofs.Ytibcadfpengacaa

-- NetS
set_option linter.unusedVariables false
set_option linter.unusedSimpArgs false
namespace Go.Proofs.Ytibcadfpengacaa
open Go.RowKit Go.Lib Go.Proofs.YtibcadfpengacaaW.PrintWords Go.Proofs.YtibcadfpengacaaW.PrintMore Go.Proofs.YtibcadfpengacaaW.PrintLast

theorem wpList_append_lies {P : Program} (w : World) {ops : Array Oper} {rest : List Oper} {o : Oper} {a : Act} {Q : Exit → Act → World → Prop} (hgd : o.guard = none) (s x : Operand) (t : TypeId)
    (ho : o.op = .call { callee := .builtin .append, args := #[s, x], argTypes := #[t, t] })
    (base : Nat) (e : TypeId) (i : TypeInfo) (z : Value) (size bytes : Nat) (ht : P.underlying t = some (.slice e)) (hi : P.info? e = some i) (hz : i.zero = some z)
    (hsize : i.size = size) (hby : i.bytes = bytes) (hzs : z.cells.size = size) (hsz : 0 < size)
    (v : Value) (n : Nat) (xs : List Value) (hs : a.eval s = v) (hown : w.ownsRow base e size v n xs)
    (ad : Addr) (m c : Nat) (news : List Value) (hx : a.eval x = .slice (some ad) m c) (hl : news.length = m * size) (hnews : ∀ j u, news[j]? = some u → w.cell? (ad.add j) = some u) (h1 : ∀ u ∈ news, u.oneCell' = true)
    (hm : 0 < m) (h63 : n + m ≤ maxLen) (hbytes : (n + m) * bytes ≤ 140737488355328) (hbase : base ≤ w.heap.size) (H : Nat) (hH : w.heap.size = H)
    (h : ∀ g cap w', w'.ownsRow base e size (.slice (some ⟨g, 0, none⟩) (n + m) cap) (n + m) (xs ++ news) → w.grownBy w' v.ownBlock → (v.ownBlock = some g ∨ g = H) → g < w'.heap.size → wpList P ops Q rest (a.put o.dst (.slice (some ⟨g, 0, none⟩) (n + m) cap)) w') : wpList P ops Q (o :: rest) a w :=
  wpList_plain hgd fun _ hK => wp_append_lies w s x t ho base e i z size bytes ht hi hz hsize hby hzs hsz v n xs hs hown ad m c news hx hl hnews h1 hm h63 hbytes hbase H hH fun g cap w' h1 h2 h3 h4 => hK _ _ (h g cap w' h1 h2 h3 h4)

theorem news_cells (w : World) (cs : List Value) (t : TypeId) : ∀ j u, cs[j]? = some u → (w.alloc (.cells cs.toArray t)).cell? ((⟨w.heap.size, 0, none⟩ : Addr).add j) = some u := fun j u hu => by
  rw [addr_plus, Nat.zero_add]
  exact (Blk.new w t cs).cell j hu
theorem news_one (w : World) (v : Value) (t : TypeId) : ∀ j u, [v][j]? = some u → (w.alloc (.cells #[v] t)).cell? ((⟨w.heap.size, 0, none⟩ : Addr).add j) = some u := fun j u hu => by
  rw [addr_plus, Nat.zero_add]
  exact (Blk.new w t [v]).cell j hu
theorem NetAt.cellg {w w1 : World} {N base : Nat} {g : Option Nat} {ss : List ByteArray} (h : NetAt w N base g ss) (hg : w.grownBy w1 g) : w1.cell? ⟨N, 0, none⟩ = w.cell? ⟨N, 0, none⟩ ∧ w1.frozen? ⟨N, 0, none⟩ = false := by
  have hne := h.ne
  obtain ⟨A, c, hb, _, _⟩ := h
  have e : w1.heap[N]? = w.heap[N]? := hg.block N hb.lt (fun e => hne e.symm)
  exact ⟨World.cell?_of_block (a := ⟨N, 0, none⟩) e, (World.frozen?_of_block (a := ⟨N, 0, none⟩) e).trans (hb.frozen 0)⟩
/-- Behind an append and the store of the slice the net holds one text more. -/
theorem NetAt.appended {w w1 : World} {N base : Nat} {g : Option Nat} {ss : List ByteArray} (h : NetAt w N base g ss) {k cap : Nat} {s : ByteArray} {A : Option Addr} {c : Nat} (hA : (Value.slice A ss.length c).ownBlock = g) (hown : w1.ownsRow base 9 1 (.slice (some ⟨k, 0, none⟩) (ss.length + 1) cap) (ss.length + 1) (ss.map .string ++ [.string s]))
    (hg : w.grownBy w1 (Value.slice A ss.length c).ownBlock) : NetAt (w1.setCell ⟨N, 0, none⟩ (.slice (some ⟨k, 0, none⟩) (ss.length + 1) cap)) N base (some k) (ss ++ [s]) := by
  have hne := h.ne
  obtain ⟨A', c', hb, ho', hg'⟩ := h
  rw [hA] at hg
  have hb1 : Blk w1 N 103 [.slice A' ss.length c'] := (hg.block N hb.lt (fun e => hne e.symm)).trans hb
  have hkN : k ≠ N := by
    intro e
    subst e
    rcases slice_cur hown with ⟨h, _⟩ | ⟨g, cur, h, hc⟩
    · cases h
    · injection h with h
      injection h with h _ _
      subst h
      have h6 := (show w1.heap[k]? = _ from hb1).symm.trans hc
      injection h6 with h6
      injection h6 with _ h7 _
      exact absurd h7 (by decide)
  refine ⟨some ⟨k, 0, none⟩, cap, ?_, ?_, rfl⟩
  · have := hb1.set 0 (.slice (some ⟨k, 0, none⟩) (ss.length + 1) cap)
    rw [show (ss ++ [s]).length = ss.length + 1 by simp]
    exact this
  · rw [show (ss ++ [s]).length = ss.length + 1 by simp, List.map_append]
    exact ownsRow_keeps hown ((Keeps.refl (fun b => b = N) w1).setCell (a := ⟨N, 0, none⟩) (fun _ => rfl) _) (fun b e => by
      have : b = k := by simpa [Value.ownBlock] using e.symm
      subst this
      exact hkN)

set_option maxHeartbeats 4000000 in
set_option maxRecDepth 100000 in
theorem send_full (N n c : Nat) (A : Option Addr) (x : List Value) (hxl : x.length = 33) (hn : 1024 ≤ n) (hn2 : n ≤ 1099511627776) (w : World) (hc : w.cell? ⟨N, 0, none⟩ = some (.slice A n c)) :
    Calls Try.prog 20 #[.pointer (some ⟨N, 0, none⟩), .agg x.toArray] w fun e w' => e = .returned (.int .i64 2600) ∧ Below w.heap.size w w' := by
  have hi : (1024 : Int) ≤ (n : Int) := by omega
  have Hc := Lib.hid hc
  have hlt := World.block_lt_of_cell? w _ hc
  clear hc
  go_enter Try.func20, Try.ntmps20
  go_wp2_with (first
    | ((with_reducible refine gate_dst (N := 3) rfl ?_); refine box_event rfl (N := 3) rfl (run_box _ _ _ 36 _ x.toArray rfl rfl _) ?_; intro g3 hg3 v1 hbox hbel; have B3 := Lib.hid (show Blk v1 g3 36 x from hbox); have BLg3 := Lib.hid hbel; have Hg3 := Lib.hid hg3; clear hbox hbel hg3; have c0 := (BLg3.out.cell (p := ⟨N, 0, none⟩) hlt).trans Hc.out))
  go_ret
  exact ⟨rfl, BLg3.out⟩
set_option maxHeartbeats 4000000 in
set_option maxRecDepth 100000 in
theorem send_bad (N n c : Nat) (A : Option Addr) (x : List Value) (hxl : x.length = 33) (s : ByteArray) (code : Int) (P : World → Prop) (hP : ∀ w w1, Below w.heap.size w w1 → P w → P w1)
    (HE : ∀ w, P w → Calls Try.prog 9 #[.agg x.toArray] w fun e w' => e = .returned (.tuple #[.string s, .int .i64 code]) ∧ Below w.heap.size w w') (hcode : (code == 0) = false) (hn : ¬ 1024 ≤ n) (w : World) (hc : w.cell? ⟨N, 0, none⟩ = some (.slice A n c)) (hp : P w) :
    Calls Try.prog 20 #[.pointer (some ⟨N, 0, none⟩), .agg x.toArray] w fun e w' => e = .returned (.int .i64 code) ∧ Below w.heap.size w w' := by
  have hi : ¬ (1024 : Int) ≤ (n : Int) := by omega
  have hi2 : (n : Int) < 1024 := by omega
  have Hc := Lib.hid hc
  have HP := Lib.hid hP; have HE' := Lib.hid HE; have Hp := Lib.hid hp; have Hxl := Lib.hid hxl
  have hlt := World.block_lt_of_cell? w _ hc
  clear hc hP HE hp hxl
  go_enter Try.func20, Try.ntmps20
  go_wp2_with (first
    | ((with_reducible refine gate_dst (N := 3) rfl ?_); refine box_event rfl (N := 3) rfl (run_box _ _ _ 36 _ x.toArray rfl rfl _) ?_; intro g3 hg3 v1 hbox hbel; have B3 := Lib.hid (show Blk v1 g3 36 x from hbox); have BLg3 := Lib.hid hbel; have Hg3 := Lib.hid hg3; clear hbox hbel hg3; have c0 := (BLg3.out.cell (p := ⟨N, 0, none⟩) hlt).trans Hc.out; have Hp1 := Lib.hid (HP.out _ _ BLg3.out Hp.out))
    | ((with_reducible refine gate_dst (N := 18) rfl ?_); refine wpList_load_mid rfl 36 _ rfl g3 0 rfl x _ ?hc Try.underlying36 rfl ?hi ?_; (case hc => exact B3.out.range); (case hi => rw [Hxl.out]; exact infoMsg)))
  refine (HE'.out v1 Hp1.out).mono ?_
  rintro e v2 ⟨rfl, hb⟩
  have KB := Lib.hid (BLg3.out.trans (hb.mono BLg3.out.size))
  clear hb c0
  go_wp2_with fail
  go_ret
  exact ⟨rfl, KB.out⟩
set_option maxHeartbeats 4000000 in
set_option maxRecDepth 100000 in
theorem send_ok (N base : Nat) (g : Option Nat) (ss : List ByteArray) (x : List Value) (hxl : x.length = 33) (s : ByteArray) (P : World → Prop) (hP : ∀ w w1, Below w.heap.size w w1 → P w → P w1)
    (HE : ∀ w, P w → Calls Try.prog 9 #[.agg x.toArray] w fun e w' => e = .returned (.tuple #[.string s, .int .i64 0]) ∧ Below w.heap.size w w') (hn : ¬ 1024 ≤ ss.length) (w : World) (h : NetAt w N base g ss) (hbase : base ≤ w.heap.size) (hp : P w) :
    Calls Try.prog 20 #[.pointer (some ⟨N, 0, none⟩), .agg x.toArray] w fun e w' => e = .returned (.int .i64 0) ∧ ∃ k, NetAt w' N base (some k) (ss ++ [s]) ∧ (g = some k ∨ w.heap.size ≤ k) ∧ Keeps (fun k => k = N ∨ some k = g) w w' := by
  obtain ⟨i0, hi0, hz0, hz1, hz2⟩ := info_parts infoStr
  have hi : ¬ (1024 : Int) ≤ (ss.length : Int) := by omega
  have hi2 : (ss.length : Int) < 1024 := by omega
  have h' := h
  obtain ⟨A, c, hb, hown, hA⟩ := h
  have Hc := Lib.hid (hb.cell 0 rfl)
  have HP := Lib.hid hP; have HE' := Lib.hid HE; have Hp := Lib.hid hp; have Hxl := Lib.hid hxl; have HN := Lib.hid h'; have HA := Lib.hid hA; have Hown := Lib.hid hown
  have hlt := hb.lt
  clear hP HE hp hxl h' hA hown hb
  go_enter Try.func20, Try.ntmps20
  go_wp2_with (first
    | ((with_reducible refine gate_dst (N := 3) rfl ?_); refine box_event rfl (N := 3) rfl (run_box _ _ _ 36 _ x.toArray rfl rfl _) ?_; intro g3 hg3 v1 hbox hbel; have B3 := Lib.hid (show Blk v1 g3 36 x from hbox); have BLg3 := Lib.hid hbel; have Hg3 := Lib.hid hg3; clear hbox hbel hg3; have c0 := (BLg3.out.cell (p := ⟨N, 0, none⟩) hlt).trans Hc.out; have Hp1 := Lib.hid (HP.out _ _ BLg3.out Hp.out))
    | ((with_reducible refine gate_dst (N := 18) rfl ?_); refine wpList_load_mid rfl 36 _ rfl g3 0 rfl x _ ?hc Try.underlying36 rfl ?hi ?_; (case hc => exact B3.out.range); (case hi => rw [Hxl.out]; exact infoMsg)))
  refine (HE'.out v1 Hp1.out).mono ?_
  rintro e v2 ⟨rfl, hb⟩
  have KB := Lib.hid (BLg3.out.trans (hb.mono BLg3.out.size))
  have HN2 := Lib.hid (HN.out.below KB.out)
  have Hsz := Lib.hid KB.out.size
  have c2 := (KB.out.cell (p := ⟨N, 0, none⟩) hlt).trans Hc.out
  have hown2 := ownsRow_keeps Hown.out (Keeps.of_below_all (S := fun _ => False) KB.out) (fun _ _ => id)
  have hb2 : base ≤ v2.heap.size + 1 := by have := Hsz.out; omega
  have hlt2 : ss.length + 1 ≤ maxLen := by unfold maxLen; omega
  have hby2 : (ss.length + 1) * 16 ≤ 140737488355328 := by omega
  have HO := Lib.hid (hown2.alloc (.cells #[.string s] 9))
  clear hb c0 hown2
  go_wp2_with (first
    | (at_builtin; refine wpList_append_lies _ rfl _ _ 101 rfl base 9 i0 _ 1 16 Try.underlying101 hi0 hz0 hz1 hz2 rfl (by decide) _ _ _ rfl HO.out ⟨v2.heap.size, 0, none⟩ 1 1 [.string s] rfl rfl (news_one _ _ _) (fun u hu => by rw [List.mem_singleton] at hu; subst hu; rfl) (by decide) hlt2 hby2 (by simp; exact hb2) (v2.heap.size + 1) (by simp) ?_; intro k cap w3 hown' hgrow hat hkl; have HW := Lib.hid hown'; have HG := Lib.hid hgrow; have HT := Lib.hid hat; have HN3 := HN2.out.below ((Below.refl _ _).alloc (Nat.le_refl _) (.cells #[.string s] 9)); have N3 := Lib.hid ((HN2.out.below ((Below.refl _ _).alloc (Nat.le_refl _) (.cells #[.string s] 9))).appended HA.out hown' hgrow); clear hown' hgrow hat; have c3 := (HN3.cellg (HA.out ▸ HG.out)).1.trans (((Below.refl _ _).alloc (Nat.le_refl _) _ |>.cell (p := ⟨N, 0, none⟩) HN2.out.lt).trans c2); have f3 := (HN3.cellg (HA.out ▸ HG.out)).2; clear HN3))
  go_ret
  refine ⟨rfl, k, N3.out, ?_, ?_⟩
  · rcases HT.out with h | h
    · exact .inl (HA.out ▸ h)
    · exact .inr (by have := Hsz.out; omega)
  · exact (((Keeps.of_below_all (S := fun k => k = N ∨ some k = g) KB.out).alloc (.cells #[.string s] 9)).trans (Keeps.of_grown (HA.out ▸ HG.out) (S := fun k => k = N ∨ some k = g) (fun k hk _ => .inr hk.symm)) (fun _ _ h => h)).setCell (a := ⟨N, 0, none⟩) (fun _ => .inl rfl) _

end Go.Proofs.Ytibcadfpengacaa

-- NetC
set_option linter.unusedVariables false
set_option linter.unusedSimpArgs false
namespace Go.Proofs.Ytibcadfpengacaa
open Go.RowKit Go.Lib Go.Proofs.YtibcadfpengacaaW.PrintWords Go.Proofs.YtibcadfpengacaaW.PrintMore Go.Proofs.YtibcadfpengacaaW.PrintLast

set_option maxHeartbeats 4000000 in
set_option maxRecDepth 100000 in
theorem copy_low (N n c : Nat) (A : Option Addr) (i : Int) (h : i < 0) (w : World) (hc : w.cell? ⟨N, 0, none⟩ = some (.slice A n c)) :
    Calls Try.prog 25 #[.pointer (some ⟨N, 0, none⟩), .int .i64 i] w fun e w' => e = .returned (.int .i64 2601) ∧ w = w' := by
  have HM := Lib.hid (may_low N n c A i h w hc)
  clear h
  go_enter Try.func25, Try.ntmps25
  go_wp2_with (go_at_call 45; refine HM.out.mono ?_; rintro e w' ⟨rfl, rfl⟩)
  go_ret
  exact ⟨rfl, rfl⟩
set_option maxHeartbeats 4000000 in
set_option maxRecDepth 100000 in
theorem copy_high (N n c : Nat) (A : Option Addr) (i : Int) (h : (n : Int) ≤ i) (w : World) (hc : w.cell? ⟨N, 0, none⟩ = some (.slice A n c)) :
    Calls Try.prog 25 #[.pointer (some ⟨N, 0, none⟩), .int .i64 i] w fun e w' => e = .returned (.int .i64 2601) ∧ w = w' := by
  have HM := Lib.hid (may_high N n c A i h w hc)
  clear h
  go_enter Try.func25, Try.ntmps25
  go_wp2_with (go_at_call 45; refine HM.out.mono ?_; rintro e w' ⟨rfl, rfl⟩)
  go_ret
  exact ⟨rfl, rfl⟩
set_option maxHeartbeats 4000000 in
set_option maxRecDepth 100000 in
theorem copy_full (N n c : Nat) (A : Option Addr) (i : Int) (h0 : ¬ i < 0) (h1 : ¬ (n : Int) ≤ i) (hn : 1024 ≤ n) (w : World) (hc : w.cell? ⟨N, 0, none⟩ = some (.slice A n c)) :
    Calls Try.prog 25 #[.pointer (some ⟨N, 0, none⟩), .int .i64 i] w fun e w' => e = .returned (.int .i64 2600) ∧ w = w' := by
  have HM := Lib.hid (may_ok N n c A i h0 h1 w hc)
  have hi : (1024 : Int) ≤ (n : Int) := by omega
  clear h0 h1 hn
  go_enter Try.func25, Try.ntmps25
  go_wp2_with (go_at_call 45; refine HM.out.mono ?_; rintro e w' ⟨rfl, rfl⟩)
  go_ret
  exact ⟨rfl, rfl⟩
set_option maxHeartbeats 4000000 in
set_option maxRecDepth 100000 in
theorem copy_ok (N base : Nat) (g : Option Nat) (ss : List ByteArray) (i : Nat) (s : ByteArray) (hs : ss[i]? = some s) (hn : ¬ 1024 ≤ ss.length) (w : World) (h : NetAt w N base g ss) (hbase : base ≤ w.heap.size) :
    Calls Try.prog 25 #[.pointer (some ⟨N, 0, none⟩), .int .i64 i] w fun e w' => e = .returned (.int .i64 0) ∧ ∃ k, NetAt w' N base (some k) (ss ++ [s]) ∧ (g = some k ∨ w.heap.size ≤ k) ∧ Keeps (fun k => k = N ∨ some k = g) w w' := by
  obtain ⟨i0, hi0, hz0, hz1, hz2⟩ := info_parts infoStr
  have hil : i < ss.length := (List.getElem?_eq_some_iff.1 hs).1
  have h1 : ¬ ((ss.length : Int) ≤ (i : Int)) := by omega
  have h2 : ¬ (1024 : Int) ≤ (ss.length : Int) := by omega
  have h3 : (ss.length : Int) < 1024 := by omega
  have HN := Lib.hid h
  obtain ⟨A, c, hb, hown, hA⟩ := h
  have hc := hb.cell 0 rfl
  have HM := Lib.hid (may_ok N ss.length c A i (by omega) h1 w hc)
  obtain ⟨gr, cur, rfl, hcur⟩ : ∃ gr cur, A = some ⟨gr, 0, none⟩ ∧ w.heap[gr]? = some (.cells cur 9 (0, 0)) := by
    rcases slice_cur hown with ⟨_, h, _⟩ | h
    · omega
    · exact h
  have hci : w.cell? ⟨gr, i, none⟩ = some (.string s) := by
    rw [World.ownsRow.cellAt hown i (by omega)]
    simp [hs]
  have hb2 : base ≤ w.heap.size + 1 := by omega
  have hlt2 : ss.length + 1 ≤ maxLen := by unfold maxLen; omega
  have hby2 : (ss.length + 1) * 16 ≤ 140737488355328 := by omega
  have HA := Lib.hid hA; have HO := Lib.hid hown; have Hs := Lib.hid hs
  clear h1 h2 hs hA hown hb hcur
  go_enter Try.func25, Try.ntmps25
  go_wp2_with (go_at_call 45; refine HM.out.mono ?_; rintro e w' ⟨rfl, rfl⟩)
  have hca := (((Below.refl _ w).alloc (Nat.le_refl _) (.cells #[.string s] 9)).cell (p := ⟨N, 0, none⟩) HN.out.lt).trans hc
  go_region_law
    ((refine step_append_lies _ (by rfl) _ _ _ (by rfl) base 9 i0 _ 1 16 Try.underlying101 hi0 hz0 hz1 hz2 (by rfl) (by omega) (.slice (some ⟨gr, 0, none⟩) ss.length c) ss.length (ss.map .string) (by rfl) (HO.out.alloc _) _ 1 1 [.string s] (by rfl) rfl (news_one _ _ _) (fun u hu => by rw [List.mem_singleton] at hu; subst hu; rfl) (by decide) hlt2 hby2 (by simp; exact hb2) (w.heap.size + 1) (by simp) ?_; intro k cap w3 hown' hgrow hat hkl; have HN3 := (HN.out.below ((Below.refl _ _).drew)).below ((Below.refl _ _).alloc (Nat.le_refl _) (.cells #[.string s] 9)); have N3 := Lib.hid (HN3.appended HA.out hown' hgrow); have c3 := (HN3.cellg (HA.out ▸ hgrow)).1; have f3 := (HN3.cellg (HA.out ▸ hgrow)).2; have HG := Lib.hid hgrow; have HT := Lib.hid hat; have c4 : w3.cell? ⟨N, 0, none⟩ = some (.slice (some ⟨gr, 0, none⟩) ss.length c) := c3.trans (((Below.refl _ _).alloc (Nat.le_refl _) _ |>.cell (p := ⟨N, 0, none⟩) HN.out.lt).trans hc); clear hown' hgrow hat HN3 c3))
  all_goals
    go_wp2_with fail
    go_ret
    refine ⟨rfl, k, N3.out, ?_, ?_⟩
    · rcases HT.out with h | h
      · exact .inl (HA.out ▸ h)
      · exact .inr (by omega)
    · exact ((((Keeps.refl (fun k => k = N ∨ some k = g) w).drew).alloc (.cells #[.string s] 9)).trans (Keeps.of_grown (HA.out ▸ HG.out) (S := fun k => k = N ∨ some k = g) (fun k hk _ => .inr hk.symm)) (fun _ _ h => h)).setCell (a := ⟨N, 0, none⟩) (fun _ => .inl rfl) _

end Go.Proofs.Ytibcadfpengacaa
