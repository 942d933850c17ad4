/- Words, contracts and plain laws for the claim's last text: RefO, RefP, RefQ, PlainE, PlainD, Awake, PlainI, Encodes, RefR, RefS, RefT, RefU. -/
import Derived.Test.YtibcadfpengacaaMd4
-- RefO
set_option linter.unusedVariables false
set_option linter.unusedSimpArgs false
namespace Go.Proofs.Ytibcadfpengacaa
open Go.RowKit Go.Lib Go.Proofs.YtibcadfpengacaaW.PrintWords Go.Proofs.YtibcadfpengacaaW.PrintMore Go.Proofs.YtibcadfpengacaaW.PrintLast

def zask : List Value := [.int .i64 0, .int .u32 0, .int .u64 0, .int .u64 0, .int .u64 0, .int .u32 0, .int .u64 0, .int .u64 0, .int .u64 0, .string ⟨#[]⟩, .string ⟨#[]⟩, .int .u64 0, .int .u64 0, .string ⟨#[]⟩]
theorem run_allocAsk (ev : Operand → Value) (o : Oper) (ho : o.op = .alloc 27) (w : World) : (execOp ev o).run Try.prog w = .ok (.value (.pointer (some ⟨w.heap.size, 0, none⟩))) (w.alloc (.cells zask.toArray 27 (0, 0))) := by
  unfold execOp
  rw [ho]
  kernel_rfl
def askCells (m : Msg) : List Value := [.int .i64 m.op, .int .u32 m.h.ex, .int .u64 m.h.snap, .int .u64 m.h.ino, .int .u64 m.h.gen, .int .u32 m.h2.ex, .int .u64 m.h2.snap, .int .u64 m.h2.ino, .int .u64 m.h2.gen, .string m.name, .string m.name2, .int .u64 m.off, .int .u64 m.num, .string m.data]
theorem askCells_one (m : Msg) : ∀ v ∈ askCells m, v.oneCell' = true := by
  intro v hv
  simp only [askCells, List.mem_cons, List.not_mem_nil, or_false] at hv
  rcases hv with h | h | h | h | h | h | h | h | h | h | h | h | h | h <;> (subst h; rfl)

set_option maxHeartbeats 8000000 in
set_option maxRecDepth 100000 in
theorem layCall_raw (x : List Value) (m : Msg) (A : Option Addr) (c : Nat) (hx : MsgAt x m A c) (p1 p2 p3 : ByteArray) (g1 : p1.size ≤ 5000) (g2 : p2.size ≤ 5000) (g3 : p3.size ≤ 5000) (P1 : Says 55 (.int .i64 m.kind) p1) (P2 : Says 56 (.int .u32 m.client) p2) (P3 : Says 57 (.int .u64 m.xid) p3) (t1 t2 t3 t4 t5 t6 t7 t8 : ByteArray) (hs : t1.size ≤ 5000 ∧ t2.size ≤ 5000 ∧ t3.size ≤ 5000 ∧ t4.size ≤ 5000 ∧ t5.size ≤ 5000 ∧ t6.size ≤ 5000 ∧ t7.size ≤ 5000 ∧ t8.size ≤ 5000)
    (H1 : Says 55 (.int .i64 m.op) t1) (H2 : Says 58 (.agg #[.int .u32 m.h.ex, .int .u64 m.h.snap, .int .u64 m.h.ino, .int .u64 m.h.gen]) t2) (H3 : Says 58 (.agg #[.int .u32 m.h2.ex, .int .u64 m.h2.snap, .int .u64 m.h2.ino, .int .u64 m.h2.gen]) t3)
    (H4 : Says 59 (.string m.name) t4) (H5 : Says 59 (.string m.name2) t5) (H6 : Says 57 (.int .u64 m.off) t6) (H7 : Says 57 (.int .u64 m.num) t7) (H8 : Says 59 (.string m.data) t8)
    (hk1 : m.kind = 1) : Says 38 (.agg x.toArray) (p1 ++ p2 ++ p3 ++ t1 ++ t2 ++ t3 ++ t4 ++ t5 ++ t6 ++ t7 ++ t8) := by
  intro w
  have HX := Lib.hid hx
  have C1 := Lib.hid H1; have C2 := Lib.hid H2; have C3 := Lib.hid H3; have C4 := Lib.hid H4; have C5 := Lib.hid H5; have C6 := Lib.hid H6; have C7 := Lib.hid H7; have C8 := Lib.hid H8
  have HT := Lib.hid hs
  have k1 : (m.kind == 1) = true := by simp [hk1]
  have Hk1 := Lib.hid hk1
  clear H1 H2 H3 H4 H5 H6 H7 H8 hs hk1
  have D1 := Lib.hid P1; have D2 := Lib.hid P2; have D3 := Lib.hid P3
  have G := Lib.hid (show p1.size ≤ 5000 ∧ p2.size ≤ 5000 ∧ p3.size ≤ 5000 from ⟨g1, g2, g3⟩)
  have f2 := lt_False (n := p1.size + p2.size) (by omega)
  have f3 := lt_False (n := p1.size + p2.size + p3.size) (by omega)
  clear P1 P2 P3 g1 g2 g3 hx
  go_enter Try.func38, Try.ntmps38
  go_wp2_with (first
    | ((with_reducible refine gate_dst (N := 1) rfl ?_); refine box_event rfl (N := 1) rfl (run_box _ _ _ 36 _ x.toArray rfl rfl _) ?_; intro gx hgx v1 hbox hbel; have BX := Lib.hid (show Blk v1 gx 36 x from hbox); have BL := Lib.hid hbel; have HGX := Lib.hid hgx; clear hbox hbel hgx))
  have ST := Lib.hid (show ∀ w0 w1 : World, Below w0.heap.size w0 w1 → Blk w0 gx 36 x → Blk w1 gx 36 x from fun _ _ hb h => h.below hb)
  have k0 : Kp (fun w1 => Blk w1 gx 36 x) w v1 := ⟨BX.out, BL.out⟩
  go_region_held3 (fun w' => w'.cell? ⟨gx, 0, none⟩ = some (.int .i64 m.kind) ∧ w'.cell? ⟨gx, 1, none⟩ = some (.int .u32 m.client) ∧ w'.cell? ⟨gx, 2, none⟩ = some (.int .u64 m.xid) ∧ Kp (fun w1 => Blk w1 gx 36 x) w w')
    ((go_split_ands; first
      | (have q := Kp.next ST hb (by assumption); exact ⟨q.h.cell 0 HX.out.c0, q.h.cell 1 HX.out.c1, q.h.cell 2 HX.out.c2, q⟩)
      | (have q := Kp.drew ST k0; exact ⟨q.h.cell 0 HX.out.c0, q.h.cell 1 HX.out.c1, q.h.cell 2 HX.out.c2, q⟩)))
    ((first
        | (go_at_call 55; with_reducible refine (D1.out.at _).mono ?_; rintro e w' ⟨rfl, hb⟩)
        | (go_at_call 56; with_reducible refine (D2.out.at _).mono ?_; rintro e w' ⟨rfl, hb⟩)
        | (go_at_call 57; with_reducible refine (D3.out.at _).mono ?_; rintro e w' ⟨rfl, hb⟩)))
  go_split_ands
  rename_i q
  have Q0 := Lib.hid q
  have cX0 := Q0.out.h.cell 0 HX.out.c0
  clear q k0 BX BL HGX
  generalize hp : p1 ++ p2 ++ p3 = p at *
  have Hp := Lib.hid hp
  have hps : p.size ≤ 15000 := by rw [← hp, ByteArray.size_append, ByteArray.size_append]; have := G.out; omega
  have HPS := Lib.hid hps
  clear hp hps f2 f3 D1 D2 D3
  go_wp2_with (first
    | ((with_reducible refine gate_dst (N := 23) rfl ?_); refine wpList_load_mid rfl 27 _ rfl gx 3 rfl (askCells m) _ (Q0.out.h.part 3 _ HX.out.ask) Try.underlying27 rfl infoAsk ?_)
    | ((with_reducible refine gate_dst (N := 4) rfl ?_); refine box_event rfl (N := 4) rfl (run_allocAsk _ _ rfl _) ?_; intro gb hgb v4 hbox hbel; have BB0 := Lib.hid (show Blk v4 gb 27 zask from hbox); have BL4 := Lib.hid (Q0.out.below.trans (hbel.mono Q0.out.below.size)); have HGB := Lib.hid (show w.heap.size ≤ gb by rw [hgb]; exact Q0.out.below.size); clear hbox hbel hgb)
    | ((with_reducible refine gate_store (t := 27) (p := 4) rfl ?_); refine wpList_store_mid rfl 27 _ _ rfl gb 0 (askCells m).toArray rfl rfl ?ht ?hi ?h1 ?_; (case ht => exact BB0.out.there 14 (Nat.le_refl 14)); (case hi => exact infoAsk); (case h1 => exact all_oneCell_toArray (askCells_one m)); have BB := Lib.hid (BB0.out.setAll (askCells m) rfl); have KC := Lib.hid (Keeps.setCells (S := fun k => k = gb) (askCells m) 0 v4 (Keeps.refl _ _) (fun _ => rfl)); change wpList _ _ _ _ _ (v4.setCells gb 0 (askCells m)); generalize v4.setCells gb 0 (askCells m) = v5 at BB KC ⊢; clear BB0))
  have BL5 := BL4.out.trans (KC.out.below (B := w.heap.size) BL4.out.size (fun k hk => by show ¬ k = gb; have := HGB.out; omega))
  have ST2 := Lib.hid (show ∀ w0 w1 : World, Below w0.heap.size w0 w1 → Blk w0 gb 27 (askCells m) → Blk w1 gb 27 (askCells m) from fun _ _ hb h => h.below hb)
  have k0 : Kp (fun w1 => Blk w1 gb 27 (askCells m)) w v5 := ⟨BB.out, BL5⟩
  clear BL5 BL4 KC BB
  have e1 := lt_False (n := p.size + t1.size) (by have := HPS.out; have := HT.out; omega)
  have e2 := lt_False (n := p.size + t1.size + t2.size) (by have := HPS.out; have := HT.out; omega)
  have e3 := lt_False (n := p.size + t1.size + t2.size + t3.size) (by have := HPS.out; have := HT.out; omega)
  have e4 := lt_False (n := p.size + t1.size + t2.size + t3.size + t4.size) (by have := HPS.out; have := HT.out; omega)
  have e5 := lt_False (n := p.size + t1.size + t2.size + t3.size + t4.size + t5.size) (by have := HPS.out; have := HT.out; omega)
  have e6 := lt_False (n := p.size + t1.size + t2.size + t3.size + t4.size + t5.size + t6.size) (by have := HPS.out; have := HT.out; omega)
  have e7 := lt_False (n := p.size + t1.size + t2.size + t3.size + t4.size + t5.size + t6.size + t7.size) (by have := HPS.out; have := HT.out; omega)
  have e8 := lt_False (n := p.size + t1.size + t2.size + t3.size + t4.size + t5.size + t6.size + t7.size + t8.size) (by have := HPS.out; have := HT.out; omega)
  go_region_held3 (fun w' => w'.cell? ⟨gb, 0, none⟩ = some (.int .i64 m.op) ∧ w'.cell? ⟨gb, 1, none⟩ = some (.int .u32 m.h.ex) ∧ w'.cell? ⟨gb, 2, none⟩ = some (.int .u64 m.h.snap) ∧ w'.cell? ⟨gb, 3, none⟩ = some (.int .u64 m.h.ino) ∧ w'.cell? ⟨gb, 4, none⟩ = some (.int .u64 m.h.gen) ∧ w'.cell? ⟨gb, 5, none⟩ = some (.int .u32 m.h2.ex) ∧ w'.cell? ⟨gb, 6, none⟩ = some (.int .u64 m.h2.snap) ∧ w'.cell? ⟨gb, 7, none⟩ = some (.int .u64 m.h2.ino) ∧ w'.cell? ⟨gb, 8, none⟩ = some (.int .u64 m.h2.gen) ∧ w'.cell? ⟨gb, 9, none⟩ = some (.string m.name) ∧ w'.cell? ⟨gb, 10, none⟩ = some (.string m.name2) ∧ w'.cell? ⟨gb, 11, none⟩ = some (.int .u64 m.off) ∧ w'.cell? ⟨gb, 12, none⟩ = some (.int .u64 m.num) ∧ w'.cell? ⟨gb, 13, none⟩ = some (.string m.data) ∧ Kp (fun w1 => Blk w1 gb 27 (askCells m)) w w')
    ((go_split_ands; first
      | (have q := Kp.next ST2 hb (by assumption); exact ⟨q.h.cell 0 rfl, q.h.cell 1 rfl, q.h.cell 2 rfl, q.h.cell 3 rfl, q.h.cell 4 rfl, q.h.cell 5 rfl, q.h.cell 6 rfl, q.h.cell 7 rfl, q.h.cell 8 rfl, q.h.cell 9 rfl, q.h.cell 10 rfl, q.h.cell 11 rfl, q.h.cell 12 rfl, q.h.cell 13 rfl, q⟩)
      | (have q := Kp.drew ST2 k0; exact ⟨q.h.cell 0 rfl, q.h.cell 1 rfl, q.h.cell 2 rfl, q.h.cell 3 rfl, q.h.cell 4 rfl, q.h.cell 5 rfl, q.h.cell 6 rfl, q.h.cell 7 rfl, q.h.cell 8 rfl, q.h.cell 9 rfl, q.h.cell 10 rfl, q.h.cell 11 rfl, q.h.cell 12 rfl, q.h.cell 13 rfl, q⟩)))
    ((first
        | (go_at_call 55; with_reducible refine (C1.out.at _).mono ?_; rintro e w' ⟨rfl, hb⟩)
        | (go_at_call 58; with_reducible refine (C2.out.at _).mono ?_; rintro e w' ⟨rfl, hb⟩)
        | (go_at_call 58; with_reducible refine (C3.out.at _).mono ?_; rintro e w' ⟨rfl, hb⟩)
        | (go_at_call 59; with_reducible refine (C4.out.at _).mono ?_; rintro e w' ⟨rfl, hb⟩)
        | (go_at_call 59; with_reducible refine (C5.out.at _).mono ?_; rintro e w' ⟨rfl, hb⟩)
        | (go_at_call 57; with_reducible refine (C6.out.at _).mono ?_; rintro e w' ⟨rfl, hb⟩)
        | (go_at_call 57; with_reducible refine (C7.out.at _).mono ?_; rintro e w' ⟨rfl, hb⟩)
        | (go_at_call 59; with_reducible refine (C8.out.at _).mono ?_; rintro e w' ⟨rfl, hb⟩)))
  go_split_ands
  rename_i q
  have Q := Lib.hid q.below
  clear q
  go_wp2
  go_ret
  exact ⟨by rw [Hp.out]; rfl, Q.out⟩

end Go.Proofs.Ytibcadfpengacaa

-- RefP
set_option linter.unusedVariables false
set_option linter.unusedSimpArgs false
namespace Go.Proofs.Ytibcadfpengacaa
open Go.RowKit Go.Lib Go.Proofs.YtibcadfpengacaaW.PrintWords Go.Proofs.YtibcadfpengacaaW.PrintMore Go.Proofs.YtibcadfpengacaaW.PrintLast

def zans : List Value := [.int .i64 0, .int .u32 0, .int .u64 0, .int .u64 0, .int .u64 0, .int .i64 0, .int .u32 0, .int .u64 0, .int .u64 0, .string ⟨#[]⟩, .bool false, .int .u64 0, .slice none 0 0]
theorem run_allocAns (ev : Operand → Value) (o : Oper) (ho : o.op = .alloc 32) (w : World) : (execOp ev o).run Try.prog w = .ok (.value (.pointer (some ⟨w.heap.size, 0, none⟩))) (w.alloc (.cells zans.toArray 32 (0, 0))) := by
  unfold execOp
  rw [ho]
  kernel_rfl
def ansCells (m : Msg) (A : Option Addr) (c : Nat) : List Value := [.int .i64 m.status, .int .u32 m.ah.ex, .int .u64 m.ah.snap, .int .u64 m.ah.ino, .int .u64 m.ah.gen, .int .i64 m.akind, .int .u32 m.links, .int .u64 m.size, .int .u64 m.change, .string m.adata, .bool m.eof, .int .u64 m.anum, .slice A m.list.length c]
theorem ansCells_one (m : Msg) (A : Option Addr) (c : Nat) : ∀ v ∈ ansCells m A c, v.oneCell' = true := by
  intro v hv
  simp only [ansCells, List.mem_cons, List.not_mem_nil, or_false] at hv
  rcases hv with h | h | h | h | h | h | h | h | h | h | h | h | h <;> (subst h; rfl)

def entS (s : ByteArray) (e : Ent) : ByteArray := s ++ txtS e.name ++ leS e.ino.toNat 8 ++ leS e.cookie.toNat 8
def laidEnts (p : ByteArray) (es : List Ent) : ByteArray := es.foldl entS p
theorem laidEnts_snoc (p : ByteArray) (es : List Ent) (k : Nat) (h : k < es.length) : laidEnts p (es.take (k + 1)) = entS (laidEnts p (es.take k)) (es[k]'h) := by
  unfold laidEnts
  rw [List.take_succ_eq_append_getElem h, List.foldl_append]
  rfl
theorem laidEnts_size (es : List Ent) (hs : ∀ e ∈ es, e.name.size ≤ 4096) : ∀ p : ByteArray, (laidEnts p es).size ≤ p.size + 4120 * es.length := by
  induction es with
  | nil => intro p; exact Nat.le_refl _
  | cons e es ih =>
    intro p
    have h1 := ih (fun e he => hs e (List.mem_cons_of_mem _ he)) (entS p e)
    have h2 := txtS_size e.name (hs e List.mem_cons_self)
    have h3 : (entS p e).size = p.size + (txtS e.name).size + 8 + 8 := by simp [entS, ByteArray.size_append, leS_size]
    show (laidEnts (entS p e) es).size ≤ _
    rw [List.length_cons]
    omega

set_option maxHeartbeats 8000000 in
set_option maxRecDepth 100000 in
theorem layReply_raw (x : List Value) (m : Msg) (A : Option Addr) (c : Nat) (hx : MsgAt x m A c) (p1 p2 p3 : ByteArray) (g1 : p1.size ≤ 5000) (g2 : p2.size ≤ 5000) (g3 : p3.size ≤ 5000) (P1 : Says 55 (.int .i64 m.kind) p1) (P2 : Says 56 (.int .u32 m.client) p2) (P3 : Says 57 (.int .u64 m.xid) p3) (t1 t2 t3 t4 t5 t6 t7 t8 t9 t10 tl : ByteArray) (hs : t1.size ≤ 5000 ∧ t2.size ≤ 5000 ∧ t3.size ≤ 5000 ∧ t4.size ≤ 5000 ∧ t5.size ≤ 5000 ∧ t6.size ≤ 5000 ∧ t7.size ≤ 5000 ∧ t8.size ≤ 5000 ∧ t9.size ≤ 5000 ∧ t10.size ≤ 5000 ∧ tl.size ≤ 5000)
    (H1 : Says 55 (.int .i64 m.status) t1) (H2 : Says 58 (.agg #[.int .u32 m.ah.ex, .int .u64 m.ah.snap, .int .u64 m.ah.ino, .int .u64 m.ah.gen]) t2) (H3 : Says 55 (.int .i64 m.akind) t3)
    (H4 : Says 56 (.int .u32 m.links) t4) (H5 : Says 57 (.int .u64 m.size) t5) (H6 : Says 57 (.int .u64 m.change) t6) (H7 : Says 59 (.string m.adata) t7) (H8 : Says 60 (.bool m.eof) t8) (H9 : Says 57 (.int .u64 m.anum) t9) (H10 : Says 56 (.int .u32 m.list.length) t10)
    (HL : Says 61 (.agg x.toArray) tl) (hE : ∀ e ∈ m.list, e.name.size ≤ 4096 ∧ U64 e.ino ∧ U64 e.cookie) (hl : m.list.length ≤ 64)
    (hk2 : m.kind = 2) (w : World) (hA : EntsR w A m.list) : Calls Try.prog 38 #[.agg x.toArray] w fun e w' => e = .returned (.string (laidEnts (p1 ++ p2 ++ p3 ++ t1 ++ t2 ++ t3 ++ t4 ++ t5 ++ t6 ++ t7 ++ t8 ++ t9 ++ t10) m.list ++ tl)) ∧ Below w.heap.size w w' := by
  have HX := Lib.hid hx
  have C1 := Lib.hid H1; have C2 := Lib.hid H2; have C3 := Lib.hid H3; have C4 := Lib.hid H4; have C5 := Lib.hid H5; have C6 := Lib.hid H6; have C7 := Lib.hid H7; have C8 := Lib.hid H8; have C9 := Lib.hid H9; have C10 := Lib.hid H10; have CL := Lib.hid HL
  have HT := Lib.hid hs; have HE := Lib.hid hE; have Hl := Lib.hid hl; have HA := Lib.hid hA
  have k1 : (m.kind == 1) = false := by simp [hk2]
  have k2 : (m.kind == 2) = true := by simp [hk2]
  have Hk2 := Lib.hid hk2
  clear H1 H2 H3 H4 H5 H6 H7 H8 H9 H10 HL hs hk2 hE hl hA
  have D1 := Lib.hid P1; have D2 := Lib.hid P2; have D3 := Lib.hid P3
  have G := Lib.hid (show p1.size ≤ 5000 ∧ p2.size ≤ 5000 ∧ p3.size ≤ 5000 from ⟨g1, g2, g3⟩)
  have f2 := lt_False (n := p1.size + p2.size) (by omega)
  have f3 := lt_False (n := p1.size + p2.size + p3.size) (by omega)
  clear P1 P2 P3 g1 g2 g3 hx
  go_enter Try.func38, Try.ntmps38
  go_wp2_with (first
    | ((with_reducible refine gate_dst (N := 1) rfl ?_); refine box_event rfl (N := 1) rfl (run_box _ _ _ 36 _ x.toArray rfl rfl _) ?_; intro gx hgx v1 hbox hbel; have BX := Lib.hid (show Blk v1 gx 36 x from hbox); have BL := Lib.hid hbel; have HGX := Lib.hid hgx; clear hbox hbel hgx))
  have ST := Lib.hid (show ∀ w0 w1 : World, Below w0.heap.size w0 w1 → Blk w0 gx 36 x → Blk w1 gx 36 x from fun _ _ hb h => h.below hb)
  have k0 : Kp (fun w1 => Blk w1 gx 36 x) w v1 := ⟨BX.out, BL.out⟩
  go_region_held3 (fun w' => w'.cell? ⟨gx, 0, none⟩ = some (.int .i64 m.kind) ∧ w'.cell? ⟨gx, 1, none⟩ = some (.int .u32 m.client) ∧ w'.cell? ⟨gx, 2, none⟩ = some (.int .u64 m.xid) ∧ Kp (fun w1 => Blk w1 gx 36 x) w w')
    ((go_split_ands; first
      | (have q := Kp.next ST hb (by assumption); exact ⟨q.h.cell 0 HX.out.c0, q.h.cell 1 HX.out.c1, q.h.cell 2 HX.out.c2, q⟩)
      | (have q := Kp.drew ST k0; exact ⟨q.h.cell 0 HX.out.c0, q.h.cell 1 HX.out.c1, q.h.cell 2 HX.out.c2, q⟩)))
    ((first
        | (go_at_call 55; with_reducible refine (D1.out.at _).mono ?_; rintro e w' ⟨rfl, hb⟩)
        | (go_at_call 56; with_reducible refine (D2.out.at _).mono ?_; rintro e w' ⟨rfl, hb⟩)
        | (go_at_call 57; with_reducible refine (D3.out.at _).mono ?_; rintro e w' ⟨rfl, hb⟩)))
  go_split_ands
  rename_i q
  have Q0 := Lib.hid q
  have cX0 := Q0.out.h.cell 0 HX.out.c0
  clear q k0 BX BL HGX
  generalize hp : p1 ++ p2 ++ p3 = p at *
  have Hp := Lib.hid hp
  have hps : p.size ≤ 15000 := by rw [← hp, ByteArray.size_append, ByteArray.size_append]; have := G.out; omega
  have HPS := Lib.hid hps
  clear hp hps f2 f3 D1 D2 D3
  go_wp2_with (first
    | ((with_reducible refine gate_dst (N := 60) rfl ?_); refine wpList_load_mid rfl 32 _ rfl gx 17 rfl (ansCells m A c) _ (Q0.out.h.part 17 _ HX.out.ans) Try.underlying32 rfl infoAns ?_)
    | ((with_reducible refine gate_dst (N := 5) rfl ?_); refine box_event rfl (N := 5) rfl (run_allocAns _ _ rfl _) ?_; intro ga hga v4 hbox hbel; have BB0 := Lib.hid (show Blk v4 ga 32 zans from hbox); have BX4 := Lib.hid (Q0.out.h.below hbel); have BL4 := Lib.hid (Q0.out.below.trans (hbel.mono Q0.out.below.size)); have HGB := Lib.hid (show w.heap.size ≤ ga ∧ gx ≠ ga from ⟨by rw [hga]; exact Q0.out.below.size, by have := Q0.out.h.lt; omega⟩); clear hbox hbel hga)
    | ((with_reducible refine gate_store (t := 32) (p := 5) rfl ?_); refine wpList_store_mid rfl 32 _ _ rfl ga 0 (ansCells m A c).toArray rfl rfl ?ht ?hi ?h1 ?_; (case ht => exact BB0.out.there 13 (Nat.le_refl 13)); (case hi => exact infoAns); (case h1 => exact all_oneCell_toArray (ansCells_one m A c)); have BB := Lib.hid (BB0.out.setAll (ansCells m A c) rfl); have KC := Lib.hid (Keeps.setCells (S := fun k => k = ga) (ansCells m A c) 0 v4 (Keeps.refl _ _) (fun _ => rfl)); change wpList _ _ _ _ _ (v4.setCells ga 0 (ansCells m A c)); generalize v4.setCells ga 0 (ansCells m A c) = v5 at BB KC ⊢; clear BB0))
  have BL5 := BL4.out.trans (KC.out.below (B := w.heap.size) BL4.out.size (fun k hk => by show ¬ k = ga; have := HGB.out.1; omega))
  have BX5 := BX4.out.kept KC.out (show ¬ gx = ga from HGB.out.2)
  have ST2 := Lib.hid (show ∀ w0 w1 : World, Below w0.heap.size w0 w1 → (Blk w0 ga 32 (ansCells m A c) ∧ EntsR w0 A m.list ∧ Blk w0 gx 36 x) → (Blk w1 ga 32 (ansCells m A c) ∧ EntsR w1 A m.list ∧ Blk w1 gx 36 x) from fun _ _ hb h => ⟨h.1.below hb, h.2.1.below hb, h.2.2.below hb⟩)
  have k0 : Kp (fun w1 => Blk w1 ga 32 (ansCells m A c) ∧ EntsR w1 A m.list ∧ Blk w1 gx 36 x) w v5 := ⟨⟨BB.out, HA.out.below BL5, BX5⟩, BL5⟩
  have hw : (m.list.length : Int) % 4294967296 = (m.list.length : Int) := by have := Hl.out; omega
  have hw2 : IntKind.u32.wrap (m.list.length : Int) = (m.list.length : Int) := by rw [u32_wrap]; have := Hl.out; omega
  clear BL5 BL4 KC BB BX5 BX4 HA
  have e1 := lt_False (n := p.size + t1.size) (by have := HPS.out; have := HT.out; omega)
  have e2 := lt_False (n := p.size + t1.size + t2.size) (by have := HPS.out; have := HT.out; omega)
  have e3 := lt_False (n := p.size + t1.size + t2.size + t3.size) (by have := HPS.out; have := HT.out; omega)
  have e4 := lt_False (n := p.size + t1.size + t2.size + t3.size + t4.size) (by have := HPS.out; have := HT.out; omega)
  have e5 := lt_False (n := p.size + t1.size + t2.size + t3.size + t4.size + t5.size) (by have := HPS.out; have := HT.out; omega)
  have e6 := lt_False (n := p.size + t1.size + t2.size + t3.size + t4.size + t5.size + t6.size) (by have := HPS.out; have := HT.out; omega)
  have e7 := lt_False (n := p.size + t1.size + t2.size + t3.size + t4.size + t5.size + t6.size + t7.size) (by have := HPS.out; have := HT.out; omega)
  have e8 := lt_False (n := p.size + t1.size + t2.size + t3.size + t4.size + t5.size + t6.size + t7.size + t8.size) (by have := HPS.out; have := HT.out; omega)
  have e9 := lt_False (n := p.size + t1.size + t2.size + t3.size + t4.size + t5.size + t6.size + t7.size + t8.size + t9.size) (by have := HPS.out; have := HT.out; omega)
  have e10 := lt_False (n := p.size + t1.size + t2.size + t3.size + t4.size + t5.size + t6.size + t7.size + t8.size + t9.size + t10.size) (by have := HPS.out; have := HT.out; omega)
  go_region_held3 (fun w' => w'.cell? ⟨ga, 0, none⟩ = some (.int .i64 m.status) ∧ w'.cell? ⟨ga, 1, none⟩ = some (.int .u32 m.ah.ex) ∧ w'.cell? ⟨ga, 2, none⟩ = some (.int .u64 m.ah.snap) ∧ w'.cell? ⟨ga, 3, none⟩ = some (.int .u64 m.ah.ino) ∧ w'.cell? ⟨ga, 4, none⟩ = some (.int .u64 m.ah.gen) ∧ w'.cell? ⟨ga, 5, none⟩ = some (.int .i64 m.akind) ∧ w'.cell? ⟨ga, 6, none⟩ = some (.int .u32 m.links) ∧ w'.cell? ⟨ga, 7, none⟩ = some (.int .u64 m.size) ∧ w'.cell? ⟨ga, 8, none⟩ = some (.int .u64 m.change) ∧ w'.cell? ⟨ga, 9, none⟩ = some (.string m.adata) ∧ w'.cell? ⟨ga, 10, none⟩ = some (.bool m.eof) ∧ w'.cell? ⟨ga, 11, none⟩ = some (.int .u64 m.anum) ∧ w'.cell? ⟨ga, 12, none⟩ = some (.slice A m.list.length c) ∧ Kp (fun w1 => Blk w1 ga 32 (ansCells m A c) ∧ EntsR w1 A m.list ∧ Blk w1 gx 36 x) w w')
    ((go_split_ands; first
      | (have q := Kp.next ST2 hb (by assumption); exact ⟨q.h.1.cell 0 rfl, q.h.1.cell 1 rfl, q.h.1.cell 2 rfl, q.h.1.cell 3 rfl, q.h.1.cell 4 rfl, q.h.1.cell 5 rfl, q.h.1.cell 6 rfl, q.h.1.cell 7 rfl, q.h.1.cell 8 rfl, q.h.1.cell 9 rfl, q.h.1.cell 10 rfl, q.h.1.cell 11 rfl, q.h.1.cell 12 rfl, q⟩)
      | (have q := Kp.drew ST2 k0; exact ⟨q.h.1.cell 0 rfl, q.h.1.cell 1 rfl, q.h.1.cell 2 rfl, q.h.1.cell 3 rfl, q.h.1.cell 4 rfl, q.h.1.cell 5 rfl, q.h.1.cell 6 rfl, q.h.1.cell 7 rfl, q.h.1.cell 8 rfl, q.h.1.cell 9 rfl, q.h.1.cell 10 rfl, q.h.1.cell 11 rfl, q.h.1.cell 12 rfl, q⟩)))
    ((first
        | (go_at_call 55; with_reducible refine (C1.out.at _).mono ?_; rintro e w' ⟨rfl, hb⟩)
        | (go_at_call 58; with_reducible refine (C2.out.at _).mono ?_; rintro e w' ⟨rfl, hb⟩)
        | (go_at_call 55; with_reducible refine (C3.out.at _).mono ?_; rintro e w' ⟨rfl, hb⟩)
        | (go_at_call 56; with_reducible refine (C4.out.at _).mono ?_; rintro e w' ⟨rfl, hb⟩)
        | (go_at_call 57; with_reducible refine (C5.out.at _).mono ?_; rintro e w' ⟨rfl, hb⟩)
        | (go_at_call 57; with_reducible refine (C6.out.at _).mono ?_; rintro e w' ⟨rfl, hb⟩)
        | (go_at_call 59; with_reducible refine (C7.out.at _).mono ?_; rintro e w' ⟨rfl, hb⟩)
        | (go_at_call 60; with_reducible refine (C8.out.at _).mono ?_; rintro e w' ⟨rfl, hb⟩)
        | (go_at_call 57; with_reducible refine (C9.out.at _).mono ?_; rintro e w' ⟨rfl, hb⟩)
        | (go_at_call 56; with_reducible refine (C10.out.at _).mono ?_; rintro e w' ⟨rfl, hb⟩)))
  go_split_ands
  rename_i q
  have Q1 := Lib.hid q
  clear q k0 Q0
  generalize hp' : p ++ t1 ++ t2 ++ t3 ++ t4 ++ t5 ++ t6 ++ t7 ++ t8 ++ t9 ++ t10 = p' at *
  have Hp' := Lib.hid hp'
  have hps' : p'.size ≤ 65000 := by rw [← hp']; simp only [ByteArray.size_append]; have := HPS.out; have := HT.out; omega
  have HPS' := Lib.hid hps'
  clear hp' hps' e1 e2 e3 e4 e5 e6 e7 e8 e9 e10 C1 C2 C3 C4 C5 C6 C7 C8 C9 C10 hw hw2
  have c12 := Q1.out.h.1.cell 12 rfl
  generalize hn : m.list.length = n at *
  have Hn := Lib.hid hn
  clear hn
  go_wp2_with fail
  go_loopw [3, 6] (fun v i wr => ∃ k : Nat, k ≤ n ∧ i = .int .i64 k ∧ v = .string (laidEnts p' (m.list.take k)) ∧ Kp (fun w1 => Blk w1 ga 32 (ansCells m A c) ∧ EntsR w1 A m.list ∧ Blk w1 gx 36 x) w wr) (fun _ i _ => n - (intOf i).toNat)
  case atStart => exact ⟨0, Nat.zero_le _, rfl, rfl, Q1.out⟩
  case round =>
    obtain ⟨k, hk, rfl, rfl, hq⟩ := hrel
    have c12 : wr.cell? ⟨ga, 12, none⟩ = some (.slice A n c) := (hq.h.1.cell 12 rfl).trans (by rw [Hn.out])
    have hn64 : n ≤ 64 := by have := Hl.out; have := Hn.out; omega
    by_cases hlt : k < n
    · obtain ⟨e, he⟩ : ∃ e, m.list[k]? = some e := ⟨_, List.getElem?_eq_getElem (by have := Hn.out; omega)⟩
      have hmem : e ∈ m.list := List.mem_of_getElem? he
      obtain ⟨hz1, hz2, hz3⟩ := HE.out e hmem
      obtain ⟨b, o, hA, y1, y2, y3⟩ := hq.h.2.1 k e he
      have hstep : laidEnts p' (m.list.take (k + 1)) = entS (laidEnts p' (m.list.take k)) e := by
        have hkl : k < m.list.length := by have := Hn.out; omega
        rw [laidEnts_snoc p' m.list k hkl]
        congr 1
        exact (List.getElem?_eq_some_iff.1 he).2
      have hsz : (laidEnts p' (m.list.take k)).size ≤ 65000 + 4120 * 64 := by
        have h1 := laidEnts_size (m.list.take k) (fun e he => (HE.out e (List.mem_of_mem_take he)).1) p'
        have h2 : (m.list.take k).length ≤ 64 := by rw [List.length_take]; have := Hl.out; omega
        have h3 := HPS'.out
        omega
      have T1 := Lib.hid (text_says e.name hz1)
      have T2 := Lib.hid (show Says 57 (.int .u64 e.ino) (leS e.ino.toNat 8) from fun w => l8_any _ hz2 w)
      have T3 := Lib.hid (show Says 57 (.int .u64 e.cookie) (leS e.cookie.toNat 8) from fun w => l8_any _ hz3 w)
      have hs1 := txtS_size e.name hz1
      have hs2 := leS_size e.ino.toNat 8
      have hs3 := leS_size e.cookie.toNat 8
      have HST := Lib.hid hstep
      unfold entS at HST
      generalize txtS e.name = u1 at *
      generalize leS e.ino.toNat 8 = u2 at *
      generalize leS e.cookie.toNat 8 = u3 at *
      generalize laidEnts p' (m.list.take k) = pk at *
      have g1 := lt_False (n := pk.size + u1.size) (by omega)
      have g2 := lt_False (n := pk.size + u1.size + u2.size) (by omega)
      have g3 := lt_False (n := pk.size + u1.size + u2.size + u3.size) (by omega)
      have hki0 : (0 : Int) ≤ (k : Int) := Int.natCast_nonneg _
      have hki1 : (k : Int) < (n : Int) := by omega
      have HA := Lib.hid hA
      have kq := hq
      have HY := Lib.hid (show wr.cell? ⟨b, o + k * 3, none⟩ = some (.string e.name) ∧ wr.cell? ⟨b, o + k * 3 + 1, none⟩ = some (.int .u64 e.ino) ∧ wr.cell? ⟨b, o + k * 3 + 2, none⟩ = some (.int .u64 e.cookie) from ⟨y1, y2, y3⟩)
      have ST3 := Lib.hid (show ∀ w0 w1 : World, Below w0.heap.size w0 w1 → ((Blk w0 ga 32 (ansCells m A c) ∧ EntsR w0 A m.list ∧ Blk w0 gx 36 x) ∧ w0.cell? ⟨b, o + k * 3, none⟩ = some (.string e.name) ∧ w0.cell? ⟨b, o + k * 3 + 1, none⟩ = some (.int .u64 e.ino) ∧ w0.cell? ⟨b, o + k * 3 + 2, none⟩ = some (.int .u64 e.cookie)) → (Blk w1 ga 32 (ansCells m A c) ∧ EntsR w1 A m.list ∧ Blk w1 gx 36 x) ∧ w1.cell? ⟨b, o + k * 3, none⟩ = some (.string e.name) ∧ w1.cell? ⟨b, o + k * 3 + 1, none⟩ = some (.int .u64 e.ino) ∧ w1.cell? ⟨b, o + k * 3 + 2, none⟩ = some (.int .u64 e.cookie) from fun w0 w1 hb h => ⟨ST2.out _ _ hb h.1, (hb.cell (World.block_lt_of_cell? w0 _ h.2.1)).trans h.2.1, (hb.cell (World.block_lt_of_cell? w0 _ h.2.2.1)).trans h.2.2.1, (hb.cell (World.block_lt_of_cell? w0 _ h.2.2.2)).trans h.2.2.2⟩)
      have k3 : Kp (fun w0 => (Blk w0 ga 32 (ansCells m A c) ∧ EntsR w0 A m.list ∧ Blk w0 gx 36 x) ∧ w0.cell? ⟨b, o + k * 3, none⟩ = some (.string e.name) ∧ w0.cell? ⟨b, o + k * 3 + 1, none⟩ = some (.int .u64 e.ino) ∧ w0.cell? ⟨b, o + k * 3 + 2, none⟩ = some (.int .u64 e.cookie)) w wr := ⟨⟨hq.h, HY.out⟩, hq.below⟩
      have HK3 := Lib.hid k3
      clear hz1 hz2 hz3 hstep hsz hs1 hs2 hs3 he hmem hq y1 y2 y3 kq k3
      have HC12 := Lib.hid (show some (Value.slice A m.list.length c) = some (Value.slice (some ⟨b, o, none⟩) n c) by rw [HA.out, Hn.out])
      clear hA
      go_wp2
      have k3 := HK3.out
      go_region_held3 (fun w' => w'.cell? ⟨ga, 12, none⟩ = some (.slice (some ⟨b, o, none⟩) n c) ∧ w'.cell? ⟨b, o + k * 3, none⟩ = some (.string e.name) ∧ w'.cell? ⟨b, o + k * 3 + 1, none⟩ = some (.int .u64 e.ino) ∧ w'.cell? ⟨b, o + k * 3 + 2, none⟩ = some (.int .u64 e.cookie) ∧ Kp (fun w0 => (Blk w0 ga 32 (ansCells m A c) ∧ EntsR w0 A m.list ∧ Blk w0 gx 36 x) ∧ w0.cell? ⟨b, o + k * 3, none⟩ = some (.string e.name) ∧ w0.cell? ⟨b, o + k * 3 + 1, none⟩ = some (.int .u64 e.ino) ∧ w0.cell? ⟨b, o + k * 3 + 2, none⟩ = some (.int .u64 e.cookie)) w w')
        ((go_split_ands; first
          | (have q := Kp.next ST3 hb (by assumption); exact ⟨(q.h.1.1.cell 12 rfl).trans HC12.out, q.h.2.1, q.h.2.2.1, q.h.2.2.2, q⟩)
          | (have q := Kp.drew ST3 k3; exact ⟨(q.h.1.1.cell 12 rfl).trans HC12.out, q.h.2.1, q.h.2.2.1, q.h.2.2.2, q⟩)))
        ((first
            | (go_at_call 59; with_reducible refine (T1.out.at _).mono ?_; rintro e w' ⟨rfl, hb⟩)
            | (go_at_call 57; with_reducible refine (T2.out.at _).mono ?_; rintro e w' ⟨rfl, hb⟩)
            | (go_at_call 57; with_reducible refine (T3.out.at _).mono ?_; rintro e w' ⟨rfl, hb⟩)))
      go_split_ands
      rename_i q
      have Q := Lib.hid q
      clear q k3
      go_wp2
      go_roundw
      case rel => exact ⟨k + 1, by omega, by go_num, by rw [HST.out], Q.out.h.1, Q.out.below⟩
      case measure => simp [intOf]; omega
    · have he : k = n := by omega
      subst he
      have hfull : m.list.take k = m.list := List.take_of_length_le (by have := Hn.out; omega)
      have HF := Lib.hid (show laidEnts p' (m.list.take k) = laidEnts p' m.list by rw [hfull])
      have hsz : (laidEnts p' (m.list.take k)).size ≤ 65000 + 4120 * 64 := by
        have h1 := laidEnts_size (m.list.take k) (fun e he => (HE.out e (List.mem_of_mem_take he)).1) p'
        have h2 : (m.list.take k).length ≤ 64 := by rw [List.length_take]; have := Hl.out; omega
        have h3 := HPS'.out
        omega
      have HQ := Lib.hid hq
      clear hfull hq
      generalize laidEnts p' (m.list.take k) = pk at *
      have g1 := lt_False (n := pk.size + tl.size) (by have := HT.out; omega)
      clear hsz
      go_wp2_with (first
        | ((with_reducible refine gate_dst (N := 141) rfl ?_); refine wpList_load_mid rfl 36 _ rfl gx 0 rfl x _ ?hc Try.underlying36 rfl ?hi ?_; (case hc => exact HQ.out.h.2.2.range); (case hi => rw [HX.out.len]; exact infoMsg)))
      refine (CL.out.at _).mono ?_
      rintro e w4 ⟨rfl, hb⟩
      have KB := Lib.hid (HQ.out.below.trans (hb.mono HQ.out.below.size))
      clear hb
      go_wp2_with fail
      go_ret
      exact ⟨by rw [← Hp'.out, ← Hp.out] at HF; rw [HF.out]; rfl, KB.out⟩

end Go.Proofs.Ytibcadfpengacaa

-- RefQ
set_option linter.unusedVariables false
set_option linter.unusedSimpArgs false
namespace Go.Proofs.Ytibcadfpengacaa
open Go.RowKit Go.Lib Go.Proofs.YtibcadfpengacaaW.PrintWords Go.Proofs.YtibcadfpengacaaW.PrintMore Go.Proofs.YtibcadfpengacaaW.PrintLast

def toR (e : Ent) : PRlong.S99 := ⟨e.name, e.ino, e.cookie⟩
theorem kR_of {w : World} {A : Option Addr} {es : List Ent} (hlen : es.length ≤ 4398046511104) (hA : EntsR w A es) : Kd.C PRlong.k99 w A (es.map toR).length (es.map toR) := by
  refine ⟨rfl, by rw [List.length_map]; omega, fun h => ?_⟩
  rw [List.length_map] at h
  obtain ⟨b, o, e, _⟩ := hA 0 _ (List.getElem?_eq_getElem h)
  refine ⟨⟨b, o, none⟩, e, fun j p hp => ?_⟩
  have hj : j < es.length := by
    have := (List.getElem?_eq_some_iff.1 hp).1
    rwa [List.length_map] at this
  have hpe : p = toR (es[j]'hj) := by simpa [hj] using hp.symm
  subst hpe
  obtain ⟨b2, o2, e2, q0, q1, q2⟩ := hA j _ (List.getElem?_eq_getElem hj)
  obtain ⟨rfl, rfl⟩ : b2 = b ∧ o2 = o := by rw [e] at e2; injection e2 with e2; injection e2 with e3 e4; exact ⟨e3.symm, e4.symm⟩
  refine ⟨_, rfl, PRlong.k99_mk w _, fun i u hu => ?_⟩
  have q0' : w.cell? (Addr.add ⟨b2, o2, none⟩ (j * 3)) = some (.string (es[j]'hj).name) := by rw [addr_plus]; exact q0
  have q1' : w.cell? (Addr.add ⟨b2, o2, none⟩ (j * 3 + 1)) = some (.int .u64 (es[j]'hj).ino) := by rw [addr_plus]; exact q1
  have q2' : w.cell? (Addr.add ⟨b2, o2, none⟩ (j * 3 + 2)) = some (.int .u64 (es[j]'hj).cookie) := by rw [addr_plus]; exact q2
  match i, hu with
  | 0, hu => obtain rfl := Option.some.inj hu; exact q0'
  | 1, hu => obtain rfl := Option.some.inj hu; exact q1'
  | 2, hu => obtain rfl := Option.some.inj hu; exact q2'
  | i + 3, hu => exact absurd hu (by simp)

def bigS (s : ByteArray) : Bool := decide (4096 < s.size)
theorem refLong_l1 (L : List ByteArray) (es : List PRlong.S99) (hL : L.length ≤ 8796093022208) (P0 : Int) (P1 : Int) (P2 : Int) (P3 : Int) (P4 : Int) (P5 : Int) (P6 : Int) (P7 : Int) (P8 : Int) (P9 : Int) (P10 : Int) (P11 : Int) (P12 : ByteArray) (P13 : ByteArray) (P14 : Int) (P15 : Int) (P16 : ByteArray) (P17 : Int) (P18 : Int) (P19 : Int) (P20 : Int) (P21 : Int) (P22 : Int) (P23 : Int) (P24 : Int) (P25 : Int) (P26 : ByteArray) (P27 : Bool) (P28 : Int) (P30 : Int) (P31 : Int) (P32 : Int) :
    ∀ (r j k : Nat), j + r = L.length → r < k → PRlong.holtref22_long.l1 k L (j : Int) P0 P1 P2 P3 P4 P5 P6 P7 P8 P9 P10 P11 P12 P13 P14 P15 P16 P17 P18 P19 P20 P21 P22 P23 P24 P25 P26 P27 P28 es P30 P31 P32 = some ((L.drop j).any bigS || decide (64 < es.length)) := by
  intro r
  induction r with
  | zero =>
    intro j k hj hk
    obtain ⟨k, rfl⟩ : ∃ m, k = m + 1 := ⟨k - 1, by omega⟩
    rw [PRlong.holtref22_long.l1, if_neg (by omega), List.drop_eq_nil_of_le (by omega)]
    have e : decide ((es.length : Int) > 64) = decide (64 < es.length) := decide_eq_decide.2 (by omega)
    rw [e]
    simp
  | succ r ih =>
    intro j k hj hk
    obtain ⟨k, rfl⟩ : ∃ m, k = m + 1 := ⟨k - 1, by omega⟩
    have hjl : j < L.length := by omega
    have hg : rdOf ByteArray.empty L (j : Int) = L[j]'hjl := by
      unfold rdOf
      simp [List.getD, hjl]
    rw [PRlong.holtref22_long.l1, if_pos (by omega), if_pos (by omega), hg, List.drop_eq_getElem_cons hjl, List.any_cons]
    by_cases hb : 4096 < (L[j]'hjl).size
    · rw [if_pos (by omega)]
      simp [bigS, hb]
    · rw [if_neg (by omega)]
      have hi := ih (j + 1) k (by omega) (by omega)
      have hw : wrap64 ((j : Int) + 1) = ((j + 1 : Nat) : Int) := by clear hi ih; unfold wrap64; omega
      rw [hw, hi]
      simp [bigS, hb]
theorem refLong_l0 (B : List ByteArray) (hB : B.length = 4) (es : List Ent) (hes : es.length ≤ 4398046511104) (P0 : Int) (P1 : Int) (P2 : Int) (P3 : Int) (P4 : Int) (P5 : Int) (P6 : Int) (P7 : Int) (P8 : Int) (P9 : Int) (P10 : Int) (P11 : Int) (P12 : ByteArray) (P13 : ByteArray) (P14 : Int) (P15 : Int) (P16 : ByteArray) (P17 : Int) (P18 : Int) (P19 : Int) (P20 : Int) (P21 : Int) (P22 : Int) (P23 : Int) (P24 : Int) (P25 : Int) (P26 : ByteArray) (P27 : Bool) (P28 : Int) (P30 : Int) (P31 : Int) (P32 : Int) :
    ∀ (r i k : Nat), i + r = es.length → r + (es.length + 6) < k → PRlong.holtref22_long.l0 k (B ++ (es.take i).map (·.name)) (i : Int) P0 P1 P2 P3 P4 P5 P6 P7 P8 P9 P10 P11 P12 P13 P14 P15 P16 P17 P18 P19 P20 P21 P22 P23 P24 P25 P26 P27 P28 (es.map toR) P30 P31 P32 = some ((B ++ es.map (·.name)).any bigS || decide (64 < es.length)) := by
  intro r
  induction r with
  | zero =>
    intro i k hi hk
    obtain ⟨k, rfl⟩ : ∃ m, k = m + 1 := ⟨k - 1, by omega⟩
    have hl1 := refLong_l1 (B ++ es.map (·.name)) (es.map toR) (by rw [List.length_append, List.length_map]; omega) P0 P1 P2 P3 P4 P5 P6 P7 P8 P9 P10 P11 P12 P13 P14 P15 P16 P17 P18 P19 P20 P21 P22 P23 P24 P25 P26 P27 P28 P30 P31 P32 (B ++ es.map (·.name)).length 0 k (by omega) (by rw [List.length_append, List.length_map]; omega)
    rw [List.drop_zero, List.length_map, show ((0 : Nat) : Int) = 0 from rfl] at hl1
    rw [PRlong.holtref22_long.l0, if_neg (by rw [List.length_map]; omega), List.take_of_length_le (by omega), hl1]
  | succ r ih =>
    intro i k hi hk
    obtain ⟨k, rfl⟩ : ∃ m, k = m + 1 := ⟨k - 1, by omega⟩
    have hil : i < es.length := by omega
    have h1 : (i : Int) < ((es.map toR).length : Int) := by rw [List.length_map]; omega
    have hg : PRlong.rd_T99 (es.map toR) (i : Int) = toR (es[i]'hil) := by
      unfold PRlong.rd_T99
      simp [List.getD, hil]
    have h2 : (B ++ (es.take i).map (·.name)).length < 8796093022208 := by rw [List.length_append, List.length_map, List.length_take]; omega
    have hi2 := ih (i + 1) k (by omega) (by omega)
    rw [List.take_succ_eq_append_getElem hil, List.map_append, ← List.append_assoc] at hi2
    have hw : wrap64 ((i : Int) + 1) = ((i + 1 : Nat) : Int) := by clear hi2 ih h1; unfold wrap64; omega
    rw [PRlong.holtref22_long.l0, if_pos h1, if_pos (by omega), if_pos h2, hg, hw]
    exact hi2

theorem refLong_any (m : Msg) (A : Option Addr) (c : Nat) (hlen : m.list.length ≤ 4398046511104) (hcap : m.list.length ≤ c) (w : World) (hA : EntsR w A m.list) :
    Calls Try.prog 36 #[.agg (m.vs (.slice A m.list.length c)).toArray] w fun e w' => e = .returned (.bool m.long) ∧ Below w.heap.size w w' := by
  have h0 : PRlong.holtref22_long.f (m.list.length + (m.list.length + 8)) m.kind m.client m.xid m.op m.h.ex m.h.snap m.h.ino m.h.gen m.h2.ex m.h2.snap m.h2.ino m.h2.gen m.name m.name2 m.off m.num m.data m.status m.ah.ex m.ah.snap m.ah.ino m.ah.gen m.akind m.links m.size m.change m.adata m.eof m.anum (m.list.map toR) m.boot m.gb m.gn = some m.long := by
    have h := refLong_l0 [m.name, m.name2, m.data, m.adata] rfl m.list hlen m.kind m.client m.xid m.op m.h.ex m.h.snap m.h.ino m.h.gen m.h2.ex m.h2.snap m.h2.ino m.h2.gen m.name m.name2 m.off m.num m.data m.status m.ah.ex m.ah.snap m.ah.ino m.ah.gen m.akind m.links m.size m.change m.adata m.eof m.anum m.boot m.gb m.gn m.list.length 0 (m.list.length + (m.list.length + 8)) (by omega) (by omega)
    rw [List.take_zero, List.map_nil, List.append_nil, show ((0 : Nat) : Int) = 0 from rfl] at h
    unfold PRlong.holtref22_long.f
    rw [h]
    congr 1
    unfold Msg.long
    rw [List.any_append, List.any_map]
    simp only [List.any_cons, List.any_nil, Bool.or_false, bigS]
    simp only [Bool.or_assoc]
    rfl
  have := PRlong.holtref22_long.calls (m.list.length + (m.list.length + 8)) m.kind m.client m.xid m.op m.h.ex m.h.snap m.h.ino m.h.gen m.h2.ex m.h2.snap m.h2.ino m.h2.gen m.name m.name2 m.off m.num m.data m.status m.ah.ex m.ah.snap m.ah.ino m.ah.gen m.akind m.links m.size m.change m.adata m.eof m.anum A c (m.list.map toR) m.boot m.gb m.gn m.long w (kR_of hlen hA) (by rw [List.length_map]; exact hcap) h0
  rw [List.length_map] at this
  exact this

/-- The reference's bytes. -/
def Msg.headS (m : Msg) : ByteArray := oneS m.kind ++ leS m.client.toNat 4 ++ leS m.xid.toNat 8
def Msg.layS (m : Msg) : ByteArray :=
  if m.kind = 1 then m.headS ++ oneS m.op ++ m.h.layS ++ m.h2.layS ++ txtS m.name ++ txtS m.name2 ++ leS m.off.toNat 8 ++ leS m.num.toNat 8 ++ txtS m.data
  else if m.kind = 2 then laidEnts (m.headS ++ oneS m.status ++ m.ah.layS ++ oneS m.akind ++ leS m.links.toNat 4 ++ leS m.size.toNat 8 ++ leS m.change.toNat 8 ++ txtS m.adata ++ leS m.eof.toNat 1 ++ leS m.anum.toNat 8 ++ leS m.list.length 4) m.list ++ tailS m
  else m.headS ++ m.h.layS ++ tailS m
theorem Hd.layS_size (h : Hd) : h.layS.size = 28 := by simp [Hd.layS, ByteArray.size_append, leS_size]
theorem oneS_size (x : Int) : (oneS x).size = 1 := leS_size _ _

theorem lay_any (x : List Value) (m : Msg) (A : Option Addr) (c : Nat) (hx : MsgAt x m A c) (hk : m.Ok) (hl : m.long = false) (w : World) (hA : EntsR w A m.list) :
    Calls Try.prog 38 #[.agg x.toArray] w fun e w' => e = .returned (.string m.layS) ∧ Below w.heap.size w w' := by
  unfold Msg.long at hl
  simp only [Bool.or_eq_false_iff, decide_eq_false_iff_not, List.any_eq_false, decide_eq_true_eq] at hl
  obtain ⟨⟨⟨⟨⟨l1, l2⟩, l3⟩, l4⟩, l5⟩, l6⟩ := hl
  have g : ∀ x n, n ≤ 8 → (leS x n).size ≤ 5000 := fun x n h => by rw [leS_size]; omega
  have g28 : ∀ h : Hd, h.layS.size ≤ 5000 := fun h => by rw [Hd.layS_size]; omega
  have g1 : ∀ x, (oneS x).size ≤ 5000 := fun x => by rw [oneS_size]; omega
  have gt : ∀ s : ByteArray, ¬ 4096 < s.size → (txtS s).size ≤ 5000 := fun s h => Nat.le_trans (txtS_size s (by omega)) (by omega)
  have p1 := one_says m.kind
  have p2 : Says 56 (.int .u32 m.client) _ := fun w => l4_any _ hk.client w
  have p3 : Says 57 (.int .u64 m.xid) _ := fun w => l8_any _ hk.xid w
  have tl := tail_says x m A c hx hk
  unfold Msg.layS Msg.headS
  by_cases h1 : m.kind = 1
  · rw [if_pos h1]
    exact layCall_raw x m A c hx _ _ _ (g1 _) (g _ _ (by omega)) (g _ _ (by omega)) p1 p2 p3 _ _ _ _ _ _ _ _ ⟨g1 _, g28 _, g28 _, gt _ l1, gt _ l2, g _ _ (by omega), g _ _ (by omega), gt _ l3⟩
      (one_says _) (refHd_says _ hk.h) (refHd_says _ hk.h2) (text_says _ (by omega)) (text_says _ (by omega)) (fun w => l8_any _ hk.off w) (fun w => l8_any _ hk.num w) (text_says _ (by omega)) h1 w
  by_cases h2 : m.kind = 2
  · rw [if_neg h1, if_pos h2]
    have hlen : Says 56 (.int .u32 m.list.length) (leS m.list.length 4) := fun w => l4_any (m.list.length : Int) ⟨by omega, by omega⟩ w
    exact layReply_raw x m A c hx _ _ _ (g1 _) (g _ _ (by omega)) (g _ _ (by omega)) p1 p2 p3 _ _ _ _ _ _ _ _ _ _ _ ⟨g1 _, g28 _, g1 _, g _ _ (by omega), g _ _ (by omega), g _ _ (by omega), gt _ l4, g _ _ (by omega), g _ _ (by omega), g _ _ (by omega), by rw [tailS_size]; omega⟩
      (one_says _) (refHd_says _ hk.ah) (one_says _) (fun w => l4_any _ hk.links w) (fun w => l8_any _ hk.size w) (fun w => l8_any _ hk.change w) (text_says _ (by omega)) (yes_says _) (fun w => l8_any _ hk.anum w) hlen tl
      (fun e he => ⟨by have := l5 e he; omega, (hk.list e he).2.1, (hk.list e he).2.2⟩) (by omega) h2 w hA
  · rw [if_neg h1, if_neg h2]
    exact layBack_raw x m A c hx _ _ _ (g1 _) (g _ _ (by omega)) (g _ _ (by omega)) p1 p2 p3 _ _ (g28 _) (by rw [tailS_size]; omega) (refHd_says _ hk.h) tl h1 h2 w

/-- What the reference's Encode answers. -/
def Msg.refE (m : Msg) : ByteArray × Int := if m.long = true then (⟨#[]⟩, 2201) else if m.mayB = false then (⟨#[]⟩, 2200) else (m.layS, 0)

set_option maxHeartbeats 4000000 in
set_option maxRecDepth 100000 in
theorem refEncode_raw (x : List Value) (hxl : x.length = 33) (lng may : Bool) (s : ByteArray) (P : World → Prop) (hP : ∀ w w1, Below w.heap.size w w1 → P w → P w1)
    (hL : ∀ w, P w → Calls Try.prog 36 #[.agg x.toArray] w fun e w' => e = .returned (.bool lng) ∧ Below w.heap.size w w')
    (hM : ∀ w, P w → Calls Try.prog 37 #[.agg x.toArray] w fun e w' => e = .returned (.bool may) ∧ Below w.heap.size w w')
    (hS : lng = false → ∀ w, P w → Calls Try.prog 38 #[.agg x.toArray] w fun e w' => e = .returned (.string s) ∧ Below w.heap.size w w') (w : World) (hw : P w) :
    Calls Try.prog 10 #[.agg x.toArray] w fun e w' => e = .returned (.tuple #[.string (if lng = true then (⟨#[]⟩, 2201) else if may = false then (⟨#[]⟩, 2200) else (s, 0) : ByteArray × Int).1, .int .i64 (if lng = true then (⟨#[]⟩, 2201) else if may = false then (⟨#[]⟩, 2200) else (s, 0) : ByteArray × Int).2]) ∧ Below w.heap.size w w' := by
  have HL := Lib.hid hL; have HM := Lib.hid hM; have HS := Lib.hid hS; have HP := Lib.hid hP; have Hxl := Lib.hid hxl; have HW := Lib.hid hw
  clear hL hM hS hP hxl hw
  cases lng
  rotate_left
  · simp only [if_true]
    go_enter Try.func10, Try.ntmps10
    go_wp2_with (first
      | ((with_reducible refine gate_dst (N := 1) rfl ?_); refine box_event rfl (N := 1) rfl (run_box _ _ _ 36 _ x.toArray rfl rfl _) ?_; intro gx hgx v1 hbox hbel; have BX := Lib.hid (show Blk v1 gx 36 x from hbox); have BL := Lib.hid hbel; clear hbox hbel hgx)
      | ((with_reducible refine gate_dst (N := 4) rfl ?_); refine wpList_load_mid rfl 36 _ rfl gx 0 rfl x _ ?hc Try.underlying36 rfl ?hi ?_; (case hc => exact BX.out.range); (case hi => rw [Hxl.out]; exact infoMsg)))
    refine (HL.out v1 (HP.out _ _ BL.out HW.out)).mono ?_
    rintro e w2 ⟨rfl, hb⟩
    have KB := Lib.hid (BL.out.trans (hb.mono BL.out.size))
    clear hb
    go_wp2_with fail
    go_ret2
    exact ⟨rfl, KB.out⟩
  cases may
  · simp only [if_true, Bool.false_eq_true, if_false]
    go_enter Try.func10, Try.ntmps10
    go_wp2_with (first
      | ((with_reducible refine gate_dst (N := 1) rfl ?_); refine box_event rfl (N := 1) rfl (run_box _ _ _ 36 _ x.toArray rfl rfl _) ?_; intro gx hgx v1 hbox hbel; have BX := Lib.hid (show Blk v1 gx 36 x from hbox); have BL := Lib.hid hbel; clear hbox hbel hgx)
      | ((with_reducible refine gate_dst (N := 4) rfl ?_); refine wpList_load_mid rfl 36 _ rfl gx 0 rfl x _ ?hc Try.underlying36 rfl ?hi ?_; (case hc => exact BX.out.range); (case hi => rw [Hxl.out]; exact infoMsg)))
    refine (HL.out v1 (HP.out _ _ BL.out HW.out)).mono ?_
    rintro e w2 ⟨rfl, hb⟩
    have BX2 := Lib.hid (BX.out.below hb)
    have KB := Lib.hid (BL.out.trans (hb.mono BL.out.size))
    have PW := Lib.hid (HP.out _ _ hb (HP.out _ _ BL.out HW.out))
    clear hb
    go_wp2_with (first
      | ((with_reducible refine gate_dst (N := 6) rfl ?_); refine wpList_load_mid rfl 36 _ rfl gx 0 rfl x _ ?hc Try.underlying36 rfl ?hi ?_; (case hc => exact BX2.out.range); (case hi => rw [Hxl.out]; exact infoMsg)))
    refine (HM.out w2 PW.out).mono ?_
    rintro e w3 ⟨rfl, hb⟩
    have KB3 := Lib.hid (KB.out.trans (hb.mono KB.out.size))
    clear hb
    go_wp2_with fail
    go_ret2
    exact ⟨rfl, KB3.out⟩
  · simp only [Bool.false_eq_true, if_false, Bool.true_eq_false]
    go_enter Try.func10, Try.ntmps10
    go_wp2_with (first
      | ((with_reducible refine gate_dst (N := 1) rfl ?_); refine box_event rfl (N := 1) rfl (run_box _ _ _ 36 _ x.toArray rfl rfl _) ?_; intro gx hgx v1 hbox hbel; have BX := Lib.hid (show Blk v1 gx 36 x from hbox); have BL := Lib.hid hbel; clear hbox hbel hgx)
      | ((with_reducible refine gate_dst (N := 4) rfl ?_); refine wpList_load_mid rfl 36 _ rfl gx 0 rfl x _ ?hc Try.underlying36 rfl ?hi ?_; (case hc => exact BX.out.range); (case hi => rw [Hxl.out]; exact infoMsg)))
    refine (HL.out v1 (HP.out _ _ BL.out HW.out)).mono ?_
    rintro e w2 ⟨rfl, hb⟩
    have BX2 := Lib.hid (BX.out.below hb)
    have KB := Lib.hid (BL.out.trans (hb.mono BL.out.size))
    have PW := Lib.hid (HP.out _ _ hb (HP.out _ _ BL.out HW.out))
    clear hb
    go_wp2_with (first
      | ((with_reducible refine gate_dst (N := 6) rfl ?_); refine wpList_load_mid rfl 36 _ rfl gx 0 rfl x _ ?hc Try.underlying36 rfl ?hi ?_; (case hc => exact BX2.out.range); (case hi => rw [Hxl.out]; exact infoMsg)))
    refine (HM.out w2 PW.out).mono ?_
    rintro e w3 ⟨rfl, hb⟩
    have BX3 := Lib.hid (BX2.out.below hb)
    have KB3 := Lib.hid (KB.out.trans (hb.mono KB.out.size))
    have PW3 := Lib.hid (HP.out _ _ hb PW.out)
    clear hb
    go_wp2_with (first
      | ((with_reducible refine gate_dst (N := 9) rfl ?_); refine wpList_load_mid rfl 36 _ rfl gx 0 rfl x _ ?hc Try.underlying36 rfl ?hi ?_; (case hc => exact BX3.out.range); (case hi => rw [Hxl.out]; exact infoMsg)))
    refine (HS.out (by trivial) w3 PW3.out).mono ?_
    rintro e w4 ⟨rfl, hb⟩
    have KB4 := Lib.hid (KB3.out.trans (hb.mono KB3.out.size))
    clear hb
    go_wp2_with fail
    go_ret2
    exact ⟨rfl, KB4.out⟩

theorem refEncode_any (m : Msg) (A : Option Addr) (c : Nat) (hk : m.Ok) (hcap : m.list.length ≤ c) (w : World) (hA : EntsR w A m.list) :
    Calls Try.prog 10 #[.agg (m.vs (.slice A m.list.length c)).toArray] w fun e w' => e = .returned (.tuple #[.string m.refE.1, .int .i64 m.refE.2]) ∧ Below w.heap.size w w' :=
  refEncode_raw (m.vs (.slice A m.list.length c)) rfl m.long m.mayB m.layS (fun w => EntsR w A m.list) (fun _ _ hb h => h.below hb) (fun w h => refLong_any m A c hk.len hcap w h) (fun w _ => may_any _ m A c (MsgAt.of m A c) w) (fun hl w h => lay_any _ m A c (MsgAt.of m A c) hk hl w h) w hA

end Go.Proofs.Ytibcadfpengacaa

-- PlainE
set_option linter.unusedVariables false
set_option linter.unusedSimpArgs false
namespace Go.Proofs.Ytibcadfpengacaa
open Go.RowKit Go.Lib

/-! ### A writer, step by step -/
theorem Wr.num_ok (σ : Wr) (x n : Nat) (h : x < 256 ^ n) : σ.num x n = σ.put (leB x n) := by unfold Wr.num; rw [if_pos h]
theorem Wr.put_put (σ : Wr) (a b : List UInt8) : (σ.put a).put b = σ.put (a ++ b) := by simp [Wr.put]
theorem Wr.text_ok (σ : Wr) (s : ByteArray) (h : s.size ≤ 4096) : σ.text s = σ.put (txt s) := by
  unfold Wr.text
  rw [if_neg (by omega), Wr.num_ok _ _ _ (by have : (256 : Nat) ^ 4 = 4294967296 := by decide
                                             omega), Wr.put_put, Wr.put_put]
  rfl
def entL (e : Ent) : List UInt8 := txt e.name ++ leB e.ino.toNat 8 ++ leB e.cookie.toNat 8
theorem u64_lt {x : Int} (h : U64 x) : x.toNat < 256 ^ 8 := by
  have h1 := h.1; have h2 := h.2
  have : (256 : Nat) ^ 8 = 18446744073709551616 := by decide
  omega
theorem u32_lt {x : Int} (h : U32 x) : x.toNat < 256 ^ 4 := by
  have h1 := h.1; have h2 := h.2
  have : (256 : Nat) ^ 4 = 4294967296 := by decide
  omega
theorem Wr.ents_ok (es : List Ent) (h : ∀ e ∈ es, e.name.size ≤ 4096 ∧ U64 e.ino ∧ U64 e.cookie) : ∀ σ : Wr, σ.ents es = σ.put (es.flatMap entL) := by
  induction es with
  | nil => intro σ; simp [Wr.ents, Wr.put]
  | cons e es ih =>
    intro σ
    obtain ⟨h1, h2, h3⟩ := h e List.mem_cons_self
    have hi := ih (fun e he => h e (List.mem_cons_of_mem _ he)) (σ.ent e)
    show (σ.ent e).ents es = _
    rw [hi]
    unfold Wr.ent
    rw [Wr.text_ok _ _ h1, Wr.num_ok _ _ _ (u64_lt h2), Wr.num_ok _ _ _ (u64_lt h3), Wr.put_put, Wr.put_put, Wr.put_put, List.flatMap_cons]
    unfold entL
    simp only [List.append_assoc]

theorem Wr.put_c (σ : Wr) (l : List UInt8) : (σ.put l).c = σ.c := rfl
theorem Wr.num_c (σ : Wr) (x n : Nat) (h : σ.c ≠ 0) : (σ.num x n).c = σ.c := by
  unfold Wr.num
  split
  · rfl
  · show (if σ.c = 0 then _ else σ.c) = σ.c
    rw [if_neg h]
theorem Wr.text_c (σ : Wr) (s : ByteArray) (h : σ.c ≠ 0) : (σ.text s).c = σ.c := by
  unfold Wr.text
  split
  · show (if σ.c = 0 then _ else σ.c) = σ.c
    rw [if_neg h]
  · rw [Wr.put_c, Wr.put_c, Wr.num_c _ _ _ h]
theorem Wr.ents_c (es : List Ent) : ∀ σ : Wr, σ.c ≠ 0 → (σ.ents es).c = σ.c := by
  induction es with
  | nil => intro σ _; rfl
  | cons e es ih =>
    intro σ h
    have h1 : (σ.ent e).c = σ.c := by
      unfold Wr.ent
      have a := Wr.text_c σ e.name h
      have b := Wr.num_c (σ.text e.name) e.ino.toNat 8 (by rw [a]; exact h)
      rw [Wr.num_c _ _ _ (by rw [b, a]; exact h), b, a]
    show ((σ.ent e).ents es).c = _
    rw [ih _ (by rw [h1]; exact h), h1]
theorem Wr.num_bad (σ : Wr) (x n : Nat) (h : σ.c = 0) (hx : ¬ x < 256 ^ n) : (σ.num x n).c = 2200 := by
  unfold Wr.num
  rw [if_neg hx]
  show (if σ.c = 0 then _ else σ.c) = _
  rw [if_pos h]
theorem Wr.num_stay (σ : Wr) (x n : Nat) (h : σ.c = 2200) : (σ.num x n).c = 2200 := by rw [Wr.num_c _ _ _ (by rw [h]; decide), h]
theorem Wr.text_stay (σ : Wr) (s : ByteArray) (h : σ.c = 2200) : (σ.text s).c = 2200 := by rw [Wr.text_c _ _ (by rw [h]; decide), h]
theorem Wr.ents_stay (σ : Wr) (es : List Ent) (h : σ.c = 2200) : (σ.ents es).c = 2200 := by rw [Wr.ents_c _ _ (by rw [h]; decide), h]
theorem Wr.put_stay (σ : Wr) (l : List UInt8) (h : σ.c = 2200) : (σ.put l).c = 2200 := h

theorem smallB_lt {x : Int} (h : smallB x = true) : u64of x = x.toNat ∧ x.toNat < 256 ^ 1 ∧ (x % 256).toNat = x.toNat := by
  have h' : 0 ≤ x ∧ x ≤ 255 := of_decide_eq_true h
  refine ⟨?_, ?_, ?_⟩
  · unfold u64of; omega
  · have : (256 : Nat) ^ 1 = 256 := by decide
    omega
  · omega
theorem smallB_ge {x : Int} (hx : I64 x) (h : smallB x = false) : ¬ u64of x < 256 ^ 1 := by
  have h' : ¬ (0 ≤ x ∧ x ≤ 255) := of_decide_eq_false h
  have h1 := hx.1; have h2 := hx.2
  have : (256 : Nat) ^ 1 = 256 := by decide
  unfold u64of
  omega

/-! ### The bytes, as lists -/
def one1 (x : Int) : List UInt8 := leB (x % 256).toNat 1
def Msg.headL (m : Msg) : List UInt8 := one1 m.kind ++ leB m.client.toNat 4 ++ leB m.xid.toNat 8
def tailL (m : Msg) : List UInt8 := leB m.boot.toNat 8 ++ leB m.gb.toNat 8 ++ leB m.gn.toNat 8
def Msg.layL (m : Msg) : List UInt8 :=
  if m.kind = 1 then m.headL ++ one1 m.op ++ m.h.lay ++ m.h2.lay ++ txt m.name ++ txt m.name2 ++ leB m.off.toNat 8 ++ leB m.num.toNat 8 ++ txt m.data
  else if m.kind = 2 then m.headL ++ one1 m.status ++ m.ah.lay ++ one1 m.akind ++ leB m.links.toNat 4 ++ leB m.size.toNat 8 ++ leB m.change.toNat 8 ++ txt m.adata ++ leB m.eof.toNat 1 ++ leB m.anum.toNat 8 ++ leB m.list.length 4 ++ m.list.flatMap entL ++ tailL m
  else m.headL ++ m.h.lay ++ tailL m
theorem laid_data (es : List Ent) : ∀ p : ByteArray, (laidEnts p es).data.toList = p.data.toList ++ es.flatMap entL := by
  induction es with
  | nil => intro p; simp [laidEnts]
  | cons e es ih =>
    intro p
    have := ih (entS p e)
    show (laidEnts (entS p e) es).data.toList = _
    rw [this, List.flatMap_cons]
    simp [entS, entL, ByteArray.data_append, txtS, leS]
theorem hd_data (h : Hd) : h.layS.data.toList = h.lay := by simp [Hd.layS, Hd.lay, ByteArray.data_append, leS]
theorem layS_data (m : Msg) : m.layS.data.toList = m.layL := by
  unfold Msg.layS Msg.layL
  split
  · simp only [Msg.headS, Msg.headL, ByteArray.data_append, Array.toList_append, hd_data, txtS, leS, oneS, one1]
  · split
    · simp only [Msg.headS, Msg.headL, ByteArray.data_append, Array.toList_append, laid_data, hd_data, txtS, leS, oneS, one1, tailS, tailL, List.append_assoc]
    · simp only [Msg.headS, Msg.headL, ByteArray.data_append, Array.toList_append, hd_data, leS, oneS, one1, tailS, tailL, List.append_assoc]

theorem ask_swap (op a b c d h2e h2s h2i h2g : Int) (name name2 : ByteArray) (off num : Int) (data : ByteArray) :
    askEq op a b c d h2e h2s h2i h2g name name2 off num data 0 a b c d 0 0 0 0 ⟨#[]⟩ ⟨#[]⟩ 0 0 ⟨#[]⟩ = askEq op 0 0 0 0 h2e h2s h2i h2g name name2 off num data 0 0 0 0 0 0 0 0 0 ⟨#[]⟩ ⟨#[]⟩ 0 0 ⟨#[]⟩ := by
  unfold askEq
  rw [hdEq_self, hdEq_self]

theorem pick (m : Msg) (b : Bool) : (if b = false then ([], 2200) else (m.layL, 0) : List UInt8 × Int) = ((if b = false then (⟨#[]⟩, 2200) else (m.layS, 0) : ByteArray × Int).1.data.toList, (if b = false then (⟨#[]⟩, 2200) else (m.layS, 0) : ByteArray × Int).2) := by
  cases b
  · rfl
  · rw [if_neg (by decide), if_neg (by decide), layS_data]
theorem enc_eq (m : Msg) (hk : m.Ok) : m.enc = (m.refE.1.data.toList, m.refE.2) := by
  unfold Msg.enc Msg.refE
  by_cases hl : m.long = true
  · rw [if_pos hl, encV_long (.inr (.inr hl))]
  have hl' : m.long = false := by simpa using hl
  rw [if_neg hl]
  have hl2 := hl'
  unfold Msg.long at hl2
  simp only [Bool.or_eq_false_iff, decide_eq_false_iff_not, List.any_eq_false, decide_eq_true_eq] at hl2
  obtain ⟨⟨⟨⟨⟨l1, l2⟩, l3⟩, l4⟩, l5⟩, l6⟩ := hl2
  have hes : ∀ e ∈ m.list, e.name.size ≤ 4096 ∧ U64 e.ino ∧ U64 e.cookie := fun e he => ⟨by have := l5 e he; omega, (hk.list e he).2.1, (hk.list e he).2.2⟩
  have hsh : m.short = true := decide_eq_true (fun _ => by omega)
  have hll : m.list.length < 256 ^ 4 := by have : (256 : Nat) ^ 4 = 4294967296 := by decide
                                           omega
  have he1 : m.eof.toNat < 256 ^ 1 := by cases m.eof <;> decide
  have hN : ∀ (σ : Wr) b, σ.c = 0 ∨ σ.c = 2200 → ¬ (σ.c = 2201 ∨ m.short = false ∨ b = true) ∨ b = true := fun σ b h => by
    cases b
    · left; rintro (h2 | h2 | h2)
      · rcases h with h | h <;> (rw [h] at h2; revert h2; decide)
      · rw [hsh] at h2; cases h2
      · cases h2
    · right; rfl
  have bad : ∀ σ : Wr, σ.c = 2200 → encV σ m.fine m.short m.long m.bare = ([], 2200) := fun σ h =>
    encV_form (by rw [hl', hsh, h]; decide) (.inl (by rw [h]; decide))
  have good : ∀ l : List UInt8, m.fine = true → encV (Wr.put ⟨0, []⟩ l) m.fine m.short m.long m.bare = if m.bare = false then ([], 2200) else (l, 0) := fun l hf => by
    by_cases hb : m.bare = false
    · rw [if_pos hb, encV_form (by rw [hl', hsh]; simp [Wr.put]) (.inr (.inr hb))]
    · rw [if_neg hb, encV_ok (by rw [hl', hsh]; simp [Wr.put]) (by rw [hf]; simp [Wr.put, hb])]
      rfl
  by_cases h1 : m.kind = 1
  · have hf : m.fine = true := decide_eq_true (.inl h1)
    have hbare : m.bare = (m.noAns && ((m.boot == 0) && stampEq m.gb m.gn 0 0)) := by unfold Msg.bare bareV Msg.noAns; rw [if_pos (by simp [h1])]
    have hmay : m.mayB = (smallB m.op && m.noAns && (m.boot == 0) && stampEq m.gb m.gn 0 0) := by unfold Msg.mayB; rw [if_pos h1]
    have hfl : Wr.fields ⟨0, []⟩ m = Wr.call ⟨0, []⟩ m := by unfold Wr.fields; rw [if_pos h1]
    have hkd : u64of m.kind = m.kind.toNat ∧ m.kind.toNat < 256 ^ 1 ∧ (m.kind % 256).toNat = m.kind.toNat := smallB_lt (by rw [h1]; rfl)
    rw [hfl]
    cases hs : smallB m.op with
    | true =>
      obtain ⟨o1, o2, o3⟩ := smallB_lt hs
      have hcall : Wr.call ⟨0, []⟩ m = Wr.put ⟨0, []⟩ m.layL := by
        unfold Wr.call Wr.ask Msg.layL Msg.headL one1
        rw [if_pos h1, hkd.1, hkd.2.2, o1, o3, Wr.num_ok _ _ _ hkd.2.1, Wr.num_ok _ _ _ (u32_lt hk.client), Wr.num_ok _ _ _ (u64_lt hk.xid), Wr.num_ok _ _ _ o2, Wr.text_ok _ _ (by omega), Wr.text_ok _ _ (by omega), Wr.num_ok _ _ _ (u64_lt hk.off), Wr.num_ok _ _ _ (u64_lt hk.num), Wr.text_ok _ _ (by omega)]
        simp only [Wr.put_put, List.append_assoc]
      rw [hcall, good _ hf, hbare, hmay, hs, Bool.true_and, Bool.and_assoc]
      exact pick m _
    | false =>
      have hc : (Wr.call ⟨0, []⟩ m).c = 2200 := by
        unfold Wr.call Wr.ask
        rw [hkd.1, Wr.num_ok _ _ _ hkd.2.1, Wr.num_ok _ _ _ (u32_lt hk.client), Wr.num_ok _ _ _ (u64_lt hk.xid)]
        exact Wr.text_stay _ _ (Wr.num_stay _ _ _ (Wr.num_stay _ _ _ (Wr.text_stay _ _ (Wr.text_stay _ _ (Wr.put_stay _ _ (Wr.put_stay _ _ (Wr.num_bad _ _ _ rfl (smallB_ge hk.op hs))))))))
      rw [bad _ hc, hmay, hs]
      rfl
  by_cases h2 : m.kind = 2
  · have hf : m.fine = true := decide_eq_true (.inr (.inl h2))
    have hbare : m.bare = askEq m.op m.h.ex m.h.snap m.h.ino m.h.gen m.h2.ex m.h2.snap m.h2.ino m.h2.gen m.name m.name2 m.off m.num m.data 0 0 0 0 0 0 0 0 0 ⟨#[]⟩ ⟨#[]⟩ 0 0 ⟨#[]⟩ := by unfold Msg.bare bareV; rw [if_neg (by simp [h2]), if_pos (by simp [h2])]
    have hmay : m.mayB = (askEq m.op m.h.ex m.h.snap m.h.ino m.h.gen m.h2.ex m.h2.snap m.h2.ino m.h2.gen m.name m.name2 m.off m.num m.data 0 0 0 0 0 0 0 0 0 ⟨#[]⟩ ⟨#[]⟩ 0 0 ⟨#[]⟩ && smallB m.status && smallB m.akind) := by unfold Msg.mayB; rw [if_neg h1, if_pos h2]
    have hfl : Wr.fields ⟨0, []⟩ m = Wr.reply ⟨0, []⟩ m := by unfold Wr.fields; rw [if_neg h1, if_pos h2, if_pos (by omega)]
    have hkd : u64of m.kind = m.kind.toNat ∧ m.kind.toNat < 256 ^ 1 ∧ (m.kind % 256).toNat = m.kind.toNat := smallB_lt (by rw [h2]; rfl)
    rw [hfl]
    cases hs : smallB m.status with
    | true =>
      obtain ⟨o1, o2, o3⟩ := smallB_lt hs
      cases hs2 : smallB m.akind with
      | true =>
        obtain ⟨q1, q2, q3⟩ := smallB_lt hs2
        have hcall : Wr.reply ⟨0, []⟩ m = Wr.put ⟨0, []⟩ m.layL := by
          unfold Wr.reply Wr.stamp Msg.layL Msg.headL one1 tailL
          rw [if_neg h1, if_pos h2, hkd.1, hkd.2.2, o1, o3, q1, q3, Wr.num_ok _ _ _ hkd.2.1, Wr.num_ok _ _ _ (u32_lt hk.client), Wr.num_ok _ _ _ (u64_lt hk.xid), Wr.num_ok _ _ _ o2, Wr.num_ok _ _ _ q2, Wr.num_ok _ _ _ (u32_lt hk.links), Wr.num_ok _ _ _ (u64_lt hk.size), Wr.num_ok _ _ _ (u64_lt hk.change), Wr.text_ok _ _ (by omega), Wr.num_ok _ _ _ he1, Wr.num_ok _ _ _ (u64_lt hk.anum), Wr.num_ok _ _ _ hll, Wr.ents_ok _ hes, Wr.num_ok _ _ _ (u64_lt hk.boot), Wr.num_ok _ _ _ (u64_lt hk.gb), Wr.num_ok _ _ _ (u64_lt hk.gn)]
          simp only [Wr.put_put, List.append_assoc]
        rw [hcall, good _ hf, hbare, hmay, hs, hs2, Bool.and_true, Bool.and_true]
        exact pick m _
      | false =>
        have hc : (Wr.reply ⟨0, []⟩ m).c = 2200 := by
          unfold Wr.reply Wr.stamp
          rw [hkd.1, o1, Wr.num_ok _ _ _ hkd.2.1, Wr.num_ok _ _ _ (u32_lt hk.client), Wr.num_ok _ _ _ (u64_lt hk.xid), Wr.num_ok _ _ _ o2]
          refine Wr.num_stay _ _ _ (Wr.num_stay _ _ _ (Wr.num_stay _ _ _ (Wr.ents_stay _ _ (Wr.num_stay _ _ _ (Wr.num_stay _ _ _ (Wr.num_stay _ _ _ (Wr.text_stay _ _ (Wr.num_stay _ _ _ (Wr.num_stay _ _ _ (Wr.num_stay _ _ _ (Wr.num_bad _ _ _ ?_ (smallB_ge hk.akind hs2))))))))))))
          rfl
        rw [bad _ hc, hmay, hs, hs2, Bool.and_false]
        rfl
    | false =>
      have hc : (Wr.reply ⟨0, []⟩ m).c = 2200 := by
        unfold Wr.reply Wr.stamp
        rw [hkd.1, Wr.num_ok _ _ _ hkd.2.1, Wr.num_ok _ _ _ (u32_lt hk.client), Wr.num_ok _ _ _ (u64_lt hk.xid)]
        refine Wr.num_stay _ _ _ (Wr.num_stay _ _ _ (Wr.num_stay _ _ _ (Wr.ents_stay _ _ (Wr.num_stay _ _ _ (Wr.num_stay _ _ _ (Wr.num_stay _ _ _ (Wr.text_stay _ _ (Wr.num_stay _ _ _ (Wr.num_stay _ _ _ (Wr.num_stay _ _ _ (Wr.num_stay _ _ _ (Wr.put_stay _ _ (Wr.num_bad _ _ _ ?_ (smallB_ge hk.status hs))))))))))))))
        rfl
      rw [bad _ hc, hmay, hs, Bool.and_false, Bool.false_and]
      rfl
  by_cases h3 : m.kind = 3 ∨ m.kind = 4
  · have hf : m.fine = true := decide_eq_true (by omega)
    have hbare : m.bare = (m.noAns && askEq m.op 0 0 0 0 m.h2.ex m.h2.snap m.h2.ino m.h2.gen m.name m.name2 m.off m.num m.data 0 0 0 0 0 0 0 0 0 ⟨#[]⟩ ⟨#[]⟩ 0 0 ⟨#[]⟩) := by unfold Msg.bare bareV Msg.noAns; rw [if_neg (by simp [h1]), if_neg (by simp [h2])]
    have hmay : m.mayB = (askEq m.op 0 0 0 0 m.h2.ex m.h2.snap m.h2.ino m.h2.gen m.name m.name2 m.off m.num m.data 0 0 0 0 0 0 0 0 0 ⟨#[]⟩ ⟨#[]⟩ 0 0 ⟨#[]⟩ && m.noAns) := by unfold Msg.mayB; rw [if_neg h1, if_neg h2, if_pos h3, ask_swap]
    have hfl : Wr.fields ⟨0, []⟩ m = Wr.back ⟨0, []⟩ m := by unfold Wr.fields; rw [if_neg h1, if_neg h2, if_pos h3]
    have hkd : u64of m.kind = m.kind.toNat ∧ m.kind.toNat < 256 ^ 1 ∧ (m.kind % 256).toNat = m.kind.toNat := smallB_lt (by rcases h3 with h | h <;> (rw [h]; rfl))
    have hcall : Wr.back ⟨0, []⟩ m = Wr.put ⟨0, []⟩ m.layL := by
      unfold Wr.back Wr.stamp Msg.layL Msg.headL one1 tailL
      rw [if_neg h1, if_neg h2, hkd.1, hkd.2.2, Wr.num_ok _ _ _ hkd.2.1, Wr.num_ok _ _ _ (u32_lt hk.client), Wr.num_ok _ _ _ (u64_lt hk.xid), Wr.num_ok _ _ _ (u64_lt hk.boot), Wr.num_ok _ _ _ (u64_lt hk.gb), Wr.num_ok _ _ _ (u64_lt hk.gn)]
      simp only [Wr.put_put, List.append_assoc]
    rw [hfl, hcall, good _ hf, hbare, hmay, Bool.and_comm]
    exact pick m _
  · have hf : m.fine = false := decide_eq_false (by omega)
    have hmay : m.mayB = false := by unfold Msg.mayB; rw [if_neg h1, if_neg h2, if_neg h3]
    have hfl : Wr.fields ⟨0, []⟩ m = Wr.head ⟨0, []⟩ m := by unfold Wr.fields; rw [if_neg h1, if_neg h2, if_neg h3]
    have hc : (Wr.head ⟨0, []⟩ m).c = 0 ∨ (Wr.head ⟨0, []⟩ m).c = 2200 := by
      unfold Wr.head
      by_cases hx : u64of m.kind < 256 ^ 1
      · left
        rw [Wr.num_ok _ _ _ hx, Wr.num_ok _ _ _ (u32_lt hk.client), Wr.num_ok _ _ _ (u64_lt hk.xid)]
        rfl
      · right
        exact Wr.num_stay _ _ _ (Wr.num_stay _ _ _ (Wr.num_bad _ _ _ rfl hx))
    have hb : ¬ ((Wr.head ⟨0, []⟩ m).c = 2201 ∨ m.short = false ∨ m.long = true) := by
      rw [hsh, hl']
      rintro (h | h | h)
      · rcases hc with h' | h' <;> (rw [h'] at h; revert h; decide)
      · cases h
      · cases h
    rw [hfl, encV_form hb (.inr (.inl hf)), hmay]
    rfl

end Go.Proofs.Ytibcadfpengacaa

-- PlainD
set_option linter.unusedVariables false
set_option linter.unusedSimpArgs false
namespace Go.Proofs.Ytibcadfpengacaa
open Go.RowKit Go.Lib

def mk (l : List UInt8) : Rd := ⟨0, ⟨l.toArray⟩⟩
theorem mk_size (l : List UInt8) : (mk l).s.size = l.length := by
  show l.toArray.size = l.length
  simp
theorem took_mk (a t : List UInt8) (n : Nat) (h : a.length = n) : (mk (a ++ t)).took n = ⟨a.toArray⟩ := by
  unfold Rd.took
  rw [if_neg (by rw [mk_size, List.length_append]; omega), extract_eq]
  subst h
  show (⟨(List.take (a.length - 0) (List.drop 0 (a ++ t).toArray.toList)).toArray⟩ : ByteArray) = _
  simp
theorem left_mk (a t : List UInt8) (n : Nat) (h : a.length = n) : (mk (a ++ t)).left n = mk t := by
  unfold Rd.left
  have hs : (mk (a ++ t)).s.size = a.length + t.length := by rw [mk_size, List.length_append]
  rw [if_neg (by omega), extract_eq, hs]
  subst h
  show (⟨0, ⟨(List.take (a.length + t.length - a.length) (List.drop a.length (a ++ t).toArray.toList)).toArray⟩⟩ : Rd) = _
  simp [mk]
theorem ofS_leB (x n : Nat) (h1 : 1 ≤ n) (h8 : n ≤ 8) (hx : x < 256 ^ n) : ofS ⟨(leB x n).toArray⟩ = x := by
  unfold ofS
  have hs : (⟨(leB x n).toArray⟩ : ByteArray).size = n := leS_size x n
  rw [if_pos ⟨by omega, by omega⟩]
  exact ofLe_leB n x hx
theorem num_mk (x n : Nat) (h1 : 1 ≤ n) (h8 : n ≤ 8) (hx : x < 256 ^ n) (t : List UInt8) : (mk (leB x n ++ t)).num n = x := by
  unfold Rd.num
  rw [took_mk _ _ _ (leB_length _ _), ofS_leB x n h1 h8 hx]
theorem leftn_mk (x n : Nat) (t : List UInt8) : (mk (leB x n ++ t)).left n = mk t := left_mk _ _ _ (leB_length _ _)
theorem lay_length (h : Hd) : h.lay.length = 28 := by simp [Hd.lay, leB_length]
theorem tookh_mk (h : Hd) (t : List UInt8) : (mk (h.lay ++ t)).took 28 = ⟨h.lay.toArray⟩ := took_mk _ _ _ (lay_length h)
theorem lefth_mk (h : Hd) (t : List UInt8) : (mk (h.lay ++ t)).left 28 = mk t := left_mk _ _ _ (lay_length h)
theorem decH_lay (h : Hd) (hk : h.Ok) : decH ⟨h.lay.toArray⟩ = h := by
  have hs : (⟨h.lay.toArray⟩ : ByteArray).size = 28 := by
    show h.lay.toArray.size = 28
    rw [List.size_toArray, lay_length]
  unfold decH
  rw [if_pos hs]
  simp only [extract_eq]
  have l4 := leB_length 4 h.ex.toNat
  have l8a := leB_length 8 h.snap.toNat
  have l8b := leB_length 8 h.ino.toNat
  have l8c := leB_length 8 h.gen.toNat
  have e1 : (List.take (4 - 0) (List.drop 0 h.lay)) = leB h.ex.toNat 4 := by
    unfold Hd.lay
    rw [List.append_assoc, List.append_assoc, List.drop_zero, List.take_append_of_le_length (by omega), List.take_of_length_le (by omega)]
  have e2 : (List.take (12 - 4) (List.drop 4 h.lay)) = leB h.snap.toNat 8 := by
    unfold Hd.lay
    rw [List.append_assoc, List.append_assoc, List.drop_append_of_le_length (by omega), List.drop_eq_nil_of_le (by omega), List.nil_append, List.take_append_of_le_length (by omega), List.take_of_length_le (by omega)]
  have e3 : (List.take (20 - 12) (List.drop 12 h.lay)) = leB h.ino.toNat 8 := by
    unfold Hd.lay
    rw [List.append_assoc, List.drop_append_of_le_length (by rw [List.length_append]; omega), List.drop_eq_nil_of_le (by rw [List.length_append]; omega), List.nil_append, List.take_append_of_le_length (by omega), List.take_of_length_le (by omega)]
  have e4 : (List.take (28 - 20) (List.drop 20 h.lay)) = leB h.gen.toNat 8 := by
    unfold Hd.lay
    rw [List.drop_append_of_le_length (by rw [List.length_append, List.length_append]; omega), List.drop_eq_nil_of_le (by rw [List.length_append, List.length_append]; omega), List.nil_append, List.take_of_length_le (by omega)]
  have f1 : (256 : Nat) ^ 4 = 4294967296 := by decide
  have f2 : (256 : Nat) ^ 8 = 18446744073709551616 := by decide
  obtain ⟨a0, a1, b0, b1, c0, c1, d0, d1⟩ := hk
  rw [e1, e2, e3, e4, ofS_leB _ _ (by omega) (by omega) (by omega), ofS_leB _ _ (by omega) (by omega) (by omega), ofS_leB _ _ (by omega) (by omega) (by omega), ofS_leB _ _ (by omega) (by omega) (by omega)]
  cases h
  simp only [Hd.mk.injEq]
  exact ⟨Int.toNat_of_nonneg a0, Int.toNat_of_nonneg b0, Int.toNat_of_nonneg c0, Int.toNat_of_nonneg d0⟩
theorem text_mk (s : ByteArray) (h : s.size ≤ 4096) (old : ByteArray) (t : List UInt8) : (mk (txt s ++ t)).textS old = s ∧ (mk (txt s ++ t)).textR = mk t := by
  have f1 : (256 : Nat) ^ 4 = 4294967296 := by decide
  have e : txt s ++ t = leB s.size 4 ++ (s.data.toList ++ (List.replicate (padN s.size) 0 ++ t)) := by unfold txt; simp only [List.append_assoc]
  have hn := num_mk s.size 4 (by omega) (by omega) (by omega) (s.data.toList ++ (List.replicate (padN s.size) 0 ++ t))
  have hl := leftn_mk s.size 4 (s.data.toList ++ (List.replicate (padN s.size) 0 ++ t))
  have hsz : s.data.toList.length = s.size := by rw [Array.length_toList]; rfl
  have ht := took_mk s.data.toList (List.replicate (padN s.size) 0 ++ t) s.size hsz
  have hl2 := left_mk s.data.toList (List.replicate (padN s.size) 0 ++ t) s.size hsz
  have ht3 := took_mk (List.replicate (padN s.size) 0) t (padN s.size) (by simp)
  have hl3 := left_mk (List.replicate (padN s.size) 0) t (padN s.size) (by simp)
  rw [e]
  unfold Rd.textS Rd.textR
  rw [hn, if_neg (by omega), if_neg (by omega), hl, ht, hl2, ht3, hl3, if_pos ?_]
  · exact ⟨rfl, rfl⟩
  · unfold allZ
    simp
theorem ents_mk (es : List Ent) (h : ∀ e ∈ es, e.name.size ≤ 4096 ∧ U64 e.ino ∧ U64 e.cookie) (t : List UInt8) : ∀ k, k ≤ es.length →
    (mk (es.flatMap entL ++ t)).ents k = (es.take k, mk ((es.drop k).flatMap entL ++ t)) := by
  intro k
  induction k with
  | zero => intro _; simp [Rd.ents]
  | succ k ih =>
    intro hk
    have hkl : k < es.length := by omega
    rw [Rd.ents, ih (by omega)]
    dsimp only
    obtain ⟨h1, h2, h3⟩ := h _ (List.getElem_mem hkl)
    rw [List.drop_eq_getElem_cons hkl, List.flatMap_cons, List.take_succ_eq_append_getElem hkl]
    generalize es[k] = e at *
    have e1 : entL e ++ (es.drop (k + 1)).flatMap entL ++ t = txt e.name ++ (leB e.ino.toNat 8 ++ (leB e.cookie.toNat 8 ++ ((es.drop (k + 1)).flatMap entL ++ t))) := by unfold entL; simp only [List.append_assoc]
    rw [e1]
    have t1 := text_mk e.name h1 ⟨#[]⟩ (leB e.ino.toNat 8 ++ (leB e.cookie.toNat 8 ++ ((es.drop (k + 1)).flatMap entL ++ t)))
    unfold Rd.entV Rd.entR
    rw [t1.1, t1.2, num_mk _ 8 (by omega) (by omega) (u64_lt h2), leftn_mk, num_mk _ 8 (by omega) (by omega) (u64_lt h3), leftn_mk]
    congr 2
    cases e
    simp only [Ent.mk.injEq, List.cons.injEq, and_true, true_and]
    exact ⟨Int.toNat_of_nonneg h2.1, Int.toNat_of_nonneg h3.1⟩

/-! ### What may be has zeros elsewhere -/
theorem ba_nil {s : ByteArray} (h : s.toList.isEmpty = true) : s = ⟨#[]⟩ := r_nil (by simpa using h)
theorem ba_eq {s t : ByteArray} (h : (s.toList == t.toList) = true) : s = t := by
  have := eq_of_beq h
  rw [ByteArray.toList_eq, ByteArray.toList_eq] at this
  exact ByteArray.ext (Array.toList_inj.1 this)
theorem hdEq_zero {a b c d : Int} (h : hdEq a b c d 0 0 0 0 = true) : (⟨a, b, c, d⟩ : Hd) = Hd.zero := by
  unfold hdEq at h
  simp only [Bool.and_eq_true, beq_iff_eq] at h
  obtain ⟨h1, h2, h3, h4⟩ := h
  rw [h1, h2, h3, h4]
  rfl
theorem noAns_zero {m : Msg} (h : m.noAns = true) : m.status = 0 ∧ m.ah = Hd.zero ∧ m.akind = 0 ∧ m.links = 0 ∧ m.size = 0 ∧ m.change = 0 ∧ m.adata = ⟨#[]⟩ ∧ m.eof = false ∧ m.anum = 0 ∧ m.list = [] := by
  unfold Msg.noAns noAns at h
  simp only [Bool.and_eq_true, beq_iff_eq, Bool.not_eq_true', attrEq] at h
  obtain ⟨⟨⟨⟨⟨⟨h1, h2⟩, h3, h4, h5, h6⟩, h7⟩, h8⟩, h9⟩, h10⟩ := h
  exact ⟨h1, hdEq_zero h2, h3, h4, h5, h6, ba_nil h7, h8, h9, List.eq_nil_of_length_eq_zero (by omega)⟩
theorem ask_zero {m : Msg} (h : askEq m.op m.h.ex m.h.snap m.h.ino m.h.gen m.h2.ex m.h2.snap m.h2.ino m.h2.gen m.name m.name2 m.off m.num m.data 0 0 0 0 0 0 0 0 0 ⟨#[]⟩ ⟨#[]⟩ 0 0 ⟨#[]⟩ = true) :
    m.op = 0 ∧ m.h = Hd.zero ∧ m.h2 = Hd.zero ∧ m.name = ⟨#[]⟩ ∧ m.name2 = ⟨#[]⟩ ∧ m.off = 0 ∧ m.num = 0 ∧ m.data = ⟨#[]⟩ := by
  unfold askEq at h
  simp only [Bool.and_eq_true] at h
  obtain ⟨h1, h2, h3, h4, h5, h6, h7, h8⟩ := h
  exact ⟨by simpa using h1, hdEq_zero h2, hdEq_zero h3, ba_eq h4, ba_eq h5, by simpa using h6, by simpa using h7, ba_eq h8⟩
theorem ask_zero2 {m : Msg} {a b c d : Int} (h : askEq m.op a b c d m.h2.ex m.h2.snap m.h2.ino m.h2.gen m.name m.name2 m.off m.num m.data 0 a b c d 0 0 0 0 ⟨#[]⟩ ⟨#[]⟩ 0 0 ⟨#[]⟩ = true) :
    m.op = 0 ∧ m.h2 = Hd.zero ∧ m.name = ⟨#[]⟩ ∧ m.name2 = ⟨#[]⟩ ∧ m.off = 0 ∧ m.num = 0 ∧ m.data = ⟨#[]⟩ := by
  unfold askEq at h
  simp only [Bool.and_eq_true] at h
  obtain ⟨h1, h2, h3, h4, h5, h6, h7, h8⟩ := h
  exact ⟨by simpa using h1, hdEq_zero h3, ba_eq h4, ba_eq h5, by simpa using h6, by simpa using h7, ba_eq h8⟩

/-- A message that Encode takes. -/
structure Msg.Val (m : Msg) : Prop where
  ok : m.Ok
  short : m.long = false
  may : m.mayB = true

theorem nat_toNat {x : Int} (h : 0 ≤ x) : ((x.toNat : Nat) : Int) = x := Int.toNat_of_nonneg h

set_option maxRecDepth 100000 in
theorem dec_lay (m : Msg) (hv : m.Val) (t : List UInt8) : rdM (mk (m.layL ++ t)) = m ∧ rdR (mk (m.layL ++ t)) = mk t ∧ rdFine (mk (m.layL ++ t)) = true ∧ rdShort (mk (m.layL ++ t)) = true := by
  obtain ⟨hk, hl2, hm⟩ := hv
  unfold Msg.long at hl2
  simp only [Bool.or_eq_false_iff, decide_eq_false_iff_not, List.any_eq_false, decide_eq_true_eq] at hl2
  obtain ⟨⟨⟨⟨⟨l1, l2⟩, l3⟩, l4⟩, l5⟩, l6⟩ := hl2
  have hes : ∀ e ∈ m.list, e.name.size ≤ 4096 ∧ U64 e.ino ∧ U64 e.cookie := fun e he => ⟨by have := l5 e he; omega, (hk.list e he).2.1, (hk.list e he).2.2⟩
  have hll : m.list.length < 256 ^ 4 := by have : (256 : Nat) ^ 4 = 4294967296 := by decide
                                           omega
  have he1 : m.eof.toNat < 256 ^ 1 := by cases m.eof <;> decide
  have he2 : m.eof.toNat < 2 := by cases m.eof <;> decide
  have n4 : ∀ x : Int, U32 x → ∀ t, (mk (leB x.toNat 4 ++ t)).num 4 = x.toNat := fun x h t => num_mk _ 4 (by omega) (by omega) (u32_lt h) t
  have n8 : ∀ x : Int, U64 x → ∀ t, (mk (leB x.toNat 8 ++ t)).num 8 = x.toNat := fun x h t => num_mk _ 8 (by omega) (by omega) (u64_lt h) t
  have hf4 : (256 : Nat) ^ 1 = 256 := by decide
  have n1 : ∀ x : Int, smallB x = true → ∀ t, (mk (one1 x ++ t)).num 1 = x.toNat := fun x h t => by
    obtain ⟨a, b, c⟩ := smallB_lt h
    unfold one1
    rw [c]
    exact num_mk _ 1 (by omega) (by omega) b t
  have q1 : ∀ (x : Int) t, (mk (one1 x ++ t)).left 1 = mk t := fun x t => leftn_mk _ _ _
  unfold Msg.mayB at hm
  by_cases h1 : m.kind = 1
  · rw [if_pos h1] at hm
    simp only [Bool.and_eq_true, beq_iff_eq] at hm
    obtain ⟨⟨⟨s1, z1⟩, z2⟩, z3⟩ := hm
    obtain ⟨a1, a2, a3, a4, a5, a6, a7, a8, a9, a10⟩ := noAns_zero z1
    have z3' : m.gb = 0 ∧ m.gn = 0 := by unfold stampEq at z3; simpa using z3
    have hlay : m.layL ++ t = one1 m.kind ++ (leB m.client.toNat 4 ++ (leB m.xid.toNat 8 ++ (one1 m.op ++ (m.h.lay ++ (m.h2.lay ++ (txt m.name ++ (txt m.name2 ++ (leB m.off.toNat 8 ++ (leB m.num.toNat 8 ++ (txt m.data ++ t)))))))))) := by
      unfold Msg.layL Msg.headL
      rw [if_pos h1]
      simp only [List.append_assoc]
    have hk1 : smallB m.kind = true := by rw [h1]; rfl
    have d0 := fun t => n1 m.kind hk1 t
    have d1 : ∀ old t, (mk (txt m.name ++ t)).textS old = m.name := fun old t => (text_mk m.name (by omega) old t).1
    have d2 : ∀ t, (mk (txt m.name ++ t)).textR = mk t := fun t => (text_mk m.name (by omega) ⟨#[]⟩ t).2
    have d3 : ∀ old t, (mk (txt m.name2 ++ t)).textS old = m.name2 := fun old t => (text_mk m.name2 (by omega) old t).1
    have d4 : ∀ t, (mk (txt m.name2 ++ t)).textR = mk t := fun t => (text_mk m.name2 (by omega) ⟨#[]⟩ t).2
    have d5 : ∀ old t, (mk (txt m.data ++ t)).textS old = m.data := fun old t => (text_mk m.data (by omega) old t).1
    have d6 : ∀ t, (mk (txt m.data ++ t)).textR = mk t := fun t => (text_mk m.data (by omega) ⟨#[]⟩ t).2
    have hkn : (mk (m.layL ++ t)).num 1 = 1 := by rw [hlay, d0, h1]; rfl
    refine ⟨?_, ?_, ?_, ?_⟩
    · unfold rdM
      rw [if_pos hkn, hlay]
      unfold callM askM
      simp only [d0, q1, n4 _ hk.client, leftn_mk, n8 _ hk.xid, n1 _ s1, tookh_mk, lefth_mk, decH_lay _ hk.h, decH_lay _ hk.h2, d1, d2, d3, d4, d5, d6, n8 _ hk.off, n8 _ hk.num]
      have s1' : 0 ≤ m.op := (show 0 ≤ m.op ∧ m.op ≤ 255 from of_decide_eq_true s1).1
      rw [nat_toNat (show 0 ≤ m.kind by omega), nat_toNat hk.client.1, nat_toNat hk.xid.1, nat_toNat s1', nat_toNat hk.off.1, nat_toNat hk.num.1]
      obtain ⟨⟩ := m
      simp only at a1 a2 a3 a4 a5 a6 a7 a8 a9 a10 z2 z3'
      obtain ⟨z5, z4⟩ := z3'
      subst a1 a2 a3 a4 a5 a6 a7 a8 a9 a10 z2 z5 z4
      rfl
    · unfold rdR
      rw [if_pos hkn, hlay]
      unfold callR askR
      simp only [q1, leftn_mk, lefth_mk, d2, d4, d6]
    · unfold rdFine
      rw [hkn]
      rfl
    · unfold rdShort
      rw [hkn]
      rfl
  by_cases h2 : m.kind = 2
  · rw [if_neg h1, if_pos h2] at hm
    simp only [Bool.and_eq_true] at hm
    obtain ⟨⟨z1, s1⟩, s2⟩ := hm
    obtain ⟨a1, a2, a3, a4, a5, a6, a7, a8⟩ := ask_zero z1
    have hlay : m.layL ++ t = one1 m.kind ++ (leB m.client.toNat 4 ++ (leB m.xid.toNat 8 ++ (one1 m.status ++ (m.ah.lay ++ (one1 m.akind ++ (leB m.links.toNat 4 ++ (leB m.size.toNat 8 ++ (leB m.change.toNat 8 ++ (txt m.adata ++ (leB m.eof.toNat 1 ++ (leB m.anum.toNat 8 ++ (leB m.list.length 4 ++ (m.list.flatMap entL ++ (leB m.boot.toNat 8 ++ (leB m.gb.toNat 8 ++ (leB m.gn.toNat 8 ++ t)))))))))))))))) := by
      unfold Msg.layL Msg.headL tailL
      rw [if_neg h1, if_pos h2]
      simp only [List.append_assoc]
    have hk1 : smallB m.kind = true := by rw [h2]; rfl
    have d0 := fun t => n1 m.kind hk1 t
    have d1 : ∀ old t, (mk (txt m.adata ++ t)).textS old = m.adata := fun old t => (text_mk m.adata (by omega) old t).1
    have d2 : ∀ t, (mk (txt m.adata ++ t)).textR = mk t := fun t => (text_mk m.adata (by omega) ⟨#[]⟩ t).2
    have hkn : (mk (m.layL ++ t)).num 1 = 2 := by rw [hlay, d0, h2]; rfl
    have ne : ∀ t, (mk (leB m.eof.toNat 1 ++ t)).num 1 = m.eof.toNat := fun t => num_mk _ 1 (by omega) (by omega) he1 t
    have nl : ∀ t, (mk (leB m.list.length 4 ++ t)).num 4 = m.list.length := fun t => num_mk _ 4 (by omega) (by omega) hll t
    have ee := ents_mk m.list hes (leB m.boot.toNat 8 ++ (leB m.gb.toNat 8 ++ (leB m.gn.toNat 8 ++ t))) m.list.length (Nat.le_refl _)
    rw [List.take_length, List.drop_length, List.flatMap_nil, List.nil_append] at ee
    have hrep : repR (mk (m.layL ++ t)) = mk (leB m.list.length 4 ++ (m.list.flatMap entL ++ (leB m.boot.toNat 8 ++ (leB m.gb.toNat 8 ++ (leB m.gn.toNat 8 ++ t))))) := by
      rw [hlay]
      unfold repR
      simp only [q1, leftn_mk, lefth_mk, d2]
    have hrl : rdL (mk (m.layL ++ t)) = (m.list, mk (leB m.boot.toNat 8 ++ (leB m.gb.toNat 8 ++ (leB m.gn.toNat 8 ++ t)))) := by
      unfold rdL
      rw [hrep, leftn_mk, nl, ee]
    have hn64 : (repR (mk (m.layL ++ t))).num 4 ≤ 64 := by rw [hrep, nl]; omega
    refine ⟨?_, ?_, ?_, ?_⟩
    · unfold rdM
      rw [if_neg (by omega), if_pos hkn, if_pos hn64, hrl]
      dsimp only
      unfold stampM repM
      rw [hlay]
      simp only [d0, q1, n4 _ hk.client, leftn_mk, n8 _ hk.xid, n1 _ s1, n1 _ s2, tookh_mk, lefth_mk, decH_lay _ hk.ah, d1, d2, n4 _ hk.links, n8 _ hk.size, n8 _ hk.change, ne, n8 _ hk.anum, n8 _ hk.boot, n8 _ hk.gb, n8 _ hk.gn]
      have s1' : 0 ≤ m.status := (show 0 ≤ m.status ∧ m.status ≤ 255 from of_decide_eq_true s1).1
      have s2' : 0 ≤ m.akind := (show 0 ≤ m.akind ∧ m.akind ≤ 255 from of_decide_eq_true s2).1
      rw [nat_toNat (show 0 ≤ m.kind by omega), nat_toNat hk.client.1, nat_toNat hk.xid.1, nat_toNat s1', nat_toNat s2', nat_toNat hk.links.1, nat_toNat hk.size.1, nat_toNat hk.change.1, nat_toNat hk.anum.1, nat_toNat hk.boot.1, nat_toNat hk.gb.1, nat_toNat hk.gn.1]
      obtain ⟨⟩ := m
      rename_i eof _ _ _ _ _
      simp only at a1 a2 a3 a4 a5 a6 a7 a8
      subst a1 a2 a3 a4 a5 a6 a7 a8
      cases eof <;> rfl
    · unfold rdR
      rw [if_neg (by omega), if_pos hkn, if_pos hn64, hrl]
      dsimp only
      unfold stampR
      simp only [leftn_mk]
    · unfold rdFine
      rw [if_pos hkn, hlay]
      unfold flR
      simp only [q1, leftn_mk, lefth_mk, d2, ne]
      exact decide_eq_true (by omega)
    · exact decide_eq_true (fun _ => hn64)
  by_cases h3 : m.kind = 3 ∨ m.kind = 4
  · rw [if_neg h1, if_neg h2, if_pos h3] at hm
    simp only [Bool.and_eq_true] at hm
    obtain ⟨z0, z1⟩ := hm
    obtain ⟨a1, a2, a3, a4, a5, a6, a7, a8, a9, a10⟩ := noAns_zero z1
    obtain ⟨b1, b2, b3, b4, b5, b6, b7⟩ := ask_zero2 z0
    have hlay : m.layL ++ t = one1 m.kind ++ (leB m.client.toNat 4 ++ (leB m.xid.toNat 8 ++ (m.h.lay ++ (leB m.boot.toNat 8 ++ (leB m.gb.toNat 8 ++ (leB m.gn.toNat 8 ++ t)))))) := by
      unfold Msg.layL Msg.headL tailL
      rw [if_neg h1, if_neg h2]
      simp only [List.append_assoc]
    have hk1 : smallB m.kind = true := by rcases h3 with h | h <;> (rw [h]; rfl)
    have d0 := fun t => n1 m.kind hk1 t
    have hkn : (mk (m.layL ++ t)).num 1 = m.kind.toNat := by rw [hlay, d0]
    have g1 : ¬ (mk (m.layL ++ t)).num 1 = 1 := by omega
    have g2 : ¬ (mk (m.layL ++ t)).num 1 = 2 := by omega
    have g3 : (mk (m.layL ++ t)).num 1 = 3 ∨ (mk (m.layL ++ t)).num 1 = 4 := by omega
    refine ⟨?_, ?_, ?_, ?_⟩
    · unfold rdM
      rw [if_neg g1, if_neg g2, if_pos g3, hlay]
      unfold backM stampM
      simp only [d0, q1, n4 _ hk.client, leftn_mk, n8 _ hk.xid, tookh_mk, lefth_mk, decH_lay _ hk.h, n8 _ hk.boot, n8 _ hk.gb, n8 _ hk.gn]
      rw [nat_toNat (show 0 ≤ m.kind by omega), nat_toNat hk.client.1, nat_toNat hk.xid.1, nat_toNat hk.boot.1, nat_toNat hk.gb.1, nat_toNat hk.gn.1]
      obtain ⟨⟩ := m
      simp only at a1 a2 a3 a4 a5 a6 a7 a8 a9 a10 b1 b2 b3 b4 b5 b6 b7
      subst a1 a2 a3 a4 a5 a6 a7 a8 a9 a10 b1 b2 b3 b4 b5 b6 b7
      rfl
    · unfold rdR
      rw [if_neg g1, if_neg g2, if_pos g3, hlay]
      unfold backR stampR
      simp only [q1, leftn_mk, lefth_mk]
    · unfold rdFine
      rw [if_neg g2]
      exact decide_eq_true (by omega)
    · exact decide_eq_true (fun h => absurd h g2)
  · rw [if_neg h1, if_neg h2, if_neg h3] at hm
    cases hm

end Go.Proofs.Ytibcadfpengacaa

-- Awake
set_option linter.unusedVariables false
set_option linter.unusedSimpArgs false
namespace Go.Proofs.Ytibcadfpengacaa
open Go.RowKit Go.Lib Go.Proofs.YtibcadfpengacaaW.PrintWords Go.Proofs.YtibcadfpengacaaW.PrintMore Go.Proofs.YtibcadfpengacaaW.PrintLast

theorem layS_eq (m : Msg) : m.layS = ⟨m.layL.toArray⟩ := by
  refine ByteArray.ext (Array.toList_inj.1 ?_)
  rw [layS_data]
theorem dec_text (m : Msg) (hv : m.Val) (t : List UInt8) : decOk ⟨(m.layL ++ t).toArray⟩ = t.isEmpty ∧ (t = [] → decM ⟨(m.layL ++ t).toArray⟩ = m ∧ decC ⟨(m.layL ++ t).toArray⟩ = 0) ∧ (t ≠ [] → decM ⟨(m.layL ++ t).toArray⟩ = Msg.zero ∧ decC ⟨(m.layL ++ t).toArray⟩ = 2200) := by
  obtain ⟨h1, h2, h3, h4⟩ := dec_lay m hv t
  have hd : decOk ⟨(m.layL ++ t).toArray⟩ = t.isEmpty := by
    unfold decOk
    show decide ((rdR (mk (m.layL ++ t))).c = 0 ∧ (rdR (mk (m.layL ++ t))).s.size = 0 ∧ rdFine (mk (m.layL ++ t)) = true ∧ rdShort (mk (m.layL ++ t)) = true) = _
    rw [h2, h3, h4, mk_size]
    cases t <;> simp [mk]
  refine ⟨hd, fun ht => ?_, fun ht => ?_⟩
  · have : decOk ⟨(m.layL ++ t).toArray⟩ = true := by rw [hd, ht]; rfl
    unfold decM decC
    rw [if_pos this, if_pos this]
    exact ⟨h1, rfl⟩
  · have : ¬ decOk ⟨(m.layL ++ t).toArray⟩ = true := by rw [hd]; simpa using ht
    unfold decM decC
    rw [if_neg this, if_neg this]
    exact ⟨rfl, rfl⟩
theorem dec_layS (m : Msg) (hv : m.Val) : decM m.layS = m ∧ decC m.layS = 0 := by
  have h := (dec_text m hv []).2.1 rfl
  rw [List.append_nil] at h
  rw [layS_eq]
  exact h
theorem enc_val (m : Msg) (hv : m.Val) : m.enc = (m.layL, 0) := by
  rw [enc_eq m hv.ok]
  unfold Msg.refE
  rw [hv.short, hv.may, if_neg (by decide), if_neg (by decide), layS_data]

theorem num_any (e : Int) (w : World) : Calls Try.prog 11 #[.int .i64 e] w fun r w' => r = .returned (.int .i64 e) ∧ w = w' := by
  go_enter Try.func11, Try.ntmps11
  go_wp2
  go_ret
  exact ⟨rfl, rfl⟩

/-- The message that awake sends. -/
def am : Msg := { Msg.zero with kind := 4, client := 1, h := ⟨0, 0, 3, 0⟩, boot := 2 }
theorem nil_toList : (⟨#[]⟩ : ByteArray).toList = [] := by rw [ByteArray.toList_eq]
theorem am_ok : am.Ok := by
  have z : Hd.Ok ⟨0, 0, 0, 0⟩ := ⟨by decide, by decide, by decide, by decide, by decide, by decide, by decide, by decide⟩
  have z3 : Hd.Ok ⟨0, 0, 3, 0⟩ := ⟨by decide, by decide, by decide, by decide, by decide, by decide, by decide, by decide⟩
  have u8 : U64 0 := ⟨by decide, by decide⟩
  have u4 : U32 0 := ⟨by decide, by decide⟩
  have i8 : I64 0 := ⟨by decide, by decide⟩
  have sz : Siz ⟨#[]⟩ := show 0 ≤ 140737488351232 from by decide
  exact ⟨⟨by decide, by decide⟩, ⟨by decide, by decide⟩, u8, i8, z3, z, sz, sz, u8, u8, sz, i8, z, i8, u4, u8, u8, sz, u8, fun e h => (by cases h), by decide, ⟨by decide, by decide⟩, u8, u8⟩
theorem am_val : am.Val where
  ok := am_ok
  short := rfl
  may := by
    have e1 : am.kind = 4 := rfl
    have e2 : am.noAns = true := by
      unfold Msg.noAns noAns
      show ((0 : Int) == 0 && hdEq 0 0 0 0 0 0 0 0 && attrEq 0 0 0 0 0 0 0 0 && (⟨#[]⟩ : ByteArray).toList.isEmpty && !false && (0 : Int) == 0 && ((0 : Nat) : Int) == 0) = true
      rw [nil_toList]
      rfl
    unfold Msg.mayB
    rw [e2, e1]
    show (askEq 0 0 0 3 0 0 0 0 0 ⟨#[]⟩ ⟨#[]⟩ 0 0 ⟨#[]⟩ 0 0 0 3 0 0 0 0 0 ⟨#[]⟩ ⟨#[]⟩ 0 0 ⟨#[]⟩ && true) = true
    rw [askEq_self]
    rfl
theorem am_size : am.layS.size = 65 := by
  have h : am.layS.data.toList.length = 65 := by
    rw [layS_data]
    rfl
  rw [Array.length_toList] at h
  exact h
def acs : List Value := am.vs (.slice none 0 0)
theorem acs_len : acs.length = 33 := rfl
theorem acs_one : ∀ v ∈ acs, v.oneCell' = true := am.one none 0 0
theorem acs_at : MsgAt acs am none 0 := MsgAt.of am none 0

set_option maxHeartbeats 4000000 in
set_option maxRecDepth 100000 in
theorem encode_am (w : World) : Calls Try.prog 9 #[.agg acs.toArray] w fun e w' => e = .returned (.tuple #[.string am.layS, .int .i64 0]) ∧ Below w.heap.size w w' := by
  have h := encode_any am none 0 am_ok (Nat.le_refl _) (.inl rfl) (by decide) w (fun i e h => by simp [am, Msg.zero] at h)
  rw [enc_val am am_val, ← layS_eq] at h
  exact h

set_option maxHeartbeats 4000000 in
set_option maxRecDepth 100000 in
theorem awake22_any (w : World) : Calls Try.prog 13 #[] w fun e w' => e = .returned (.bool true) ∧ Below w.heap.size w w' := by
  have hd1 := dec_layS am am_val
  have hd2 := (dec_text am am_val [120]).2.2 (by simp)
  have hcat : am.layS ++ ⟨#[120]⟩ = ⟨(am.layL ++ [120]).toArray⟩ := by
    rw [layS_eq]
    refine ByteArray.ext ?_
    simp [ByteArray.data_append]
  rw [← hcat] at hd2
  have hsz := am_size
  have E := fun w => Lib.hid (encode_am w)
  have D1 := fun w => Lib.hid (decode_any am.layS (by rw [hsz]; decide) w)
  have D2 := fun w => Lib.hid (decode_any (am.layS ++ ⟨#[120]⟩) (by rw [ByteArray.size_append, hsz]; decide) w)
  unfold DecPost at D1 D2
  rw [hd1.1, hd1.2] at D1
  rw [hd2.1, hd2.2] at D2
  generalize am.layS = s at *
  have f1 := lt_False (n := s.size + 1) (by omega)
  have h65 : ((s.size : Int) == 65) = true := by rw [hsz]; rfl
  have Hsz := Lib.hid hsz
  have E' := Lib.hid E; have D1' := Lib.hid D1; have D2' := Lib.hid D2
  clear hd1 hd2 hcat hsz E D1 D2
  go_enter Try.func13, Try.ntmps13
  go_wp2_with (first
    | ((with_reducible refine gate_dst (N := 10) rfl ?_); refine Kd.event_run (v := .agg acs.toArray) rfl ?hr ?_; (case hr => go_simp; rfl))
    | ((with_reducible refine gate_dst (N := 1) rfl ?_); refine box_event rfl (N := 1) rfl (run_allocM _ _ rfl _) ?_; intro g1 hg1 v1 hbox hbel; have Bg1 := Lib.hid (show Blk v1 g1 36 zcs from hbox); have BLg1 := Lib.hid hbel; have Hg1 := Lib.hid hg1; clear hbox hbel hg1)
    | ((with_reducible refine gate_store (t := 36) (p := 1) rfl ?_); refine wpList_store_mid rfl 36 _ _ rfl g1 0 acs.toArray rfl rfl ?ht ?hi ?h1 ?_; (case ht => exact Bg1.out.there _ (by rw [List.size_toArray, acs_len]; exact Nat.le_refl 33)); (case hi => rw [List.size_toArray, acs_len]; exact infoMsg); (case h1 => exact all_oneCell_toArray acs_one); have B2g1 := Lib.hid (Bg1.out.setAll acs (by rw [acs_len]; rfl)); have Kg1 := Lib.hid (Keeps.setCells (S := fun k => k = g1) acs 0 v1 (Keeps.refl _ _) (fun _ => rfl)); change wpList _ _ _ _ _ (v1.setCells g1 0 acs); generalize v1.setCells g1 0 acs = v2 at B2g1 Kg1 ⊢; have BMg1 := Lib.hid (BLg1.out.trans (Kg1.out.below BLg1.out.size (fun k hk => by show ¬ k = g1; have := Hg1.out; omega))); clear Bg1 BLg1 Kg1 Hg1)
    | ((with_reducible refine gate_dst (N := 12) rfl ?_); refine wpList_load_mid rfl 36 _ rfl g1 0 rfl acs _ ?hc Try.underlying36 rfl ?hi ?_; (case hc => exact B2g1.out.range); (case hi => rw [acs_len]; exact infoMsg)))
  refine (E'.out v2).out.mono ?_
  rintro e v3 ⟨rfl, hb⟩
  have B3 := Lib.hid (B2g1.out.below hb)
  have KB3 := Lib.hid (BMg1.out.trans (hb.mono BMg1.out.size))
  clear hb B2g1 BMg1 E'
  go_wp2_with fail
  refine (D1'.out v3).out.mono ?_
  rintro e v4 ⟨A, c, rfl, ho, hb⟩
  have B4 := Lib.hid (B3.out.below hb)
  have KB4 := Lib.hid (KB3.out.trans (hb.mono KB3.out.size))
  have HA := Lib.hid ho.reads
  have Hat := Lib.hid (MsgAt.of am A c)
  clear hb ho B3 KB3 D1'
  generalize am.vs (.slice A am.list.length c) = ys at *
  go_wp2_with (first
    | ((with_reducible refine gate_dst (N := 4) rfl ?_); refine box_event rfl (N := 4) rfl (run_allocM _ _ rfl _) ?_; intro g4 hg4 v5 hbox hbel; have Bg4 := Lib.hid (show Blk v5 g4 36 zcs from hbox); have BLg4 := Lib.hid hbel; have Hg4 := Lib.hid hg4; clear hbox hbel hg4)
    | ((with_reducible refine gate_store (t := 36) (p := 4) rfl ?_); refine wpList_store_mid rfl 36 _ _ rfl g4 0 ys.toArray rfl rfl ?ht ?hi ?h1 ?_; (case ht => exact Bg4.out.there _ (by rw [List.size_toArray, Hat.out.len]; exact Nat.le_refl 33)); (case hi => rw [List.size_toArray, Hat.out.len]; exact infoMsg); (case h1 => exact all_oneCell_toArray Hat.out.one); have B2g4 := Lib.hid (Bg4.out.setAll ys (by rw [Hat.out.len]; rfl)); have Kg4 := Lib.hid (Keeps.setCells (S := fun k => k = g4) ys 0 v5 (Keeps.refl _ _) (fun _ => rfl)); change wpList _ _ _ _ _ (v5.setCells g4 0 ys); generalize v5.setCells g4 0 ys = v6 at B2g4 Kg4 ⊢; have BMg4 := Lib.hid (BLg4.out.trans (Kg4.out.below BLg4.out.size (fun k hk => by show ¬ k = g4; have := Hg4.out; omega))); clear Bg4 BLg4 Kg4 Hg4))
  refine (D2'.out v6).out.mono ?_
  rintro e v7 ⟨A2, c2, rfl, ho, hb⟩
  have hb6 := BMg4.out.trans (hb.mono BMg4.out.size)
  have B7 := Lib.hid (B4.out.below hb6)
  have C7 := Lib.hid (B2g4.out.below hb)
  have KB7 := Lib.hid (KB4.out.trans (hb6.mono KB4.out.size))
  have HA7 := Lib.hid (HA.out.below hb6)
  have Hzt := Lib.hid (MsgAt.of Msg.zero A2 c2)
  clear hb hb6 ho B4 KB4 B2g4 BMg4 HA D2'
  generalize Msg.zero.vs (.slice A2 Msg.zero.list.length c2) = zs at *
  go_wp2_with (first
    | ((with_reducible refine gate_dst (N := 6) rfl ?_); refine box_event rfl (N := 6) rfl (run_allocM _ _ rfl _) ?_; intro g6 hg6 v8 hbox hbel; have Bg6 := Lib.hid (show Blk v8 g6 36 zcs from hbox); have BLg6 := Lib.hid hbel; have Hg6 := Lib.hid hg6; clear hbox hbel hg6)
    | ((with_reducible refine gate_store (t := 36) (p := 6) rfl ?_); refine wpList_store_mid rfl 36 _ _ rfl g6 0 zs.toArray rfl rfl ?ht ?hi ?h1 ?_; (case ht => exact Bg6.out.there _ (by rw [List.size_toArray, Hzt.out.len]; exact Nat.le_refl 33)); (case hi => rw [List.size_toArray, Hzt.out.len]; exact infoMsg); (case h1 => exact all_oneCell_toArray Hzt.out.one); have B2g6 := Lib.hid (Bg6.out.setAll zs (by rw [Hzt.out.len]; rfl)); have Kg6 := Lib.hid (Keeps.setCells (S := fun k => k = g6) zs 0 v8 (Keeps.refl _ _) (fun _ => rfl)); change wpList _ _ _ _ _ (v8.setCells g6 0 zs); generalize v8.setCells g6 0 zs = v9 at B2g6 Kg6 ⊢; have BMg6 := Lib.hid (BLg6.out.trans (Kg6.out.below BLg6.out.size (fun k hk => by show ¬ k = g6; have := Hg6.out; omega))); clear Bg6 BLg6 Kg6 Hg6; have B9 := Lib.hid (B7.out.below BMg6.out); have C9 := Lib.hid (C7.out.below BMg6.out); have KB9 := Lib.hid (KB7.out.trans (BMg6.out.mono KB7.out.size)); have HA9 := Lib.hid (HA7.out.below BMg6.out); clear B7 C7 KB7 HA7 BMg6 B2g6)
    | (go_at_call 11; refine (num_any _ _).mono ?_; rintro e w' ⟨rfl, rfl⟩)
    | ((with_reducible refine gate_dst (N := 41) rfl ?_); refine gate_guard (by rfl) ?_; refine wpList_load_mid rfl 36 _ rfl g4 0 rfl ys _ ?hc Try.underlying36 rfl ?hi ?_; (case hc => exact C9.out.range); (case hi => rw [Hat.out.len]; exact infoMsg))
    | ((with_reducible refine gate_dst (N := 42) rfl ?_); refine gate_guard (by rfl) ?_; refine wpList_load_mid rfl 36 _ rfl g1 0 rfl acs _ ?hc Try.underlying36 rfl ?hi ?_; (case hc => exact B9.out.range); (case hi => rw [acs_len]; exact infoMsg))
    | (go_at_call 16; refine (same_raw am A none c 0 ys acs Hat.out acs_at (by decide) _ HA9.out (fun i e h => by simp [am, Msg.zero] at h)).mono ?_; rintro e v10 ⟨rfl, hb⟩; have KB10 := Lib.hid (KB9.out.trans (hb.mono KB9.out.size)); clear hb))
  go_ret
  exact ⟨rfl, KB10.out⟩

end Go.Proofs.Ytibcadfpengacaa

-- PlainI
set_option linter.unusedVariables false
set_option linter.unusedSimpArgs false
namespace Go.Proofs.Ytibcadfpengacaa
open Go.RowKit Go.Lib

def Rd.L (ρ : Rd) : List UInt8 := ρ.s.data.toList
theorem size_L (s : ByteArray) : s.data.toList.length = s.size := by rw [Array.length_toList]; rfl
theorem inv_left (ρ : Rd) (n : Nat) (h : (ρ.left n).c = 0) : ρ.c = 0 ∧ (ρ.took n).size = n ∧ ρ.L = (ρ.took n).data.toList ++ (ρ.left n).L := by
  unfold Rd.left at h ⊢
  unfold Rd.took Rd.L
  by_cases hn : ρ.s.size < n
  · rw [if_pos hn] at h
    unfold Rd.fail at h
    dsimp only at h
    split at h
    · exact absurd h (by decide)
    · rename_i h0
      exact absurd h h0
  · rw [if_neg hn] at h
    rw [if_neg hn, if_neg hn]
    dsimp only at h ⊢
    have hl := size_L ρ.s
    refine ⟨h, ?_, ?_⟩
    · rw [← size_L, extract_data, List.drop_zero, List.length_take]
      omega
    · rw [extract_data, extract_data, List.drop_zero, List.take_of_length_le (l := ρ.s.data.toList.drop n) (by rw [List.length_drop]; omega)]
      exact (List.take_append_drop n _).symm
theorem inv_num (ρ : Rd) (n : Nat) (h1 : 1 ≤ n) (h8 : n ≤ 8) (h : (ρ.left n).c = 0) : ρ.c = 0 ∧ ρ.L = leB (ρ.num n) n ++ (ρ.left n).L ∧ ρ.num n < 256 ^ n := by
  obtain ⟨a, b, c⟩ := inv_left ρ n h
  have hn : ρ.num n = ofLe (ρ.took n).data.toList := by
    unfold Rd.num ofS
    rw [if_pos ⟨by omega, by omega⟩]
  have hl : (ρ.took n).data.toList.length = n := by rw [size_L, b]
  have h2 := leB_ofLe (ρ.took n).data.toList
  have h3 := ofLe_lt (ρ.took n).data.toList
  rw [hl] at h2 h3
  refine ⟨a, ?_, ?_⟩
  · rw [hn, h2]
    exact c
  · rw [hn]
    exact h3
theorem ofS_lay (l : List UInt8) (n : Nat) (h1 : 1 ≤ n) (h8 : n ≤ 8) (hl : l.length = n) : leB (ofS ⟨l.toArray⟩) n = l ∧ ofS ⟨l.toArray⟩ < 256 ^ n := by
  have hs : (⟨l.toArray⟩ : ByteArray).size = n := by
    show l.toArray.size = n
    rw [List.size_toArray, hl]
  have h2 := leB_ofLe l
  have h3 := ofLe_lt l
  unfold ofS
  rw [if_pos ⟨by omega, by omega⟩]
  show leB (ofLe l) n = l ∧ ofLe l < 256 ^ n
  rw [hl] at h2 h3
  exact ⟨h2, h3⟩
theorem inv_hd (ρ : Rd) (h : (ρ.left 28).c = 0) : ρ.c = 0 ∧ ρ.L = (decH (ρ.took 28)).lay ++ (ρ.left 28).L ∧ (decH (ρ.took 28)).Ok := by
  obtain ⟨a, b, c⟩ := inv_left ρ 28 h
  generalize ρ.took 28 = t at *
  have hl : t.data.toList.length = 28 := by rw [size_L, b]
  have e1 := ofS_lay ((t.data.toList.drop 0).take (4 - 0)) 4 (by omega) (by omega) (by rw [List.length_take, List.length_drop]; omega)
  have e2 := ofS_lay ((t.data.toList.drop 4).take (12 - 4)) 8 (by omega) (by omega) (by rw [List.length_take, List.length_drop]; omega)
  have e3 := ofS_lay ((t.data.toList.drop 12).take (20 - 12)) 8 (by omega) (by omega) (by rw [List.length_take, List.length_drop]; omega)
  have e4 := ofS_lay ((t.data.toList.drop 20).take (28 - 20)) 8 (by omega) (by omega) (by rw [List.length_take, List.length_drop]; omega)
  have f1 : (256 : Nat) ^ 4 = 4294967296 := by decide
  have f2 : (256 : Nat) ^ 8 = 18446744073709551616 := by decide
  have hd : decH t = ⟨ofS (t.extract 0 4), ofS (t.extract 4 12), ofS (t.extract 12 20), ofS (t.extract 20 28)⟩ := by
    unfold decH
    rw [if_pos b]
  rw [hd]
  simp only [extract_eq] at *
  have g1 := e1.2; have g2 := e2.2; have g3 := e3.2; have g4 := e4.2
  refine ⟨a, ?_, ⟨Int.natCast_nonneg _, ?_, Int.natCast_nonneg _, ?_, Int.natCast_nonneg _, ?_, Int.natCast_nonneg _, ?_⟩⟩
  · rw [c]
    unfold Hd.lay
    simp only [Int.toNat_natCast]
    rw [e1.1, e2.1, e3.1, e4.1]
    congr 1
    have s1 : t.data.toList = t.data.toList.take 4 ++ ((t.data.toList.drop 4).take 8 ++ ((t.data.toList.drop 12).take 8 ++ (t.data.toList.drop 20).take 8)) := by
      have d1 := (List.take_append_drop 4 t.data.toList).symm
      have d2 := (List.take_append_drop 8 (t.data.toList.drop 4)).symm
      have d3 := (List.take_append_drop 8 (t.data.toList.drop 12)).symm
      have d4 : (t.data.toList.drop 20).take 8 = t.data.toList.drop 20 := List.take_of_length_le (by rw [List.length_drop]; omega)
      rw [List.drop_drop] at d2 d3
      rw [d4, ← d3, ← d2]
      exact d1
    simp only [List.drop_zero, List.append_assoc]
    exact s1
  · show ((ofS _ : Nat) : Int) < _
    omega
  · show ((ofS _ : Nat) : Int) < _
    omega
  · show ((ofS _ : Nat) : Int) < _
    omega
  · show ((ofS _ : Nat) : Int) < _
    omega
theorem allZ_rep {s : ByteArray} (h : allZ s = true) : s.data.toList = List.replicate s.size 0 := by
  unfold allZ at h
  rw [List.all_eq_true] at h
  rw [← size_L]
  exact List.eq_replicate_iff.2 ⟨rfl, fun b hb => by simpa using h b hb⟩
theorem fail_c (ρ : Rd) : ρ.fail.c ≠ 0 := by
  unfold Rd.fail
  dsimp only
  split
  · decide
  · assumption
theorem inv_text (ρ : Rd) (old : ByteArray) (h : ρ.textR.c = 0) : ρ.c = 0 ∧ ρ.L = txt (ρ.textS old) ++ ρ.textR.L ∧ (ρ.textS old).size ≤ 4096 := by
  unfold Rd.textR at h ⊢
  unfold Rd.textS
  by_cases h1 : 4096 < ρ.num 4
  · rw [if_pos h1] at h
    exact absurd h (fail_c _)
  rw [if_neg h1] at h
  rw [if_neg h1, if_neg h1]
  by_cases h2 : allZ (((ρ.left 4).left (ρ.num 4)).took (padN (ρ.num 4))) = true
  · rw [if_pos h2] at h
    rw [if_pos h2]
    obtain ⟨a1, a2, a3⟩ := inv_left _ _ h
    obtain ⟨b1, b2, b3⟩ := inv_left _ _ a1
    obtain ⟨c1, c2, c3⟩ := inv_num ρ 4 (by omega) (by omega) b1
    refine ⟨c1, ?_, by rw [b2]; omega⟩
    rw [c2, b3, a3, allZ_rep h2, a2]
    unfold txt
    rw [b2]
    simp only [List.append_assoc]
  · rw [if_neg h2] at h
    exact absurd h (fail_c _)
theorem inv_ents (ρ : Rd) : ∀ k, ((ρ.ents k).2).c = 0 → ρ.c = 0 ∧ ρ.L = (ρ.ents k).1.flatMap entL ++ ((ρ.ents k).2).L ∧ ∀ e ∈ (ρ.ents k).1, e.name.size ≤ 4096 ∧ U64 e.ino ∧ U64 e.cookie := by
  intro k
  have f2 : (256 : Nat) ^ 8 = 18446744073709551616 := by decide
  induction k with
  | zero => intro h; exact ⟨h, by simp [Rd.ents], fun e he => by simp [Rd.ents] at he⟩
  | succ k ih =>
    intro h
    rw [Rd.ents] at h ⊢
    dsimp only at h ⊢
    generalize (ρ.ents k).1 = es at *
    generalize (ρ.ents k).2 = σ at *
    unfold Rd.entR at h
    obtain ⟨a1, a2, a3⟩ := inv_num _ 8 (by omega) (by omega) h
    obtain ⟨b1, b2, b3⟩ := inv_num _ 8 (by omega) (by omega) a1
    obtain ⟨c1, c2, c3⟩ := inv_text σ ⟨#[]⟩ b1
    obtain ⟨d1, d2, d3⟩ := ih c1
    refine ⟨d1, ?_, fun e he => ?_⟩
    · rw [d2, c2, b2, a2, List.flatMap_append]
      unfold Rd.entV Rd.entR
      simp only [List.flatMap_cons, List.flatMap_nil, List.append_nil, entL, Int.toNat_natCast, List.append_assoc]
    · rcases List.mem_append.1 he with h1 | h1
      · exact d3 e h1
      · have : e = σ.entV := by simpa using h1
        subst this
        exact ⟨c3, ⟨by show (0 : Int) ≤ (_ : Nat); omega, by show ((_ : Nat) : Int) < _; omega⟩, ⟨by show (0 : Int) ≤ (_ : Nat); omega, by show ((_ : Nat) : Int) < _; omega⟩⟩

theorem u64_nat {n : Nat} (h : n < 256 ^ 8) : U64 (n : Int) := by
  have f2 : (256 : Nat) ^ 8 = 18446744073709551616 := by decide
  exact ⟨by omega, by omega⟩
theorem u32_nat {n : Nat} (h : n < 256 ^ 4) : U32 (n : Int) := by
  have f2 : (256 : Nat) ^ 4 = 4294967296 := by decide
  exact ⟨by omega, by omega⟩
theorem i64_nat {n : Nat} (h : n < 256 ^ 1) : I64 (n : Int) := by
  have f2 : (256 : Nat) ^ 1 = 256 := by decide
  exact ⟨by omega, by omega⟩
theorem small_nat {n : Nat} (h : n < 256 ^ 1) : smallB (n : Int) = true := by
  have f2 : (256 : Nat) ^ 1 = 256 := by decide
  exact smallB_of (by omega) (by omega)
theorem one1_nat {n : Nat} (h : n < 256 ^ 1) : one1 (n : Int) = leB n 1 := by
  have f2 : (256 : Nat) ^ 1 = 256 := by decide
  unfold one1
  congr 1
  omega
theorem siz_small {s : ByteArray} (h : s.size ≤ 4096) : Siz s := by unfold Siz; omega
theorem hz_ok : Hd.zero.Ok := ⟨by decide, by decide, by decide, by decide, by decide, by decide, by decide, by decide⟩
theorem u80 : U64 0 := ⟨by decide, by decide⟩
theorem u40 : U32 0 := ⟨by decide, by decide⟩
theorem i80 : I64 0 := ⟨by decide, by decide⟩
theorem sz0 : Siz ⟨#[]⟩ := show 0 ≤ 140737488351232 from by decide
theorem noAns_zeros : noAns 0 0 0 0 0 0 0 0 0 ⟨#[]⟩ false 0 0 = true := by
  unfold noAns
  rw [nil_toList]
  rfl
theorem layL_call (m : Msg) (h : m.kind = 1) : m.layL = m.headL ++ one1 m.op ++ m.h.lay ++ m.h2.lay ++ txt m.name ++ txt m.name2 ++ leB m.off.toNat 8 ++ leB m.num.toNat 8 ++ txt m.data := by
  unfold Msg.layL
  rw [if_pos h]
theorem layL_reply (m : Msg) (h : m.kind = 2) : m.layL = m.headL ++ one1 m.status ++ m.ah.lay ++ one1 m.akind ++ leB m.links.toNat 4 ++ leB m.size.toNat 8 ++ leB m.change.toNat 8 ++ txt m.adata ++ leB m.eof.toNat 1 ++ leB m.anum.toNat 8 ++ leB m.list.length 4 ++ m.list.flatMap entL ++ tailL m := by
  unfold Msg.layL
  rw [if_neg (by omega), if_pos h]
theorem layL_back (m : Msg) (h1 : ¬ m.kind = 1) (h2 : ¬ m.kind = 2) : m.layL = m.headL ++ m.h.lay ++ tailL m := by
  unfold Msg.layL
  rw [if_neg h1, if_neg h2]
theorem mayB_call (m : Msg) (h : m.kind = 1) : m.mayB = (smallB m.op && m.noAns && (m.boot == 0) && stampEq m.gb m.gn 0 0) := by
  unfold Msg.mayB
  rw [if_pos h]
theorem mayB_reply (m : Msg) (h : m.kind = 2) : m.mayB = (askEq m.op m.h.ex m.h.snap m.h.ino m.h.gen m.h2.ex m.h2.snap m.h2.ino m.h2.gen m.name m.name2 m.off m.num m.data 0 0 0 0 0 0 0 0 0 ⟨#[]⟩ ⟨#[]⟩ 0 0 ⟨#[]⟩ && smallB m.status && smallB m.akind) := by
  unfold Msg.mayB
  rw [if_neg (by omega), if_pos h]
theorem mayB_back (m : Msg) (h1 : ¬ m.kind = 1) (h2 : ¬ m.kind = 2) (h3 : m.kind = 3 ∨ m.kind = 4) : m.mayB = (askEq m.op m.h.ex m.h.snap m.h.ino m.h.gen m.h2.ex m.h2.snap m.h2.ino m.h2.gen m.name m.name2 m.off m.num m.data 0 m.h.ex m.h.snap m.h.ino m.h.gen 0 0 0 0 ⟨#[]⟩ ⟨#[]⟩ 0 0 ⟨#[]⟩ && m.noAns) := by
  unfold Msg.mayB
  rw [if_neg h1, if_neg h2, if_pos h3]
attribute [local irreducible] decH Rd.left Rd.textS Rd.textR Rd.num Rd.took Rd.ents leB txt
theorem inv_call (s : ByteArray) (hk : (⟨0, s⟩ : Rd).num 1 = 1) (h : (callR ⟨0, s⟩).c = 0) (hz : (callR ⟨0, s⟩).L = []) : (callM ⟨0, s⟩).layL = s.data.toList ∧ (callM ⟨0, s⟩).Val := by
  have hL : (⟨0, s⟩ : Rd).L = s.data.toList := rfl
  unfold callM callR askM askR at *
  obtain ⟨a1, a2, a3⟩ := inv_text _ ⟨#[]⟩ h
  obtain ⟨b1, b2, b3⟩ := inv_num _ 8 (by omega) (by omega) a1
  obtain ⟨c1, c2, c3⟩ := inv_num _ 8 (by omega) (by omega) b1
  obtain ⟨d1, d2, d3⟩ := inv_text _ ⟨#[]⟩ c1
  obtain ⟨e1, e2, e3⟩ := inv_text _ ⟨#[]⟩ d1
  obtain ⟨f1, f2, f3⟩ := inv_hd _ e1
  obtain ⟨g1, g2, g3⟩ := inv_hd _ f1
  obtain ⟨h1, h2, h3⟩ := inv_num _ 1 (by omega) (by omega) g1
  obtain ⟨i1, i2, i3⟩ := inv_num _ 8 (by omega) (by omega) h1
  obtain ⟨j1, j2, j3⟩ := inv_num _ 4 (by omega) (by omega) i1
  obtain ⟨k1, k2, k3⟩ := inv_num _ 1 (by omega) (by omega) j1
  rw [hL] at k2
  rw [a2, hz] at b2
  rw [hk] at k3
  rw [k2, j2, i2, h2, g2, f2, e2, d2, c2, b2, hk]
  simp only [Msg.setKind, Msg.setClient, Msg.setXid, Msg.setOp, Msg.setH, Msg.setH2, Msg.setName, Msg.setName2, Msg.setOff, Msg.setNum, Msg.setData, Msg.setStatus, Msg.setAh, Msg.setAkind, Msg.setLinks, Msg.setSize, Msg.setChange, Msg.setAdata, Msg.setEof, Msg.setAnum, Msg.setList, Msg.setBoot, Msg.setGb, Msg.setGn, Msg.zero]
  constructor
  · refine (layL_call _ rfl).trans ?_
    unfold Msg.headL
    simp only [Int.toNat_natCast]
    rw [one1_nat h3]
    simp only [List.append_assoc, List.append_nil]
    rfl
  · refine ⟨⟨i64_nat k3, u32_nat j3, u64_nat i3, i64_nat h3, g3, f3, siz_small e3, siz_small d3, u64_nat c3, u64_nat b3, siz_small a3, i80, hz_ok, i80, u40, u80, u80, sz0, u80, (fun e he => (by cases he)), Nat.zero_le _, u80, u80, u80⟩, ?_, ?_⟩
    · unfold Msg.long
      rw [decide_eq_false (Nat.not_lt.2 e3), decide_eq_false (Nat.not_lt.2 d3), decide_eq_false (Nat.not_lt.2 a3)]
      rfl
    · refine (mayB_call _ rfl).trans ?_
      unfold Msg.noAns
      rw [small_nat h3]
      show (true && noAns 0 0 0 0 0 0 0 0 0 ⟨#[]⟩ false 0 0 && ((0 : Int) == 0) && stampEq 0 0 0 0) = true
      rw [noAns_zeros]
      rfl

theorem inv_back (s : ByteArray) (hk : (⟨0, s⟩ : Rd).num 1 = 3 ∨ (⟨0, s⟩ : Rd).num 1 = 4) (h : (backR ⟨0, s⟩).c = 0) (hz : (backR ⟨0, s⟩).L = []) : (backM ⟨0, s⟩).layL = s.data.toList ∧ (backM ⟨0, s⟩).Val := by
  have hL : (⟨0, s⟩ : Rd).L = s.data.toList := rfl
  unfold backM backR stampM stampR at *
  obtain ⟨a1, a2, a3⟩ := inv_num _ 8 (by omega) (by omega) h
  obtain ⟨b1, b2, b3⟩ := inv_num _ 8 (by omega) (by omega) a1
  obtain ⟨c1, c2, c3⟩ := inv_num _ 8 (by omega) (by omega) b1
  obtain ⟨f1, f2, f3⟩ := inv_hd _ c1
  obtain ⟨i1, i2, i3⟩ := inv_num _ 8 (by omega) (by omega) f1
  obtain ⟨j1, j2, j3⟩ := inv_num _ 4 (by omega) (by omega) i1
  obtain ⟨k1, k2, k3⟩ := inv_num _ 1 (by omega) (by omega) j1
  rw [hL] at k2
  rw [hz] at a2
  have n1 : ¬ (((⟨0, s⟩ : Rd).num 1 : Nat) : Int) = 1 := by omega
  have n2 : ¬ (((⟨0, s⟩ : Rd).num 1 : Nat) : Int) = 2 := by omega
  have n3 : (((⟨0, s⟩ : Rd).num 1 : Nat) : Int) = 3 ∨ (((⟨0, s⟩ : Rd).num 1 : Nat) : Int) = 4 := by omega
  rw [k2, j2, i2, f2, c2, b2, a2]
  generalize (⟨0, s⟩ : Rd).num 1 = kd at *
  simp only [Msg.setKind, Msg.setClient, Msg.setXid, Msg.setOp, Msg.setH, Msg.setH2, Msg.setName, Msg.setName2, Msg.setOff, Msg.setNum, Msg.setData, Msg.setStatus, Msg.setAh, Msg.setAkind, Msg.setLinks, Msg.setSize, Msg.setChange, Msg.setAdata, Msg.setEof, Msg.setAnum, Msg.setList, Msg.setBoot, Msg.setGb, Msg.setGn, Msg.zero]
  constructor
  · refine (layL_back _ n1 n2).trans ?_
    unfold Msg.headL tailL
    simp only [Int.toNat_natCast]
    rw [one1_nat k3]
    simp only [List.append_assoc, List.append_nil]
  · refine ⟨⟨i64_nat k3, u32_nat j3, u64_nat i3, i80, f3, hz_ok, sz0, sz0, u80, u80, sz0, i80, hz_ok, i80, u40, u80, u80, sz0, u80, (fun e he => (by cases he)), Nat.zero_le _, u64_nat c3, u64_nat b3, u64_nat a3⟩, rfl, ?_⟩
    · refine (mayB_back _ n1 n2 n3).trans ?_
      unfold Msg.noAns
      rw [Bool.and_eq_true]
      refine ⟨?_, noAns_zeros⟩
      show askEq 0 _ _ _ _ 0 0 0 0 ⟨#[]⟩ ⟨#[]⟩ 0 0 ⟨#[]⟩ 0 _ _ _ _ 0 0 0 0 ⟨#[]⟩ ⟨#[]⟩ 0 0 ⟨#[]⟩ = true
      exact askEq_self _ _ _ _ _ _ _ _ _ _ _ _ _ _

theorem inv_reply (s : ByteArray) (hk : (⟨0, s⟩ : Rd).num 1 = 2) (h64 : (repR ⟨0, s⟩).num 4 ≤ 64) (hf : ((flR ⟨0, s⟩).num 1 : Int) < 2) (h : (stampR (rdL ⟨0, s⟩).2).c = 0) (hz : (stampR (rdL ⟨0, s⟩).2).L = []) :
    (stampM (rdL ⟨0, s⟩).2 ((repM ⟨0, s⟩).setList (rdL ⟨0, s⟩).1)).layL = s.data.toList ∧ (stampM (rdL ⟨0, s⟩).2 ((repM ⟨0, s⟩).setList (rdL ⟨0, s⟩).1)).Val := by
  have hL : (⟨0, s⟩ : Rd).L = s.data.toList := rfl
  unfold stampM stampR at *
  obtain ⟨a1, a2, a3⟩ := inv_num _ 8 (by omega) (by omega) h
  obtain ⟨b1, b2, b3⟩ := inv_num _ 8 (by omega) (by omega) a1
  obtain ⟨c1, c2, c3⟩ := inv_num _ 8 (by omega) (by omega) b1
  have hlen : (rdL ⟨0, s⟩).1.length = (repR ⟨0, s⟩).num 4 := Rd.ents_length _ _
  unfold rdL at c1 c2 hlen a2 b2 a3 b3 c3 hz ⊢
  obtain ⟨d1, d2, d3⟩ := inv_ents _ _ c1
  generalize hE : (((repR ⟨0, s⟩).left 4).ents ((repR ⟨0, s⟩).num 4)).1 = es at *
  generalize (((repR ⟨0, s⟩).left 4).ents ((repR ⟨0, s⟩).num 4)).2 = σ at *
  obtain ⟨e1, e2, e3⟩ := inv_num _ 4 (by omega) (by omega) d1
  unfold repR flR repM at *
  obtain ⟨f1, f2, f3⟩ := inv_num _ 8 (by omega) (by omega) e1
  obtain ⟨g1, g2, g3⟩ := inv_num _ 1 (by omega) (by omega) f1
  obtain ⟨i1, i2, i3⟩ := inv_text _ ⟨#[]⟩ g1
  obtain ⟨j1, j2, j3⟩ := inv_num _ 8 (by omega) (by omega) i1
  obtain ⟨k1, k2, k3⟩ := inv_num _ 8 (by omega) (by omega) j1
  obtain ⟨l1, l2, l3⟩ := inv_num _ 4 (by omega) (by omega) k1
  obtain ⟨m1, m2, m3⟩ := inv_num _ 1 (by omega) (by omega) l1
  obtain ⟨n1, n2, n3⟩ := inv_hd _ m1
  obtain ⟨o1, o2, o3⟩ := inv_num _ 1 (by omega) (by omega) n1
  obtain ⟨p1, p2, p3⟩ := inv_num _ 8 (by omega) (by omega) o1
  obtain ⟨q1, q2, q3⟩ := inv_num _ 4 (by omega) (by omega) p1
  obtain ⟨r1, r2, r3⟩ := inv_num _ 1 (by omega) (by omega) q1
  rw [hL] at r2
  rw [hz] at a2
  have hflag : ∀ y : Nat, (y : Int) < 2 → ((y : Int) == 1).toNat = y := fun y hy => by
    match y, hy with
    | 0, _ => rfl
    | 1, _ => rfl
    | y + 2, h => exact absurd h (by omega)
  rw [r2, q2, p2, o2, n2, m2, l2, k2, j2, i2, g2, f2, e2, d2, c2, b2, a2, hk]
  rw [hk] at r3
  rw [← hlen] at h64 ⊢
  simp only [Msg.setKind, Msg.setClient, Msg.setXid, Msg.setOp, Msg.setH, Msg.setH2, Msg.setName, Msg.setName2, Msg.setOff, Msg.setNum, Msg.setData, Msg.setStatus, Msg.setAh, Msg.setAkind, Msg.setLinks, Msg.setSize, Msg.setChange, Msg.setAdata, Msg.setEof, Msg.setAnum, Msg.setList, Msg.setBoot, Msg.setGb, Msg.setGn, Msg.zero]
  constructor
  · refine (layL_reply _ rfl).trans ?_
    unfold Msg.headL tailL
    simp only [Int.toNat_natCast]
    rw [one1_nat o3, one1_nat m3, one1_nat r3, hflag _ hf]
    simp only [List.append_assoc, List.append_nil]
  · refine ⟨⟨i64_nat r3, u32_nat q3, u64_nat p3, i80, hz_ok, hz_ok, sz0, sz0, u80, u80, sz0, i64_nat o3, n3, i64_nat m3, u32_nat l3, u64_nat k3, u64_nat j3, siz_small i3, u64_nat f3, (fun e he => ⟨siz_small (d3 e he).1, (d3 e he).2⟩), Nat.le_trans h64 (by decide), u64_nat c3, u64_nat b3, u64_nat a3⟩, ?_, ?_⟩
    · unfold Msg.long
      dsimp only
      have ha : es.any (fun e => decide (4096 < e.name.size)) = false := by
        rw [List.any_eq_false]
        intro e he
        have := (d3 e he).1
        simp
        omega
      rw [decide_eq_false (Nat.not_lt.2 i3), ha, decide_eq_false (Nat.not_lt.2 h64)]
      rfl
    · refine (mayB_reply _ rfl).trans ?_
      dsimp only
      rw [small_nat o3, small_nat m3]
      show (askEq 0 0 0 0 0 0 0 0 0 ⟨#[]⟩ ⟨#[]⟩ 0 0 ⟨#[]⟩ 0 0 0 0 0 0 0 0 0 ⟨#[]⟩ ⟨#[]⟩ 0 0 ⟨#[]⟩ && true && true) = true
      rw [askEq_self]
      rfl

theorem inv_dec (s : ByteArray) (h : decOk s = true) : (rdM ⟨0, s⟩).layL = s.data.toList ∧ (rdM ⟨0, s⟩).Val := by
  unfold decOk at h
  obtain ⟨h1, h2, h3, h4⟩ := of_decide_eq_true h
  have hz : (rdR ⟨0, s⟩).L = [] := List.eq_nil_of_length_eq_zero (by unfold Rd.L; rw [size_L]; exact h2)
  unfold rdFine at h3
  unfold rdShort at h4
  unfold rdR at h1 hz
  unfold rdM
  by_cases k1 : (⟨0, s⟩ : Rd).num 1 = 1
  · rw [if_pos k1] at h1 hz
    rw [if_pos k1]
    exact inv_call s k1 h1 hz
  by_cases k2 : (⟨0, s⟩ : Rd).num 1 = 2
  · have h64 := of_decide_eq_true h4 k2
    rw [if_neg k1, if_pos k2, if_pos h64] at h1 hz
    rw [if_pos k2] at h3
    rw [if_neg k1, if_pos k2, if_pos h64]
    exact inv_reply s k2 h64 (of_decide_eq_true h3) h1 hz
  by_cases k3 : (⟨0, s⟩ : Rd).num 1 = 3 ∨ (⟨0, s⟩ : Rd).num 1 = 4
  · rw [if_neg k1, if_neg k2, if_pos k3] at h1 hz
    rw [if_neg k1, if_neg k2, if_pos k3]
    exact inv_back s k3 h1 hz
  · rw [if_neg k2] at h3
    have := of_decide_eq_true h3
    omega

end Go.Proofs.Ytibcadfpengacaa

-- Encodes
set_option linter.unusedVariables false
set_option linter.unusedSimpArgs false
namespace Go.Proofs.Ytibcadfpengacaa
open Go.RowKit Go.Lib Go.Proofs.YtibcadfpengacaaW.PrintWords Go.Proofs.YtibcadfpengacaaW.PrintMore Go.Proofs.YtibcadfpengacaaW.PrintLast

end Go.Proofs.Ytibcadfpengacaa

-- RefR
set_option linter.unusedVariables false
set_option linter.unusedSimpArgs false
namespace Go.Proofs.Ytibcadfpengacaa
open Go.RowKit Go.Lib Go.Proofs.YtibcadfpengacaaW.PrintWords Go.Proofs.YtibcadfpengacaaW.PrintMore Go.Proofs.YtibcadfpengacaaW.PrintLast

/-- The reference's reader: what is left, and was too little there? -/
structure Rr where
  s : ByteArray
  bad : Bool
abbrev RrS (w : World) (R : Nat) (ρ : Rr) : Prop := Blk w R 95 [.string ρ.s, .bool ρ.bad]
def Rr.took (ρ : Rr) (n : Nat) : ByteArray := if ρ.s.size < n then zerS n else ρ.s.extract 0 n
def Rr.left (ρ : Rr) (n : Nat) : Rr := if ρ.s.size < n then ⟨⟨#[]⟩, true⟩ else ⟨ρ.s.extract n ρ.s.size, ρ.bad⟩
theorem Rr.left_size (ρ : Rr) (n : Nat) : (ρ.left n).s.size ≤ ρ.s.size := by
  unfold Rr.left
  split
  · show 0 ≤ _; omega
  · show (ρ.s.extract n ρ.s.size).size ≤ _
    rw [ByteArray.size_extract]; omega
theorem Rr.took_size (ρ : Rr) (n : Nat) : (ρ.took n).size = n := by
  unfold Rr.took
  split
  · exact zerS_size n
  · rw [ByteArray.size_extract]; omega

theorem infoB : (Try.prog.info? 5).map (fun i => (i.zero, i.size, i.bytes)) = some (some (.int .u8 0), 1, 1) := by kernel_rfl
theorem madeB : ∀ n : Nat, madeCells #[.int .u8 0] n = (List.replicate n (Value.int .u8 0)).toArray := fun n => by
  unfold madeCells
  refine Array.toList_inj.1 ?_
  refine List.ext_getElem? (fun i => ?_)
  by_cases hi : i < n <;> simp [hi, Nat.mod_one]
theorem run_makeB (ev : Operand → Value) (o : Oper) (x : Operand) (n : Nat) (ho : o.op = .makeSlice 79 x x) (hx : ev x = .int .i64 (n : Int)) (hn : n ≤ 4096) (w : World) :
    (execOp ev o).run Try.prog w = .ok (.value (.slice (some ⟨w.heap.size, 0, none⟩) n n)) (w.alloc (.cells (List.replicate n (Value.int .u8 0)).toArray 5)) := by
  obtain ⟨i, hi, hz0, hz1, hz2⟩ := info_parts infoB
  have h := run_makeSlice (P := Try.prog) (w := w) 79 5 i (.int .u8 0) Try.underlying79 hi hz0 .i64 .i64 (n : Int) (n : Int) (by omega) (Int.le_refl _) (by rw [hz1]; omega) (by rw [hz2]; omega) (by omega)
  rw [Int.toNat_natCast, hz1, Nat.mul_one, show (Value.int .u8 0).cells = #[.int .u8 0] from rfl, madeB] at h
  unfold execOp
  rw [ho]
  simp only [hx]
  rw [Sem.run_bind, h]
  rfl
theorem run_convB (ev : Operand → Value) (o : Oper) (x : Operand) (n c g : Nat) (ho : o.op = .convert 79 9 x) (hx : ev x = .slice (some ⟨g, 0, none⟩) n c) (w : World) (hB : Blk w g 5 (List.replicate n (Value.int .u8 0))) :
    (execOp ev o).run Try.prog w = .ok (.value (.string (zerS n))) w := by
  have h := run_convert_bytes_arg (P := Try.prog) (w := w) 79 5 Try.underlying79 Try.underlying5 g 0 n c (List.replicate n 0) (by simp) (fun i hi => by
    rw [Nat.zero_add]
    refine hB.cell i ?_
    simp [hi, List.getD]) 9 Try.underlying9
  have e : strOfNums (List.replicate n 0) = zerS n := by
    unfold strOfNums zerS
    rw [List.map_replicate]
    rfl
  rw [e] at h
  unfold execOp
  rw [ho]
  simp only [hx]
  rw [Sem.run_bind, h]
  rfl

set_option maxHeartbeats 4000000 in
set_option maxRecDepth 100000 in
theorem take_rr (R : Nat) (ρ : Rr) (n : Nat) (hn : n ≤ 4096) (hs : ρ.s.size ≤ 281474976710656) (w : World) (h : RrS w R ρ) :
    Calls Try.prog 64 #[.pointer (some ⟨R, 0, none⟩), .int .i64 n] w fun e w' => e = .returned (.string (ρ.took n)) ∧ RrS w' R (ρ.left n) ∧ Keeps (fun k => k = R) w w' := by
  have hc0 : w.cell? ⟨R, 0, none⟩ = some (.string ρ.s) := h.cell 0 rfl
  have hc1 : w.cell? ⟨R, 1, none⟩ = some (.bool ρ.bad) := h.cell 1 rfl
  have hf0 := h.frozen 0
  have hf1 := h.frozen 1
  have hRl := h.lt
  have H := Lib.hid h
  by_cases hlt : ρ.s.size < n
  · have e1 : ρ.took n = zerS n := if_pos hlt
    have e2 : ρ.left n = ⟨⟨#[]⟩, true⟩ := if_pos hlt
    rw [e1, e2]
    have hi : (ρ.s.size : Int) < (n : Int) := by omega
    have hn0 : (0 : Int) ≤ (n : Int) := by omega
    have hn1 : (n : Int) ≤ 4096 := by omega
    clear e1 e2 h
    go_enter Try.func64, Try.ntmps64
    have B2 := Lib.hid ((H.out.set 1 (.bool true)).set 0 (.string ⟨#[]⟩))
    have K2 := Lib.hid (((Keeps.refl (fun k => k = R) w).setCell (a := ⟨R, 1, none⟩) (fun _ => rfl) (.bool true)).setCell (a := ⟨R, 0, none⟩) (fun _ => rfl) (.string ⟨#[]⟩))
    go_wp2_with (first
      | ((with_reducible refine gate_dst (N := 20) rfl ?_); refine Kd.event_run rfl (run_makeB _ _ _ n rfl rfl hn _) ?_; have BZ := Lib.hid (Blk.new ((w.setCell ⟨R, 1, none⟩ (.bool true)).setCell ⟨R, 0, none⟩ (.string ⟨#[]⟩)) 5 (List.replicate n (Value.int .u8 0))); have BR := Lib.hid (B2.out.alloc (.cells (List.replicate n (Value.int .u8 0)).toArray 5)); have KR := Lib.hid (K2.out.alloc (.cells (List.replicate n (Value.int .u8 0)).toArray 5)))
      | ((with_reducible refine gate_dst (N := 21) rfl ?_); refine Kd.event_run rfl (run_convB _ _ _ n n _ rfl rfl _ BZ.out) ?_))
    go_ret
    exact ⟨rfl, BR.out, KR.out⟩
  · have e1 : ρ.took n = ρ.s.extract 0 n := if_neg hlt
    have e2 : ρ.left n = ⟨ρ.s.extract n ρ.s.size, ρ.bad⟩ := if_neg hlt
    rw [e1, e2]
    have hi : ¬ (ρ.s.size : Int) < (n : Int) := by omega
    have hi2 : (n : Int) ≤ (ρ.s.size : Int) := by omega
    have hn0 : (0 : Int) ≤ (n : Int) := by omega
    clear e1 e2 h
    go_enter Try.func64, Try.ntmps64
    go_wp2
    go_ret
    refine ⟨by first | rfl | simp, ?_, ?_⟩
    · have := H.out.set 0 (.string (ρ.s.extract n ρ.s.size))
      first | exact this | simpa using this
    · exact (Keeps.refl (fun k => k = R) w).setCell (a := ⟨R, 0, none⟩) (fun _ => rfl) _

theorem bt_get (s : ByteArray) (i : Nat) (h : i < s.size) : bt s (i : Int) = ((s.data.toList[i]'(by rw [size_L]; exact h)).toNat : Int) := by
  unfold bt
  rw [dif_pos (by rw [Int.toNat_natCast]; exact h)]
  rfl
def natsB (l : List UInt8) : List Int := l.map (fun b => (b.toNat : Int))
theorem strOf_nats (l : List UInt8) : strOfNums (natsB l) = ⟨l.toArray⟩ := by
  unfold strOfNums natsB
  rw [List.map_map]
  congr 2
  refine (List.map_congr_left (fun b _ => ?_)).trans (List.map_id _)
  show UInt8.ofNat ((b.toNat : Int)).toNat = b
  rw [Int.toNat_natCast]
  exact UInt8.ofNat_toNat
theorem turned_loop (s : ByteArray) (hs : s.size ≤ 8) : ∀ (d k : Nat) (ys : List Int), d ≤ s.size → d < k → ys.length + d ≤ 8 →
    PDecode.holtref1_turned.l0 k s ys ((d : Int) - 1) = some (strOfNums (ys ++ natsB (s.data.toList.take d).reverse)) := by
  intro d
  induction d with
  | zero =>
    intro k ys h1 h2 h3
    obtain ⟨k, rfl⟩ : ∃ m, k = m + 1 := ⟨k - 1, by omega⟩
    rw [PDecode.holtref1_turned.l0, if_neg (by omega)]
    simp [natsB]
  | succ d ih =>
    intro k ys h1 h2 h3
    obtain ⟨k, rfl⟩ : ∃ m, k = m + 1 := ⟨k - 1, by omega⟩
    have hd : d < s.size := by omega
    have hdl : d < s.data.toList.length := by rw [size_L]; exact hd
    have e0 : ((d + 1 : Nat) : Int) - 1 = (d : Int) := by omega
    have c1 : ys.length < 140737488355328 := by omega
    have hi := ih k (ys ++ [bt s (d : Int)]) (by omega) (by omega) (by simp; omega)
    have ew : wrap64 ((d : Int) - 1) = (d : Int) - 1 := by clear hi ih; unfold wrap64; omega
    rw [e0, PDecode.holtref1_turned.l0, if_pos (by omega), if_pos (by omega), if_pos (by omega), if_pos c1, ew, hi]
    congr 2
    rw [List.append_assoc, List.take_succ_eq_append_getElem hdl, List.reverse_append, bt_get s d hd]
    rfl
def ofBeL (l : List UInt8) (a : Nat) : Nat := l.foldl (fun a b => a * 256 + b.toNat) a
theorem ofBeL_rev (l : List UInt8) : ofBeL l.reverse 0 = ofLe l := by
  unfold ofBeL
  rw [List.foldl_reverse]
  induction l with
  | nil => rfl
  | cons b l ih =>
    rw [List.foldr_cons, ih, ofLe]
    omega
theorem ofBe_loop (s : ByteArray) (hs : s.size ≤ 8) : ∀ (d k i a : Nat), i + d = s.size → d < k → a < 256 ^ i →
    PDecode.holtref1_OfBe.l0 k s (a : Int) (i : Int) = some ((ofBeL (s.data.toList.drop i) a : Int), 0) := by
  intro d
  induction d with
  | zero =>
    intro k i a h1 h2 h3
    obtain ⟨k, rfl⟩ : ∃ m, k = m + 1 := ⟨k - 1, by omega⟩
    rw [PDecode.holtref1_OfBe.l0, if_neg (by omega), List.drop_eq_nil_of_le (by rw [size_L]; omega)]
    rfl
  | succ d ih =>
    intro k i a h1 h2 h3
    obtain ⟨k, rfl⟩ : ∃ m, k = m + 1 := ⟨k - 1, by omega⟩
    have hd : i < s.size := by omega
    have hdl : i < s.data.toList.length := by rw [size_L]; exact hd
    have hb := (s.data.toList[i]'hdl).toNat_lt
    have hp : (256 : Nat) ^ (i + 1) ≤ 256 ^ 8 := Nat.pow_le_pow_right (by decide) (by omega)
    have h8 : (256 : Nat) ^ 8 = 18446744073709551616 := by decide
    have hps : (256 : Nat) ^ (i + 1) = 256 ^ i * 256 := Nat.pow_succ ..
    have hi := ih k (i + 1) (a * 256 + (s.data.toList[i]'hdl).toNat) (by omega) (by omega) (by omega)
    have ew : wrap64 ((i : Int) + 1) = ((i + 1 : Nat) : Int) := by clear hi ih h3 hp hps; unfold wrap64; omega
    have eb := bt_get s i hd
    have hdr : s.data.toList.drop i = (s.data.toList[i]'hdl) :: s.data.toList.drop (i + 1) := List.drop_eq_getElem_cons hdl
    have hfold : ofBeL (s.data.toList.drop i) a = ofBeL (s.data.toList.drop (i + 1)) (a * 256 + (s.data.toList[i]'hdl).toNat) := by rw [hdr]; rfl
    rw [hfold]
    clear hdr hfold
    generalize (s.data.toList[i]'hdl) = b at *
    have e1 : IntKind.u64.wrap (bt s (i : Int)) = (b.toNat : Int) := by rw [eb, u64_wrap]; clear hi ih ew; omega
    have e2 : IntKind.u64.wrap ((a : Int) * 256) = ((a * 256 : Nat) : Int) := by rw [u64_wrap]; clear hi ih ew e1; omega
    have e3 : IntKind.u64.wrap (((a * 256 : Nat) : Int) + (b.toNat : Int)) = ((a * 256 + b.toNat : Nat) : Int) := by rw [u64_wrap]; clear hi ih ew e1 e2; omega
    rw [PDecode.holtref1_OfBe.l0, if_pos (by omega), if_pos (by omega), e1, e2, e3, ew, hi]

theorem refOf_f (s : ByteArray) (h1 : 1 ≤ s.size) (hs : s.size ≤ 8) : PDecode.holtref1_OfLe.f 12 s = some ((ofS s : Int), 0) := by
  have ht := turned_loop s hs s.size 12 [] (Nat.le_refl _) (by omega) (by simp; omega)
  rw [List.nil_append, strOf_nats, List.take_of_length_le (by rw [size_L]; omega)] at ht
  have hw : wrap64 ((s.size : Int) - 1) = (s.size : Int) - 1 := by clear ht; unfold wrap64; omega
  have hrs : (⟨s.data.toList.reverse.toArray⟩ : ByteArray).size = s.size := by
    show s.data.toList.reverse.toArray.size = _
    rw [List.size_toArray, List.length_reverse, size_L]
  have hb := ofBe_loop ⟨s.data.toList.reverse.toArray⟩ (by omega) s.size 11 0 0 (by omega) (by omega) (by decide)
  rw [List.drop_zero, show ((0 : Nat) : Int) = 0 from rfl] at hb
  have e2 : ofBeL (⟨s.data.toList.reverse.toArray⟩ : ByteArray).data.toList 0 = ofS s := by
    show ofBeL s.data.toList.reverse 0 = _
    rw [ofBeL_rev]
    unfold ofS
    rw [if_pos ⟨h1, hs⟩]
  rw [e2] at hb
  unfold PDecode.holtref1_OfLe.f PDecode.holtref1_turned.f
  rw [hw, ht, Option.bind_some]
  unfold PDecode.holtref1_OfBe.f
  rw [if_neg (by rw [hrs]; omega), PDecode.holtref1_OfBe.j0, if_neg (by rw [hrs]; simp; omega), hb]
  rfl
theorem refOf_any (s : ByteArray) (h1 : 1 ≤ s.size) (hs : s.size ≤ 8) (w : World) : Calls Try.prog 63 #[.string s] w fun e w' => e = .returned (.tuple #[.int .u64 (ofS s : Int), .int .i64 0]) ∧ Below w.heap.size w w' :=
  PDecode.holtref1_OfLe.calls 12 s _ _ w (refOf_f s h1 hs)
theorem refDecH_any (s : ByteArray) (hs : s.size = 28) (w : World) : Calls Try.prog 65 #[.string s] w fun e w' => e = .returned (.tuple #[.agg #[.int .u32 (decH s).ex, .int .u64 (decH s).snap, .int .u64 (decH s).ino, .int .u64 (decH s).gen], .int .i64 0]) ∧ Below w.heap.size w w' := by
  refine PDecode.holtref21_Decode.calls 12 s _ _ _ _ _ w ?_
  have z : ∀ a b, b ≤ 28 → a < b → b - a ≤ 8 → 1 ≤ (s.extract a b).size ∧ (s.extract a b).size ≤ 8 := fun a b h1 h2 h3 => by
    rw [ByteArray.size_extract]
    omega
  have q1 := z 0 4 (by omega) (by omega) (by omega)
  have q2 := z 4 12 (by omega) (by omega) (by omega)
  have q3 := z 12 20 (by omega) (by omega) (by omega)
  have q4 := z 20 28 (by omega) (by omega) (by omega)
  have hl4 := ofS_lt4 (s.extract 0 4) (by rw [ByteArray.size_extract]; omega)
  unfold PDecode.holtref21_Decode.f decH
  rw [if_pos hs, if_pos (by omega), if_pos (by omega), if_pos (by omega), refOf_f _ q1.1 q1.2, Option.bind_some, if_pos (by omega), if_pos (by omega), refOf_f _ q2.1 q2.2, Option.bind_some, if_pos (by omega), if_pos (by omega), refOf_f _ q3.1 q3.2, Option.bind_some, hs, refOf_f _ q4.1 q4.2, Option.bind_some]
  congr 2
  dsimp only
  omega

end Go.Proofs.Ytibcadfpengacaa

-- RefS
set_option linter.unusedVariables false
set_option linter.unusedSimpArgs false
namespace Go.Proofs.Ytibcadfpengacaa
open Go.RowKit Go.Lib Go.Proofs.YtibcadfpengacaaW.PrintWords Go.Proofs.YtibcadfpengacaaW.PrintMore Go.Proofs.YtibcadfpengacaaW.PrintLast

theorem infoHd : (Try.prog.info? 25).map (·.size) = some 4 := by kernel_rfl
def Rr.num (ρ : Rr) (n : Nat) : Nat := ofS (ρ.took n)
def Rr.hd (ρ : Rr) : Hd := decH (ρ.took 28)
def Rr.textS (ρ : Rr) : ByteArray := if 4096 < ρ.num 4 then ⟨#[]⟩ else (ρ.left 4).took (ρ.num 4)
def Rr.textR (ρ : Rr) : Rr := if 4096 < ρ.num 4 then ⟨(ρ.left 4).s, true⟩ else ((ρ.left 4).left (ρ.num 4)).left (padN (ρ.num 4))
/-- What a read leaves of the reader and of the world. -/
def RrPost (R : Nat) (ρ' : Rr) (w w' : World) : Prop := RrS w' R ρ' ∧ Keeps (fun k => k = R) w w'

set_option maxHeartbeats 4000000 in
set_option maxRecDepth 100000 in
theorem num_rr (R : Nat) (ρ : Rr) (n : Nat) (h1 : 1 ≤ n) (h8 : n ≤ 8) (hs : ρ.s.size ≤ 281474976710656) (w : World) (h : RrS w R ρ) :
    Calls Try.prog 40 #[.pointer (some ⟨R, 0, none⟩), .int .i64 n] w fun e w' => e = .returned (.int .u64 (ρ.num n : Int)) ∧ RrPost R (ρ.left n) w w' := by
  have C := Lib.hid (take_rr R ρ n (by omega) hs w h)
  have D := Lib.hid (refOf_any (ρ.took n) (by rw [Rr.took_size]; exact h1) (by rw [Rr.took_size]; exact h8))
  have HR := Lib.hid h.lt
  clear h h1 h8 hs
  unfold Rr.num
  go_enter Try.func40, Try.ntmps40
  go_wp2_with fail
  refine C.out.mono ?_
  rintro e w1 ⟨rfl, q1, q2⟩
  have Q1 := Lib.hid q1; have Q2 := Lib.hid q2
  clear q1 q2
  go_wp2_with fail
  refine (D.out w1).mono ?_
  rintro e w2 ⟨rfl, hb⟩
  have R1 := Lib.hid (Q1.out.below hb)
  have K1 := Lib.hid (Q2.out.trans (Keeps.of_below_all (S := fun k => k = R) hb) (fun _ _ h => h))
  clear hb
  go_wp2_with fail
  go_ret
  exact ⟨rfl, R1.out, K1.out⟩

set_option maxHeartbeats 4000000 in
set_option maxRecDepth 100000 in
theorem handle_rr (R : Nat) (ρ : Rr) (hs : ρ.s.size ≤ 281474976710656) (w : World) (h : RrS w R ρ) :
    Calls Try.prog 41 #[.pointer (some ⟨R, 0, none⟩)] w fun e w' => e = .returned (.agg #[.int .u32 ρ.hd.ex, .int .u64 ρ.hd.snap, .int .u64 ρ.hd.ino, .int .u64 ρ.hd.gen]) ∧ RrPost R (ρ.left 28) w w' := by
  have hlt := h.lt
  have C := Lib.hid (take_rr R ρ 28 (by omega) hs (w.alloc (.cells #[.int .u32 0, .int .u64 0, .int .u64 0, .int .u64 0] 25)) (h.alloc _))
  have D := Lib.hid (refDecH_any (ρ.took 28) (Rr.took_size _ _))
  have b0 := Blk.new w 25 [.int .u32 0, .int .u64 0, .int .u64 0, .int .u64 0]
  have B0 := Lib.hid b0
  have HLT := Lib.hid hlt
  clear h hs b0
  unfold Rr.hd
  generalize decH (ρ.took 28) = g at *
  go_enter Try.func41, Try.ntmps41
  go_wp2_with fail
  refine C.out.mono ?_
  rintro e w1 ⟨rfl, q1, q2⟩
  have Q1 := Lib.hid q1; have Q2 := Lib.hid q2
  have B1 := Lib.hid (B0.out.kept q2 (by show ¬ w.heap.size = R; omega))
  clear q1 q2
  go_wp2_with fail
  refine (D.out w1).mono ?_
  rintro e w2 ⟨rfl, hb⟩
  have R1 := Lib.hid (Q1.out.below hb)
  have B2 := Lib.hid (B1.out.below hb)
  have K1 := Lib.hid ((((Keeps.refl (fun k => k = R) w).alloc (.cells #[.int .u32 0, .int .u64 0, .int .u64 0, .int .u64 0] 25)).trans Q2.out (fun _ _ h => h)).trans (Keeps.of_below_all (S := fun k => k = R) hb) (fun _ _ h => h))
  have hsz2 := Lib.hid (show w.heap.size < w2.heap.size from B2.out.lt)
  clear hb C D B0 B1 Q1 Q2
  have c0 := B2.out.cell 0 rfl
  have c1 := B2.out.cell 1 rfl
  have c2 := B2.out.cell 2 rfl
  have c3 := B2.out.cell 3 rfl
  have f0 := B2.out.frozen 0
  have f1 := B2.out.frozen 1
  have f2 := B2.out.frozen 2
  have f3 := B2.out.frozen 3
  have hz := hsz2.out
  go_wp2_with fail
  refine bodyPost_ret (v := .agg #[.int .u32 g.ex, .int .u64 g.snap, .int .u64 g.ino, .int .u64 g.gen]) ?_ rfl ⟨rfl, ?_, ?_⟩
  · have BF := ((((B2.out.set 0 (.int .u32 g.ex)).set 1 (.int .u64 g.snap)).set 2 (.int .u64 g.ino)).set 3 (.int .u64 g.gen)).alloc (.cells #[.int .u32 g.ex, .int .u64 g.snap, .int .u64 g.ino, .int .u64 g.gen] 25)
    exact results_cell Try.results41 (by rfl) (run_loadVar_mid _ w.heap.size 0 25 _ _ BF.range Try.underlying25 rfl infoHd)
  · have hne : R ≠ w.heap.size := by have := HLT.out; omega
    exact ((((R1.out.other (a := ⟨w.heap.size, 0, none⟩) hne _).other (a := ⟨w.heap.size, 1, none⟩) hne _).other (a := ⟨w.heap.size, 2, none⟩) hne _).other (a := ⟨w.heap.size, 3, none⟩) hne _).alloc _
  · exact ((((K1.out.setCell (a := ⟨w.heap.size, 0, none⟩) (fun h => absurd h (Nat.lt_irrefl _)) _).setCell (a := ⟨w.heap.size, 1, none⟩) (fun h => absurd h (Nat.lt_irrefl _)) _).setCell (a := ⟨w.heap.size, 2, none⟩) (fun h => absurd h (Nat.lt_irrefl _)) _).setCell (a := ⟨w.heap.size, 3, none⟩) (fun h => absurd h (Nat.lt_irrefl _)) _).alloc _

set_option maxHeartbeats 4000000 in
set_option maxRecDepth 100000 in
theorem text_rr (R : Nat) (ρ : Rr) (hs : ρ.s.size ≤ 281474976710656) (w : World) (h : RrS w R ρ) :
    Calls Try.prog 42 #[.pointer (some ⟨R, 0, none⟩)] w fun e w' => e = .returned (.string ρ.textS) ∧ RrPost R ρ.textR w w' := by
  have C := Lib.hid (num_rr R ρ 4 (by omega) (by omega) hs w h)
  have hl := Rr.left_size ρ 4
  have hl2 : (ρ.left 4).s.size ≤ 281474976710656 := by omega
  have HLT := Lib.hid h.lt
  unfold Rr.textS Rr.textR
  generalize hn : ρ.num 4 = n at *
  generalize ρ.left 4 = ρ1 at *
  clear h hs hl hn
  by_cases hbig : 4096 < n
  · rw [if_pos hbig, if_pos hbig]
    have hb1 : (4096 : Int) < (n : Int) := by omega
    have Hl2 := Lib.hid hl2
    clear hl2
    go_enter Try.func42, Try.ntmps42
    go_wp2_with fail
    refine C.out.mono ?_
    rintro e w1 ⟨rfl, q1, q2⟩
    have hc0 := q1.cell 0 rfl
    have hc1 := q1.cell 1 rfl
    have hf1 := q1.frozen 1
    have Q1 := Lib.hid q1; have Q2 := Lib.hid q2
    clear q1 q2
    go_wp2_with fail
    go_ret
    exact ⟨rfl, Q1.out.set 1 (.bool true), Q2.out.setCell (a := ⟨R, 1, none⟩) (fun _ => rfl) _⟩
  · rw [if_neg hbig, if_neg hbig]
    have hb1 : ¬ (4096 : Int) < (n : Int) := by omega
    have hb2 : (n : Int) ≤ 4096 := by omega
    have hb0 : (0 : Int) ≤ (n : Int) := by omega
    have hpad : (4 - (n : Int) % 4) % 4 = (padN n : Int) := by unfold padN; omega
    have hpl : padN n < 4 := Nat.mod_lt _ (by decide)
    have hl3 := Rr.left_size ρ1 n
    have C2 := Lib.hid (fun w h => take_rr R ρ1 n (by omega) hl2 w h)
    have C3 := Lib.hid (fun w h => take_rr R (ρ1.left n) (padN n) (by omega) (by omega) w h)
    clear hl2 hl3 hbig
    go_enter Try.func42, Try.ntmps42
    go_wp2_with fail
    refine C.out.mono ?_
    rintro e w1 ⟨rfl, q1, q2⟩
    have Q1 := Lib.hid q1; have Q2 := Lib.hid q2
    clear q1 q2
    go_wp2_with fail
    refine (C2.out w1 Q1.out).mono ?_
    rintro e w2 ⟨rfl, q1, q2⟩
    have Q3 := Lib.hid q1; have Q4 := Lib.hid (Q2.out.trans q2 (fun _ _ h => h))
    clear q1 q2
    go_wp2_with fail
    refine (C3.out w2 Q3.out).mono ?_
    rintro e w3 ⟨rfl, q1, q2⟩
    have Q5 := Lib.hid q1; have Q6 := Lib.hid (Q4.out.trans q2 (fun _ _ h => h))
    clear q1 q2
    go_wp2_with fail
    go_ret
    exact ⟨rfl, Q5.out, Q6.out⟩

end Go.Proofs.Ytibcadfpengacaa

-- RefT
set_option linter.unusedVariables false
set_option linter.unusedSimpArgs false
namespace Go.Proofs.Ytibcadfpengacaa
open Go.RowKit Go.Lib

def mr (l : List UInt8) : Rr := ⟨⟨l.toArray⟩, false⟩
theorem mr_size (l : List UInt8) : (mr l).s.size = l.length := by
  show l.toArray.size = l.length
  simp
theorem rtook_mk (a t : List UInt8) (n : Nat) (h : a.length = n) : (mr (a ++ t)).took n = ⟨a.toArray⟩ := by
  unfold Rr.took
  rw [if_neg (by rw [mr_size, List.length_append]; omega), extract_eq]
  subst h
  show (⟨(List.take (a.length - 0) (List.drop 0 (a ++ t).toArray.toList)).toArray⟩ : ByteArray) = _
  simp
theorem rleft_mk (a t : List UInt8) (n : Nat) (h : a.length = n) : (mr (a ++ t)).left n = mr t := by
  unfold Rr.left
  have hs : (mr (a ++ t)).s.size = a.length + t.length := by rw [mr_size, List.length_append]
  rw [if_neg (by omega), extract_eq, hs]
  subst h
  show (⟨⟨(List.take (a.length + t.length - a.length) (List.drop a.length (a ++ t).toArray.toList)).toArray⟩, false⟩ : Rr) = _
  simp [mr]
theorem rnum_mk (x n : Nat) (h1 : 1 ≤ n) (h8 : n ≤ 8) (hx : x < 256 ^ n) (t : List UInt8) : (mr (leB x n ++ t)).num n = x := by
  unfold Rr.num
  rw [rtook_mk _ _ _ (leB_length _ _), ofS_leB x n h1 h8 hx]
theorem rleftn_mk (x n : Nat) (t : List UInt8) : (mr (leB x n ++ t)).left n = mr t := rleft_mk _ _ _ (leB_length _ _)
theorem rlefth_mk (h : Hd) (t : List UInt8) : (mr (h.lay ++ t)).left 28 = mr t := rleft_mk _ _ _ (lay_length h)
theorem rhd_mk (h : Hd) (hk : h.Ok) (t : List UInt8) : (mr (h.lay ++ t)).hd = h := by
  unfold Rr.hd
  rw [rtook_mk _ _ _ (lay_length h), decH_lay h hk]
theorem rtext_mk (s : ByteArray) (h : s.size ≤ 4096) (t : List UInt8) : (mr (txt s ++ t)).textS = s ∧ (mr (txt s ++ t)).textR = mr t := by
  have f1 : (256 : Nat) ^ 4 = 4294967296 := by decide
  have e : txt s ++ t = leB s.size 4 ++ (s.data.toList ++ (List.replicate (padN s.size) 0 ++ t)) := by unfold txt; simp only [List.append_assoc]
  have hn := rnum_mk s.size 4 (by omega) (by omega) (by omega) (s.data.toList ++ (List.replicate (padN s.size) 0 ++ t))
  have hl := rleftn_mk s.size 4 (s.data.toList ++ (List.replicate (padN s.size) 0 ++ t))
  have hsz : s.data.toList.length = s.size := by rw [Array.length_toList]; rfl
  have ht := rtook_mk s.data.toList (List.replicate (padN s.size) 0 ++ t) s.size hsz
  have hl2 := rleft_mk s.data.toList (List.replicate (padN s.size) 0 ++ t) s.size hsz
  have hl3 := rleft_mk (List.replicate (padN s.size) 0) t (padN s.size) (by simp)
  rw [e]
  unfold Rr.textS Rr.textR
  rw [hn, if_neg (by omega), if_neg (by omega), hl, ht, hl2, hl3]
  exact ⟨rfl, rfl⟩

def Rr.entV (ρ : Rr) : Ent := ⟨ρ.textS, ρ.textR.num 8, (ρ.textR.left 8).num 8⟩
def Rr.entR (ρ : Rr) : Rr := (ρ.textR.left 8).left 8
def Rr.ents (ρ : Rr) : Nat → List Ent × Rr
  | 0 => ([], ρ)
  | k + 1 => ((ρ.ents k).1 ++ [(ρ.ents k).2.entV], (ρ.ents k).2.entR)
theorem Rr.ents_length (ρ : Rr) : ∀ k, (ρ.ents k).1.length = k
  | 0 => rfl
  | k + 1 => by rw [Rr.ents, List.length_append, Rr.ents_length ρ k]; rfl
theorem rents_mk (es : List Ent) (h : ∀ e ∈ es, e.name.size ≤ 4096 ∧ U64 e.ino ∧ U64 e.cookie) (t : List UInt8) : ∀ k, k ≤ es.length →
    (mr (es.flatMap entL ++ t)).ents k = (es.take k, mr ((es.drop k).flatMap entL ++ t)) := by
  intro k
  induction k with
  | zero => intro _; simp [Rr.ents]
  | succ k ih =>
    intro hk
    have hkl : k < es.length := by omega
    rw [Rr.ents, ih (by omega)]
    dsimp only
    obtain ⟨h1, h2, h3⟩ := h _ (List.getElem_mem hkl)
    rw [List.drop_eq_getElem_cons hkl, List.flatMap_cons, List.take_succ_eq_append_getElem hkl]
    generalize es[k] = e at *
    have e1 : entL e ++ (es.drop (k + 1)).flatMap entL ++ t = txt e.name ++ (leB e.ino.toNat 8 ++ (leB e.cookie.toNat 8 ++ ((es.drop (k + 1)).flatMap entL ++ t))) := by unfold entL; simp only [List.append_assoc]
    rw [e1]
    have t1 := rtext_mk e.name h1 (leB e.ino.toNat 8 ++ (leB e.cookie.toNat 8 ++ ((es.drop (k + 1)).flatMap entL ++ t)))
    unfold Rr.entV Rr.entR
    rw [t1.1, t1.2, rnum_mk _ 8 (by omega) (by omega) (u64_lt h2), rleftn_mk, rnum_mk _ 8 (by omega) (by omega) (u64_lt h3), rleftn_mk]
    congr 2
    cases e
    simp only [Ent.mk.injEq, List.cons.injEq, and_true, true_and]
    exact ⟨Int.toNat_of_nonneg h2.1, Int.toNat_of_nonneg h3.1⟩

end Go.Proofs.Ytibcadfpengacaa

-- RefU
set_option linter.unusedVariables false
set_option linter.unusedSimpArgs false
namespace Go.Proofs.Ytibcadfpengacaa
open Go.RowKit Go.Lib Go.Proofs.YtibcadfpengacaaW.PrintWords Go.Proofs.YtibcadfpengacaaW.PrintMore Go.Proofs.YtibcadfpengacaaW.PrintLast

theorem Blk.setMid {b : Nat} {t : TypeId} (c : List Value) (vs : List Value) : ∀ (a old : List Value) (w : World), Blk w b t (a ++ (old ++ c)) → old.length = vs.length → Blk (w.setCells b a.length vs) b t (a ++ (vs ++ c)) := by
  induction vs with
  | nil =>
    intro a old w h hl
    have : old = [] := List.eq_nil_of_length_eq_zero (by simpa using hl)
    subst this
    exact h
  | cons v vs ih =>
    intro a old w h hl
    match old, hl with
    | x :: old, hl =>
      have h2 := h.set a.length v
      rw [List.set_append_right _ _ (Nat.le_refl _), Nat.sub_self, List.cons_append, List.set_cons_zero] at h2
      have h3 := ih (a ++ [v]) old (w.setCell ⟨b, a.length, none⟩ v) (by simpa using h2) (by simpa using hl)
      simpa [World.setCells] using h3
theorem Blk.thereMid {b : Nat} {t : TypeId} {cs : List Value} {w : World} (h : Blk w b t cs) (o n : Nat) (hn : o + n ≤ cs.length) : w.there b o n := fun j hj => by
  exact ⟨by rw [h.cell (o + j) (List.getElem?_eq_getElem (show o + j < cs.length by omega))]; rfl, h.frozen (o + j)⟩

/-! GEN -/
/-- What the reference's Decode leaves. -/
def RefPost (s : ByteArray) (w : World) (e : Ending) (w' : World) : Prop :=
  ∃ (M : Msg) (A : Option Addr) (cap : Nat) (C : Int), e = .returned (.tuple #[.agg (M.vs (.slice A M.list.length cap)).toArray, .int .i64 C]) ∧ (EntsR w' A M.list ∧ ∀ b o, A = some ⟨b, o, none⟩ → w.heap.size ≤ b) ∧ Below w.heap.size w w' ∧
    ((C = 0 ∧ M.Ok ∧ M.refE = (s, 0)) ∨ (C = 2200 ∧ M = Msg.zero ∧ decOk s = false))
theorem ba_inj {a b : ByteArray} (h : a.toList = b.toList) : a = b := by
  rw [ByteArray.toList_eq, ByteArray.toList_eq] at h
  exact ByteArray.ext (Array.toList_inj.1 h)
theorem ents_nil (w : World) (A : Option Addr) : EntsR w A [] := fun i e h => by simp at h
theorem no_addr (n : Nat) : ∀ b o, (none : Option Addr) = some ⟨b, o, none⟩ → n ≤ b := fun _ _ h => by cases h

def NumC (ρ ρ' : Rr) (n : Int) (v : Int) : Prop := ∀ R w, RrS w R ρ → Calls Try.prog 40 #[.pointer (some ⟨R, 0, none⟩), .int .i64 n] w fun e w' => e = .returned (.int .u64 v) ∧ RrPost R ρ' w w'
def HdC (ρ ρ' : Rr) (h : Hd) : Prop := ∀ R w, RrS w R ρ → Calls Try.prog 41 #[.pointer (some ⟨R, 0, none⟩)] w fun e w' => e = .returned (.agg #[.int .u32 h.ex, .int .u64 h.snap, .int .u64 h.ino, .int .u64 h.gen]) ∧ RrPost R ρ' w w'
def TxtC (ρ ρ' : Rr) (v : ByteArray) : Prop := ∀ R w, RrS w R ρ → Calls Try.prog 42 #[.pointer (some ⟨R, 0, none⟩)] w fun e w' => e = .returned (.string v) ∧ RrPost R ρ' w w'

/-- What stands while the reference reads: its reader, the answer's place. -/
structure RefH (w0 w : World) (R g2 : Nat) (ρ : Rr) : Prop where
  r : RrS w R ρ
  z : Blk w g2 36 zcs
  bl : Below w0.heap.size w0 w
  hR : w0.heap.size ≤ R
  h2 : w0.heap.size ≤ g2
  n2 : g2 ≠ R
theorem RefH.next {w0 w w' : World} {R g2 : Nat} {ρ ρ' : Rr} (h : RefH w0 w R g2 ρ) (q : RrPost R ρ' w w') : RefH w0 w' R g2 ρ' :=
  ⟨q.1, h.z.kept q.2 h.n2, h.bl.trans (q.2.below (B := w0.heap.size) h.bl.size (fun k hk => by show ¬ k = R; have := h.hR; omega)), h.hR, h.h2, h.n2⟩
/-- .. and the message that is read, at gm. -/
structure RefI (w0 w : World) (R g2 gm : Nat) (ρ : Rr) (cs : List Value) : Prop extends RefH w0 w R g2 ρ where
  m : Blk w gm 36 cs
  hm : w0.heap.size ≤ gm
  n1 : gm ≠ R
  n3 : g2 ≠ gm
theorem RefI.next {w0 w w' : World} {R g2 gm : Nat} {ρ ρ' : Rr} {cs : List Value} (h : RefI w0 w R g2 gm ρ cs) (q : RrPost R ρ' w w') : RefI w0 w' R g2 gm ρ' cs :=
  ⟨h.toRefH.next q, h.m.kept q.2 h.n1, h.hm, h.n1, h.n3⟩
theorem RefI.below {w0 w w' : World} {R g2 gm : Nat} {ρ : Rr} {cs : List Value} (h : RefI w0 w R g2 gm ρ cs) (hb : Below w.heap.size w w') : RefI w0 w' R g2 gm ρ cs :=
  ⟨⟨h.r.below hb, h.z.below hb, h.bl.trans (hb.mono h.bl.size), h.hR, h.h2, h.n2⟩, h.m.below hb, h.hm, h.n1, h.n3⟩
theorem RefI.bad {w0 w : World} {R g2 gm : Nat} {ρ : Rr} {cs : List Value} (h : RefI w0 w R g2 gm ρ cs) : RefI w0 (w.setCell ⟨R, 1, none⟩ (.bool true)) R g2 gm ⟨ρ.s, true⟩ cs := by
  have k := (Keeps.refl (fun k => k = R) w).setCell (a := ⟨R, 1, none⟩) (fun _ => rfl) (.bool true)
  exact h.next ⟨h.r.set 1 (.bool true), k⟩
theorem RefI.put {w0 w w' : World} {R g2 gm : Nat} {ρ : Rr} {cs cs' : List Value} (h : RefI w0 w R g2 gm ρ cs) (k : Keeps (fun k => k = gm) w w') (hc : Blk w' gm 36 cs') : RefI w0 w' R g2 gm ρ cs' :=
  ⟨⟨h.r.kept k (fun e => h.n1 e.symm), h.z.kept k h.n3, h.bl.trans (k.below (B := w0.heap.size) h.bl.size (fun k hk => by show ¬ k = gm; have := h.hm; omega)), h.hR, h.h2, h.n2⟩, hc, h.hm, h.n1, h.n3⟩
theorem RefI.set {w0 w : World} {R g2 gm : Nat} {ρ : Rr} {cs : List Value} (h : RefI w0 w R g2 gm ρ cs) (j : Nat) (v : Value) : RefI w0 (w.setCell ⟨gm, j, none⟩ v) R g2 gm ρ (cs.set j v) :=
  h.put ((Keeps.refl (fun k => k = gm) w).setCell (a := ⟨gm, j, none⟩) (fun _ => rfl) v) (h.m.set j v)
theorem RefI.putMid {w0 w : World} {R g2 gm : Nat} {ρ : Rr} (a old vs c : List Value) (h : RefI w0 w R g2 gm ρ (a ++ (old ++ c))) (hl : old.length = vs.length) : RefI w0 (w.setCells gm a.length vs) R g2 gm ρ (a ++ (vs ++ c)) :=
  h.put (Keeps.setCells (S := fun k => k = gm) vs a.length w (Keeps.refl _ _) (fun _ => rfl)) (Blk.setMid c vs a old w h.m hl)
/-- A list of which some are set. -/
def setL (cs : List Value) : Nat → List Value → List Value
  | _, [] => cs
  | o, v :: vs => setL (cs.set o v) (o + 1) vs
theorem RefI.sets {w0 : World} {R g2 gm : Nat} {ρ : Rr} (vs : List Value) : ∀ (o : Nat) (w : World) (cs : List Value), RefI w0 w R g2 gm ρ cs → RefI w0 (w.setCells gm o vs) R g2 gm ρ (setL cs o vs) := by
  induction vs with
  | nil => intro o w cs h; exact h
  | cons v vs ih => intro o w cs h; exact ih (o + 1) _ _ (h.set o v)
theorem infoStamp : (Try.prog.info? 34).map (·.size) = some 2 := by kernel_rfl
def hdVs (h : Hd) : List Value := [.int .u32 h.ex, .int .u64 h.snap, .int .u64 h.ino, .int .u64 h.gen]
theorem hdVs_one (h : Hd) : ∀ v ∈ hdVs h, v.oneCell' = true := by
  intro v hv
  simp only [hdVs, List.mem_cons, List.not_mem_nil, or_false] at hv
  rcases hv with h | h | h | h <;> (subst h; rfl)
def stVs (gb gn : Int) : List Value := [.int .u64 gb, .int .u64 gn]
theorem stVs_one (gb gn : Int) : ∀ v ∈ stVs gb gn, v.oneCell' = true := by
  intro v hv
  simp only [stVs, List.mem_cons, List.not_mem_nil, or_false] at hv
  rcases hv with h | h <;> (subst h; rfl)
theorem RefI.over {w0 w : World} {R g2 gm : Nat} {ρ : Rr} {cs : List Value} (h : RefI w0 w R g2 gm ρ cs) (vs : List Value) (hl : vs.length = 33) : Blk (w.setCells g2 0 vs) g2 36 vs ∧ Below w0.heap.size w0 (w.setCells g2 0 vs) ∧ ∀ A es, (∀ b o, A = some ⟨b, o, none⟩ → b ≠ g2) → EntsR w A es → EntsR (w.setCells g2 0 vs) A es := by
  have k := Keeps.setCells (S := fun k => k = g2) vs 0 w (Keeps.refl _ _) (fun _ => rfl)
  refine ⟨h.z.setAll vs (by rw [hl]; rfl), h.bl.trans (k.below (B := w0.heap.size) h.bl.size (fun k hk => by show ¬ k = g2; have := h.h2; omega)), fun A es hA he => he.kept k (fun b o e _ => hA b o e)⟩

theorem refI_new {w0 w w' : World} {R g2 gm : Nat} {ρ : Rr} {cs : List Value} (h : RefH w0 w R g2 ρ) (b : Blk w' gm 36 cs) (hb : Below w.heap.size w w') (hg : gm = w.heap.size) : RefI w0 w' R g2 gm ρ cs :=
  ⟨⟨h.r.below hb, h.z.below hb, h.bl.trans (hb.mono h.bl.size), h.hR, h.h2, h.n2⟩, b, by rw [hg]; exact h.bl.size, by have := h.r.lt; omega, by have := h.z.lt; omega⟩
def askVs (op : Int) (h h2 : Hd) (nm nm2 : ByteArray) (off num : Int) (data : ByteArray) : List Value := [.int .i64 op, .int .u32 h.ex, .int .u64 h.snap, .int .u64 h.ino, .int .u64 h.gen, .int .u32 h2.ex, .int .u64 h2.snap, .int .u64 h2.ino, .int .u64 h2.gen, .string nm, .string nm2, .int .u64 off, .int .u64 num, .string data]
theorem askVs_one (op : Int) (h h2 : Hd) (nm nm2 : ByteArray) (off num : Int) (data : ByteArray) : ∀ v ∈ askVs op h h2 nm nm2 off num data, v.oneCell' = true := by
  intro v hv
  simp only [askVs, List.mem_cons, List.not_mem_nil, or_false] at hv
  rcases hv with h | h | h | h | h | h | h | h | h | h | h | h | h | h <;> (subst h; rfl)

/-- A message of which the head is known. -/
def hm (k c x : Int) : List Value := ({ Msg.zero with kind := k, client := c, xid := x } : Msg).vs (.slice none 0 0)
theorem hm_one (k c x : Int) : ∀ v ∈ hm k c x, v.oneCell' = true := Msg.one _ none 0 0
theorem hm_len (k c x : Int) : (hm k c x).length = 33 := rfl

set_option maxHeartbeats 8000000 in
set_option maxRecDepth 100000 in
theorem refdec_call (s : ByteArray) (ρ0 ρ1 ρ2 ρ3 ρ4 ρ5 ρ6 ρ7 ρ8 ρ9 ρ10 : Rr) (r : ByteArray) (bd : Bool) (hρ0 : Hid (ρ0 = ⟨s, false⟩)) (k c x op : Int) (h h2 : Hd) (nm nm2 : ByteArray) (off num : Int) (data : ByteArray)
    (C1 : Hid (NumC ρ0 ρ1 1 k)) (C2 : Hid (NumC ρ1 ρ2 4 c)) (C3 : Hid (NumC ρ2 ρ3 8 x)) (C4 : Hid (NumC ρ3 ρ4 1 op)) (C5 : Hid (HdC ρ4 ρ5 h)) (C6 : Hid (HdC ρ5 ρ6 h2)) (C7 : Hid (TxtC ρ6 ρ7 nm)) (C8 : Hid (TxtC ρ7 ρ8 nm2)) (C9 : Hid (NumC ρ8 ρ9 8 off)) (C10 : Hid (NumC ρ9 ρ10 8 num)) (C11 : Hid (TxtC ρ10 ⟨r, bd⟩ data))
    (k0 : 0 ≤ k) (k9 : k ≤ 255) (c0' : 0 ≤ c) (c9 : c ≤ 4294967295) (o0 : 0 ≤ op) (o9 : op ≤ 255) (hk1 : (k == 1) = true)
    (m : Msg) (hm1 : Hid (m = ⟨k, c, x, op, h, h2, nm, nm2, off, num, data, 0, Hd.zero, 0, 0, 0, 0, ⟨#[]⟩, false, 0, [], 0, 0, 0⟩))
    (hok : Hid m.Ok) (hfw : Hid (decOk s = true → bd = false ∧ r.size = 0 ∧ m.refE = (s, 0))) (w : World) :
    Calls Try.prog 15 #[.string s] w (RefPost s w) := by
  go_enter Try.func15, Try.ntmps15
  go_wp2_with (first
    | ((with_reducible refine gate_dst (N := 2) rfl ?_); refine box_event rfl (N := 2) rfl (run_allocM _ _ rfl _) ?_; intro g2 hg2 v1 hbox hbel; have BZ := Lib.hid (show Blk v1 g2 36 zcs from hbox); have BLg2 := Lib.hid hbel; have Hg2 := Lib.hid hg2; clear hbox hbel hg2)
    | ((with_reducible refine gate_dst (N := 13) rfl ?_); refine box_event rfl (N := 13) rfl (run_box _ _ _ 95 _ #[.string s, .bool false] rfl rfl _) ?_; intro gR hgR u0 hbox hbel; have BR := Lib.hid (show Blk u0 gR 95 [.string s, .bool false] from hbox); have BLR := Lib.hid hbel; have HgR := Lib.hid hgR; clear hbox hbel hgR))
  have Iu0 : Hid (RefH w u0 gR g2 ρ0) := Lib.hid ⟨hρ0.out ▸ BR.out, BZ.out.below BLR.out, BLg2.out.trans (BLR.out.mono BLg2.out.size), by rw [HgR.out]; exact BLg2.out.size, Nat.le_of_eq Hg2.out.symm, by have := BZ.out.lt; have := HgR.out; omega⟩
  clear BR BZ BLR BLg2 HgR Hg2
  refine (C1.out _ u0 Iu0.out.r).mono ?_
  rintro e u1 ⟨rfl, q⟩
  have Iu1 := Lib.hid (Iu0.out.next q); clear q
  go_wp2_with fail
  refine (C2.out _ u1 Iu1.out.r).mono ?_
  rintro e u2 ⟨rfl, q⟩
  have Iu2 := Lib.hid (Iu1.out.next q); clear q
  go_wp2_with fail
  refine (C3.out _ u2 Iu2.out.r).mono ?_
  rintro e u3 ⟨rfl, q⟩
  have Iu3 := Lib.hid (Iu2.out.next q); clear q
  go_wp2_with (first
    | ((with_reducible refine gate_dst (N := 22) rfl ?_); refine Kd.event_run (v := .agg (hm k c x).toArray) rfl ?hr ?_; (case hr => go_simp; rfl))
    | ((with_reducible refine gate_dst (N := 5) rfl ?_); refine box_event rfl (N := 5) rfl (run_allocM _ _ rfl _) ?_; intro gm hgm v5 hbox hbel; have Bgm := Lib.hid (show Blk v5 gm 36 zcs from hbox); have BLgm := Lib.hid hbel; have Hgm := Lib.hid hgm; clear hbox hbel hgm)
    | ((with_reducible refine gate_store (t := 36) (p := 5) rfl ?_); refine wpList_store_mid rfl 36 _ _ rfl gm 0 (hm k c x).toArray rfl rfl ?ht ?hi ?h1 ?_; (case ht => exact Bgm.out.there _ (by rw [List.size_toArray, hm_len k c x]; exact Nat.le_refl 33)); (case hi => rw [List.size_toArray, hm_len k c x]; exact infoMsg); (case h1 => exact all_oneCell_toArray (hm_one k c x)); have B2gm := Lib.hid (Bgm.out.setAll (hm k c x) (by rw [hm_len k c x]; rfl)); have Kgm := Lib.hid (Keeps.setCells (S := fun k => k = gm) (hm k c x) 0 v5 (Keeps.refl _ _) (fun _ => rfl)); change wpList _ _ _ _ _ (v5.setCells gm 0 (hm k c x)); generalize v5.setCells gm 0 (hm k c x) = u4 at B2gm Kgm ⊢; have BMgm := Lib.hid (BLgm.out.trans (Kgm.out.below BLgm.out.size (fun k hk => by show ¬ k = gm; have := Hgm.out; omega))); have HHgm := Lib.hid Hgm.out; clear Bgm BLgm Kgm Hgm; have Iu4 : Hid (RefI w u4 gR g2 gm ρ3 (hm k c x)) := Lib.hid (refI_new Iu3.out B2gm.out BMgm.out HHgm.out); clear Iu3 B2gm BMgm HHgm; have c0 := Iu4.out.m.cell 0 rfl))
  refine (C4.out _ u4 Iu4.out.r).mono ?_
  rintro e u5 ⟨rfl, q⟩
  have Iu5 := Lib.hid (Iu4.out.next q); clear q
  go_wp2_with fail
  refine (C5.out _ u5 Iu5.out.r).mono ?_
  rintro e u6 ⟨rfl, q⟩
  have Iu6 := Lib.hid (Iu5.out.next q); clear q
  go_wp2_with fail
  refine (C6.out _ u6 Iu6.out.r).mono ?_
  rintro e u7 ⟨rfl, q⟩
  have Iu7 := Lib.hid (Iu6.out.next q); clear q
  go_wp2_with fail
  refine (C7.out _ u7 Iu7.out.r).mono ?_
  rintro e u8 ⟨rfl, q⟩
  have Iu8 := Lib.hid (Iu7.out.next q); clear q
  go_wp2_with fail
  refine (C8.out _ u8 Iu8.out.r).mono ?_
  rintro e u9 ⟨rfl, q⟩
  have Iu9 := Lib.hid (Iu8.out.next q); clear q
  go_wp2_with fail
  refine (C9.out _ u9 Iu9.out.r).mono ?_
  rintro e u10 ⟨rfl, q⟩
  have Iu10 := Lib.hid (Iu9.out.next q); clear q
  go_wp2_with fail
  refine (C10.out _ u10 Iu10.out.r).mono ?_
  rintro e u11 ⟨rfl, q⟩
  have Iu11 := Lib.hid (Iu10.out.next q); clear q
  go_wp2_with fail
  refine (C11.out _ u11 Iu11.out.r).mono ?_
  rintro e u12 ⟨rfl, q⟩
  have Iu12 := Lib.hid (Iu11.out.next q); clear q
  have kn : (k != 1) = false := by simpa using hk1
  obtain ⟨cs, hcs⟩ : ∃ cs, cs = m.vs (.slice none m.list.length 0) := ⟨_, rfl⟩
  have Hco : Hid (∀ v ∈ cs, v.oneCell' = true) := Lib.hid (by rw [hcs]; exact m.one _ _ _)
  have Hcl : Hid (cs.length = 33) := Lib.hid (by rw [hcs]; rfl)
  have HE : Hid (∀ w, EntsR w none m.list → Calls Try.prog 10 #[.agg cs.toArray] w fun e w' => e = .returned (.tuple #[.string m.refE.1, .int .i64 m.refE.2]) ∧ Below w.heap.size w w') := Lib.hid (fun w h => by rw [hcs]; exact refEncode_any m none 0 hok.out (by rw [hm1.out]; exact Nat.le_refl 0) w h)
  have Hk0 : Hid (cs[0]? = some (.int .i64 k)) := Lib.hid (by rw [hcs, hm1.out]; rfl)
  have Hcs0 : Hid ([.int .i64 k, .int .u32 c, .int .u64 x] ++ (askVs op h h2 nm nm2 off num data ++ (zans ++ [.int .u64 0, .int .u64 0, .int .u64 0])) = cs) := Lib.hid (by rw [hcs, hm1.out]; rfl)
  have Hcs := Lib.hid hcs
  clear hcs
  have hnl : m.list = [] := by rw [hm1.out]
  have EA : Hid (∀ w, EntsR w none m.list) := Lib.hid (fun w => by rw [hnl]; exact ents_nil _ _)
  have NA : Hid (∀ b o, (none : Option Addr) = some ⟨b, o, none⟩ → b ≠ g2) := Lib.hid (fun _ _ h => by cases h); have NB : Hid (∀ b o, (none : Option Addr) = some ⟨b, o, none⟩ → w.heap.size ≤ b) := Lib.hid (no_addr _)
  clear hnl
  cases bd
  rotate_left
  · skip
    go_wp2_with (first
    | ((with_reducible refine gate_store (t := 27) (p := 48) rfl ?_); refine wpList_store_mid rfl 27 _ _ rfl gm 3 (askVs op h h2 nm nm2 off num data).toArray rfl rfl ?ht ?hi ?h1 ?_; (case ht => exact Iu12.out.m.thereMid 3 14 (show (17 : Nat) ≤ 33 from by decide)); (case hi => exact infoAsk); (case h1 => exact all_oneCell_toArray (askVs_one _ _ _ _ _ _ _ _)); have Iu13 := Lib.hid (RefI.putMid [.int .i64 k, .int .u32 c, .int .u64 x] zask (askVs op h h2 nm nm2 off num data) (zans ++ [.int .u64 0, .int .u64 0, .int .u64 0]) Iu12.out rfl); change wpList _ _ _ _ _ (u12.setCells gm 3 (askVs op h h2 nm nm2 off num data)); change Hid (RefI w (u12.setCells gm 3 (askVs op h h2 nm nm2 off num data)) _ _ _ _ _) at Iu13; generalize u12.setCells gm 3 (askVs op h h2 nm nm2 off num data) = u13 at Iu13 ⊢; replace Iu13 := Lib.hid (Hcs0.out ▸ Iu13.out); have r0 := Iu13.out.r.cell 0 rfl; have r1 := Iu13.out.r.cell 1 rfl; dsimp only at r0 r1; have c0 := Iu13.out.m.cell 0 Hk0.out)
      | ((with_reducible refine gate_dst (N := 156) rfl ?_); refine Kd.event_run rfl (run_buildM _ _ rfl _) ?_)
      | ((with_reducible refine gate_store (t := 36) (p := 2) rfl ?_); refine wpList_store_mid rfl 36 _ _ rfl g2 0 zcs.toArray rfl rfl ?ht ?hi ?h1 ?_; (case ht => exact Iu13.out.z.there 33 (Nat.le_refl 33)); (case hi => exact infoMsg); (case h1 => exact all_oneCell_toArray zcs_one); have OV := Lib.hid (Iu13.out.over zcs rfl); change wpList _ _ _ _ _ (u13.setCells g2 0 zcs); generalize u13.setCells g2 0 zcs = vz at OV ⊢))
    refine bodyPost_ret (v := .tuple #[.agg zcs.toArray, .int .i64 2200]) (results_cell_tmp Try.results15 (by rfl) (by rfl) (load_msg OV.out.1 zcs_len)) rfl ⟨Msg.zero, none, 0, 2200, rfl, ⟨ents_nil _ _, no_addr _⟩, OV.out.2.1, .inr ⟨rfl, rfl, ?_⟩⟩
    cases hd : decOk s
    · rfl
    · exact absurd (hfw.out hd) (by rintro ⟨h1, _⟩; cases h1)
  rcases orFalse ((r.size : Int) == 0) with z0 | z0
  rotate_left
  · skip
    go_wp2_with (first
    | ((with_reducible refine gate_store (t := 27) (p := 48) rfl ?_); refine wpList_store_mid rfl 27 _ _ rfl gm 3 (askVs op h h2 nm nm2 off num data).toArray rfl rfl ?ht ?hi ?h1 ?_; (case ht => exact Iu12.out.m.thereMid 3 14 (show (17 : Nat) ≤ 33 from by decide)); (case hi => exact infoAsk); (case h1 => exact all_oneCell_toArray (askVs_one _ _ _ _ _ _ _ _)); have Iu13 := Lib.hid (RefI.putMid [.int .i64 k, .int .u32 c, .int .u64 x] zask (askVs op h h2 nm nm2 off num data) (zans ++ [.int .u64 0, .int .u64 0, .int .u64 0]) Iu12.out rfl); change wpList _ _ _ _ _ (u12.setCells gm 3 (askVs op h h2 nm nm2 off num data)); change Hid (RefI w (u12.setCells gm 3 (askVs op h h2 nm nm2 off num data)) _ _ _ _ _) at Iu13; generalize u12.setCells gm 3 (askVs op h h2 nm nm2 off num data) = u13 at Iu13 ⊢; replace Iu13 := Lib.hid (Hcs0.out ▸ Iu13.out); have r0 := Iu13.out.r.cell 0 rfl; have r1 := Iu13.out.r.cell 1 rfl; dsimp only at r0 r1; have c0 := Iu13.out.m.cell 0 Hk0.out)
      | ((with_reducible refine gate_dst (N := 156) rfl ?_); refine Kd.event_run rfl (run_buildM _ _ rfl _) ?_)
      | ((with_reducible refine gate_store (t := 36) (p := 2) rfl ?_); refine wpList_store_mid rfl 36 _ _ rfl g2 0 zcs.toArray rfl rfl ?ht ?hi ?h1 ?_; (case ht => exact Iu13.out.z.there 33 (Nat.le_refl 33)); (case hi => exact infoMsg); (case h1 => exact all_oneCell_toArray zcs_one); have OV := Lib.hid (Iu13.out.over zcs rfl); change wpList _ _ _ _ _ (u13.setCells g2 0 zcs); generalize u13.setCells g2 0 zcs = vz at OV ⊢))
    refine bodyPost_ret (v := .tuple #[.agg zcs.toArray, .int .i64 2200]) (results_cell_tmp Try.results15 (by rfl) (by rfl) (load_msg OV.out.1 zcs_len)) rfl ⟨Msg.zero, none, 0, 2200, rfl, ⟨ents_nil _ _, no_addr _⟩, OV.out.2.1, .inr ⟨rfl, rfl, ?_⟩⟩
    cases hd : decOk s
    · rfl
    · exact absurd (hfw.out hd) (by rintro ⟨_, h1, _⟩; simp [h1] at z0)
  go_wp2_with (first
    | ((with_reducible refine gate_store (t := 27) (p := 48) rfl ?_); refine wpList_store_mid rfl 27 _ _ rfl gm 3 (askVs op h h2 nm nm2 off num data).toArray rfl rfl ?ht ?hi ?h1 ?_; (case ht => exact Iu12.out.m.thereMid 3 14 (show (17 : Nat) ≤ 33 from by decide)); (case hi => exact infoAsk); (case h1 => exact all_oneCell_toArray (askVs_one _ _ _ _ _ _ _ _)); have Iu13 := Lib.hid (RefI.putMid [.int .i64 k, .int .u32 c, .int .u64 x] zask (askVs op h h2 nm nm2 off num data) (zans ++ [.int .u64 0, .int .u64 0, .int .u64 0]) Iu12.out rfl); change wpList _ _ _ _ _ (u12.setCells gm 3 (askVs op h h2 nm nm2 off num data)); change Hid (RefI w (u12.setCells gm 3 (askVs op h h2 nm nm2 off num data)) _ _ _ _ _) at Iu13; generalize u12.setCells gm 3 (askVs op h h2 nm nm2 off num data) = u13 at Iu13 ⊢; replace Iu13 := Lib.hid (Hcs0.out ▸ Iu13.out); have r0 := Iu13.out.r.cell 0 rfl; have r1 := Iu13.out.r.cell 1 rfl; dsimp only at r0 r1; have c0 := Iu13.out.m.cell 0 Hk0.out)
    | ((with_reducible refine gate_dst (N := 144) rfl ?_); refine wpList_load_mid rfl 36 _ rfl gm 0 rfl cs _ ?hc Try.underlying36 rfl ?hi ?_; (case hc => exact Iu13.out.m.range); (case hi => rw [Hcl.out]; exact infoMsg)))
  refine (HE.out _ (EA.out _)).mono ?_
  rintro e ue ⟨rfl, hb⟩
  have Iue := Lib.hid (Iu13.out.below hb)
  have EE := Lib.hid (EA.out ue)
  clear hb r0 r1
  generalize hE1 : m.refE.1 = E1 at *
  generalize hE2 : m.refE.2 = E2 at *
  have HE1 := Lib.hid hE1; have HE2 := Lib.hid hE2
  clear hE1 hE2
  rcases orFalse (E2 == 0) with z1 | z1
  rotate_left
  · skip
    go_wp2_with (first
      | ((with_reducible refine gate_dst (N := 156) rfl ?_); refine Kd.event_run rfl (run_buildM _ _ rfl _) ?_)
      | ((with_reducible refine gate_store (t := 36) (p := 2) rfl ?_); refine wpList_store_mid rfl 36 _ _ rfl g2 0 zcs.toArray rfl rfl ?ht ?hi ?h1 ?_; (case ht => exact Iue.out.z.there 33 (Nat.le_refl 33)); (case hi => exact infoMsg); (case h1 => exact all_oneCell_toArray zcs_one); have OV := Lib.hid (Iue.out.over zcs rfl); change wpList _ _ _ _ _ (ue.setCells g2 0 zcs); generalize ue.setCells g2 0 zcs = vz at OV ⊢))
    refine bodyPost_ret (v := .tuple #[.agg zcs.toArray, .int .i64 2200]) (results_cell_tmp Try.results15 (by rfl) (by rfl) (load_msg OV.out.1 zcs_len)) rfl ⟨Msg.zero, none, 0, 2200, rfl, ⟨ents_nil _ _, no_addr _⟩, OV.out.2.1, .inr ⟨rfl, rfl, ?_⟩⟩
    cases hd : decOk s
    · rfl
    · exact absurd (hfw.out hd) (by rintro ⟨_, _, h1⟩; rw [← HE2.out, h1] at z1; cases z1)
  rcases orFalse (E1.toList == s.toList) with z2 | z2
  rotate_left
  · skip
    go_wp2_with (first
      | ((with_reducible refine gate_dst (N := 156) rfl ?_); refine Kd.event_run rfl (run_buildM _ _ rfl _) ?_)
      | ((with_reducible refine gate_store (t := 36) (p := 2) rfl ?_); refine wpList_store_mid rfl 36 _ _ rfl g2 0 zcs.toArray rfl rfl ?ht ?hi ?h1 ?_; (case ht => exact Iue.out.z.there 33 (Nat.le_refl 33)); (case hi => exact infoMsg); (case h1 => exact all_oneCell_toArray zcs_one); have OV := Lib.hid (Iue.out.over zcs rfl); change wpList _ _ _ _ _ (ue.setCells g2 0 zcs); generalize ue.setCells g2 0 zcs = vz at OV ⊢))
    refine bodyPost_ret (v := .tuple #[.agg zcs.toArray, .int .i64 2200]) (results_cell_tmp Try.results15 (by rfl) (by rfl) (load_msg OV.out.1 zcs_len)) rfl ⟨Msg.zero, none, 0, 2200, rfl, ⟨ents_nil _ _, no_addr _⟩, OV.out.2.1, .inr ⟨rfl, rfl, ?_⟩⟩
    cases hd : decOk s
    · rfl
    · exact absurd (hfw.out hd) (by rintro ⟨_, _, h1⟩; rw [← HE1.out, h1] at z2; simp at z2)
  go_wp2_with (first
    | ((with_reducible refine gate_dst (N := 155) rfl ?_); refine wpList_load_mid rfl 36 _ rfl gm 0 rfl cs _ ?hc Try.underlying36 rfl ?hi ?_; (case hc => exact Iue.out.m.range); (case hi => rw [Hcl.out]; exact infoMsg))
    | ((with_reducible refine gate_store (t := 36) (p := 2) rfl ?_); refine wpList_store_mid rfl 36 _ _ rfl g2 0 cs.toArray rfl rfl ?ht ?hi ?h1 ?_; (case ht => exact Iue.out.z.there _ (by rw [List.size_toArray, Hcl.out]; exact Nat.le_refl 33)); (case hi => rw [List.size_toArray, Hcl.out]; exact infoMsg); (case h1 => exact all_oneCell_toArray Hco.out); have OV := Lib.hid (Iue.out.over cs Hcl.out); change wpList _ _ _ _ _ (ue.setCells g2 0 cs); generalize ue.setCells g2 0 cs = vz at OV ⊢))
  refine bodyPost_ret (v := .tuple #[.agg cs.toArray, .int .i64 0]) (results_cell_tmp Try.results15 (by rfl) (by rfl) (load_msg OV.out.1 Hcl.out)) rfl ⟨m, none, 0, 0, by rw [Hcs.out], ⟨OV.out.2.2 none m.list NA.out EE.out, NB.out⟩, OV.out.2.1, .inl ⟨rfl, hok.out, ?_⟩⟩
  have e1 : E1 = s := ba_inj (by simpa using z2)
  have e2 : E2 = 0 := by simpa using z1
  exact Prod.ext (HE1.out.trans e1) (HE2.out.trans e2)

set_option maxHeartbeats 8000000 in
set_option maxRecDepth 100000 in
theorem refdec_b3 (s : ByteArray) (ρ0 ρ1 ρ2 ρ3 ρ4 ρ5 ρ6 : Rr) (r : ByteArray) (bd : Bool) (hρ0 : Hid (ρ0 = ⟨s, false⟩)) (k c x : Int) (h : Hd) (boot gb gn : Int)
    (C1 : Hid (NumC ρ0 ρ1 1 k)) (C2 : Hid (NumC ρ1 ρ2 4 c)) (C3 : Hid (NumC ρ2 ρ3 8 x)) (C4 : Hid (HdC ρ3 ρ4 h)) (C5 : Hid (NumC ρ4 ρ5 8 boot)) (C6 : Hid (NumC ρ5 ρ6 8 gb)) (C7 : Hid (NumC ρ6 ⟨r, bd⟩ 8 gn))
    (k0 : 0 ≤ k) (k9 : k ≤ 255) (c0' : 0 ≤ c) (c9 : c ≤ 4294967295) (kb1 : (k == 1) = false) (kb2 : (k == 2) = false) (kb3 : (k == 3) = true) (kn : (k != 1) = true)
    (m : Msg) (hm1 : Hid (m = ⟨k, c, x, 0, h, Hd.zero, ⟨#[]⟩, ⟨#[]⟩, 0, 0, ⟨#[]⟩, 0, Hd.zero, 0, 0, 0, 0, ⟨#[]⟩, false, 0, [], boot, gb, gn⟩))
    (hok : Hid m.Ok) (hfw : Hid (decOk s = true → bd = false ∧ r.size = 0 ∧ m.refE = (s, 0))) (w : World) :
    Calls Try.prog 15 #[.string s] w (RefPost s w) := by
  go_enter Try.func15, Try.ntmps15
  go_wp2_with (first
    | ((with_reducible refine gate_dst (N := 2) rfl ?_); refine box_event rfl (N := 2) rfl (run_allocM _ _ rfl _) ?_; intro g2 hg2 v1 hbox hbel; have BZ := Lib.hid (show Blk v1 g2 36 zcs from hbox); have BLg2 := Lib.hid hbel; have Hg2 := Lib.hid hg2; clear hbox hbel hg2)
    | ((with_reducible refine gate_dst (N := 13) rfl ?_); refine box_event rfl (N := 13) rfl (run_box _ _ _ 95 _ #[.string s, .bool false] rfl rfl _) ?_; intro gR hgR u0 hbox hbel; have BR := Lib.hid (show Blk u0 gR 95 [.string s, .bool false] from hbox); have BLR := Lib.hid hbel; have HgR := Lib.hid hgR; clear hbox hbel hgR))
  have Iu0 : Hid (RefH w u0 gR g2 ρ0) := Lib.hid ⟨hρ0.out ▸ BR.out, BZ.out.below BLR.out, BLg2.out.trans (BLR.out.mono BLg2.out.size), by rw [HgR.out]; exact BLg2.out.size, Nat.le_of_eq Hg2.out.symm, by have := BZ.out.lt; have := HgR.out; omega⟩
  clear BR BZ BLR BLg2 HgR Hg2
  refine (C1.out _ u0 Iu0.out.r).mono ?_
  rintro e u1 ⟨rfl, q⟩
  have Iu1 := Lib.hid (Iu0.out.next q); clear q
  go_wp2_with fail
  refine (C2.out _ u1 Iu1.out.r).mono ?_
  rintro e u2 ⟨rfl, q⟩
  have Iu2 := Lib.hid (Iu1.out.next q); clear q
  go_wp2_with fail
  refine (C3.out _ u2 Iu2.out.r).mono ?_
  rintro e u3 ⟨rfl, q⟩
  have Iu3 := Lib.hid (Iu2.out.next q); clear q
  go_wp2_with (first
    | ((with_reducible refine gate_dst (N := 22) rfl ?_); refine Kd.event_run (v := .agg (hm k c x).toArray) rfl ?hr ?_; (case hr => go_simp; rfl))
    | ((with_reducible refine gate_dst (N := 5) rfl ?_); refine box_event rfl (N := 5) rfl (run_allocM _ _ rfl _) ?_; intro gm hgm v5 hbox hbel; have Bgm := Lib.hid (show Blk v5 gm 36 zcs from hbox); have BLgm := Lib.hid hbel; have Hgm := Lib.hid hgm; clear hbox hbel hgm)
    | ((with_reducible refine gate_store (t := 36) (p := 5) rfl ?_); refine wpList_store_mid rfl 36 _ _ rfl gm 0 (hm k c x).toArray rfl rfl ?ht ?hi ?h1 ?_; (case ht => exact Bgm.out.there _ (by rw [List.size_toArray, hm_len k c x]; exact Nat.le_refl 33)); (case hi => rw [List.size_toArray, hm_len k c x]; exact infoMsg); (case h1 => exact all_oneCell_toArray (hm_one k c x)); have B2gm := Lib.hid (Bgm.out.setAll (hm k c x) (by rw [hm_len k c x]; rfl)); have Kgm := Lib.hid (Keeps.setCells (S := fun k => k = gm) (hm k c x) 0 v5 (Keeps.refl _ _) (fun _ => rfl)); change wpList _ _ _ _ _ (v5.setCells gm 0 (hm k c x)); generalize v5.setCells gm 0 (hm k c x) = u4 at B2gm Kgm ⊢; have BMgm := Lib.hid (BLgm.out.trans (Kgm.out.below BLgm.out.size (fun k hk => by show ¬ k = gm; have := Hgm.out; omega))); have HHgm := Lib.hid Hgm.out; clear Bgm BLgm Kgm Hgm; have Iu4 : Hid (RefI w u4 gR g2 gm ρ3 (hm k c x)) := Lib.hid (refI_new Iu3.out B2gm.out BMgm.out HHgm.out); clear Iu3 B2gm BMgm HHgm; have c0 := Iu4.out.m.cell 0 rfl))
  refine (C4.out _ u4 Iu4.out.r).mono ?_
  rintro e u5 ⟨rfl, q⟩
  have Iu5 := Lib.hid (Iu4.out.next q); clear q
  go_wp2_with (first
    | ((with_reducible refine gate_store (t := 25) (p := 117) rfl ?_); refine wpList_store_mid rfl 25 _ _ rfl gm 4 (hdVs h).toArray rfl rfl ?ht ?hi ?h1 ?_; (case ht => exact Iu5.out.m.thereMid 4 4 (show (8 : Nat) ≤ 33 from by decide)); (case hi => exact infoHd); (case h1 => exact all_oneCell_toArray (hdVs_one _)); have Iu6 := Lib.hid (RefI.sets (hdVs h) 4 _ _ Iu5.out); change wpList _ _ _ _ _ (World.setCells u5 gm 4 (hdVs h)); change Hid (RefI w (World.setCells u5 gm 4 (hdVs h)) _ _ _ _ _) at Iu6; generalize World.setCells u5 gm 4 (hdVs h) = u6 at Iu6 ⊢; have c0 := Iu6.out.m.cell 0 rfl; have c30 := Iu6.out.m.cell 30 rfl; have f30 := Iu6.out.m.frozen 30))
  refine (C5.out _ u6 Iu6.out.r).mono ?_
  rintro e u7 ⟨rfl, q⟩
  have Iu7 := Lib.hid (Iu6.out.next q); clear q
  have c30 := Iu7.out.m.cell 30 rfl
  have f30 := Iu7.out.m.frozen 30
  have Iv := Lib.hid (Iu7.out.set 30 (.int .u64 boot))
  go_wp2_with fail
  refine (C6.out _ _ Iv.out.r).mono ?_
  rintro e u8 ⟨rfl, q⟩
  have Iu8 := Lib.hid (Iv.out.next q); clear q
  go_wp2_with fail
  refine (C7.out _ u8 Iu8.out.r).mono ?_
  rintro e u9 ⟨rfl, q⟩
  have Iu9 := Lib.hid (Iu8.out.next q); clear q
  obtain ⟨cs, hcs⟩ : ∃ cs, cs = m.vs (.slice none m.list.length 0) := ⟨_, rfl⟩
  have Hco : Hid (∀ v ∈ cs, v.oneCell' = true) := Lib.hid (by rw [hcs]; exact m.one _ _ _)
  have Hcl : Hid (cs.length = 33) := Lib.hid (by rw [hcs]; rfl)
  have HE : Hid (∀ w, EntsR w none m.list → Calls Try.prog 10 #[.agg cs.toArray] w fun e w' => e = .returned (.tuple #[.string m.refE.1, .int .i64 m.refE.2]) ∧ Below w.heap.size w w') := Lib.hid (fun w h => by rw [hcs]; exact refEncode_any m none 0 hok.out (by rw [hm1.out]; exact Nat.le_refl 0) w h)
  have Hk0 : Hid (cs[0]? = some (.int .i64 k)) := Lib.hid (by rw [hcs, hm1.out]; rfl)
  have Hcs0 : Hid (setL ((setL (hm k c x) 4 (hdVs h)).set 30 (.int .u64 boot)) 31 (stVs gb gn) = cs) := Lib.hid (by rw [hcs, hm1.out]; rfl)
  have Hcs := Lib.hid hcs
  clear hcs
  have hnl : m.list = [] := by rw [hm1.out]
  have EA : Hid (∀ w, EntsR w none m.list) := Lib.hid (fun w => by rw [hnl]; exact ents_nil _ _)
  have NA : Hid (∀ b o, (none : Option Addr) = some ⟨b, o, none⟩ → b ≠ g2) := Lib.hid (fun _ _ h => by cases h); have NB : Hid (∀ b o, (none : Option Addr) = some ⟨b, o, none⟩ → w.heap.size ≤ b) := Lib.hid (no_addr _)
  clear hnl
  cases bd
  rotate_left
  · skip
    go_wp2_with (first
    | ((with_reducible refine gate_store (t := 34) (p := 129) rfl ?_); refine wpList_store_mid rfl 34 _ _ rfl gm 31 (stVs gb gn).toArray rfl rfl ?ht ?hi ?h1 ?_; (case ht => exact Iu9.out.m.thereMid 31 2 (show (33 : Nat) ≤ 33 from by decide)); (case hi => exact infoStamp); (case h1 => exact all_oneCell_toArray (stVs_one _ _)); have Iu10 := Lib.hid (RefI.sets (stVs gb gn) 31 _ _ Iu9.out); change wpList _ _ _ _ _ (World.setCells u9 gm 31 (stVs gb gn)); change Hid (RefI w (World.setCells u9 gm 31 (stVs gb gn)) _ _ _ _ _) at Iu10; generalize World.setCells u9 gm 31 (stVs gb gn) = u10 at Iu10 ⊢; replace Iu10 := Lib.hid (Hcs0.out ▸ Iu10.out); have r0 := Iu10.out.r.cell 0 rfl; have r1 := Iu10.out.r.cell 1 rfl; dsimp only at r0 r1; have c0 := Iu10.out.m.cell 0 Hk0.out)
      | ((with_reducible refine gate_dst (N := 156) rfl ?_); refine Kd.event_run rfl (run_buildM _ _ rfl _) ?_)
      | ((with_reducible refine gate_store (t := 36) (p := 2) rfl ?_); refine wpList_store_mid rfl 36 _ _ rfl g2 0 zcs.toArray rfl rfl ?ht ?hi ?h1 ?_; (case ht => exact Iu10.out.z.there 33 (Nat.le_refl 33)); (case hi => exact infoMsg); (case h1 => exact all_oneCell_toArray zcs_one); have OV := Lib.hid (Iu10.out.over zcs rfl); change wpList _ _ _ _ _ (u10.setCells g2 0 zcs); generalize u10.setCells g2 0 zcs = vz at OV ⊢))
    refine bodyPost_ret (v := .tuple #[.agg zcs.toArray, .int .i64 2200]) (results_cell_tmp Try.results15 (by rfl) (by rfl) (load_msg OV.out.1 zcs_len)) rfl ⟨Msg.zero, none, 0, 2200, rfl, ⟨ents_nil _ _, no_addr _⟩, OV.out.2.1, .inr ⟨rfl, rfl, ?_⟩⟩
    cases hd : decOk s
    · rfl
    · exact absurd (hfw.out hd) (by rintro ⟨h1, _⟩; cases h1)
  rcases orFalse ((r.size : Int) == 0) with z0 | z0
  rotate_left
  · skip
    go_wp2_with (first
    | ((with_reducible refine gate_store (t := 34) (p := 129) rfl ?_); refine wpList_store_mid rfl 34 _ _ rfl gm 31 (stVs gb gn).toArray rfl rfl ?ht ?hi ?h1 ?_; (case ht => exact Iu9.out.m.thereMid 31 2 (show (33 : Nat) ≤ 33 from by decide)); (case hi => exact infoStamp); (case h1 => exact all_oneCell_toArray (stVs_one _ _)); have Iu10 := Lib.hid (RefI.sets (stVs gb gn) 31 _ _ Iu9.out); change wpList _ _ _ _ _ (World.setCells u9 gm 31 (stVs gb gn)); change Hid (RefI w (World.setCells u9 gm 31 (stVs gb gn)) _ _ _ _ _) at Iu10; generalize World.setCells u9 gm 31 (stVs gb gn) = u10 at Iu10 ⊢; replace Iu10 := Lib.hid (Hcs0.out ▸ Iu10.out); have r0 := Iu10.out.r.cell 0 rfl; have r1 := Iu10.out.r.cell 1 rfl; dsimp only at r0 r1; have c0 := Iu10.out.m.cell 0 Hk0.out)
      | ((with_reducible refine gate_dst (N := 156) rfl ?_); refine Kd.event_run rfl (run_buildM _ _ rfl _) ?_)
      | ((with_reducible refine gate_store (t := 36) (p := 2) rfl ?_); refine wpList_store_mid rfl 36 _ _ rfl g2 0 zcs.toArray rfl rfl ?ht ?hi ?h1 ?_; (case ht => exact Iu10.out.z.there 33 (Nat.le_refl 33)); (case hi => exact infoMsg); (case h1 => exact all_oneCell_toArray zcs_one); have OV := Lib.hid (Iu10.out.over zcs rfl); change wpList _ _ _ _ _ (u10.setCells g2 0 zcs); generalize u10.setCells g2 0 zcs = vz at OV ⊢))
    refine bodyPost_ret (v := .tuple #[.agg zcs.toArray, .int .i64 2200]) (results_cell_tmp Try.results15 (by rfl) (by rfl) (load_msg OV.out.1 zcs_len)) rfl ⟨Msg.zero, none, 0, 2200, rfl, ⟨ents_nil _ _, no_addr _⟩, OV.out.2.1, .inr ⟨rfl, rfl, ?_⟩⟩
    cases hd : decOk s
    · rfl
    · exact absurd (hfw.out hd) (by rintro ⟨_, h1, _⟩; simp [h1] at z0)
  go_wp2_with (first
    | ((with_reducible refine gate_store (t := 34) (p := 129) rfl ?_); refine wpList_store_mid rfl 34 _ _ rfl gm 31 (stVs gb gn).toArray rfl rfl ?ht ?hi ?h1 ?_; (case ht => exact Iu9.out.m.thereMid 31 2 (show (33 : Nat) ≤ 33 from by decide)); (case hi => exact infoStamp); (case h1 => exact all_oneCell_toArray (stVs_one _ _)); have Iu10 := Lib.hid (RefI.sets (stVs gb gn) 31 _ _ Iu9.out); change wpList _ _ _ _ _ (World.setCells u9 gm 31 (stVs gb gn)); change Hid (RefI w (World.setCells u9 gm 31 (stVs gb gn)) _ _ _ _ _) at Iu10; generalize World.setCells u9 gm 31 (stVs gb gn) = u10 at Iu10 ⊢; replace Iu10 := Lib.hid (Hcs0.out ▸ Iu10.out); have r0 := Iu10.out.r.cell 0 rfl; have r1 := Iu10.out.r.cell 1 rfl; dsimp only at r0 r1; have c0 := Iu10.out.m.cell 0 Hk0.out)
    | ((with_reducible refine gate_dst (N := 144) rfl ?_); refine wpList_load_mid rfl 36 _ rfl gm 0 rfl cs _ ?hc Try.underlying36 rfl ?hi ?_; (case hc => exact Iu10.out.m.range); (case hi => rw [Hcl.out]; exact infoMsg)))
  refine (HE.out _ (EA.out _)).mono ?_
  rintro e ue ⟨rfl, hb⟩
  have Iue := Lib.hid (Iu10.out.below hb)
  have EE := Lib.hid (EA.out ue)
  clear hb r0 r1
  generalize hE1 : m.refE.1 = E1 at *
  generalize hE2 : m.refE.2 = E2 at *
  have HE1 := Lib.hid hE1; have HE2 := Lib.hid hE2
  clear hE1 hE2
  rcases orFalse (E2 == 0) with z1 | z1
  rotate_left
  · skip
    go_wp2_with (first
      | ((with_reducible refine gate_dst (N := 156) rfl ?_); refine Kd.event_run rfl (run_buildM _ _ rfl _) ?_)
      | ((with_reducible refine gate_store (t := 36) (p := 2) rfl ?_); refine wpList_store_mid rfl 36 _ _ rfl g2 0 zcs.toArray rfl rfl ?ht ?hi ?h1 ?_; (case ht => exact Iue.out.z.there 33 (Nat.le_refl 33)); (case hi => exact infoMsg); (case h1 => exact all_oneCell_toArray zcs_one); have OV := Lib.hid (Iue.out.over zcs rfl); change wpList _ _ _ _ _ (ue.setCells g2 0 zcs); generalize ue.setCells g2 0 zcs = vz at OV ⊢))
    refine bodyPost_ret (v := .tuple #[.agg zcs.toArray, .int .i64 2200]) (results_cell_tmp Try.results15 (by rfl) (by rfl) (load_msg OV.out.1 zcs_len)) rfl ⟨Msg.zero, none, 0, 2200, rfl, ⟨ents_nil _ _, no_addr _⟩, OV.out.2.1, .inr ⟨rfl, rfl, ?_⟩⟩
    cases hd : decOk s
    · rfl
    · exact absurd (hfw.out hd) (by rintro ⟨_, _, h1⟩; rw [← HE2.out, h1] at z1; cases z1)
  rcases orFalse (E1.toList == s.toList) with z2 | z2
  rotate_left
  · skip
    go_wp2_with (first
      | ((with_reducible refine gate_dst (N := 156) rfl ?_); refine Kd.event_run rfl (run_buildM _ _ rfl _) ?_)
      | ((with_reducible refine gate_store (t := 36) (p := 2) rfl ?_); refine wpList_store_mid rfl 36 _ _ rfl g2 0 zcs.toArray rfl rfl ?ht ?hi ?h1 ?_; (case ht => exact Iue.out.z.there 33 (Nat.le_refl 33)); (case hi => exact infoMsg); (case h1 => exact all_oneCell_toArray zcs_one); have OV := Lib.hid (Iue.out.over zcs rfl); change wpList _ _ _ _ _ (ue.setCells g2 0 zcs); generalize ue.setCells g2 0 zcs = vz at OV ⊢))
    refine bodyPost_ret (v := .tuple #[.agg zcs.toArray, .int .i64 2200]) (results_cell_tmp Try.results15 (by rfl) (by rfl) (load_msg OV.out.1 zcs_len)) rfl ⟨Msg.zero, none, 0, 2200, rfl, ⟨ents_nil _ _, no_addr _⟩, OV.out.2.1, .inr ⟨rfl, rfl, ?_⟩⟩
    cases hd : decOk s
    · rfl
    · exact absurd (hfw.out hd) (by rintro ⟨_, _, h1⟩; rw [← HE1.out, h1] at z2; simp at z2)
  go_wp2_with (first
    | ((with_reducible refine gate_dst (N := 155) rfl ?_); refine wpList_load_mid rfl 36 _ rfl gm 0 rfl cs _ ?hc Try.underlying36 rfl ?hi ?_; (case hc => exact Iue.out.m.range); (case hi => rw [Hcl.out]; exact infoMsg))
    | ((with_reducible refine gate_store (t := 36) (p := 2) rfl ?_); refine wpList_store_mid rfl 36 _ _ rfl g2 0 cs.toArray rfl rfl ?ht ?hi ?h1 ?_; (case ht => exact Iue.out.z.there _ (by rw [List.size_toArray, Hcl.out]; exact Nat.le_refl 33)); (case hi => rw [List.size_toArray, Hcl.out]; exact infoMsg); (case h1 => exact all_oneCell_toArray Hco.out); have OV := Lib.hid (Iue.out.over cs Hcl.out); change wpList _ _ _ _ _ (ue.setCells g2 0 cs); generalize ue.setCells g2 0 cs = vz at OV ⊢))
  refine bodyPost_ret (v := .tuple #[.agg cs.toArray, .int .i64 0]) (results_cell_tmp Try.results15 (by rfl) (by rfl) (load_msg OV.out.1 Hcl.out)) rfl ⟨m, none, 0, 0, by rw [Hcs.out], ⟨OV.out.2.2 none m.list NA.out EE.out, NB.out⟩, OV.out.2.1, .inl ⟨rfl, hok.out, ?_⟩⟩
  have e1 : E1 = s := ba_inj (by simpa using z2)
  have e2 : E2 = 0 := by simpa using z1
  exact Prod.ext (HE1.out.trans e1) (HE2.out.trans e2)

set_option maxHeartbeats 8000000 in
set_option maxRecDepth 100000 in
theorem refdec_b4 (s : ByteArray) (ρ0 ρ1 ρ2 ρ3 ρ4 ρ5 ρ6 : Rr) (r : ByteArray) (bd : Bool) (hρ0 : Hid (ρ0 = ⟨s, false⟩)) (k c x : Int) (h : Hd) (boot gb gn : Int)
    (C1 : Hid (NumC ρ0 ρ1 1 k)) (C2 : Hid (NumC ρ1 ρ2 4 c)) (C3 : Hid (NumC ρ2 ρ3 8 x)) (C4 : Hid (HdC ρ3 ρ4 h)) (C5 : Hid (NumC ρ4 ρ5 8 boot)) (C6 : Hid (NumC ρ5 ρ6 8 gb)) (C7 : Hid (NumC ρ6 ⟨r, bd⟩ 8 gn))
    (k0 : 0 ≤ k) (k9 : k ≤ 255) (c0' : 0 ≤ c) (c9 : c ≤ 4294967295) (kb1 : (k == 1) = false) (kb2 : (k == 2) = false) (kb3 : (k == 3) = false) (kb4 : (k == 4) = true) (kn : (k != 1) = true)
    (m : Msg) (hm1 : Hid (m = ⟨k, c, x, 0, h, Hd.zero, ⟨#[]⟩, ⟨#[]⟩, 0, 0, ⟨#[]⟩, 0, Hd.zero, 0, 0, 0, 0, ⟨#[]⟩, false, 0, [], boot, gb, gn⟩))
    (hok : Hid m.Ok) (hfw : Hid (decOk s = true → bd = false ∧ r.size = 0 ∧ m.refE = (s, 0))) (w : World) :
    Calls Try.prog 15 #[.string s] w (RefPost s w) := by
  go_enter Try.func15, Try.ntmps15
  go_wp2_with (first
    | ((with_reducible refine gate_dst (N := 2) rfl ?_); refine box_event rfl (N := 2) rfl (run_allocM _ _ rfl _) ?_; intro g2 hg2 v1 hbox hbel; have BZ := Lib.hid (show Blk v1 g2 36 zcs from hbox); have BLg2 := Lib.hid hbel; have Hg2 := Lib.hid hg2; clear hbox hbel hg2)
    | ((with_reducible refine gate_dst (N := 13) rfl ?_); refine box_event rfl (N := 13) rfl (run_box _ _ _ 95 _ #[.string s, .bool false] rfl rfl _) ?_; intro gR hgR u0 hbox hbel; have BR := Lib.hid (show Blk u0 gR 95 [.string s, .bool false] from hbox); have BLR := Lib.hid hbel; have HgR := Lib.hid hgR; clear hbox hbel hgR))
  have Iu0 : Hid (RefH w u0 gR g2 ρ0) := Lib.hid ⟨hρ0.out ▸ BR.out, BZ.out.below BLR.out, BLg2.out.trans (BLR.out.mono BLg2.out.size), by rw [HgR.out]; exact BLg2.out.size, Nat.le_of_eq Hg2.out.symm, by have := BZ.out.lt; have := HgR.out; omega⟩
  clear BR BZ BLR BLg2 HgR Hg2
  refine (C1.out _ u0 Iu0.out.r).mono ?_
  rintro e u1 ⟨rfl, q⟩
  have Iu1 := Lib.hid (Iu0.out.next q); clear q
  go_wp2_with fail
  refine (C2.out _ u1 Iu1.out.r).mono ?_
  rintro e u2 ⟨rfl, q⟩
  have Iu2 := Lib.hid (Iu1.out.next q); clear q
  go_wp2_with fail
  refine (C3.out _ u2 Iu2.out.r).mono ?_
  rintro e u3 ⟨rfl, q⟩
  have Iu3 := Lib.hid (Iu2.out.next q); clear q
  go_wp2_with (first
    | ((with_reducible refine gate_dst (N := 22) rfl ?_); refine Kd.event_run (v := .agg (hm k c x).toArray) rfl ?hr ?_; (case hr => go_simp; rfl))
    | ((with_reducible refine gate_dst (N := 5) rfl ?_); refine box_event rfl (N := 5) rfl (run_allocM _ _ rfl _) ?_; intro gm hgm v5 hbox hbel; have Bgm := Lib.hid (show Blk v5 gm 36 zcs from hbox); have BLgm := Lib.hid hbel; have Hgm := Lib.hid hgm; clear hbox hbel hgm)
    | ((with_reducible refine gate_store (t := 36) (p := 5) rfl ?_); refine wpList_store_mid rfl 36 _ _ rfl gm 0 (hm k c x).toArray rfl rfl ?ht ?hi ?h1 ?_; (case ht => exact Bgm.out.there _ (by rw [List.size_toArray, hm_len k c x]; exact Nat.le_refl 33)); (case hi => rw [List.size_toArray, hm_len k c x]; exact infoMsg); (case h1 => exact all_oneCell_toArray (hm_one k c x)); have B2gm := Lib.hid (Bgm.out.setAll (hm k c x) (by rw [hm_len k c x]; rfl)); have Kgm := Lib.hid (Keeps.setCells (S := fun k => k = gm) (hm k c x) 0 v5 (Keeps.refl _ _) (fun _ => rfl)); change wpList _ _ _ _ _ (v5.setCells gm 0 (hm k c x)); generalize v5.setCells gm 0 (hm k c x) = u4 at B2gm Kgm ⊢; have BMgm := Lib.hid (BLgm.out.trans (Kgm.out.below BLgm.out.size (fun k hk => by show ¬ k = gm; have := Hgm.out; omega))); have HHgm := Lib.hid Hgm.out; clear Bgm BLgm Kgm Hgm; have Iu4 : Hid (RefI w u4 gR g2 gm ρ3 (hm k c x)) := Lib.hid (refI_new Iu3.out B2gm.out BMgm.out HHgm.out); clear Iu3 B2gm BMgm HHgm; have c0 := Iu4.out.m.cell 0 rfl))
  refine (C4.out _ u4 Iu4.out.r).mono ?_
  rintro e u5 ⟨rfl, q⟩
  have Iu5 := Lib.hid (Iu4.out.next q); clear q
  go_wp2_with (first
    | ((with_reducible refine gate_store (t := 25) (p := 117) rfl ?_); refine wpList_store_mid rfl 25 _ _ rfl gm 4 (hdVs h).toArray rfl rfl ?ht ?hi ?h1 ?_; (case ht => exact Iu5.out.m.thereMid 4 4 (show (8 : Nat) ≤ 33 from by decide)); (case hi => exact infoHd); (case h1 => exact all_oneCell_toArray (hdVs_one _)); have Iu6 := Lib.hid (RefI.sets (hdVs h) 4 _ _ Iu5.out); change wpList _ _ _ _ _ (World.setCells u5 gm 4 (hdVs h)); change Hid (RefI w (World.setCells u5 gm 4 (hdVs h)) _ _ _ _ _) at Iu6; generalize World.setCells u5 gm 4 (hdVs h) = u6 at Iu6 ⊢; have c0 := Iu6.out.m.cell 0 rfl; have c30 := Iu6.out.m.cell 30 rfl; have f30 := Iu6.out.m.frozen 30))
  refine (C5.out _ u6 Iu6.out.r).mono ?_
  rintro e u7 ⟨rfl, q⟩
  have Iu7 := Lib.hid (Iu6.out.next q); clear q
  have c30 := Iu7.out.m.cell 30 rfl
  have f30 := Iu7.out.m.frozen 30
  have Iv := Lib.hid (Iu7.out.set 30 (.int .u64 boot))
  go_wp2_with fail
  refine (C6.out _ _ Iv.out.r).mono ?_
  rintro e u8 ⟨rfl, q⟩
  have Iu8 := Lib.hid (Iv.out.next q); clear q
  go_wp2_with fail
  refine (C7.out _ u8 Iu8.out.r).mono ?_
  rintro e u9 ⟨rfl, q⟩
  have Iu9 := Lib.hid (Iu8.out.next q); clear q
  obtain ⟨cs, hcs⟩ : ∃ cs, cs = m.vs (.slice none m.list.length 0) := ⟨_, rfl⟩
  have Hco : Hid (∀ v ∈ cs, v.oneCell' = true) := Lib.hid (by rw [hcs]; exact m.one _ _ _)
  have Hcl : Hid (cs.length = 33) := Lib.hid (by rw [hcs]; rfl)
  have HE : Hid (∀ w, EntsR w none m.list → Calls Try.prog 10 #[.agg cs.toArray] w fun e w' => e = .returned (.tuple #[.string m.refE.1, .int .i64 m.refE.2]) ∧ Below w.heap.size w w') := Lib.hid (fun w h => by rw [hcs]; exact refEncode_any m none 0 hok.out (by rw [hm1.out]; exact Nat.le_refl 0) w h)
  have Hk0 : Hid (cs[0]? = some (.int .i64 k)) := Lib.hid (by rw [hcs, hm1.out]; rfl)
  have Hcs0 : Hid (setL ((setL (hm k c x) 4 (hdVs h)).set 30 (.int .u64 boot)) 31 (stVs gb gn) = cs) := Lib.hid (by rw [hcs, hm1.out]; rfl)
  have Hcs := Lib.hid hcs
  clear hcs
  have hnl : m.list = [] := by rw [hm1.out]
  have EA : Hid (∀ w, EntsR w none m.list) := Lib.hid (fun w => by rw [hnl]; exact ents_nil _ _)
  have NA : Hid (∀ b o, (none : Option Addr) = some ⟨b, o, none⟩ → b ≠ g2) := Lib.hid (fun _ _ h => by cases h); have NB : Hid (∀ b o, (none : Option Addr) = some ⟨b, o, none⟩ → w.heap.size ≤ b) := Lib.hid (no_addr _)
  clear hnl
  cases bd
  rotate_left
  · skip
    go_wp2_with (first
    | ((with_reducible refine gate_store (t := 34) (p := 129) rfl ?_); refine wpList_store_mid rfl 34 _ _ rfl gm 31 (stVs gb gn).toArray rfl rfl ?ht ?hi ?h1 ?_; (case ht => exact Iu9.out.m.thereMid 31 2 (show (33 : Nat) ≤ 33 from by decide)); (case hi => exact infoStamp); (case h1 => exact all_oneCell_toArray (stVs_one _ _)); have Iu10 := Lib.hid (RefI.sets (stVs gb gn) 31 _ _ Iu9.out); change wpList _ _ _ _ _ (World.setCells u9 gm 31 (stVs gb gn)); change Hid (RefI w (World.setCells u9 gm 31 (stVs gb gn)) _ _ _ _ _) at Iu10; generalize World.setCells u9 gm 31 (stVs gb gn) = u10 at Iu10 ⊢; replace Iu10 := Lib.hid (Hcs0.out ▸ Iu10.out); have r0 := Iu10.out.r.cell 0 rfl; have r1 := Iu10.out.r.cell 1 rfl; dsimp only at r0 r1; have c0 := Iu10.out.m.cell 0 Hk0.out)
      | ((with_reducible refine gate_dst (N := 156) rfl ?_); refine Kd.event_run rfl (run_buildM _ _ rfl _) ?_)
      | ((with_reducible refine gate_store (t := 36) (p := 2) rfl ?_); refine wpList_store_mid rfl 36 _ _ rfl g2 0 zcs.toArray rfl rfl ?ht ?hi ?h1 ?_; (case ht => exact Iu10.out.z.there 33 (Nat.le_refl 33)); (case hi => exact infoMsg); (case h1 => exact all_oneCell_toArray zcs_one); have OV := Lib.hid (Iu10.out.over zcs rfl); change wpList _ _ _ _ _ (u10.setCells g2 0 zcs); generalize u10.setCells g2 0 zcs = vz at OV ⊢))
    refine bodyPost_ret (v := .tuple #[.agg zcs.toArray, .int .i64 2200]) (results_cell_tmp Try.results15 (by rfl) (by rfl) (load_msg OV.out.1 zcs_len)) rfl ⟨Msg.zero, none, 0, 2200, rfl, ⟨ents_nil _ _, no_addr _⟩, OV.out.2.1, .inr ⟨rfl, rfl, ?_⟩⟩
    cases hd : decOk s
    · rfl
    · exact absurd (hfw.out hd) (by rintro ⟨h1, _⟩; cases h1)
  rcases orFalse ((r.size : Int) == 0) with z0 | z0
  rotate_left
  · skip
    go_wp2_with (first
    | ((with_reducible refine gate_store (t := 34) (p := 129) rfl ?_); refine wpList_store_mid rfl 34 _ _ rfl gm 31 (stVs gb gn).toArray rfl rfl ?ht ?hi ?h1 ?_; (case ht => exact Iu9.out.m.thereMid 31 2 (show (33 : Nat) ≤ 33 from by decide)); (case hi => exact infoStamp); (case h1 => exact all_oneCell_toArray (stVs_one _ _)); have Iu10 := Lib.hid (RefI.sets (stVs gb gn) 31 _ _ Iu9.out); change wpList _ _ _ _ _ (World.setCells u9 gm 31 (stVs gb gn)); change Hid (RefI w (World.setCells u9 gm 31 (stVs gb gn)) _ _ _ _ _) at Iu10; generalize World.setCells u9 gm 31 (stVs gb gn) = u10 at Iu10 ⊢; replace Iu10 := Lib.hid (Hcs0.out ▸ Iu10.out); have r0 := Iu10.out.r.cell 0 rfl; have r1 := Iu10.out.r.cell 1 rfl; dsimp only at r0 r1; have c0 := Iu10.out.m.cell 0 Hk0.out)
      | ((with_reducible refine gate_dst (N := 156) rfl ?_); refine Kd.event_run rfl (run_buildM _ _ rfl _) ?_)
      | ((with_reducible refine gate_store (t := 36) (p := 2) rfl ?_); refine wpList_store_mid rfl 36 _ _ rfl g2 0 zcs.toArray rfl rfl ?ht ?hi ?h1 ?_; (case ht => exact Iu10.out.z.there 33 (Nat.le_refl 33)); (case hi => exact infoMsg); (case h1 => exact all_oneCell_toArray zcs_one); have OV := Lib.hid (Iu10.out.over zcs rfl); change wpList _ _ _ _ _ (u10.setCells g2 0 zcs); generalize u10.setCells g2 0 zcs = vz at OV ⊢))
    refine bodyPost_ret (v := .tuple #[.agg zcs.toArray, .int .i64 2200]) (results_cell_tmp Try.results15 (by rfl) (by rfl) (load_msg OV.out.1 zcs_len)) rfl ⟨Msg.zero, none, 0, 2200, rfl, ⟨ents_nil _ _, no_addr _⟩, OV.out.2.1, .inr ⟨rfl, rfl, ?_⟩⟩
    cases hd : decOk s
    · rfl
    · exact absurd (hfw.out hd) (by rintro ⟨_, h1, _⟩; simp [h1] at z0)
  go_wp2_with (first
    | ((with_reducible refine gate_store (t := 34) (p := 129) rfl ?_); refine wpList_store_mid rfl 34 _ _ rfl gm 31 (stVs gb gn).toArray rfl rfl ?ht ?hi ?h1 ?_; (case ht => exact Iu9.out.m.thereMid 31 2 (show (33 : Nat) ≤ 33 from by decide)); (case hi => exact infoStamp); (case h1 => exact all_oneCell_toArray (stVs_one _ _)); have Iu10 := Lib.hid (RefI.sets (stVs gb gn) 31 _ _ Iu9.out); change wpList _ _ _ _ _ (World.setCells u9 gm 31 (stVs gb gn)); change Hid (RefI w (World.setCells u9 gm 31 (stVs gb gn)) _ _ _ _ _) at Iu10; generalize World.setCells u9 gm 31 (stVs gb gn) = u10 at Iu10 ⊢; replace Iu10 := Lib.hid (Hcs0.out ▸ Iu10.out); have r0 := Iu10.out.r.cell 0 rfl; have r1 := Iu10.out.r.cell 1 rfl; dsimp only at r0 r1; have c0 := Iu10.out.m.cell 0 Hk0.out)
    | ((with_reducible refine gate_dst (N := 144) rfl ?_); refine wpList_load_mid rfl 36 _ rfl gm 0 rfl cs _ ?hc Try.underlying36 rfl ?hi ?_; (case hc => exact Iu10.out.m.range); (case hi => rw [Hcl.out]; exact infoMsg)))
  refine (HE.out _ (EA.out _)).mono ?_
  rintro e ue ⟨rfl, hb⟩
  have Iue := Lib.hid (Iu10.out.below hb)
  have EE := Lib.hid (EA.out ue)
  clear hb r0 r1
  generalize hE1 : m.refE.1 = E1 at *
  generalize hE2 : m.refE.2 = E2 at *
  have HE1 := Lib.hid hE1; have HE2 := Lib.hid hE2
  clear hE1 hE2
  rcases orFalse (E2 == 0) with z1 | z1
  rotate_left
  · skip
    go_wp2_with (first
      | ((with_reducible refine gate_dst (N := 156) rfl ?_); refine Kd.event_run rfl (run_buildM _ _ rfl _) ?_)
      | ((with_reducible refine gate_store (t := 36) (p := 2) rfl ?_); refine wpList_store_mid rfl 36 _ _ rfl g2 0 zcs.toArray rfl rfl ?ht ?hi ?h1 ?_; (case ht => exact Iue.out.z.there 33 (Nat.le_refl 33)); (case hi => exact infoMsg); (case h1 => exact all_oneCell_toArray zcs_one); have OV := Lib.hid (Iue.out.over zcs rfl); change wpList _ _ _ _ _ (ue.setCells g2 0 zcs); generalize ue.setCells g2 0 zcs = vz at OV ⊢))
    refine bodyPost_ret (v := .tuple #[.agg zcs.toArray, .int .i64 2200]) (results_cell_tmp Try.results15 (by rfl) (by rfl) (load_msg OV.out.1 zcs_len)) rfl ⟨Msg.zero, none, 0, 2200, rfl, ⟨ents_nil _ _, no_addr _⟩, OV.out.2.1, .inr ⟨rfl, rfl, ?_⟩⟩
    cases hd : decOk s
    · rfl
    · exact absurd (hfw.out hd) (by rintro ⟨_, _, h1⟩; rw [← HE2.out, h1] at z1; cases z1)
  rcases orFalse (E1.toList == s.toList) with z2 | z2
  rotate_left
  · skip
    go_wp2_with (first
      | ((with_reducible refine gate_dst (N := 156) rfl ?_); refine Kd.event_run rfl (run_buildM _ _ rfl _) ?_)
      | ((with_reducible refine gate_store (t := 36) (p := 2) rfl ?_); refine wpList_store_mid rfl 36 _ _ rfl g2 0 zcs.toArray rfl rfl ?ht ?hi ?h1 ?_; (case ht => exact Iue.out.z.there 33 (Nat.le_refl 33)); (case hi => exact infoMsg); (case h1 => exact all_oneCell_toArray zcs_one); have OV := Lib.hid (Iue.out.over zcs rfl); change wpList _ _ _ _ _ (ue.setCells g2 0 zcs); generalize ue.setCells g2 0 zcs = vz at OV ⊢))
    refine bodyPost_ret (v := .tuple #[.agg zcs.toArray, .int .i64 2200]) (results_cell_tmp Try.results15 (by rfl) (by rfl) (load_msg OV.out.1 zcs_len)) rfl ⟨Msg.zero, none, 0, 2200, rfl, ⟨ents_nil _ _, no_addr _⟩, OV.out.2.1, .inr ⟨rfl, rfl, ?_⟩⟩
    cases hd : decOk s
    · rfl
    · exact absurd (hfw.out hd) (by rintro ⟨_, _, h1⟩; rw [← HE1.out, h1] at z2; simp at z2)
  go_wp2_with (first
    | ((with_reducible refine gate_dst (N := 155) rfl ?_); refine wpList_load_mid rfl 36 _ rfl gm 0 rfl cs _ ?hc Try.underlying36 rfl ?hi ?_; (case hc => exact Iue.out.m.range); (case hi => rw [Hcl.out]; exact infoMsg))
    | ((with_reducible refine gate_store (t := 36) (p := 2) rfl ?_); refine wpList_store_mid rfl 36 _ _ rfl g2 0 cs.toArray rfl rfl ?ht ?hi ?h1 ?_; (case ht => exact Iue.out.z.there _ (by rw [List.size_toArray, Hcl.out]; exact Nat.le_refl 33)); (case hi => rw [List.size_toArray, Hcl.out]; exact infoMsg); (case h1 => exact all_oneCell_toArray Hco.out); have OV := Lib.hid (Iue.out.over cs Hcl.out); change wpList _ _ _ _ _ (ue.setCells g2 0 cs); generalize ue.setCells g2 0 cs = vz at OV ⊢))
  refine bodyPost_ret (v := .tuple #[.agg cs.toArray, .int .i64 0]) (results_cell_tmp Try.results15 (by rfl) (by rfl) (load_msg OV.out.1 Hcl.out)) rfl ⟨m, none, 0, 0, by rw [Hcs.out], ⟨OV.out.2.2 none m.list NA.out EE.out, NB.out⟩, OV.out.2.1, .inl ⟨rfl, hok.out, ?_⟩⟩
  have e1 : E1 = s := ba_inj (by simpa using z2)
  have e2 : E2 = 0 := by simpa using z1
  exact Prod.ext (HE1.out.trans e1) (HE2.out.trans e2)

set_option maxHeartbeats 8000000 in
set_option maxRecDepth 100000 in
theorem refdec_other (s : ByteArray) (ρ0 ρ1 ρ2 ρ3 ρ4 ρ5 : Rr) (r : ByteArray) (hρ0 : Hid (ρ0 = ⟨s, false⟩)) (k c x : Int) (boot gb gn : Int)
    (C1 : Hid (NumC ρ0 ρ1 1 k)) (C2 : Hid (NumC ρ1 ρ2 4 c)) (C3 : Hid (NumC ρ2 ρ3 8 x)) (C4 : Hid (NumC ⟨ρ3.s, true⟩ ρ4 8 boot)) (C5 : Hid (NumC ρ4 ρ5 8 gb)) (C6 : Hid (NumC ρ5 ⟨r, true⟩ 8 gn))
    (k0 : 0 ≤ k) (k9 : k ≤ 255) (c0' : 0 ≤ c) (c9 : c ≤ 4294967295) (kb1 : (k == 1) = false) (kb2 : (k == 2) = false) (kb3 : (k == 3) = false) (kb4 : (k == 4) = false) (kn : (k != 1) = true)
    (hno : decOk s = false) (w : World) :
    Calls Try.prog 15 #[.string s] w (RefPost s w) := by
  go_enter Try.func15, Try.ntmps15
  go_wp2_with (first
    | ((with_reducible refine gate_dst (N := 2) rfl ?_); refine box_event rfl (N := 2) rfl (run_allocM _ _ rfl _) ?_; intro g2 hg2 v1 hbox hbel; have BZ := Lib.hid (show Blk v1 g2 36 zcs from hbox); have BLg2 := Lib.hid hbel; have Hg2 := Lib.hid hg2; clear hbox hbel hg2)
    | ((with_reducible refine gate_dst (N := 13) rfl ?_); refine box_event rfl (N := 13) rfl (run_box _ _ _ 95 _ #[.string s, .bool false] rfl rfl _) ?_; intro gR hgR u0 hbox hbel; have BR := Lib.hid (show Blk u0 gR 95 [.string s, .bool false] from hbox); have BLR := Lib.hid hbel; have HgR := Lib.hid hgR; clear hbox hbel hgR))
  have Iu0 : Hid (RefH w u0 gR g2 ρ0) := Lib.hid ⟨hρ0.out ▸ BR.out, BZ.out.below BLR.out, BLg2.out.trans (BLR.out.mono BLg2.out.size), by rw [HgR.out]; exact BLg2.out.size, Nat.le_of_eq Hg2.out.symm, by have := BZ.out.lt; have := HgR.out; omega⟩
  clear BR BZ BLR BLg2 HgR Hg2
  refine (C1.out _ u0 Iu0.out.r).mono ?_
  rintro e u1 ⟨rfl, q⟩
  have Iu1 := Lib.hid (Iu0.out.next q); clear q
  go_wp2_with fail
  refine (C2.out _ u1 Iu1.out.r).mono ?_
  rintro e u2 ⟨rfl, q⟩
  have Iu2 := Lib.hid (Iu1.out.next q); clear q
  go_wp2_with fail
  refine (C3.out _ u2 Iu2.out.r).mono ?_
  rintro e u3 ⟨rfl, q⟩
  have Iu3 := Lib.hid (Iu2.out.next q); clear q
  go_wp2_with (first
    | ((with_reducible refine gate_dst (N := 22) rfl ?_); refine Kd.event_run (v := .agg (hm k c x).toArray) rfl ?hr ?_; (case hr => go_simp; rfl))
    | ((with_reducible refine gate_dst (N := 5) rfl ?_); refine box_event rfl (N := 5) rfl (run_allocM _ _ rfl _) ?_; intro gm hgm v5 hbox hbel; have Bgm := Lib.hid (show Blk v5 gm 36 zcs from hbox); have BLgm := Lib.hid hbel; have Hgm := Lib.hid hgm; clear hbox hbel hgm)
    | ((with_reducible refine gate_store (t := 36) (p := 5) rfl ?_); refine wpList_store_mid rfl 36 _ _ rfl gm 0 (hm k c x).toArray rfl rfl ?ht ?hi ?h1 ?_; (case ht => exact Bgm.out.there _ (by rw [List.size_toArray, hm_len k c x]; exact Nat.le_refl 33)); (case hi => rw [List.size_toArray, hm_len k c x]; exact infoMsg); (case h1 => exact all_oneCell_toArray (hm_one k c x)); have B2gm := Lib.hid (Bgm.out.setAll (hm k c x) (by rw [hm_len k c x]; rfl)); have Kgm := Lib.hid (Keeps.setCells (S := fun k => k = gm) (hm k c x) 0 v5 (Keeps.refl _ _) (fun _ => rfl)); change wpList _ _ _ _ _ (v5.setCells gm 0 (hm k c x)); generalize v5.setCells gm 0 (hm k c x) = u4 at B2gm Kgm ⊢; have BMgm := Lib.hid (BLgm.out.trans (Kgm.out.below BLgm.out.size (fun k hk => by show ¬ k = gm; have := Hgm.out; omega))); have HHgm := Lib.hid Hgm.out; clear Bgm BLgm Kgm Hgm; have Iu4 : Hid (RefI w u4 gR g2 gm ρ3 (hm k c x)) := Lib.hid (refI_new Iu3.out B2gm.out BMgm.out HHgm.out); clear Iu3 B2gm BMgm HHgm; have c0 := Iu4.out.m.cell 0 rfl); have r1 := Iu4.out.r.cell 1 rfl; have rf1 := Iu4.out.r.frozen 1; have hn1 := Iu4.out.n1; have Iv := Lib.hid Iu4.out.bad)
  refine (C4.out _ _ Iv.out.r).mono ?_
  rintro e u6 ⟨rfl, q⟩
  have Iu6 := Lib.hid (Iv.out.next q); clear q
  have c30 := Iu6.out.m.cell 30 rfl
  have f30 := Iu6.out.m.frozen 30
  clear hn1 r1 rf1
  have Iv := Lib.hid (Iu6.out.set 30 (.int .u64 boot))
  go_wp2_with fail
  refine (C5.out _ _ Iv.out.r).mono ?_
  rintro e u7 ⟨rfl, q⟩
  have Iu7 := Lib.hid (Iv.out.next q); clear q
  go_wp2_with fail
  refine (C6.out _ u7 Iu7.out.r).mono ?_
  rintro e u8 ⟨rfl, q⟩
  have Iu8 := Lib.hid (Iu7.out.next q); clear q
  go_wp2_with (first
    | ((with_reducible refine gate_store (t := 34) (p := 129) rfl ?_); refine wpList_store_mid rfl 34 _ _ rfl gm 31 (stVs gb gn).toArray rfl rfl ?ht ?hi ?h1 ?_; (case ht => exact Iu8.out.m.thereMid 31 2 (show (33 : Nat) ≤ 33 from by decide)); (case hi => exact infoStamp); (case h1 => exact all_oneCell_toArray (stVs_one _ _)); have Iu9 := Lib.hid (RefI.sets (stVs gb gn) 31 _ _ Iu8.out); change wpList _ _ _ _ _ (World.setCells u8 gm 31 (stVs gb gn)); change Hid (RefI w (World.setCells u8 gm 31 (stVs gb gn)) _ _ _ _ _) at Iu9; generalize World.setCells u8 gm 31 (stVs gb gn) = u9 at Iu9 ⊢; have r0 := Iu9.out.r.cell 0 rfl; have r1 := Iu9.out.r.cell 1 rfl; dsimp only at r0 r1; have c0 := Iu9.out.m.cell 0 rfl)
      | ((with_reducible refine gate_dst (N := 156) rfl ?_); refine Kd.event_run rfl (run_buildM _ _ rfl _) ?_)
      | ((with_reducible refine gate_store (t := 36) (p := 2) rfl ?_); refine wpList_store_mid rfl 36 _ _ rfl g2 0 zcs.toArray rfl rfl ?ht ?hi ?h1 ?_; (case ht => exact Iu9.out.z.there 33 (Nat.le_refl 33)); (case hi => exact infoMsg); (case h1 => exact all_oneCell_toArray zcs_one); have OV := Lib.hid (Iu9.out.over zcs rfl); change wpList _ _ _ _ _ (u9.setCells g2 0 zcs); generalize u9.setCells g2 0 zcs = vz at OV ⊢))
  refine bodyPost_ret (v := .tuple #[.agg zcs.toArray, .int .i64 2200]) (results_cell_tmp Try.results15 (by rfl) (by rfl) (load_msg OV.out.1 zcs_len)) rfl ⟨Msg.zero, none, 0, 2200, rfl, ⟨ents_nil _ _, no_addr _⟩, OV.out.2.1, .inr ⟨rfl, rfl, hno⟩⟩

end Go.Proofs.Ytibcadfpengacaa
