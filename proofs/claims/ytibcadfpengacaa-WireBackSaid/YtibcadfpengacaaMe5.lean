/- The reference's Encode (chapter 22), its parts but lay: long, may, one, yes, small, emptyAnswer, tail. Condition: the message's numbers and texts are what their types let be. The reference's Encode (chapter 22): tail, lay, long, Encode. Condition: the message's numbers and texts are what their types let be. PRINTED in part by genref.py The reference's lay of a call (chapter 22). Condition: its texts are at most 4096 bytes. PRINTED in part by genref.py The reference's lay of a reply (chapter 22). Condition: its texts are at most 4096 bytes, its list at most 64. PRINTED in part by genref.py The reference's Encode (chapter 22): what it answers at every message. Condition: the message's numbers and texts are what their types let be; the list's entries are read. The plain law of a message's bytes: what wire.Encode answers is what the reference answers. Condition: the message's numbers are of their kinds. The plain law of a message read back: the bytes of a message, whatever stands behind them, are read as that message. Condition: the message may be. holtlaw22's awake: it answers true. No condition. -/
import Derived.Test.YtibcadfpengacaaMe4
-- RefM
set_option linter.unusedVariables false
set_option linter.unusedSimpArgs false
namespace Go.Proofs.Ytibcadfpengacaa
open Go.RowKit Go.Lib Go.Proofs.YtibcadfpengacaaW.PrintWords Go.Proofs.YtibcadfpengacaaW.PrintMore Go.Proofs.YtibcadfpengacaaW.PrintLast
attribute [local go_sem high] eqHd eqAttr eqStamp eqEnt eqAsk

def oneS (x : Int) : ByteArray := leS (x % 256).toNat 1
theorem one_says (x : Int) : Says 55 (.int .i64 x) (oneS x) := fun w => by
  refine Pyes.holtref22_one.calls x (oneS x) w ?_
  unfold Pyes.holtref22_one.f
  congr 1
  unfold strOfNums oneS leS leB leB
  congr 2
  rw [List.map_cons, List.map_nil]
  congr 1
  have : (x % 256).toNat % 256 = (x % 256).toNat := by omega
  rw [this]
theorem yes_says (b : Bool) : Says 60 (.bool b) (leS b.toNat 1) := fun w => by
  refine Pyes.holtref22_yes.calls b (leS b.toNat 1) w ?_
  cases b <;> rfl

def smallB (x : Int) : Bool := decide (0 ≤ x ∧ x ≤ 255)
theorem smallB_of {x : Int} (h0 : 0 ≤ x) (h1 : x ≤ 255) : smallB x = true := decide_eq_true ⟨h0, h1⟩
set_option maxHeartbeats 1000000 in
theorem small_any (x : Int) (w : World) : Calls Try.prog 53 #[.int .i64 x] w fun e w' => e = .returned (.bool (smallB x)) ∧ w = w' := by
  by_cases h0 : 0 ≤ x
  · by_cases h1 : x ≤ 255
    · rw [smallB_of h0 h1]
      go_enter Try.func53, Try.ntmps53
      go_wp2
      go_ret
      exact ⟨rfl, rfl⟩
    · have e : smallB x = false := decide_eq_false (by omega)
      rw [e]
      have h2 : decide (x ≤ 255) = false := decide_eq_false h1
      clear e
      go_enter Try.func53, Try.ntmps53
      go_wp2
      go_ret
      exact ⟨rfl, rfl⟩
  · have e : smallB x = false := decide_eq_false (by omega)
    rw [e]
    have h2 : decide (0 ≤ x) = false := decide_eq_false h0
    clear e
    go_enter Try.func53, Try.ntmps53
    go_wp2
    go_ret
    exact ⟨rfl, rfl⟩

set_option maxHeartbeats 4000000 in
set_option maxRecDepth 100000 in
theorem emptyAns_raw (status ae asn ai ag akind links size change : Int) (adata : ByteArray) (eof : Bool) (anum : Int) (A : Option Addr) (n c : Nat) (b0 b1 b2 b3 b5 b6 : Bool)
    (h0 : (status == 0) = b0) (h1 : hdEq ae asn ai ag 0 0 0 0 = b1) (h2 : attrEq akind links size change 0 0 0 0 = b2) (h3 : adata.toList.isEmpty = b3) (h5 : (anum == 0) = b5) (h6 : ((n : Int) == 0) = b6) (w : World) :
    Calls Try.prog 54 #[.agg #[.int .i64 status, .int .u32 ae, .int .u64 asn, .int .u64 ai, .int .u64 ag, .int .i64 akind, .int .u32 links, .int .u64 size, .int .u64 change, .string adata, .bool eof, .int .u64 anum, .slice A n c]] w fun e w' => e = .returned (.bool (b0 && b1 && b2 && b3 && (!eof) && b5 && b6)) ∧ Below w.heap.size w w' := by
  have KB := Lib.hid ((Below.refl w.heap.size w).alloc (Nat.le_refl _) (.cells #[.int .i64 status, .int .u32 ae, .int .u64 asn, .int .u64 ai, .int .u64 ag, .int .i64 akind, .int .u32 links, .int .u64 size, .int .u64 change, .string adata, .bool eof, .int .u64 anum, .slice A n c] 32 (0, 0)))
  cases b0
  · go_enter Try.func54, Try.ntmps54
    go_wp2
    go_ret
    exact ⟨rfl, KB.out⟩
  cases b1
  · go_enter Try.func54, Try.ntmps54
    go_wp2
    go_ret
    exact ⟨rfl, KB.out⟩
  cases b2
  · go_enter Try.func54, Try.ntmps54
    go_wp2
    go_ret
    exact ⟨rfl, KB.out⟩
  cases b3
  · go_enter Try.func54, Try.ntmps54
    go_wp2
    go_ret
    exact ⟨rfl, KB.out⟩
  cases eof
  rotate_left
  · go_enter Try.func54, Try.ntmps54
    go_wp2
    go_ret
    exact ⟨rfl, KB.out⟩
  cases b5
  · go_enter Try.func54, Try.ntmps54
    go_wp2
    go_ret
    exact ⟨rfl, KB.out⟩
  cases b6
  · go_enter Try.func54, Try.ntmps54
    go_wp2
    go_ret
    exact ⟨rfl, KB.out⟩
  · go_enter Try.func54, Try.ntmps54
    go_wp2
    go_ret
    exact ⟨rfl, KB.out⟩

def Msg.noAns (m : Msg) : Bool := Go.Proofs.Ytibcadfpengacaa.noAns m.status m.ah.ex m.ah.snap m.ah.ino m.ah.gen m.akind m.links m.size m.change m.adata m.eof m.anum m.list.length
theorem emptyAns_any (m : Msg) (A : Option Addr) (c : Nat) (w : World) :
    Calls Try.prog 54 #[.agg #[.int .i64 m.status, .int .u32 m.ah.ex, .int .u64 m.ah.snap, .int .u64 m.ah.ino, .int .u64 m.ah.gen, .int .i64 m.akind, .int .u32 m.links, .int .u64 m.size, .int .u64 m.change, .string m.adata, .bool m.eof, .int .u64 m.anum, .slice A m.list.length c]] w fun e w' => e = .returned (.bool m.noAns) ∧ Below w.heap.size w w' :=
  emptyAns_raw _ _ _ _ _ _ _ _ _ _ _ _ _ _ _ _ _ _ _ _ _ rfl rfl rfl rfl rfl rfl w

set_option maxHeartbeats 8000000 in
set_option maxRecDepth 100000 in
theorem may_call (x : List Value) (m : Msg) (A : Option Addr) (c : Nat) (hx : MsgAt x m A c) (w : World)(ne : Bool) (hE : ∀ w, Calls Try.prog 54 #[.agg #[.int .i64 m.status, .int .u32 m.ah.ex, .int .u64 m.ah.snap, .int .u64 m.ah.ino, .int .u64 m.ah.gen, .int .i64 m.akind, .int .u32 m.links, .int .u64 m.size, .int .u64 m.change, .string m.adata, .bool m.eof, .int .u64 m.anum, .slice A m.list.length c]] w fun e w' => e = .returned (.bool ne) ∧ Below w.heap.size w w') (s1 z1 z2 : Bool) (h1 : smallB m.op = s1) (h2 : (m.boot == 0) = z1) (h3 : stampEq m.gb m.gn 0 0 = z2) (hk : m.kind = 1) :
    Calls Try.prog 37 #[.agg x.toArray] w fun e w' => e = .returned (.bool (s1 && ne && z1 && z2)) ∧ Below w.heap.size w w' := by
  have HX := Lib.hid hx; have CE := Lib.hid hE
  clear hx hE
  have k1 : (m.kind == 1) = true := by simp [hk]
  have Hk := Lib.hid hk
  clear hk
  cases s1
  · skip
    go_enter Try.func37, Try.ntmps37
    go_wp2_with  (first
    | ((with_reducible refine gate_dst (N := 1) rfl ?_); refine box_event rfl (N := 1) rfl (run_box _ _ _ 36 _ x.toArray rfl rfl _) ?_; intro gx hgx v1 hbox hbel; have BX := Lib.hid (show Blk v1 gx 36 x from hbox); have BL := Lib.hid hbel; have x0 := BX.out.cell 0 HX.out.c0; have x3 := BX.out.cell 3 (HX.out.ask 0 _ rfl); have x4 := BX.out.cell 4 (HX.out.ask 1 _ rfl); have x5 := BX.out.cell 5 (HX.out.ask 2 _ rfl); have x6 := BX.out.cell 6 (HX.out.ask 3 _ rfl); have x7 := BX.out.cell 7 (HX.out.ask 4 _ rfl); have x17 := BX.out.cell 17 (HX.out.ans 0 _ rfl); have x22 := BX.out.cell 22 (HX.out.ans 5 _ rfl); have x30 := BX.out.cell 30 HX.out.c30; have x31 := BX.out.cell 31 HX.out.c31; have x32 := BX.out.cell 32 HX.out.c32; clear hbox hbel hgx)
    | ((with_reducible refine gate_dst (N := 13) rfl ?_); refine gate_guard (by rfl) ?_; refine wpList_load_mid rfl 32 _ rfl gx 17 rfl _ _ (BX.out.part 17 _ HX.out.ans) Try.underlying32 rfl infoAns ?_)
    | ((with_reducible refine gate_dst (N := 58) rfl ?_); refine gate_guard (by rfl) ?_; refine wpList_load_mid rfl 32 _ rfl gx 17 rfl _ _ (BX.out.part 17 _ HX.out.ans) Try.underlying32 rfl infoAns ?_)
    | ((with_reducible refine gate_dst (N := 30) rfl ?_); refine wpList_load_mid rfl 27 _ rfl gx 3 rfl _ _ (BX.out.part 3 _ HX.out.ask) Try.underlying27 rfl infoAsk ?_)
    | ((with_reducible refine gate_dst (N := 50) rfl ?_); refine wpList_load_mid rfl 27 _ rfl gx 3 rfl _ _ (BX.out.part 3 _ HX.out.ask) Try.underlying27 rfl infoAsk ?_)
    | (go_at_call 53; refine (small_any _ _).mono ?_; rintro e w' ⟨rfl, rfl⟩)
    | (go_at_call 54; with_reducible refine (CE.out _).mono ?_; rintro e w' ⟨rfl, hb⟩; have KB := Lib.hid (BL.out.trans (hb.mono BL.out.size)); have y30 := (BX.out.below hb).cell 30 HX.out.c30; have y31 := (BX.out.below hb).cell 31 HX.out.c31; have y32 := (BX.out.below hb).cell 32 HX.out.c32; clear hb x0 x3 x4 x5 x6 x7 x17 x22 x30 x31 x32))
    go_ret
    exact ⟨rfl, BL.out⟩
  cases ne
  · skip
    go_enter Try.func37, Try.ntmps37
    go_wp2_with  (first
    | ((with_reducible refine gate_dst (N := 1) rfl ?_); refine box_event rfl (N := 1) rfl (run_box _ _ _ 36 _ x.toArray rfl rfl _) ?_; intro gx hgx v1 hbox hbel; have BX := Lib.hid (show Blk v1 gx 36 x from hbox); have BL := Lib.hid hbel; have x0 := BX.out.cell 0 HX.out.c0; have x3 := BX.out.cell 3 (HX.out.ask 0 _ rfl); have x4 := BX.out.cell 4 (HX.out.ask 1 _ rfl); have x5 := BX.out.cell 5 (HX.out.ask 2 _ rfl); have x6 := BX.out.cell 6 (HX.out.ask 3 _ rfl); have x7 := BX.out.cell 7 (HX.out.ask 4 _ rfl); have x17 := BX.out.cell 17 (HX.out.ans 0 _ rfl); have x22 := BX.out.cell 22 (HX.out.ans 5 _ rfl); have x30 := BX.out.cell 30 HX.out.c30; have x31 := BX.out.cell 31 HX.out.c31; have x32 := BX.out.cell 32 HX.out.c32; clear hbox hbel hgx)
    | ((with_reducible refine gate_dst (N := 13) rfl ?_); refine gate_guard (by rfl) ?_; refine wpList_load_mid rfl 32 _ rfl gx 17 rfl _ _ (BX.out.part 17 _ HX.out.ans) Try.underlying32 rfl infoAns ?_)
    | ((with_reducible refine gate_dst (N := 58) rfl ?_); refine gate_guard (by rfl) ?_; refine wpList_load_mid rfl 32 _ rfl gx 17 rfl _ _ (BX.out.part 17 _ HX.out.ans) Try.underlying32 rfl infoAns ?_)
    | ((with_reducible refine gate_dst (N := 30) rfl ?_); refine wpList_load_mid rfl 27 _ rfl gx 3 rfl _ _ (BX.out.part 3 _ HX.out.ask) Try.underlying27 rfl infoAsk ?_)
    | ((with_reducible refine gate_dst (N := 50) rfl ?_); refine wpList_load_mid rfl 27 _ rfl gx 3 rfl _ _ (BX.out.part 3 _ HX.out.ask) Try.underlying27 rfl infoAsk ?_)
    | (go_at_call 53; refine (small_any _ _).mono ?_; rintro e w' ⟨rfl, rfl⟩)
    | (go_at_call 54; with_reducible refine (CE.out _).mono ?_; rintro e w' ⟨rfl, hb⟩; have KB := Lib.hid (BL.out.trans (hb.mono BL.out.size)); have y30 := (BX.out.below hb).cell 30 HX.out.c30; have y31 := (BX.out.below hb).cell 31 HX.out.c31; have y32 := (BX.out.below hb).cell 32 HX.out.c32; clear hb x0 x3 x4 x5 x6 x7 x17 x22 x30 x31 x32))
    go_ret
    exact ⟨rfl, KB.out⟩
  cases z1
  · skip
    go_enter Try.func37, Try.ntmps37
    go_wp2_with  (first
    | ((with_reducible refine gate_dst (N := 1) rfl ?_); refine box_event rfl (N := 1) rfl (run_box _ _ _ 36 _ x.toArray rfl rfl _) ?_; intro gx hgx v1 hbox hbel; have BX := Lib.hid (show Blk v1 gx 36 x from hbox); have BL := Lib.hid hbel; have x0 := BX.out.cell 0 HX.out.c0; have x3 := BX.out.cell 3 (HX.out.ask 0 _ rfl); have x4 := BX.out.cell 4 (HX.out.ask 1 _ rfl); have x5 := BX.out.cell 5 (HX.out.ask 2 _ rfl); have x6 := BX.out.cell 6 (HX.out.ask 3 _ rfl); have x7 := BX.out.cell 7 (HX.out.ask 4 _ rfl); have x17 := BX.out.cell 17 (HX.out.ans 0 _ rfl); have x22 := BX.out.cell 22 (HX.out.ans 5 _ rfl); have x30 := BX.out.cell 30 HX.out.c30; have x31 := BX.out.cell 31 HX.out.c31; have x32 := BX.out.cell 32 HX.out.c32; clear hbox hbel hgx)
    | ((with_reducible refine gate_dst (N := 13) rfl ?_); refine gate_guard (by rfl) ?_; refine wpList_load_mid rfl 32 _ rfl gx 17 rfl _ _ (BX.out.part 17 _ HX.out.ans) Try.underlying32 rfl infoAns ?_)
    | ((with_reducible refine gate_dst (N := 58) rfl ?_); refine gate_guard (by rfl) ?_; refine wpList_load_mid rfl 32 _ rfl gx 17 rfl _ _ (BX.out.part 17 _ HX.out.ans) Try.underlying32 rfl infoAns ?_)
    | ((with_reducible refine gate_dst (N := 30) rfl ?_); refine wpList_load_mid rfl 27 _ rfl gx 3 rfl _ _ (BX.out.part 3 _ HX.out.ask) Try.underlying27 rfl infoAsk ?_)
    | ((with_reducible refine gate_dst (N := 50) rfl ?_); refine wpList_load_mid rfl 27 _ rfl gx 3 rfl _ _ (BX.out.part 3 _ HX.out.ask) Try.underlying27 rfl infoAsk ?_)
    | (go_at_call 53; refine (small_any _ _).mono ?_; rintro e w' ⟨rfl, rfl⟩)
    | (go_at_call 54; with_reducible refine (CE.out _).mono ?_; rintro e w' ⟨rfl, hb⟩; have KB := Lib.hid (BL.out.trans (hb.mono BL.out.size)); have y30 := (BX.out.below hb).cell 30 HX.out.c30; have y31 := (BX.out.below hb).cell 31 HX.out.c31; have y32 := (BX.out.below hb).cell 32 HX.out.c32; clear hb x0 x3 x4 x5 x6 x7 x17 x22 x30 x31 x32))
    go_ret
    exact ⟨rfl, KB.out⟩
  cases z2
  · skip
    go_enter Try.func37, Try.ntmps37
    go_wp2_with  (first
    | ((with_reducible refine gate_dst (N := 1) rfl ?_); refine box_event rfl (N := 1) rfl (run_box _ _ _ 36 _ x.toArray rfl rfl _) ?_; intro gx hgx v1 hbox hbel; have BX := Lib.hid (show Blk v1 gx 36 x from hbox); have BL := Lib.hid hbel; have x0 := BX.out.cell 0 HX.out.c0; have x3 := BX.out.cell 3 (HX.out.ask 0 _ rfl); have x4 := BX.out.cell 4 (HX.out.ask 1 _ rfl); have x5 := BX.out.cell 5 (HX.out.ask 2 _ rfl); have x6 := BX.out.cell 6 (HX.out.ask 3 _ rfl); have x7 := BX.out.cell 7 (HX.out.ask 4 _ rfl); have x17 := BX.out.cell 17 (HX.out.ans 0 _ rfl); have x22 := BX.out.cell 22 (HX.out.ans 5 _ rfl); have x30 := BX.out.cell 30 HX.out.c30; have x31 := BX.out.cell 31 HX.out.c31; have x32 := BX.out.cell 32 HX.out.c32; clear hbox hbel hgx)
    | ((with_reducible refine gate_dst (N := 13) rfl ?_); refine gate_guard (by rfl) ?_; refine wpList_load_mid rfl 32 _ rfl gx 17 rfl _ _ (BX.out.part 17 _ HX.out.ans) Try.underlying32 rfl infoAns ?_)
    | ((with_reducible refine gate_dst (N := 58) rfl ?_); refine gate_guard (by rfl) ?_; refine wpList_load_mid rfl 32 _ rfl gx 17 rfl _ _ (BX.out.part 17 _ HX.out.ans) Try.underlying32 rfl infoAns ?_)
    | ((with_reducible refine gate_dst (N := 30) rfl ?_); refine wpList_load_mid rfl 27 _ rfl gx 3 rfl _ _ (BX.out.part 3 _ HX.out.ask) Try.underlying27 rfl infoAsk ?_)
    | ((with_reducible refine gate_dst (N := 50) rfl ?_); refine wpList_load_mid rfl 27 _ rfl gx 3 rfl _ _ (BX.out.part 3 _ HX.out.ask) Try.underlying27 rfl infoAsk ?_)
    | (go_at_call 53; refine (small_any _ _).mono ?_; rintro e w' ⟨rfl, rfl⟩)
    | (go_at_call 54; with_reducible refine (CE.out _).mono ?_; rintro e w' ⟨rfl, hb⟩; have KB := Lib.hid (BL.out.trans (hb.mono BL.out.size)); have y30 := (BX.out.below hb).cell 30 HX.out.c30; have y31 := (BX.out.below hb).cell 31 HX.out.c31; have y32 := (BX.out.below hb).cell 32 HX.out.c32; clear hb x0 x3 x4 x5 x6 x7 x17 x22 x30 x31 x32))
    go_ret
    exact ⟨rfl, KB.out⟩
  · skip
    go_enter Try.func37, Try.ntmps37
    go_wp2_with  (first
    | ((with_reducible refine gate_dst (N := 1) rfl ?_); refine box_event rfl (N := 1) rfl (run_box _ _ _ 36 _ x.toArray rfl rfl _) ?_; intro gx hgx v1 hbox hbel; have BX := Lib.hid (show Blk v1 gx 36 x from hbox); have BL := Lib.hid hbel; have x0 := BX.out.cell 0 HX.out.c0; have x3 := BX.out.cell 3 (HX.out.ask 0 _ rfl); have x4 := BX.out.cell 4 (HX.out.ask 1 _ rfl); have x5 := BX.out.cell 5 (HX.out.ask 2 _ rfl); have x6 := BX.out.cell 6 (HX.out.ask 3 _ rfl); have x7 := BX.out.cell 7 (HX.out.ask 4 _ rfl); have x17 := BX.out.cell 17 (HX.out.ans 0 _ rfl); have x22 := BX.out.cell 22 (HX.out.ans 5 _ rfl); have x30 := BX.out.cell 30 HX.out.c30; have x31 := BX.out.cell 31 HX.out.c31; have x32 := BX.out.cell 32 HX.out.c32; clear hbox hbel hgx)
    | ((with_reducible refine gate_dst (N := 13) rfl ?_); refine gate_guard (by rfl) ?_; refine wpList_load_mid rfl 32 _ rfl gx 17 rfl _ _ (BX.out.part 17 _ HX.out.ans) Try.underlying32 rfl infoAns ?_)
    | ((with_reducible refine gate_dst (N := 58) rfl ?_); refine gate_guard (by rfl) ?_; refine wpList_load_mid rfl 32 _ rfl gx 17 rfl _ _ (BX.out.part 17 _ HX.out.ans) Try.underlying32 rfl infoAns ?_)
    | ((with_reducible refine gate_dst (N := 30) rfl ?_); refine wpList_load_mid rfl 27 _ rfl gx 3 rfl _ _ (BX.out.part 3 _ HX.out.ask) Try.underlying27 rfl infoAsk ?_)
    | ((with_reducible refine gate_dst (N := 50) rfl ?_); refine wpList_load_mid rfl 27 _ rfl gx 3 rfl _ _ (BX.out.part 3 _ HX.out.ask) Try.underlying27 rfl infoAsk ?_)
    | (go_at_call 53; refine (small_any _ _).mono ?_; rintro e w' ⟨rfl, rfl⟩)
    | (go_at_call 54; with_reducible refine (CE.out _).mono ?_; rintro e w' ⟨rfl, hb⟩; have KB := Lib.hid (BL.out.trans (hb.mono BL.out.size)); have y30 := (BX.out.below hb).cell 30 HX.out.c30; have y31 := (BX.out.below hb).cell 31 HX.out.c31; have y32 := (BX.out.below hb).cell 32 HX.out.c32; clear hb x0 x3 x4 x5 x6 x7 x17 x22 x30 x31 x32))
    go_ret
    exact ⟨rfl, KB.out⟩

set_option maxHeartbeats 8000000 in
set_option maxRecDepth 100000 in
theorem may_reply (x : List Value) (m : Msg) (A : Option Addr) (c : Nat) (hx : MsgAt x m A c) (w : World)(a0 s1 s2 : Bool) (h0 : askEq m.op m.h.ex m.h.snap m.h.ino m.h.gen m.h2.ex m.h2.snap m.h2.ino m.h2.gen m.name m.name2 m.off m.num m.data 0 0 0 0 0 0 0 0 0 ⟨#[]⟩ ⟨#[]⟩ 0 0 ⟨#[]⟩ = a0) (h1 : smallB m.status = s1) (h2 : smallB m.akind = s2) (hk : m.kind = 2) :
    Calls Try.prog 37 #[.agg x.toArray] w fun e w' => e = .returned (.bool (a0 && s1 && s2)) ∧ Below w.heap.size w w' := by
  have HX := Lib.hid hx
  clear hx
  have k1 : (m.kind == 1) = false := by simp [hk]
  have k2 : (m.kind == 2) = true := by simp [hk]
  have Hk := Lib.hid hk
  clear hk
  cases a0
  · skip
    go_enter Try.func37, Try.ntmps37
    go_wp2_with  (first
    | ((with_reducible refine gate_dst (N := 1) rfl ?_); refine box_event rfl (N := 1) rfl (run_box _ _ _ 36 _ x.toArray rfl rfl _) ?_; intro gx hgx v1 hbox hbel; have BX := Lib.hid (show Blk v1 gx 36 x from hbox); have BL := Lib.hid hbel; have x0 := BX.out.cell 0 HX.out.c0; have x3 := BX.out.cell 3 (HX.out.ask 0 _ rfl); have x4 := BX.out.cell 4 (HX.out.ask 1 _ rfl); have x5 := BX.out.cell 5 (HX.out.ask 2 _ rfl); have x6 := BX.out.cell 6 (HX.out.ask 3 _ rfl); have x7 := BX.out.cell 7 (HX.out.ask 4 _ rfl); have x17 := BX.out.cell 17 (HX.out.ans 0 _ rfl); have x22 := BX.out.cell 22 (HX.out.ans 5 _ rfl); have x30 := BX.out.cell 30 HX.out.c30; have x31 := BX.out.cell 31 HX.out.c31; have x32 := BX.out.cell 32 HX.out.c32; clear hbox hbel hgx)
    | ((with_reducible refine gate_dst (N := 13) rfl ?_); refine gate_guard (by rfl) ?_; refine wpList_load_mid rfl 32 _ rfl gx 17 rfl _ _ (BX.out.part 17 _ HX.out.ans) Try.underlying32 rfl infoAns ?_)
    | ((with_reducible refine gate_dst (N := 58) rfl ?_); refine gate_guard (by rfl) ?_; refine wpList_load_mid rfl 32 _ rfl gx 17 rfl _ _ (BX.out.part 17 _ HX.out.ans) Try.underlying32 rfl infoAns ?_)
    | ((with_reducible refine gate_dst (N := 30) rfl ?_); refine wpList_load_mid rfl 27 _ rfl gx 3 rfl _ _ (BX.out.part 3 _ HX.out.ask) Try.underlying27 rfl infoAsk ?_)
    | ((with_reducible refine gate_dst (N := 50) rfl ?_); refine wpList_load_mid rfl 27 _ rfl gx 3 rfl _ _ (BX.out.part 3 _ HX.out.ask) Try.underlying27 rfl infoAsk ?_)
    | (go_at_call 53; refine (small_any _ _).mono ?_; rintro e w' ⟨rfl, rfl⟩)
    | (go_at_call 54; with_reducible refine (CE.out _).mono ?_; rintro e w' ⟨rfl, hb⟩; have KB := Lib.hid (BL.out.trans (hb.mono BL.out.size)); have y30 := (BX.out.below hb).cell 30 HX.out.c30; have y31 := (BX.out.below hb).cell 31 HX.out.c31; have y32 := (BX.out.below hb).cell 32 HX.out.c32; clear hb x0 x3 x4 x5 x6 x7 x17 x22 x30 x31 x32))
    go_ret
    exact ⟨rfl, BL.out⟩
  cases s1
  · skip
    go_enter Try.func37, Try.ntmps37
    go_wp2_with  (first
    | ((with_reducible refine gate_dst (N := 1) rfl ?_); refine box_event rfl (N := 1) rfl (run_box _ _ _ 36 _ x.toArray rfl rfl _) ?_; intro gx hgx v1 hbox hbel; have BX := Lib.hid (show Blk v1 gx 36 x from hbox); have BL := Lib.hid hbel; have x0 := BX.out.cell 0 HX.out.c0; have x3 := BX.out.cell 3 (HX.out.ask 0 _ rfl); have x4 := BX.out.cell 4 (HX.out.ask 1 _ rfl); have x5 := BX.out.cell 5 (HX.out.ask 2 _ rfl); have x6 := BX.out.cell 6 (HX.out.ask 3 _ rfl); have x7 := BX.out.cell 7 (HX.out.ask 4 _ rfl); have x17 := BX.out.cell 17 (HX.out.ans 0 _ rfl); have x22 := BX.out.cell 22 (HX.out.ans 5 _ rfl); have x30 := BX.out.cell 30 HX.out.c30; have x31 := BX.out.cell 31 HX.out.c31; have x32 := BX.out.cell 32 HX.out.c32; clear hbox hbel hgx)
    | ((with_reducible refine gate_dst (N := 13) rfl ?_); refine gate_guard (by rfl) ?_; refine wpList_load_mid rfl 32 _ rfl gx 17 rfl _ _ (BX.out.part 17 _ HX.out.ans) Try.underlying32 rfl infoAns ?_)
    | ((with_reducible refine gate_dst (N := 58) rfl ?_); refine gate_guard (by rfl) ?_; refine wpList_load_mid rfl 32 _ rfl gx 17 rfl _ _ (BX.out.part 17 _ HX.out.ans) Try.underlying32 rfl infoAns ?_)
    | ((with_reducible refine gate_dst (N := 30) rfl ?_); refine wpList_load_mid rfl 27 _ rfl gx 3 rfl _ _ (BX.out.part 3 _ HX.out.ask) Try.underlying27 rfl infoAsk ?_)
    | ((with_reducible refine gate_dst (N := 50) rfl ?_); refine wpList_load_mid rfl 27 _ rfl gx 3 rfl _ _ (BX.out.part 3 _ HX.out.ask) Try.underlying27 rfl infoAsk ?_)
    | (go_at_call 53; refine (small_any _ _).mono ?_; rintro e w' ⟨rfl, rfl⟩)
    | (go_at_call 54; with_reducible refine (CE.out _).mono ?_; rintro e w' ⟨rfl, hb⟩; have KB := Lib.hid (BL.out.trans (hb.mono BL.out.size)); have y30 := (BX.out.below hb).cell 30 HX.out.c30; have y31 := (BX.out.below hb).cell 31 HX.out.c31; have y32 := (BX.out.below hb).cell 32 HX.out.c32; clear hb x0 x3 x4 x5 x6 x7 x17 x22 x30 x31 x32))
    go_ret
    exact ⟨rfl, BL.out⟩
  cases s2
  · skip
    go_enter Try.func37, Try.ntmps37
    go_wp2_with  (first
    | ((with_reducible refine gate_dst (N := 1) rfl ?_); refine box_event rfl (N := 1) rfl (run_box _ _ _ 36 _ x.toArray rfl rfl _) ?_; intro gx hgx v1 hbox hbel; have BX := Lib.hid (show Blk v1 gx 36 x from hbox); have BL := Lib.hid hbel; have x0 := BX.out.cell 0 HX.out.c0; have x3 := BX.out.cell 3 (HX.out.ask 0 _ rfl); have x4 := BX.out.cell 4 (HX.out.ask 1 _ rfl); have x5 := BX.out.cell 5 (HX.out.ask 2 _ rfl); have x6 := BX.out.cell 6 (HX.out.ask 3 _ rfl); have x7 := BX.out.cell 7 (HX.out.ask 4 _ rfl); have x17 := BX.out.cell 17 (HX.out.ans 0 _ rfl); have x22 := BX.out.cell 22 (HX.out.ans 5 _ rfl); have x30 := BX.out.cell 30 HX.out.c30; have x31 := BX.out.cell 31 HX.out.c31; have x32 := BX.out.cell 32 HX.out.c32; clear hbox hbel hgx)
    | ((with_reducible refine gate_dst (N := 13) rfl ?_); refine gate_guard (by rfl) ?_; refine wpList_load_mid rfl 32 _ rfl gx 17 rfl _ _ (BX.out.part 17 _ HX.out.ans) Try.underlying32 rfl infoAns ?_)
    | ((with_reducible refine gate_dst (N := 58) rfl ?_); refine gate_guard (by rfl) ?_; refine wpList_load_mid rfl 32 _ rfl gx 17 rfl _ _ (BX.out.part 17 _ HX.out.ans) Try.underlying32 rfl infoAns ?_)
    | ((with_reducible refine gate_dst (N := 30) rfl ?_); refine wpList_load_mid rfl 27 _ rfl gx 3 rfl _ _ (BX.out.part 3 _ HX.out.ask) Try.underlying27 rfl infoAsk ?_)
    | ((with_reducible refine gate_dst (N := 50) rfl ?_); refine wpList_load_mid rfl 27 _ rfl gx 3 rfl _ _ (BX.out.part 3 _ HX.out.ask) Try.underlying27 rfl infoAsk ?_)
    | (go_at_call 53; refine (small_any _ _).mono ?_; rintro e w' ⟨rfl, rfl⟩)
    | (go_at_call 54; with_reducible refine (CE.out _).mono ?_; rintro e w' ⟨rfl, hb⟩; have KB := Lib.hid (BL.out.trans (hb.mono BL.out.size)); have y30 := (BX.out.below hb).cell 30 HX.out.c30; have y31 := (BX.out.below hb).cell 31 HX.out.c31; have y32 := (BX.out.below hb).cell 32 HX.out.c32; clear hb x0 x3 x4 x5 x6 x7 x17 x22 x30 x31 x32))
    go_ret
    exact ⟨rfl, BL.out⟩
  · skip
    go_enter Try.func37, Try.ntmps37
    go_wp2_with  (first
    | ((with_reducible refine gate_dst (N := 1) rfl ?_); refine box_event rfl (N := 1) rfl (run_box _ _ _ 36 _ x.toArray rfl rfl _) ?_; intro gx hgx v1 hbox hbel; have BX := Lib.hid (show Blk v1 gx 36 x from hbox); have BL := Lib.hid hbel; have x0 := BX.out.cell 0 HX.out.c0; have x3 := BX.out.cell 3 (HX.out.ask 0 _ rfl); have x4 := BX.out.cell 4 (HX.out.ask 1 _ rfl); have x5 := BX.out.cell 5 (HX.out.ask 2 _ rfl); have x6 := BX.out.cell 6 (HX.out.ask 3 _ rfl); have x7 := BX.out.cell 7 (HX.out.ask 4 _ rfl); have x17 := BX.out.cell 17 (HX.out.ans 0 _ rfl); have x22 := BX.out.cell 22 (HX.out.ans 5 _ rfl); have x30 := BX.out.cell 30 HX.out.c30; have x31 := BX.out.cell 31 HX.out.c31; have x32 := BX.out.cell 32 HX.out.c32; clear hbox hbel hgx)
    | ((with_reducible refine gate_dst (N := 13) rfl ?_); refine gate_guard (by rfl) ?_; refine wpList_load_mid rfl 32 _ rfl gx 17 rfl _ _ (BX.out.part 17 _ HX.out.ans) Try.underlying32 rfl infoAns ?_)
    | ((with_reducible refine gate_dst (N := 58) rfl ?_); refine gate_guard (by rfl) ?_; refine wpList_load_mid rfl 32 _ rfl gx 17 rfl _ _ (BX.out.part 17 _ HX.out.ans) Try.underlying32 rfl infoAns ?_)
    | ((with_reducible refine gate_dst (N := 30) rfl ?_); refine wpList_load_mid rfl 27 _ rfl gx 3 rfl _ _ (BX.out.part 3 _ HX.out.ask) Try.underlying27 rfl infoAsk ?_)
    | ((with_reducible refine gate_dst (N := 50) rfl ?_); refine wpList_load_mid rfl 27 _ rfl gx 3 rfl _ _ (BX.out.part 3 _ HX.out.ask) Try.underlying27 rfl infoAsk ?_)
    | (go_at_call 53; refine (small_any _ _).mono ?_; rintro e w' ⟨rfl, rfl⟩)
    | (go_at_call 54; with_reducible refine (CE.out _).mono ?_; rintro e w' ⟨rfl, hb⟩; have KB := Lib.hid (BL.out.trans (hb.mono BL.out.size)); have y30 := (BX.out.below hb).cell 30 HX.out.c30; have y31 := (BX.out.below hb).cell 31 HX.out.c31; have y32 := (BX.out.below hb).cell 32 HX.out.c32; clear hb x0 x3 x4 x5 x6 x7 x17 x22 x30 x31 x32))
    go_ret
    exact ⟨rfl, BL.out⟩

set_option maxHeartbeats 8000000 in
set_option maxRecDepth 100000 in
theorem may_back (x : List Value) (m : Msg) (A : Option Addr) (c : Nat) (hx : MsgAt x m A c) (w : World)(ne : Bool) (hE : ∀ w, Calls Try.prog 54 #[.agg #[.int .i64 m.status, .int .u32 m.ah.ex, .int .u64 m.ah.snap, .int .u64 m.ah.ino, .int .u64 m.ah.gen, .int .i64 m.akind, .int .u32 m.links, .int .u64 m.size, .int .u64 m.change, .string m.adata, .bool m.eof, .int .u64 m.anum, .slice A m.list.length c]] w fun e w' => e = .returned (.bool ne) ∧ Below w.heap.size w w') (a0 : Bool) (h0 : askEq m.op m.h.ex m.h.snap m.h.ino m.h.gen m.h2.ex m.h2.snap m.h2.ino m.h2.gen m.name m.name2 m.off m.num m.data 0 m.h.ex m.h.snap m.h.ino m.h.gen 0 0 0 0 ⟨#[]⟩ ⟨#[]⟩ 0 0 ⟨#[]⟩ = a0) (hk : m.kind = 3 ∨ m.kind = 4) :
    Calls Try.prog 37 #[.agg x.toArray] w fun e w' => e = .returned (.bool (a0 && ne)) ∧ Below w.heap.size w w' := by
  have HX := Lib.hid hx; have CE := Lib.hid hE
  clear hx hE
  have k1 : (m.kind == 1) = false := by rcases hk with h | h <;> simp [h]
  have k2 : (m.kind == 2) = false := by rcases hk with h | h <;> simp [h]
  by_cases h3 : m.kind = 3
  · have k3 : (m.kind == 3) = true := by simp [h3]
    have H3 := Lib.hid h3
    clear hk h3
    cases a0
    · skip
      go_enter Try.func37, Try.ntmps37
      go_wp2_with  (first
      | ((with_reducible refine gate_dst (N := 1) rfl ?_); refine box_event rfl (N := 1) rfl (run_box _ _ _ 36 _ x.toArray rfl rfl _) ?_; intro gx hgx v1 hbox hbel; have BX := Lib.hid (show Blk v1 gx 36 x from hbox); have BL := Lib.hid hbel; have x0 := BX.out.cell 0 HX.out.c0; have x3 := BX.out.cell 3 (HX.out.ask 0 _ rfl); have x4 := BX.out.cell 4 (HX.out.ask 1 _ rfl); have x5 := BX.out.cell 5 (HX.out.ask 2 _ rfl); have x6 := BX.out.cell 6 (HX.out.ask 3 _ rfl); have x7 := BX.out.cell 7 (HX.out.ask 4 _ rfl); have x17 := BX.out.cell 17 (HX.out.ans 0 _ rfl); have x22 := BX.out.cell 22 (HX.out.ans 5 _ rfl); have x30 := BX.out.cell 30 HX.out.c30; have x31 := BX.out.cell 31 HX.out.c31; have x32 := BX.out.cell 32 HX.out.c32; clear hbox hbel hgx)
      | ((with_reducible refine gate_dst (N := 13) rfl ?_); refine gate_guard (by rfl) ?_; refine wpList_load_mid rfl 32 _ rfl gx 17 rfl _ _ (BX.out.part 17 _ HX.out.ans) Try.underlying32 rfl infoAns ?_)
      | ((with_reducible refine gate_dst (N := 58) rfl ?_); refine gate_guard (by rfl) ?_; refine wpList_load_mid rfl 32 _ rfl gx 17 rfl _ _ (BX.out.part 17 _ HX.out.ans) Try.underlying32 rfl infoAns ?_)
      | ((with_reducible refine gate_dst (N := 30) rfl ?_); refine wpList_load_mid rfl 27 _ rfl gx 3 rfl _ _ (BX.out.part 3 _ HX.out.ask) Try.underlying27 rfl infoAsk ?_)
      | ((with_reducible refine gate_dst (N := 50) rfl ?_); refine wpList_load_mid rfl 27 _ rfl gx 3 rfl _ _ (BX.out.part 3 _ HX.out.ask) Try.underlying27 rfl infoAsk ?_)
      | (go_at_call 53; refine (small_any _ _).mono ?_; rintro e w' ⟨rfl, rfl⟩)
      | (go_at_call 54; with_reducible refine (CE.out _).mono ?_; rintro e w' ⟨rfl, hb⟩; have KB := Lib.hid (BL.out.trans (hb.mono BL.out.size)); have y30 := (BX.out.below hb).cell 30 HX.out.c30; have y31 := (BX.out.below hb).cell 31 HX.out.c31; have y32 := (BX.out.below hb).cell 32 HX.out.c32; clear hb x0 x3 x4 x5 x6 x7 x17 x22 x30 x31 x32))
      go_ret
      exact ⟨rfl, BL.out⟩
    cases ne
    · skip
      go_enter Try.func37, Try.ntmps37
      go_wp2_with  (first
      | ((with_reducible refine gate_dst (N := 1) rfl ?_); refine box_event rfl (N := 1) rfl (run_box _ _ _ 36 _ x.toArray rfl rfl _) ?_; intro gx hgx v1 hbox hbel; have BX := Lib.hid (show Blk v1 gx 36 x from hbox); have BL := Lib.hid hbel; have x0 := BX.out.cell 0 HX.out.c0; have x3 := BX.out.cell 3 (HX.out.ask 0 _ rfl); have x4 := BX.out.cell 4 (HX.out.ask 1 _ rfl); have x5 := BX.out.cell 5 (HX.out.ask 2 _ rfl); have x6 := BX.out.cell 6 (HX.out.ask 3 _ rfl); have x7 := BX.out.cell 7 (HX.out.ask 4 _ rfl); have x17 := BX.out.cell 17 (HX.out.ans 0 _ rfl); have x22 := BX.out.cell 22 (HX.out.ans 5 _ rfl); have x30 := BX.out.cell 30 HX.out.c30; have x31 := BX.out.cell 31 HX.out.c31; have x32 := BX.out.cell 32 HX.out.c32; clear hbox hbel hgx)
      | ((with_reducible refine gate_dst (N := 13) rfl ?_); refine gate_guard (by rfl) ?_; refine wpList_load_mid rfl 32 _ rfl gx 17 rfl _ _ (BX.out.part 17 _ HX.out.ans) Try.underlying32 rfl infoAns ?_)
      | ((with_reducible refine gate_dst (N := 58) rfl ?_); refine gate_guard (by rfl) ?_; refine wpList_load_mid rfl 32 _ rfl gx 17 rfl _ _ (BX.out.part 17 _ HX.out.ans) Try.underlying32 rfl infoAns ?_)
      | ((with_reducible refine gate_dst (N := 30) rfl ?_); refine wpList_load_mid rfl 27 _ rfl gx 3 rfl _ _ (BX.out.part 3 _ HX.out.ask) Try.underlying27 rfl infoAsk ?_)
      | ((with_reducible refine gate_dst (N := 50) rfl ?_); refine wpList_load_mid rfl 27 _ rfl gx 3 rfl _ _ (BX.out.part 3 _ HX.out.ask) Try.underlying27 rfl infoAsk ?_)
      | (go_at_call 53; refine (small_any _ _).mono ?_; rintro e w' ⟨rfl, rfl⟩)
      | (go_at_call 54; with_reducible refine (CE.out _).mono ?_; rintro e w' ⟨rfl, hb⟩; have KB := Lib.hid (BL.out.trans (hb.mono BL.out.size)); have y30 := (BX.out.below hb).cell 30 HX.out.c30; have y31 := (BX.out.below hb).cell 31 HX.out.c31; have y32 := (BX.out.below hb).cell 32 HX.out.c32; clear hb x0 x3 x4 x5 x6 x7 x17 x22 x30 x31 x32))
      go_ret
      exact ⟨rfl, KB.out⟩
    · skip
      go_enter Try.func37, Try.ntmps37
      go_wp2_with  (first
      | ((with_reducible refine gate_dst (N := 1) rfl ?_); refine box_event rfl (N := 1) rfl (run_box _ _ _ 36 _ x.toArray rfl rfl _) ?_; intro gx hgx v1 hbox hbel; have BX := Lib.hid (show Blk v1 gx 36 x from hbox); have BL := Lib.hid hbel; have x0 := BX.out.cell 0 HX.out.c0; have x3 := BX.out.cell 3 (HX.out.ask 0 _ rfl); have x4 := BX.out.cell 4 (HX.out.ask 1 _ rfl); have x5 := BX.out.cell 5 (HX.out.ask 2 _ rfl); have x6 := BX.out.cell 6 (HX.out.ask 3 _ rfl); have x7 := BX.out.cell 7 (HX.out.ask 4 _ rfl); have x17 := BX.out.cell 17 (HX.out.ans 0 _ rfl); have x22 := BX.out.cell 22 (HX.out.ans 5 _ rfl); have x30 := BX.out.cell 30 HX.out.c30; have x31 := BX.out.cell 31 HX.out.c31; have x32 := BX.out.cell 32 HX.out.c32; clear hbox hbel hgx)
      | ((with_reducible refine gate_dst (N := 13) rfl ?_); refine gate_guard (by rfl) ?_; refine wpList_load_mid rfl 32 _ rfl gx 17 rfl _ _ (BX.out.part 17 _ HX.out.ans) Try.underlying32 rfl infoAns ?_)
      | ((with_reducible refine gate_dst (N := 58) rfl ?_); refine gate_guard (by rfl) ?_; refine wpList_load_mid rfl 32 _ rfl gx 17 rfl _ _ (BX.out.part 17 _ HX.out.ans) Try.underlying32 rfl infoAns ?_)
      | ((with_reducible refine gate_dst (N := 30) rfl ?_); refine wpList_load_mid rfl 27 _ rfl gx 3 rfl _ _ (BX.out.part 3 _ HX.out.ask) Try.underlying27 rfl infoAsk ?_)
      | ((with_reducible refine gate_dst (N := 50) rfl ?_); refine wpList_load_mid rfl 27 _ rfl gx 3 rfl _ _ (BX.out.part 3 _ HX.out.ask) Try.underlying27 rfl infoAsk ?_)
      | (go_at_call 53; refine (small_any _ _).mono ?_; rintro e w' ⟨rfl, rfl⟩)
      | (go_at_call 54; with_reducible refine (CE.out _).mono ?_; rintro e w' ⟨rfl, hb⟩; have KB := Lib.hid (BL.out.trans (hb.mono BL.out.size)); have y30 := (BX.out.below hb).cell 30 HX.out.c30; have y31 := (BX.out.below hb).cell 31 HX.out.c31; have y32 := (BX.out.below hb).cell 32 HX.out.c32; clear hb x0 x3 x4 x5 x6 x7 x17 x22 x30 x31 x32))
      go_ret
      exact ⟨rfl, KB.out⟩
  · have k3 : (m.kind == 3) = false := by simp [h3]
    have k4 : (m.kind == 4) = true := by rcases hk with h | h <;> simp_all
    clear hk h3
    cases a0
    · skip
      go_enter Try.func37, Try.ntmps37
      go_wp2_with  (first
      | ((with_reducible refine gate_dst (N := 1) rfl ?_); refine box_event rfl (N := 1) rfl (run_box _ _ _ 36 _ x.toArray rfl rfl _) ?_; intro gx hgx v1 hbox hbel; have BX := Lib.hid (show Blk v1 gx 36 x from hbox); have BL := Lib.hid hbel; have x0 := BX.out.cell 0 HX.out.c0; have x3 := BX.out.cell 3 (HX.out.ask 0 _ rfl); have x4 := BX.out.cell 4 (HX.out.ask 1 _ rfl); have x5 := BX.out.cell 5 (HX.out.ask 2 _ rfl); have x6 := BX.out.cell 6 (HX.out.ask 3 _ rfl); have x7 := BX.out.cell 7 (HX.out.ask 4 _ rfl); have x17 := BX.out.cell 17 (HX.out.ans 0 _ rfl); have x22 := BX.out.cell 22 (HX.out.ans 5 _ rfl); have x30 := BX.out.cell 30 HX.out.c30; have x31 := BX.out.cell 31 HX.out.c31; have x32 := BX.out.cell 32 HX.out.c32; clear hbox hbel hgx)
      | ((with_reducible refine gate_dst (N := 13) rfl ?_); refine gate_guard (by rfl) ?_; refine wpList_load_mid rfl 32 _ rfl gx 17 rfl _ _ (BX.out.part 17 _ HX.out.ans) Try.underlying32 rfl infoAns ?_)
      | ((with_reducible refine gate_dst (N := 58) rfl ?_); refine gate_guard (by rfl) ?_; refine wpList_load_mid rfl 32 _ rfl gx 17 rfl _ _ (BX.out.part 17 _ HX.out.ans) Try.underlying32 rfl infoAns ?_)
      | ((with_reducible refine gate_dst (N := 30) rfl ?_); refine wpList_load_mid rfl 27 _ rfl gx 3 rfl _ _ (BX.out.part 3 _ HX.out.ask) Try.underlying27 rfl infoAsk ?_)
      | ((with_reducible refine gate_dst (N := 50) rfl ?_); refine wpList_load_mid rfl 27 _ rfl gx 3 rfl _ _ (BX.out.part 3 _ HX.out.ask) Try.underlying27 rfl infoAsk ?_)
      | (go_at_call 53; refine (small_any _ _).mono ?_; rintro e w' ⟨rfl, rfl⟩)
      | (go_at_call 54; with_reducible refine (CE.out _).mono ?_; rintro e w' ⟨rfl, hb⟩; have KB := Lib.hid (BL.out.trans (hb.mono BL.out.size)); have y30 := (BX.out.below hb).cell 30 HX.out.c30; have y31 := (BX.out.below hb).cell 31 HX.out.c31; have y32 := (BX.out.below hb).cell 32 HX.out.c32; clear hb x0 x3 x4 x5 x6 x7 x17 x22 x30 x31 x32))
      go_ret
      exact ⟨rfl, BL.out⟩
    cases ne
    · skip
      go_enter Try.func37, Try.ntmps37
      go_wp2_with  (first
      | ((with_reducible refine gate_dst (N := 1) rfl ?_); refine box_event rfl (N := 1) rfl (run_box _ _ _ 36 _ x.toArray rfl rfl _) ?_; intro gx hgx v1 hbox hbel; have BX := Lib.hid (show Blk v1 gx 36 x from hbox); have BL := Lib.hid hbel; have x0 := BX.out.cell 0 HX.out.c0; have x3 := BX.out.cell 3 (HX.out.ask 0 _ rfl); have x4 := BX.out.cell 4 (HX.out.ask 1 _ rfl); have x5 := BX.out.cell 5 (HX.out.ask 2 _ rfl); have x6 := BX.out.cell 6 (HX.out.ask 3 _ rfl); have x7 := BX.out.cell 7 (HX.out.ask 4 _ rfl); have x17 := BX.out.cell 17 (HX.out.ans 0 _ rfl); have x22 := BX.out.cell 22 (HX.out.ans 5 _ rfl); have x30 := BX.out.cell 30 HX.out.c30; have x31 := BX.out.cell 31 HX.out.c31; have x32 := BX.out.cell 32 HX.out.c32; clear hbox hbel hgx)
      | ((with_reducible refine gate_dst (N := 13) rfl ?_); refine gate_guard (by rfl) ?_; refine wpList_load_mid rfl 32 _ rfl gx 17 rfl _ _ (BX.out.part 17 _ HX.out.ans) Try.underlying32 rfl infoAns ?_)
      | ((with_reducible refine gate_dst (N := 58) rfl ?_); refine gate_guard (by rfl) ?_; refine wpList_load_mid rfl 32 _ rfl gx 17 rfl _ _ (BX.out.part 17 _ HX.out.ans) Try.underlying32 rfl infoAns ?_)
      | ((with_reducible refine gate_dst (N := 30) rfl ?_); refine wpList_load_mid rfl 27 _ rfl gx 3 rfl _ _ (BX.out.part 3 _ HX.out.ask) Try.underlying27 rfl infoAsk ?_)
      | ((with_reducible refine gate_dst (N := 50) rfl ?_); refine wpList_load_mid rfl 27 _ rfl gx 3 rfl _ _ (BX.out.part 3 _ HX.out.ask) Try.underlying27 rfl infoAsk ?_)
      | (go_at_call 53; refine (small_any _ _).mono ?_; rintro e w' ⟨rfl, rfl⟩)
      | (go_at_call 54; with_reducible refine (CE.out _).mono ?_; rintro e w' ⟨rfl, hb⟩; have KB := Lib.hid (BL.out.trans (hb.mono BL.out.size)); have y30 := (BX.out.below hb).cell 30 HX.out.c30; have y31 := (BX.out.below hb).cell 31 HX.out.c31; have y32 := (BX.out.below hb).cell 32 HX.out.c32; clear hb x0 x3 x4 x5 x6 x7 x17 x22 x30 x31 x32))
      go_ret
      exact ⟨rfl, KB.out⟩
    · skip
      go_enter Try.func37, Try.ntmps37
      go_wp2_with  (first
      | ((with_reducible refine gate_dst (N := 1) rfl ?_); refine box_event rfl (N := 1) rfl (run_box _ _ _ 36 _ x.toArray rfl rfl _) ?_; intro gx hgx v1 hbox hbel; have BX := Lib.hid (show Blk v1 gx 36 x from hbox); have BL := Lib.hid hbel; have x0 := BX.out.cell 0 HX.out.c0; have x3 := BX.out.cell 3 (HX.out.ask 0 _ rfl); have x4 := BX.out.cell 4 (HX.out.ask 1 _ rfl); have x5 := BX.out.cell 5 (HX.out.ask 2 _ rfl); have x6 := BX.out.cell 6 (HX.out.ask 3 _ rfl); have x7 := BX.out.cell 7 (HX.out.ask 4 _ rfl); have x17 := BX.out.cell 17 (HX.out.ans 0 _ rfl); have x22 := BX.out.cell 22 (HX.out.ans 5 _ rfl); have x30 := BX.out.cell 30 HX.out.c30; have x31 := BX.out.cell 31 HX.out.c31; have x32 := BX.out.cell 32 HX.out.c32; clear hbox hbel hgx)
      | ((with_reducible refine gate_dst (N := 13) rfl ?_); refine gate_guard (by rfl) ?_; refine wpList_load_mid rfl 32 _ rfl gx 17 rfl _ _ (BX.out.part 17 _ HX.out.ans) Try.underlying32 rfl infoAns ?_)
      | ((with_reducible refine gate_dst (N := 58) rfl ?_); refine gate_guard (by rfl) ?_; refine wpList_load_mid rfl 32 _ rfl gx 17 rfl _ _ (BX.out.part 17 _ HX.out.ans) Try.underlying32 rfl infoAns ?_)
      | ((with_reducible refine gate_dst (N := 30) rfl ?_); refine wpList_load_mid rfl 27 _ rfl gx 3 rfl _ _ (BX.out.part 3 _ HX.out.ask) Try.underlying27 rfl infoAsk ?_)
      | ((with_reducible refine gate_dst (N := 50) rfl ?_); refine wpList_load_mid rfl 27 _ rfl gx 3 rfl _ _ (BX.out.part 3 _ HX.out.ask) Try.underlying27 rfl infoAsk ?_)
      | (go_at_call 53; refine (small_any _ _).mono ?_; rintro e w' ⟨rfl, rfl⟩)
      | (go_at_call 54; with_reducible refine (CE.out _).mono ?_; rintro e w' ⟨rfl, hb⟩; have KB := Lib.hid (BL.out.trans (hb.mono BL.out.size)); have y30 := (BX.out.below hb).cell 30 HX.out.c30; have y31 := (BX.out.below hb).cell 31 HX.out.c31; have y32 := (BX.out.below hb).cell 32 HX.out.c32; clear hb x0 x3 x4 x5 x6 x7 x17 x22 x30 x31 x32))
      go_ret
      exact ⟨rfl, KB.out⟩

set_option maxHeartbeats 8000000 in
set_option maxRecDepth 100000 in
theorem may_other (x : List Value) (m : Msg) (A : Option Addr) (c : Nat) (hx : MsgAt x m A c) (w : World)(hk : m.kind ≠ 1 ∧ m.kind ≠ 2 ∧ m.kind ≠ 3 ∧ m.kind ≠ 4) :
    Calls Try.prog 37 #[.agg x.toArray] w fun e w' => e = .returned (.bool (false)) ∧ Below w.heap.size w w' := by
  have HX := Lib.hid hx
  clear hx
  have k1 : (m.kind == 1) = false := by simp [hk.1]
  have k2 : (m.kind == 2) = false := by simp [hk.2.1]
  have k3 : (m.kind == 3) = false := by simp [hk.2.2.1]
  have k4 : (m.kind == 4) = false := by simp [hk.2.2.2]
  clear hk
  go_enter Try.func37, Try.ntmps37
  go_wp2_with  (first
  | ((with_reducible refine gate_dst (N := 1) rfl ?_); refine box_event rfl (N := 1) rfl (run_box _ _ _ 36 _ x.toArray rfl rfl _) ?_; intro gx hgx v1 hbox hbel; have BX := Lib.hid (show Blk v1 gx 36 x from hbox); have BL := Lib.hid hbel; have x0 := BX.out.cell 0 HX.out.c0; have x3 := BX.out.cell 3 (HX.out.ask 0 _ rfl); have x4 := BX.out.cell 4 (HX.out.ask 1 _ rfl); have x5 := BX.out.cell 5 (HX.out.ask 2 _ rfl); have x6 := BX.out.cell 6 (HX.out.ask 3 _ rfl); have x7 := BX.out.cell 7 (HX.out.ask 4 _ rfl); have x17 := BX.out.cell 17 (HX.out.ans 0 _ rfl); have x22 := BX.out.cell 22 (HX.out.ans 5 _ rfl); have x30 := BX.out.cell 30 HX.out.c30; have x31 := BX.out.cell 31 HX.out.c31; have x32 := BX.out.cell 32 HX.out.c32; clear hbox hbel hgx)
  | ((with_reducible refine gate_dst (N := 13) rfl ?_); refine gate_guard (by rfl) ?_; refine wpList_load_mid rfl 32 _ rfl gx 17 rfl _ _ (BX.out.part 17 _ HX.out.ans) Try.underlying32 rfl infoAns ?_)
  | ((with_reducible refine gate_dst (N := 58) rfl ?_); refine gate_guard (by rfl) ?_; refine wpList_load_mid rfl 32 _ rfl gx 17 rfl _ _ (BX.out.part 17 _ HX.out.ans) Try.underlying32 rfl infoAns ?_)
  | ((with_reducible refine gate_dst (N := 30) rfl ?_); refine wpList_load_mid rfl 27 _ rfl gx 3 rfl _ _ (BX.out.part 3 _ HX.out.ask) Try.underlying27 rfl infoAsk ?_)
  | ((with_reducible refine gate_dst (N := 50) rfl ?_); refine wpList_load_mid rfl 27 _ rfl gx 3 rfl _ _ (BX.out.part 3 _ HX.out.ask) Try.underlying27 rfl infoAsk ?_)
  | (go_at_call 53; refine (small_any _ _).mono ?_; rintro e w' ⟨rfl, rfl⟩)
  | (go_at_call 54; with_reducible refine (CE.out _).mono ?_; rintro e w' ⟨rfl, hb⟩; have KB := Lib.hid (BL.out.trans (hb.mono BL.out.size)); have y30 := (BX.out.below hb).cell 30 HX.out.c30; have y31 := (BX.out.below hb).cell 31 HX.out.c31; have y32 := (BX.out.below hb).cell 32 HX.out.c32; clear hb x0 x3 x4 x5 x6 x7 x17 x22 x30 x31 x32))
  go_ret
  exact ⟨rfl, BL.out⟩

/-- May the message be, but for its lengths? -/
def Msg.mayB (m : Msg) : Bool :=
  if m.kind = 1 then smallB m.op && m.noAns && (m.boot == 0) && stampEq m.gb m.gn 0 0
  else if m.kind = 2 then askEq m.op m.h.ex m.h.snap m.h.ino m.h.gen m.h2.ex m.h2.snap m.h2.ino m.h2.gen m.name m.name2 m.off m.num m.data 0 0 0 0 0 0 0 0 0 ⟨#[]⟩ ⟨#[]⟩ 0 0 ⟨#[]⟩ && smallB m.status && smallB m.akind
  else if m.kind = 3 ∨ m.kind = 4 then askEq m.op m.h.ex m.h.snap m.h.ino m.h.gen m.h2.ex m.h2.snap m.h2.ino m.h2.gen m.name m.name2 m.off m.num m.data 0 m.h.ex m.h.snap m.h.ino m.h.gen 0 0 0 0 ⟨#[]⟩ ⟨#[]⟩ 0 0 ⟨#[]⟩ && m.noAns
  else false
theorem may_any (x : List Value) (m : Msg) (A : Option Addr) (c : Nat) (hx : MsgAt x m A c) (w : World) :
    Calls Try.prog 37 #[.agg x.toArray] w fun e w' => e = .returned (.bool m.mayB) ∧ Below w.heap.size w w' := by
  unfold Msg.mayB
  by_cases h1 : m.kind = 1
  · rw [if_pos h1]
    exact may_call x m A c hx w _ (emptyAns_any m A c) _ _ _ rfl rfl rfl h1
  by_cases h2 : m.kind = 2
  · rw [if_neg h1, if_pos h2]
    exact may_reply x m A c hx w _ _ _ rfl rfl rfl h2
  by_cases h3 : m.kind = 3 ∨ m.kind = 4
  · rw [if_neg h1, if_neg h2, if_pos h3]
    exact may_back x m A c hx w _ (emptyAns_any m A c) _ rfl h3
  · rw [if_neg h1, if_neg h2, if_neg h3]
    exact may_other x m A c hx w ⟨h1, h2, fun h => h3 (.inl h), fun h => h3 (.inr h)⟩

end Go.Proofs.Ytibcadfpengacaa

-- RefN
set_option linter.unusedVariables false
set_option linter.unusedSimpArgs false
namespace Go.Proofs.Ytibcadfpengacaa
open Go.RowKit Go.Lib Go.Proofs.YtibcadfpengacaaW.PrintWords Go.Proofs.YtibcadfpengacaaW.PrintMore Go.Proofs.YtibcadfpengacaaW.PrintLast

/-- A message's block, and what it holds, as a value. -/
def msgBlk (w : World) (b : Nat) : Bool := match w.heap[b]? with
  | some (.cells cs _ (0, 0)) => cs.size == 33
  | _ => false
def blkVal (w : World) (b : Nat) : Value := match w.heap[b]? with
  | some (.cells cs _ _) => .agg cs
  | _ => undef
def ptrBlk : Value → Nat
  | .pointer (some ⟨b, _, _⟩) => b
  | _ => 0
def isHead : Value → Bool
  | .pointer (some ⟨_, 0, none⟩) => true
  | _ => false
theorem ptrBlk_mk (b o : Nat) : ptrBlk (.pointer (some ⟨b, o, none⟩)) = b := rfl
theorem isHead_mk (b : Nat) : isHead (.pointer (some ⟨b, 0, none⟩)) = true := rfl
theorem isHead_eq {v : Value} (h : isHead v = true) : v = .pointer (some ⟨ptrBlk v, 0, none⟩) := by
  unfold isHead at h
  split at h
  · rfl
  · cases h
theorem Blk.val {w : World} {b : Nat} {t : TypeId} {cs : List Value} (h : Blk w b t cs) : blkVal w b = .agg cs.toArray := by
  have h' : w.heap[b]? = some (.cells cs.toArray t (0, 0)) := h
  unfold blkVal
  rw [h']
theorem Blk.isMsg {w : World} {b : Nat} {t : TypeId} {cs : List Value} (h : Blk w b t cs) (hl : cs.length = 33) : msgBlk w b = true := by
  have h' : w.heap[b]? = some (.cells cs.toArray t (0, 0)) := h
  unfold msgBlk
  rw [h']
  simp [hl]
theorem ldX (ev : Operand → Value) (d : Option Tmp) (x : Operand) (t : TypeId) (p : String) (af : Array Edge) (g : Option (Nat × Bool)) (w : World) (h1 : isHead (ev x) = true) (h : msgBlk w (ptrBlk (ev x)) = true) :
    (execOp ev { dst := d, op := .load 36 x, type := t, pos := p, after := af, guard := g }).run Try.prog w = .ok (.value (blkVal w (ptrBlk (ev x)))) w := by
  have he := isHead_eq h1
  generalize ptrBlk (ev x) = b at *
  unfold msgBlk at h
  split at h
  · rename_i cs t he2
    have hB : Blk w b t cs.toList := by show w.heap[b]? = _; rw [he2]
    rw [hB.val]
    unfold execOp
    simp only [he]
    have hl := run_loadAt_mid (P := Try.prog) w b 0 36 cs.toList _ hB.range Try.underlying36 rfl (by
      rw [infoMsg]
      have : cs.size = 33 := by simpa using h
      simp [this])
    rw [Sem.run_bind, hl]
    rfl
  · cases h

set_option maxHeartbeats 8000000 in
set_option maxRecDepth 100000 in
theorem tail_raw (x : List Value) (m : Msg) (A : Option Addr) (c : Nat) (hx : MsgAt x m A c) (s1 s2 s3 : ByteArray) (h1 : s1.size ≤ 5000) (h2 : s2.size ≤ 5000) (h3 : s3.size ≤ 5000)
    (H1 : Says 57 (.int .u64 m.boot) s1) (H2 : Says 57 (.int .u64 m.gb) s2) (H3 : Says 57 (.int .u64 m.gn) s3) : Says 61 (.agg x.toArray) (s1 ++ s2 ++ s3) := by
  intro w
  have HX := Lib.hid hx
  have C1 := Lib.hid H1; have C2 := Lib.hid H2; have C3 := Lib.hid H3
  have f2 := lt_False (n := s1.size + s2.size) (by omega)
  have f3 := lt_False (n := s1.size + s2.size + s3.size) (by omega)
  clear H1 H2 H3 h1 h2 h3 hx
  go_enter Try.func61, Try.ntmps61
  go_wp2_with (first
    | ((with_reducible refine gate_dst (N := 1) rfl ?_); refine box_event rfl (N := 1) rfl (run_box _ _ _ 36 _ x.toArray rfl rfl _) ?_; intro gx hgx v1 hbox hbel; have BX := Lib.hid (show Blk v1 gx 36 x from hbox); have BL := Lib.hid hbel; have HGX := Lib.hid hgx; clear hbox hbel hgx))
  have ST := Lib.hid (show ∀ w0 w1 : World, Below w0.heap.size w0 w1 → Blk w0 gx 36 x → Blk w1 gx 36 x from fun _ _ hb h => h.below hb)
  have k0 : Kp (fun w1 => Blk w1 gx 36 x) w v1 := ⟨BX.out, BL.out⟩
  go_region_held3 (fun w' => w'.cell? ⟨gx, 30, none⟩ = some (.int .u64 m.boot) ∧ w'.cell? ⟨gx, 31, none⟩ = some (.int .u64 m.gb) ∧ w'.cell? ⟨gx, 32, none⟩ = some (.int .u64 m.gn) ∧ Kp (fun w1 => Blk w1 gx 36 x) w w')
    ((go_split_ands; first
      | (have q := Kp.next ST hb (by assumption); exact ⟨q.h.cell 30 HX.out.c30, q.h.cell 31 HX.out.c31, q.h.cell 32 HX.out.c32, q⟩)
      | (have q := Kp.drew ST k0; exact ⟨q.h.cell 30 HX.out.c30, q.h.cell 31 HX.out.c31, q.h.cell 32 HX.out.c32, q⟩)))
    ((first
        | (go_at_call 57; with_reducible refine (C1.out.at _).mono ?_; rintro e w' ⟨rfl, hb⟩)
        | (go_at_call 57; with_reducible refine (C2.out.at _).mono ?_; rintro e w' ⟨rfl, hb⟩)
        | (go_at_call 57; with_reducible refine (C3.out.at _).mono ?_; rintro e w' ⟨rfl, hb⟩)))
  go_split_ands
  rename_i q
  have Q := Lib.hid q.below
  clear q
  go_wp2
  go_ret
  exact ⟨rfl, Q.out⟩

def tailS (m : Msg) : ByteArray := leS m.boot.toNat 8 ++ leS m.gb.toNat 8 ++ leS m.gn.toNat 8
theorem tailS_size (m : Msg) : (tailS m).size = 24 := by simp [tailS, ByteArray.size_append, leS_size]
theorem tail_says (x : List Value) (m : Msg) (A : Option Addr) (c : Nat) (hx : MsgAt x m A c) (hk : m.Ok) : Says 61 (.agg x.toArray) (tailS m) :=
  tail_raw x m A c hx _ _ _ (by rw [leS_size]; omega) (by rw [leS_size]; omega) (by rw [leS_size]; omega) (fun w => l8_any _ hk.boot w) (fun w => l8_any _ hk.gb w) (fun w => l8_any _ hk.gn w)

attribute [local go_sem ↓] ldX
attribute [local go_sem] ptrBlk_mk isHead_mk
set_option maxHeartbeats 8000000 in
set_option maxRecDepth 100000 in
theorem layBack_raw (x : List Value) (m : Msg) (A : Option Addr) (c : Nat) (hx : MsgAt x m A c) (p1 p2 p3 : ByteArray) (g1 : p1.size ≤ 5000) (g2 : p2.size ≤ 5000) (g3 : p3.size ≤ 5000) (P1 : Says 55 (.int .i64 m.kind) p1) (P2 : Says 56 (.int .u32 m.client) p2) (P3 : Says 57 (.int .u64 m.xid) p3) (t1 t2 : ByteArray) (h1 : t1.size ≤ 5000) (h2 : t2.size ≤ 5000)
    (H1 : Says 58 (.agg #[.int .u32 m.h.ex, .int .u64 m.h.snap, .int .u64 m.h.ino, .int .u64 m.h.gen]) t1) (H2 : Says 61 (.agg x.toArray) t2) (hk1 : m.kind ≠ 1) (hk2 : m.kind ≠ 2) : Says 38 (.agg x.toArray) (p1 ++ p2 ++ p3 ++ t1 ++ t2) := by
  intro w
  have HX := Lib.hid hx
  have C1 := Lib.hid H1; have C2 := Lib.hid H2
  have HT := Lib.hid (show t1.size ≤ 5000 ∧ t2.size ≤ 5000 from ⟨h1, h2⟩)
  have k1 : (m.kind == 1) = false := by simp [hk1]
  have k2 : (m.kind == 2) = false := by simp [hk2]
  clear H1 H2 h1 h2 hk1 hk2
  have D1 := Lib.hid P1; have D2 := Lib.hid P2; have D3 := Lib.hid P3
  have G := Lib.hid (show p1.size ≤ 5000 ∧ p2.size ≤ 5000 ∧ p3.size ≤ 5000 from ⟨g1, g2, g3⟩)
  have f2 := lt_False (n := p1.size + p2.size) (by omega)
  have f3 := lt_False (n := p1.size + p2.size + p3.size) (by omega)
  clear P1 P2 P3 g1 g2 g3 hx
  go_enter Try.func38, Try.ntmps38
  go_wp2_with (first
    | ((with_reducible refine gate_dst (N := 1) rfl ?_); refine box_event rfl (N := 1) rfl (run_box _ _ _ 36 _ x.toArray rfl rfl _) ?_; intro gx hgx v1 hbox hbel; have BX := Lib.hid (show Blk v1 gx 36 x from hbox); have BL := Lib.hid hbel; have HGX := Lib.hid hgx; clear hbox hbel hgx))
  have ST := Lib.hid (show ∀ w0 w1 : World, Below w0.heap.size w0 w1 → Blk w0 gx 36 x → Blk w1 gx 36 x from fun _ _ hb h => h.below hb)
  have k0 : Kp (fun w1 => Blk w1 gx 36 x) w v1 := ⟨BX.out, BL.out⟩
  go_region_held3 (fun w' => w'.cell? ⟨gx, 0, none⟩ = some (.int .i64 m.kind) ∧ w'.cell? ⟨gx, 1, none⟩ = some (.int .u32 m.client) ∧ w'.cell? ⟨gx, 2, none⟩ = some (.int .u64 m.xid) ∧ Kp (fun w1 => Blk w1 gx 36 x) w w')
    ((go_split_ands; first
      | (have q := Kp.next ST hb (by assumption); exact ⟨q.h.cell 0 HX.out.c0, q.h.cell 1 HX.out.c1, q.h.cell 2 HX.out.c2, q⟩)
      | (have q := Kp.drew ST k0; exact ⟨q.h.cell 0 HX.out.c0, q.h.cell 1 HX.out.c1, q.h.cell 2 HX.out.c2, q⟩)))
    ((first
        | (go_at_call 55; with_reducible refine (D1.out.at _).mono ?_; rintro e w' ⟨rfl, hb⟩)
        | (go_at_call 56; with_reducible refine (D2.out.at _).mono ?_; rintro e w' ⟨rfl, hb⟩)
        | (go_at_call 57; with_reducible refine (D3.out.at _).mono ?_; rintro e w' ⟨rfl, hb⟩)))
  go_split_ands
  rename_i q
  have Q0 := Lib.hid q
  have cX0 := Q0.out.h.cell 0 HX.out.c0
  clear q k0 BX BL HGX
  generalize hp : p1 ++ p2 ++ p3 = p at *
  have Hp := Lib.hid hp
  have hps : p.size ≤ 15000 := by rw [← hp, ByteArray.size_append, ByteArray.size_append]; have := G.out; omega
  have HPS := Lib.hid hps
  clear hp hps f2 f3 D1 D2 D3
  have f2 := lt_False (n := p.size + t1.size) (by have := HPS.out; have := HT.out; omega)
  have f3 := lt_False (n := p.size + t1.size + t2.size) (by have := HPS.out; have := HT.out; omega)
  go_wp2
  have k0 := Q0.out
  go_region_held3 (fun w' => w'.cell? ⟨gx, 4, none⟩ = some (.int .u32 m.h.ex) ∧ w'.cell? ⟨gx, 5, none⟩ = some (.int .u64 m.h.snap) ∧ w'.cell? ⟨gx, 6, none⟩ = some (.int .u64 m.h.ino) ∧ w'.cell? ⟨gx, 7, none⟩ = some (.int .u64 m.h.gen) ∧ msgBlk w' gx = true ∧ blkVal w' gx = .agg x.toArray ∧ Kp (fun w1 => Blk w1 gx 36 x) w w')
    ((go_split_ands; first
      | (have q := Kp.next ST hb (by assumption); exact ⟨q.h.cell 4 (HX.out.ask 1 _ rfl), q.h.cell 5 (HX.out.ask 2 _ rfl), q.h.cell 6 (HX.out.ask 3 _ rfl), q.h.cell 7 (HX.out.ask 4 _ rfl), q.h.isMsg HX.out.len, q.h.val, q⟩)
      | (have q := Kp.drew ST k0; exact ⟨q.h.cell 4 (HX.out.ask 1 _ rfl), q.h.cell 5 (HX.out.ask 2 _ rfl), q.h.cell 6 (HX.out.ask 3 _ rfl), q.h.cell 7 (HX.out.ask 4 _ rfl), q.h.isMsg HX.out.len, q.h.val, q⟩)))
    ((first
        | (go_at_call 58; with_reducible refine (C1.out.at _).mono ?_; rintro e w' ⟨rfl, hb⟩)
        | (go_at_call 61; with_reducible refine (C2.out.at _).mono ?_; rintro e w' ⟨rfl, hb⟩)))
  go_split_ands
  rename_i q
  have Q := Lib.hid q.below
  clear q
  go_wp2
  go_ret
  exact ⟨by rw [Hp.out]; rfl, Q.out⟩

end Go.Proofs.Ytibcadfpengacaa

-- RefO
set_option linter.unusedVariables false
set_option linter.unusedSimpArgs false
namespace Go.Proofs.Ytibcadfpengacaa
open Go.RowKit Go.Lib Go.Proofs.YtibcadfpengacaaW.PrintWords Go.Proofs.YtibcadfpengacaaW.PrintMore Go.Proofs.YtibcadfpengacaaW.PrintLast

def zask : List Value := [.int .i64 0, .int .u32 0, .int .u64 0, .int .u64 0, .int .u64 0, .int .u32 0, .int .u64 0, .int .u64 0, .int .u64 0, .string ⟨#[]⟩, .string ⟨#[]⟩, .int .u64 0, .int .u64 0, .string ⟨#[]⟩]
theorem run_allocAsk (ev : Operand → Value) (o : Oper) (ho : o.op = .alloc 27) (w : World) : (execOp ev o).run Try.prog w = .ok (.value (.pointer (some ⟨w.heap.size, 0, none⟩))) (w.alloc (.cells zask.toArray 27 (0, 0))) := by
  unfold execOp
  rw [ho]
  kernel_rfl
def askCells (m : Msg) : List Value := [.int .i64 m.op, .int .u32 m.h.ex, .int .u64 m.h.snap, .int .u64 m.h.ino, .int .u64 m.h.gen, .int .u32 m.h2.ex, .int .u64 m.h2.snap, .int .u64 m.h2.ino, .int .u64 m.h2.gen, .string m.name, .string m.name2, .int .u64 m.off, .int .u64 m.num, .string m.data]
theorem askCells_one (m : Msg) : ∀ v ∈ askCells m, v.oneCell' = true := by
  intro v hv
  simp only [askCells, List.mem_cons, List.not_mem_nil, or_false] at hv
  rcases hv with h | h | h | h | h | h | h | h | h | h | h | h | h | h <;> (subst h; rfl)

set_option maxHeartbeats 8000000 in
set_option maxRecDepth 100000 in
theorem layCall_raw (x : List Value) (m : Msg) (A : Option Addr) (c : Nat) (hx : MsgAt x m A c) (p1 p2 p3 : ByteArray) (g1 : p1.size ≤ 5000) (g2 : p2.size ≤ 5000) (g3 : p3.size ≤ 5000) (P1 : Says 55 (.int .i64 m.kind) p1) (P2 : Says 56 (.int .u32 m.client) p2) (P3 : Says 57 (.int .u64 m.xid) p3) (t1 t2 t3 t4 t5 t6 t7 t8 : ByteArray) (hs : t1.size ≤ 5000 ∧ t2.size ≤ 5000 ∧ t3.size ≤ 5000 ∧ t4.size ≤ 5000 ∧ t5.size ≤ 5000 ∧ t6.size ≤ 5000 ∧ t7.size ≤ 5000 ∧ t8.size ≤ 5000)
    (H1 : Says 55 (.int .i64 m.op) t1) (H2 : Says 58 (.agg #[.int .u32 m.h.ex, .int .u64 m.h.snap, .int .u64 m.h.ino, .int .u64 m.h.gen]) t2) (H3 : Says 58 (.agg #[.int .u32 m.h2.ex, .int .u64 m.h2.snap, .int .u64 m.h2.ino, .int .u64 m.h2.gen]) t3)
    (H4 : Says 59 (.string m.name) t4) (H5 : Says 59 (.string m.name2) t5) (H6 : Says 57 (.int .u64 m.off) t6) (H7 : Says 57 (.int .u64 m.num) t7) (H8 : Says 59 (.string m.data) t8)
    (hk1 : m.kind = 1) : Says 38 (.agg x.toArray) (p1 ++ p2 ++ p3 ++ t1 ++ t2 ++ t3 ++ t4 ++ t5 ++ t6 ++ t7 ++ t8) := by
  intro w
  have HX := Lib.hid hx
  have C1 := Lib.hid H1; have C2 := Lib.hid H2; have C3 := Lib.hid H3; have C4 := Lib.hid H4; have C5 := Lib.hid H5; have C6 := Lib.hid H6; have C7 := Lib.hid H7; have C8 := Lib.hid H8
  have HT := Lib.hid hs
  have k1 : (m.kind == 1) = true := by simp [hk1]
  have Hk1 := Lib.hid hk1
  clear H1 H2 H3 H4 H5 H6 H7 H8 hs hk1
  have D1 := Lib.hid P1; have D2 := Lib.hid P2; have D3 := Lib.hid P3
  have G := Lib.hid (show p1.size ≤ 5000 ∧ p2.size ≤ 5000 ∧ p3.size ≤ 5000 from ⟨g1, g2, g3⟩)
  have f2 := lt_False (n := p1.size + p2.size) (by omega)
  have f3 := lt_False (n := p1.size + p2.size + p3.size) (by omega)
  clear P1 P2 P3 g1 g2 g3 hx
  go_enter Try.func38, Try.ntmps38
  go_wp2_with (first
    | ((with_reducible refine gate_dst (N := 1) rfl ?_); refine box_event rfl (N := 1) rfl (run_box _ _ _ 36 _ x.toArray rfl rfl _) ?_; intro gx hgx v1 hbox hbel; have BX := Lib.hid (show Blk v1 gx 36 x from hbox); have BL := Lib.hid hbel; have HGX := Lib.hid hgx; clear hbox hbel hgx))
  have ST := Lib.hid (show ∀ w0 w1 : World, Below w0.heap.size w0 w1 → Blk w0 gx 36 x → Blk w1 gx 36 x from fun _ _ hb h => h.below hb)
  have k0 : Kp (fun w1 => Blk w1 gx 36 x) w v1 := ⟨BX.out, BL.out⟩
  go_region_held3 (fun w' => w'.cell? ⟨gx, 0, none⟩ = some (.int .i64 m.kind) ∧ w'.cell? ⟨gx, 1, none⟩ = some (.int .u32 m.client) ∧ w'.cell? ⟨gx, 2, none⟩ = some (.int .u64 m.xid) ∧ Kp (fun w1 => Blk w1 gx 36 x) w w')
    ((go_split_ands; first
      | (have q := Kp.next ST hb (by assumption); exact ⟨q.h.cell 0 HX.out.c0, q.h.cell 1 HX.out.c1, q.h.cell 2 HX.out.c2, q⟩)
      | (have q := Kp.drew ST k0; exact ⟨q.h.cell 0 HX.out.c0, q.h.cell 1 HX.out.c1, q.h.cell 2 HX.out.c2, q⟩)))
    ((first
        | (go_at_call 55; with_reducible refine (D1.out.at _).mono ?_; rintro e w' ⟨rfl, hb⟩)
        | (go_at_call 56; with_reducible refine (D2.out.at _).mono ?_; rintro e w' ⟨rfl, hb⟩)
        | (go_at_call 57; with_reducible refine (D3.out.at _).mono ?_; rintro e w' ⟨rfl, hb⟩)))
  go_split_ands
  rename_i q
  have Q0 := Lib.hid q
  have cX0 := Q0.out.h.cell 0 HX.out.c0
  clear q k0 BX BL HGX
  generalize hp : p1 ++ p2 ++ p3 = p at *
  have Hp := Lib.hid hp
  have hps : p.size ≤ 15000 := by rw [← hp, ByteArray.size_append, ByteArray.size_append]; have := G.out; omega
  have HPS := Lib.hid hps
  clear hp hps f2 f3 D1 D2 D3
  go_wp2_with (first
    | ((with_reducible refine gate_dst (N := 23) rfl ?_); refine wpList_load_mid rfl 27 _ rfl gx 3 rfl (askCells m) _ (Q0.out.h.part 3 _ HX.out.ask) Try.underlying27 rfl infoAsk ?_)
    | ((with_reducible refine gate_dst (N := 4) rfl ?_); refine box_event rfl (N := 4) rfl (run_allocAsk _ _ rfl _) ?_; intro gb hgb v4 hbox hbel; have BB0 := Lib.hid (show Blk v4 gb 27 zask from hbox); have BL4 := Lib.hid (Q0.out.below.trans (hbel.mono Q0.out.below.size)); have HGB := Lib.hid (show w.heap.size ≤ gb by rw [hgb]; exact Q0.out.below.size); clear hbox hbel hgb)
    | ((with_reducible refine gate_store (t := 27) (p := 4) rfl ?_); refine wpList_store_mid rfl 27 _ _ rfl gb 0 (askCells m).toArray rfl rfl ?ht ?hi ?h1 ?_; (case ht => exact BB0.out.there 14 (Nat.le_refl 14)); (case hi => exact infoAsk); (case h1 => exact all_oneCell_toArray (askCells_one m)); have BB := Lib.hid (BB0.out.setAll (askCells m) rfl); have KC := Lib.hid (Keeps.setCells (S := fun k => k = gb) (askCells m) 0 v4 (Keeps.refl _ _) (fun _ => rfl)); change wpList _ _ _ _ _ (v4.setCells gb 0 (askCells m)); generalize v4.setCells gb 0 (askCells m) = v5 at BB KC ⊢; clear BB0))
  have BL5 := BL4.out.trans (KC.out.below (B := w.heap.size) BL4.out.size (fun k hk => by show ¬ k = gb; have := HGB.out; omega))
  have ST2 := Lib.hid (show ∀ w0 w1 : World, Below w0.heap.size w0 w1 → Blk w0 gb 27 (askCells m) → Blk w1 gb 27 (askCells m) from fun _ _ hb h => h.below hb)
  have k0 : Kp (fun w1 => Blk w1 gb 27 (askCells m)) w v5 := ⟨BB.out, BL5⟩
  clear BL5 BL4 KC BB
  have e1 := lt_False (n := p.size + t1.size) (by have := HPS.out; have := HT.out; omega)
  have e2 := lt_False (n := p.size + t1.size + t2.size) (by have := HPS.out; have := HT.out; omega)
  have e3 := lt_False (n := p.size + t1.size + t2.size + t3.size) (by have := HPS.out; have := HT.out; omega)
  have e4 := lt_False (n := p.size + t1.size + t2.size + t3.size + t4.size) (by have := HPS.out; have := HT.out; omega)
  have e5 := lt_False (n := p.size + t1.size + t2.size + t3.size + t4.size + t5.size) (by have := HPS.out; have := HT.out; omega)
  have e6 := lt_False (n := p.size + t1.size + t2.size + t3.size + t4.size + t5.size + t6.size) (by have := HPS.out; have := HT.out; omega)
  have e7 := lt_False (n := p.size + t1.size + t2.size + t3.size + t4.size + t5.size + t6.size + t7.size) (by have := HPS.out; have := HT.out; omega)
  have e8 := lt_False (n := p.size + t1.size + t2.size + t3.size + t4.size + t5.size + t6.size + t7.size + t8.size) (by have := HPS.out; have := HT.out; omega)
  go_region_held3 (fun w' => w'.cell? ⟨gb, 0, none⟩ = some (.int .i64 m.op) ∧ w'.cell? ⟨gb, 1, none⟩ = some (.int .u32 m.h.ex) ∧ w'.cell? ⟨gb, 2, none⟩ = some (.int .u64 m.h.snap) ∧ w'.cell? ⟨gb, 3, none⟩ = some (.int .u64 m.h.ino) ∧ w'.cell? ⟨gb, 4, none⟩ = some (.int .u64 m.h.gen) ∧ w'.cell? ⟨gb, 5, none⟩ = some (.int .u32 m.h2.ex) ∧ w'.cell? ⟨gb, 6, none⟩ = some (.int .u64 m.h2.snap) ∧ w'.cell? ⟨gb, 7, none⟩ = some (.int .u64 m.h2.ino) ∧ w'.cell? ⟨gb, 8, none⟩ = some (.int .u64 m.h2.gen) ∧ w'.cell? ⟨gb, 9, none⟩ = some (.string m.name) ∧ w'.cell? ⟨gb, 10, none⟩ = some (.string m.name2) ∧ w'.cell? ⟨gb, 11, none⟩ = some (.int .u64 m.off) ∧ w'.cell? ⟨gb, 12, none⟩ = some (.int .u64 m.num) ∧ w'.cell? ⟨gb, 13, none⟩ = some (.string m.data) ∧ Kp (fun w1 => Blk w1 gb 27 (askCells m)) w w')
    ((go_split_ands; first
      | (have q := Kp.next ST2 hb (by assumption); exact ⟨q.h.cell 0 rfl, q.h.cell 1 rfl, q.h.cell 2 rfl, q.h.cell 3 rfl, q.h.cell 4 rfl, q.h.cell 5 rfl, q.h.cell 6 rfl, q.h.cell 7 rfl, q.h.cell 8 rfl, q.h.cell 9 rfl, q.h.cell 10 rfl, q.h.cell 11 rfl, q.h.cell 12 rfl, q.h.cell 13 rfl, q⟩)
      | (have q := Kp.drew ST2 k0; exact ⟨q.h.cell 0 rfl, q.h.cell 1 rfl, q.h.cell 2 rfl, q.h.cell 3 rfl, q.h.cell 4 rfl, q.h.cell 5 rfl, q.h.cell 6 rfl, q.h.cell 7 rfl, q.h.cell 8 rfl, q.h.cell 9 rfl, q.h.cell 10 rfl, q.h.cell 11 rfl, q.h.cell 12 rfl, q.h.cell 13 rfl, q⟩)))
    ((first
        | (go_at_call 55; with_reducible refine (C1.out.at _).mono ?_; rintro e w' ⟨rfl, hb⟩)
        | (go_at_call 58; with_reducible refine (C2.out.at _).mono ?_; rintro e w' ⟨rfl, hb⟩)
        | (go_at_call 58; with_reducible refine (C3.out.at _).mono ?_; rintro e w' ⟨rfl, hb⟩)
        | (go_at_call 59; with_reducible refine (C4.out.at _).mono ?_; rintro e w' ⟨rfl, hb⟩)
        | (go_at_call 59; with_reducible refine (C5.out.at _).mono ?_; rintro e w' ⟨rfl, hb⟩)
        | (go_at_call 57; with_reducible refine (C6.out.at _).mono ?_; rintro e w' ⟨rfl, hb⟩)
        | (go_at_call 57; with_reducible refine (C7.out.at _).mono ?_; rintro e w' ⟨rfl, hb⟩)
        | (go_at_call 59; with_reducible refine (C8.out.at _).mono ?_; rintro e w' ⟨rfl, hb⟩)))
  go_split_ands
  rename_i q
  have Q := Lib.hid q.below
  clear q
  go_wp2
  go_ret
  exact ⟨by rw [Hp.out]; rfl, Q.out⟩

end Go.Proofs.Ytibcadfpengacaa

-- RefP
set_option linter.unusedVariables false
set_option linter.unusedSimpArgs false
namespace Go.Proofs.Ytibcadfpengacaa
open Go.RowKit Go.Lib Go.Proofs.YtibcadfpengacaaW.PrintWords Go.Proofs.YtibcadfpengacaaW.PrintMore Go.Proofs.YtibcadfpengacaaW.PrintLast

def zans : List Value := [.int .i64 0, .int .u32 0, .int .u64 0, .int .u64 0, .int .u64 0, .int .i64 0, .int .u32 0, .int .u64 0, .int .u64 0, .string ⟨#[]⟩, .bool false, .int .u64 0, .slice none 0 0]
theorem run_allocAns (ev : Operand → Value) (o : Oper) (ho : o.op = .alloc 32) (w : World) : (execOp ev o).run Try.prog w = .ok (.value (.pointer (some ⟨w.heap.size, 0, none⟩))) (w.alloc (.cells zans.toArray 32 (0, 0))) := by
  unfold execOp
  rw [ho]
  kernel_rfl
def ansCells (m : Msg) (A : Option Addr) (c : Nat) : List Value := [.int .i64 m.status, .int .u32 m.ah.ex, .int .u64 m.ah.snap, .int .u64 m.ah.ino, .int .u64 m.ah.gen, .int .i64 m.akind, .int .u32 m.links, .int .u64 m.size, .int .u64 m.change, .string m.adata, .bool m.eof, .int .u64 m.anum, .slice A m.list.length c]
theorem ansCells_one (m : Msg) (A : Option Addr) (c : Nat) : ∀ v ∈ ansCells m A c, v.oneCell' = true := by
  intro v hv
  simp only [ansCells, List.mem_cons, List.not_mem_nil, or_false] at hv
  rcases hv with h | h | h | h | h | h | h | h | h | h | h | h | h <;> (subst h; rfl)

def entS (s : ByteArray) (e : Ent) : ByteArray := s ++ txtS e.name ++ leS e.ino.toNat 8 ++ leS e.cookie.toNat 8
def laidEnts (p : ByteArray) (es : List Ent) : ByteArray := es.foldl entS p
theorem laidEnts_snoc (p : ByteArray) (es : List Ent) (k : Nat) (h : k < es.length) : laidEnts p (es.take (k + 1)) = entS (laidEnts p (es.take k)) (es[k]'h) := by
  unfold laidEnts
  rw [List.take_succ_eq_append_getElem h, List.foldl_append]
  rfl
theorem laidEnts_size (es : List Ent) (hs : ∀ e ∈ es, e.name.size ≤ 4096) : ∀ p : ByteArray, (laidEnts p es).size ≤ p.size + 4120 * es.length := by
  induction es with
  | nil => intro p; exact Nat.le_refl _
  | cons e es ih =>
    intro p
    have h1 := ih (fun e he => hs e (List.mem_cons_of_mem _ he)) (entS p e)
    have h2 := txtS_size e.name (hs e List.mem_cons_self)
    have h3 : (entS p e).size = p.size + (txtS e.name).size + 8 + 8 := by simp [entS, ByteArray.size_append, leS_size]
    show (laidEnts (entS p e) es).size ≤ _
    rw [List.length_cons]
    omega

set_option maxHeartbeats 8000000 in
set_option maxRecDepth 100000 in
theorem layReply_raw (x : List Value) (m : Msg) (A : Option Addr) (c : Nat) (hx : MsgAt x m A c) (p1 p2 p3 : ByteArray) (g1 : p1.size ≤ 5000) (g2 : p2.size ≤ 5000) (g3 : p3.size ≤ 5000) (P1 : Says 55 (.int .i64 m.kind) p1) (P2 : Says 56 (.int .u32 m.client) p2) (P3 : Says 57 (.int .u64 m.xid) p3) (t1 t2 t3 t4 t5 t6 t7 t8 t9 t10 tl : ByteArray) (hs : t1.size ≤ 5000 ∧ t2.size ≤ 5000 ∧ t3.size ≤ 5000 ∧ t4.size ≤ 5000 ∧ t5.size ≤ 5000 ∧ t6.size ≤ 5000 ∧ t7.size ≤ 5000 ∧ t8.size ≤ 5000 ∧ t9.size ≤ 5000 ∧ t10.size ≤ 5000 ∧ tl.size ≤ 5000)
    (H1 : Says 55 (.int .i64 m.status) t1) (H2 : Says 58 (.agg #[.int .u32 m.ah.ex, .int .u64 m.ah.snap, .int .u64 m.ah.ino, .int .u64 m.ah.gen]) t2) (H3 : Says 55 (.int .i64 m.akind) t3)
    (H4 : Says 56 (.int .u32 m.links) t4) (H5 : Says 57 (.int .u64 m.size) t5) (H6 : Says 57 (.int .u64 m.change) t6) (H7 : Says 59 (.string m.adata) t7) (H8 : Says 60 (.bool m.eof) t8) (H9 : Says 57 (.int .u64 m.anum) t9) (H10 : Says 56 (.int .u32 m.list.length) t10)
    (HL : Says 61 (.agg x.toArray) tl) (hE : ∀ e ∈ m.list, e.name.size ≤ 4096 ∧ U64 e.ino ∧ U64 e.cookie) (hl : m.list.length ≤ 64)
    (hk2 : m.kind = 2) (w : World) (hA : EntsR w A m.list) : Calls Try.prog 38 #[.agg x.toArray] w fun e w' => e = .returned (.string (laidEnts (p1 ++ p2 ++ p3 ++ t1 ++ t2 ++ t3 ++ t4 ++ t5 ++ t6 ++ t7 ++ t8 ++ t9 ++ t10) m.list ++ tl)) ∧ Below w.heap.size w w' := by
  have HX := Lib.hid hx
  have C1 := Lib.hid H1; have C2 := Lib.hid H2; have C3 := Lib.hid H3; have C4 := Lib.hid H4; have C5 := Lib.hid H5; have C6 := Lib.hid H6; have C7 := Lib.hid H7; have C8 := Lib.hid H8; have C9 := Lib.hid H9; have C10 := Lib.hid H10; have CL := Lib.hid HL
  have HT := Lib.hid hs; have HE := Lib.hid hE; have Hl := Lib.hid hl; have HA := Lib.hid hA
  have k1 : (m.kind == 1) = false := by simp [hk2]
  have k2 : (m.kind == 2) = true := by simp [hk2]
  have Hk2 := Lib.hid hk2
  clear H1 H2 H3 H4 H5 H6 H7 H8 H9 H10 HL hs hk2 hE hl hA
  have D1 := Lib.hid P1; have D2 := Lib.hid P2; have D3 := Lib.hid P3
  have G := Lib.hid (show p1.size ≤ 5000 ∧ p2.size ≤ 5000 ∧ p3.size ≤ 5000 from ⟨g1, g2, g3⟩)
  have f2 := lt_False (n := p1.size + p2.size) (by omega)
  have f3 := lt_False (n := p1.size + p2.size + p3.size) (by omega)
  clear P1 P2 P3 g1 g2 g3 hx
  go_enter Try.func38, Try.ntmps38
  go_wp2_with (first
    | ((with_reducible refine gate_dst (N := 1) rfl ?_); refine box_event rfl (N := 1) rfl (run_box _ _ _ 36 _ x.toArray rfl rfl _) ?_; intro gx hgx v1 hbox hbel; have BX := Lib.hid (show Blk v1 gx 36 x from hbox); have BL := Lib.hid hbel; have HGX := Lib.hid hgx; clear hbox hbel hgx))
  have ST := Lib.hid (show ∀ w0 w1 : World, Below w0.heap.size w0 w1 → Blk w0 gx 36 x → Blk w1 gx 36 x from fun _ _ hb h => h.below hb)
  have k0 : Kp (fun w1 => Blk w1 gx 36 x) w v1 := ⟨BX.out, BL.out⟩
  go_region_held3 (fun w' => w'.cell? ⟨gx, 0, none⟩ = some (.int .i64 m.kind) ∧ w'.cell? ⟨gx, 1, none⟩ = some (.int .u32 m.client) ∧ w'.cell? ⟨gx, 2, none⟩ = some (.int .u64 m.xid) ∧ Kp (fun w1 => Blk w1 gx 36 x) w w')
    ((go_split_ands; first
      | (have q := Kp.next ST hb (by assumption); exact ⟨q.h.cell 0 HX.out.c0, q.h.cell 1 HX.out.c1, q.h.cell 2 HX.out.c2, q⟩)
      | (have q := Kp.drew ST k0; exact ⟨q.h.cell 0 HX.out.c0, q.h.cell 1 HX.out.c1, q.h.cell 2 HX.out.c2, q⟩)))
    ((first
        | (go_at_call 55; with_reducible refine (D1.out.at _).mono ?_; rintro e w' ⟨rfl, hb⟩)
        | (go_at_call 56; with_reducible refine (D2.out.at _).mono ?_; rintro e w' ⟨rfl, hb⟩)
        | (go_at_call 57; with_reducible refine (D3.out.at _).mono ?_; rintro e w' ⟨rfl, hb⟩)))
  go_split_ands
  rename_i q
  have Q0 := Lib.hid q
  have cX0 := Q0.out.h.cell 0 HX.out.c0
  clear q k0 BX BL HGX
  generalize hp : p1 ++ p2 ++ p3 = p at *
  have Hp := Lib.hid hp
  have hps : p.size ≤ 15000 := by rw [← hp, ByteArray.size_append, ByteArray.size_append]; have := G.out; omega
  have HPS := Lib.hid hps
  clear hp hps f2 f3 D1 D2 D3
  go_wp2_with (first
    | ((with_reducible refine gate_dst (N := 60) rfl ?_); refine wpList_load_mid rfl 32 _ rfl gx 17 rfl (ansCells m A c) _ (Q0.out.h.part 17 _ HX.out.ans) Try.underlying32 rfl infoAns ?_)
    | ((with_reducible refine gate_dst (N := 5) rfl ?_); refine box_event rfl (N := 5) rfl (run_allocAns _ _ rfl _) ?_; intro ga hga v4 hbox hbel; have BB0 := Lib.hid (show Blk v4 ga 32 zans from hbox); have BX4 := Lib.hid (Q0.out.h.below hbel); have BL4 := Lib.hid (Q0.out.below.trans (hbel.mono Q0.out.below.size)); have HGB := Lib.hid (show w.heap.size ≤ ga ∧ gx ≠ ga from ⟨by rw [hga]; exact Q0.out.below.size, by have := Q0.out.h.lt; omega⟩); clear hbox hbel hga)
    | ((with_reducible refine gate_store (t := 32) (p := 5) rfl ?_); refine wpList_store_mid rfl 32 _ _ rfl ga 0 (ansCells m A c).toArray rfl rfl ?ht ?hi ?h1 ?_; (case ht => exact BB0.out.there 13 (Nat.le_refl 13)); (case hi => exact infoAns); (case h1 => exact all_oneCell_toArray (ansCells_one m A c)); have BB := Lib.hid (BB0.out.setAll (ansCells m A c) rfl); have KC := Lib.hid (Keeps.setCells (S := fun k => k = ga) (ansCells m A c) 0 v4 (Keeps.refl _ _) (fun _ => rfl)); change wpList _ _ _ _ _ (v4.setCells ga 0 (ansCells m A c)); generalize v4.setCells ga 0 (ansCells m A c) = v5 at BB KC ⊢; clear BB0))
  have BL5 := BL4.out.trans (KC.out.below (B := w.heap.size) BL4.out.size (fun k hk => by show ¬ k = ga; have := HGB.out.1; omega))
  have BX5 := BX4.out.kept KC.out (show ¬ gx = ga from HGB.out.2)
  have ST2 := Lib.hid (show ∀ w0 w1 : World, Below w0.heap.size w0 w1 → (Blk w0 ga 32 (ansCells m A c) ∧ EntsR w0 A m.list ∧ Blk w0 gx 36 x) → (Blk w1 ga 32 (ansCells m A c) ∧ EntsR w1 A m.list ∧ Blk w1 gx 36 x) from fun _ _ hb h => ⟨h.1.below hb, h.2.1.below hb, h.2.2.below hb⟩)
  have k0 : Kp (fun w1 => Blk w1 ga 32 (ansCells m A c) ∧ EntsR w1 A m.list ∧ Blk w1 gx 36 x) w v5 := ⟨⟨BB.out, HA.out.below BL5, BX5⟩, BL5⟩
  have hw : (m.list.length : Int) % 4294967296 = (m.list.length : Int) := by have := Hl.out; omega
  have hw2 : IntKind.u32.wrap (m.list.length : Int) = (m.list.length : Int) := by rw [u32_wrap]; have := Hl.out; omega
  clear BL5 BL4 KC BB BX5 BX4 HA
  have e1 := lt_False (n := p.size + t1.size) (by have := HPS.out; have := HT.out; omega)
  have e2 := lt_False (n := p.size + t1.size + t2.size) (by have := HPS.out; have := HT.out; omega)
  have e3 := lt_False (n := p.size + t1.size + t2.size + t3.size) (by have := HPS.out; have := HT.out; omega)
  have e4 := lt_False (n := p.size + t1.size + t2.size + t3.size + t4.size) (by have := HPS.out; have := HT.out; omega)
  have e5 := lt_False (n := p.size + t1.size + t2.size + t3.size + t4.size + t5.size) (by have := HPS.out; have := HT.out; omega)
  have e6 := lt_False (n := p.size + t1.size + t2.size + t3.size + t4.size + t5.size + t6.size) (by have := HPS.out; have := HT.out; omega)
  have e7 := lt_False (n := p.size + t1.size + t2.size + t3.size + t4.size + t5.size + t6.size + t7.size) (by have := HPS.out; have := HT.out; omega)
  have e8 := lt_False (n := p.size + t1.size + t2.size + t3.size + t4.size + t5.size + t6.size + t7.size + t8.size) (by have := HPS.out; have := HT.out; omega)
  have e9 := lt_False (n := p.size + t1.size + t2.size + t3.size + t4.size + t5.size + t6.size + t7.size + t8.size + t9.size) (by have := HPS.out; have := HT.out; omega)
  have e10 := lt_False (n := p.size + t1.size + t2.size + t3.size + t4.size + t5.size + t6.size + t7.size + t8.size + t9.size + t10.size) (by have := HPS.out; have := HT.out; omega)
  go_region_held3 (fun w' => w'.cell? ⟨ga, 0, none⟩ = some (.int .i64 m.status) ∧ w'.cell? ⟨ga, 1, none⟩ = some (.int .u32 m.ah.ex) ∧ w'.cell? ⟨ga, 2, none⟩ = some (.int .u64 m.ah.snap) ∧ w'.cell? ⟨ga, 3, none⟩ = some (.int .u64 m.ah.ino) ∧ w'.cell? ⟨ga, 4, none⟩ = some (.int .u64 m.ah.gen) ∧ w'.cell? ⟨ga, 5, none⟩ = some (.int .i64 m.akind) ∧ w'.cell? ⟨ga, 6, none⟩ = some (.int .u32 m.links) ∧ w'.cell? ⟨ga, 7, none⟩ = some (.int .u64 m.size) ∧ w'.cell? ⟨ga, 8, none⟩ = some (.int .u64 m.change) ∧ w'.cell? ⟨ga, 9, none⟩ = some (.string m.adata) ∧ w'.cell? ⟨ga, 10, none⟩ = some (.bool m.eof) ∧ w'.cell? ⟨ga, 11, none⟩ = some (.int .u64 m.anum) ∧ w'.cell? ⟨ga, 12, none⟩ = some (.slice A m.list.length c) ∧ Kp (fun w1 => Blk w1 ga 32 (ansCells m A c) ∧ EntsR w1 A m.list ∧ Blk w1 gx 36 x) w w')
    ((go_split_ands; first
      | (have q := Kp.next ST2 hb (by assumption); exact ⟨q.h.1.cell 0 rfl, q.h.1.cell 1 rfl, q.h.1.cell 2 rfl, q.h.1.cell 3 rfl, q.h.1.cell 4 rfl, q.h.1.cell 5 rfl, q.h.1.cell 6 rfl, q.h.1.cell 7 rfl, q.h.1.cell 8 rfl, q.h.1.cell 9 rfl, q.h.1.cell 10 rfl, q.h.1.cell 11 rfl, q.h.1.cell 12 rfl, q⟩)
      | (have q := Kp.drew ST2 k0; exact ⟨q.h.1.cell 0 rfl, q.h.1.cell 1 rfl, q.h.1.cell 2 rfl, q.h.1.cell 3 rfl, q.h.1.cell 4 rfl, q.h.1.cell 5 rfl, q.h.1.cell 6 rfl, q.h.1.cell 7 rfl, q.h.1.cell 8 rfl, q.h.1.cell 9 rfl, q.h.1.cell 10 rfl, q.h.1.cell 11 rfl, q.h.1.cell 12 rfl, q⟩)))
    ((first
        | (go_at_call 55; with_reducible refine (C1.out.at _).mono ?_; rintro e w' ⟨rfl, hb⟩)
        | (go_at_call 58; with_reducible refine (C2.out.at _).mono ?_; rintro e w' ⟨rfl, hb⟩)
        | (go_at_call 55; with_reducible refine (C3.out.at _).mono ?_; rintro e w' ⟨rfl, hb⟩)
        | (go_at_call 56; with_reducible refine (C4.out.at _).mono ?_; rintro e w' ⟨rfl, hb⟩)
        | (go_at_call 57; with_reducible refine (C5.out.at _).mono ?_; rintro e w' ⟨rfl, hb⟩)
        | (go_at_call 57; with_reducible refine (C6.out.at _).mono ?_; rintro e w' ⟨rfl, hb⟩)
        | (go_at_call 59; with_reducible refine (C7.out.at _).mono ?_; rintro e w' ⟨rfl, hb⟩)
        | (go_at_call 60; with_reducible refine (C8.out.at _).mono ?_; rintro e w' ⟨rfl, hb⟩)
        | (go_at_call 57; with_reducible refine (C9.out.at _).mono ?_; rintro e w' ⟨rfl, hb⟩)
        | (go_at_call 56; with_reducible refine (C10.out.at _).mono ?_; rintro e w' ⟨rfl, hb⟩)))
  go_split_ands
  rename_i q
  have Q1 := Lib.hid q
  clear q k0 Q0
  generalize hp' : p ++ t1 ++ t2 ++ t3 ++ t4 ++ t5 ++ t6 ++ t7 ++ t8 ++ t9 ++ t10 = p' at *
  have Hp' := Lib.hid hp'
  have hps' : p'.size ≤ 65000 := by rw [← hp']; simp only [ByteArray.size_append]; have := HPS.out; have := HT.out; omega
  have HPS' := Lib.hid hps'
  clear hp' hps' e1 e2 e3 e4 e5 e6 e7 e8 e9 e10 C1 C2 C3 C4 C5 C6 C7 C8 C9 C10 hw hw2
  have c12 := Q1.out.h.1.cell 12 rfl
  generalize hn : m.list.length = n at *
  have Hn := Lib.hid hn
  clear hn
  go_wp2_with fail
  go_loopw [3, 6] (fun v i wr => ∃ k : Nat, k ≤ n ∧ i = .int .i64 k ∧ v = .string (laidEnts p' (m.list.take k)) ∧ Kp (fun w1 => Blk w1 ga 32 (ansCells m A c) ∧ EntsR w1 A m.list ∧ Blk w1 gx 36 x) w wr) (fun _ i _ => n - (intOf i).toNat)
  case atStart => exact ⟨0, Nat.zero_le _, rfl, rfl, Q1.out⟩
  case round =>
    obtain ⟨k, hk, rfl, rfl, hq⟩ := hrel
    have c12 : wr.cell? ⟨ga, 12, none⟩ = some (.slice A n c) := (hq.h.1.cell 12 rfl).trans (by rw [Hn.out])
    have hn64 : n ≤ 64 := by have := Hl.out; have := Hn.out; omega
    by_cases hlt : k < n
    · obtain ⟨e, he⟩ : ∃ e, m.list[k]? = some e := ⟨_, List.getElem?_eq_getElem (by have := Hn.out; omega)⟩
      have hmem : e ∈ m.list := List.mem_of_getElem? he
      obtain ⟨hz1, hz2, hz3⟩ := HE.out e hmem
      obtain ⟨b, o, hA, y1, y2, y3⟩ := hq.h.2.1 k e he
      have hstep : laidEnts p' (m.list.take (k + 1)) = entS (laidEnts p' (m.list.take k)) e := by
        have hkl : k < m.list.length := by have := Hn.out; omega
        rw [laidEnts_snoc p' m.list k hkl]
        congr 1
        exact (List.getElem?_eq_some_iff.1 he).2
      have hsz : (laidEnts p' (m.list.take k)).size ≤ 65000 + 4120 * 64 := by
        have h1 := laidEnts_size (m.list.take k) (fun e he => (HE.out e (List.mem_of_mem_take he)).1) p'
        have h2 : (m.list.take k).length ≤ 64 := by rw [List.length_take]; have := Hl.out; omega
        have h3 := HPS'.out
        omega
      have T1 := Lib.hid (text_says e.name hz1)
      have T2 := Lib.hid (show Says 57 (.int .u64 e.ino) (leS e.ino.toNat 8) from fun w => l8_any _ hz2 w)
      have T3 := Lib.hid (show Says 57 (.int .u64 e.cookie) (leS e.cookie.toNat 8) from fun w => l8_any _ hz3 w)
      have hs1 := txtS_size e.name hz1
      have hs2 := leS_size e.ino.toNat 8
      have hs3 := leS_size e.cookie.toNat 8
      have HST := Lib.hid hstep
      unfold entS at HST
      generalize txtS e.name = u1 at *
      generalize leS e.ino.toNat 8 = u2 at *
      generalize leS e.cookie.toNat 8 = u3 at *
      generalize laidEnts p' (m.list.take k) = pk at *
      have g1 := lt_False (n := pk.size + u1.size) (by omega)
      have g2 := lt_False (n := pk.size + u1.size + u2.size) (by omega)
      have g3 := lt_False (n := pk.size + u1.size + u2.size + u3.size) (by omega)
      have hki0 : (0 : Int) ≤ (k : Int) := Int.natCast_nonneg _
      have hki1 : (k : Int) < (n : Int) := by omega
      have HA := Lib.hid hA
      have kq := hq
      have HY := Lib.hid (show wr.cell? ⟨b, o + k * 3, none⟩ = some (.string e.name) ∧ wr.cell? ⟨b, o + k * 3 + 1, none⟩ = some (.int .u64 e.ino) ∧ wr.cell? ⟨b, o + k * 3 + 2, none⟩ = some (.int .u64 e.cookie) from ⟨y1, y2, y3⟩)
      have ST3 := Lib.hid (show ∀ w0 w1 : World, Below w0.heap.size w0 w1 → ((Blk w0 ga 32 (ansCells m A c) ∧ EntsR w0 A m.list ∧ Blk w0 gx 36 x) ∧ w0.cell? ⟨b, o + k * 3, none⟩ = some (.string e.name) ∧ w0.cell? ⟨b, o + k * 3 + 1, none⟩ = some (.int .u64 e.ino) ∧ w0.cell? ⟨b, o + k * 3 + 2, none⟩ = some (.int .u64 e.cookie)) → (Blk w1 ga 32 (ansCells m A c) ∧ EntsR w1 A m.list ∧ Blk w1 gx 36 x) ∧ w1.cell? ⟨b, o + k * 3, none⟩ = some (.string e.name) ∧ w1.cell? ⟨b, o + k * 3 + 1, none⟩ = some (.int .u64 e.ino) ∧ w1.cell? ⟨b, o + k * 3 + 2, none⟩ = some (.int .u64 e.cookie) from fun w0 w1 hb h => ⟨ST2.out _ _ hb h.1, (hb.cell (World.block_lt_of_cell? w0 _ h.2.1)).trans h.2.1, (hb.cell (World.block_lt_of_cell? w0 _ h.2.2.1)).trans h.2.2.1, (hb.cell (World.block_lt_of_cell? w0 _ h.2.2.2)).trans h.2.2.2⟩)
      have k3 : Kp (fun w0 => (Blk w0 ga 32 (ansCells m A c) ∧ EntsR w0 A m.list ∧ Blk w0 gx 36 x) ∧ w0.cell? ⟨b, o + k * 3, none⟩ = some (.string e.name) ∧ w0.cell? ⟨b, o + k * 3 + 1, none⟩ = some (.int .u64 e.ino) ∧ w0.cell? ⟨b, o + k * 3 + 2, none⟩ = some (.int .u64 e.cookie)) w wr := ⟨⟨hq.h, HY.out⟩, hq.below⟩
      have HK3 := Lib.hid k3
      clear hz1 hz2 hz3 hstep hsz hs1 hs2 hs3 he hmem hq y1 y2 y3 kq k3
      have HC12 := Lib.hid (show some (Value.slice A m.list.length c) = some (Value.slice (some ⟨b, o, none⟩) n c) by rw [HA.out, Hn.out])
      clear hA
      go_wp2
      have k3 := HK3.out
      go_region_held3 (fun w' => w'.cell? ⟨ga, 12, none⟩ = some (.slice (some ⟨b, o, none⟩) n c) ∧ w'.cell? ⟨b, o + k * 3, none⟩ = some (.string e.name) ∧ w'.cell? ⟨b, o + k * 3 + 1, none⟩ = some (.int .u64 e.ino) ∧ w'.cell? ⟨b, o + k * 3 + 2, none⟩ = some (.int .u64 e.cookie) ∧ Kp (fun w0 => (Blk w0 ga 32 (ansCells m A c) ∧ EntsR w0 A m.list ∧ Blk w0 gx 36 x) ∧ w0.cell? ⟨b, o + k * 3, none⟩ = some (.string e.name) ∧ w0.cell? ⟨b, o + k * 3 + 1, none⟩ = some (.int .u64 e.ino) ∧ w0.cell? ⟨b, o + k * 3 + 2, none⟩ = some (.int .u64 e.cookie)) w w')
        ((go_split_ands; first
          | (have q := Kp.next ST3 hb (by assumption); exact ⟨(q.h.1.1.cell 12 rfl).trans HC12.out, q.h.2.1, q.h.2.2.1, q.h.2.2.2, q⟩)
          | (have q := Kp.drew ST3 k3; exact ⟨(q.h.1.1.cell 12 rfl).trans HC12.out, q.h.2.1, q.h.2.2.1, q.h.2.2.2, q⟩)))
        ((first
            | (go_at_call 59; with_reducible refine (T1.out.at _).mono ?_; rintro e w' ⟨rfl, hb⟩)
            | (go_at_call 57; with_reducible refine (T2.out.at _).mono ?_; rintro e w' ⟨rfl, hb⟩)
            | (go_at_call 57; with_reducible refine (T3.out.at _).mono ?_; rintro e w' ⟨rfl, hb⟩)))
      go_split_ands
      rename_i q
      have Q := Lib.hid q
      clear q k3
      go_wp2
      go_roundw
      case rel => exact ⟨k + 1, by omega, by go_num, by rw [HST.out], Q.out.h.1, Q.out.below⟩
      case measure => simp [intOf]; omega
    · have he : k = n := by omega
      subst he
      have hfull : m.list.take k = m.list := List.take_of_length_le (by have := Hn.out; omega)
      have HF := Lib.hid (show laidEnts p' (m.list.take k) = laidEnts p' m.list by rw [hfull])
      have hsz : (laidEnts p' (m.list.take k)).size ≤ 65000 + 4120 * 64 := by
        have h1 := laidEnts_size (m.list.take k) (fun e he => (HE.out e (List.mem_of_mem_take he)).1) p'
        have h2 : (m.list.take k).length ≤ 64 := by rw [List.length_take]; have := Hl.out; omega
        have h3 := HPS'.out
        omega
      have HQ := Lib.hid hq
      clear hfull hq
      generalize laidEnts p' (m.list.take k) = pk at *
      have g1 := lt_False (n := pk.size + tl.size) (by have := HT.out; omega)
      clear hsz
      go_wp2_with (first
        | ((with_reducible refine gate_dst (N := 141) rfl ?_); refine wpList_load_mid rfl 36 _ rfl gx 0 rfl x _ ?hc Try.underlying36 rfl ?hi ?_; (case hc => exact HQ.out.h.2.2.range); (case hi => rw [HX.out.len]; exact infoMsg)))
      refine (CL.out.at _).mono ?_
      rintro e w4 ⟨rfl, hb⟩
      have KB := Lib.hid (HQ.out.below.trans (hb.mono HQ.out.below.size))
      clear hb
      go_wp2_with fail
      go_ret
      exact ⟨by rw [← Hp'.out, ← Hp.out] at HF; rw [HF.out]; rfl, KB.out⟩

end Go.Proofs.Ytibcadfpengacaa

-- RefQ
set_option linter.unusedVariables false
set_option linter.unusedSimpArgs false
namespace Go.Proofs.Ytibcadfpengacaa
open Go.RowKit Go.Lib Go.Proofs.YtibcadfpengacaaW.PrintWords Go.Proofs.YtibcadfpengacaaW.PrintMore Go.Proofs.YtibcadfpengacaaW.PrintLast

def toR (e : Ent) : PRlong.S99 := ⟨e.name, e.ino, e.cookie⟩
theorem kR_of {w : World} {A : Option Addr} {es : List Ent} (hlen : es.length ≤ 4398046511104) (hA : EntsR w A es) : Kd.C PRlong.k99 w A (es.map toR).length (es.map toR) := by
  refine ⟨rfl, by rw [List.length_map]; omega, fun h => ?_⟩
  rw [List.length_map] at h
  obtain ⟨b, o, e, _⟩ := hA 0 _ (List.getElem?_eq_getElem h)
  refine ⟨⟨b, o, none⟩, e, fun j p hp => ?_⟩
  have hj : j < es.length := by
    have := (List.getElem?_eq_some_iff.1 hp).1
    rwa [List.length_map] at this
  have hpe : p = toR (es[j]'hj) := by simpa [hj] using hp.symm
  subst hpe
  obtain ⟨b2, o2, e2, q0, q1, q2⟩ := hA j _ (List.getElem?_eq_getElem hj)
  obtain ⟨rfl, rfl⟩ : b2 = b ∧ o2 = o := by rw [e] at e2; injection e2 with e2; injection e2 with e3 e4; exact ⟨e3.symm, e4.symm⟩
  refine ⟨_, rfl, PRlong.k99_mk w _, fun i u hu => ?_⟩
  have q0' : w.cell? (Addr.add ⟨b2, o2, none⟩ (j * 3)) = some (.string (es[j]'hj).name) := by rw [addr_plus]; exact q0
  have q1' : w.cell? (Addr.add ⟨b2, o2, none⟩ (j * 3 + 1)) = some (.int .u64 (es[j]'hj).ino) := by rw [addr_plus]; exact q1
  have q2' : w.cell? (Addr.add ⟨b2, o2, none⟩ (j * 3 + 2)) = some (.int .u64 (es[j]'hj).cookie) := by rw [addr_plus]; exact q2
  match i, hu with
  | 0, hu => obtain rfl := Option.some.inj hu; exact q0'
  | 1, hu => obtain rfl := Option.some.inj hu; exact q1'
  | 2, hu => obtain rfl := Option.some.inj hu; exact q2'
  | i + 3, hu => exact absurd hu (by simp)

def bigS (s : ByteArray) : Bool := decide (4096 < s.size)
theorem refLong_l1 (L : List ByteArray) (es : List PRlong.S99) (hL : L.length ≤ 8796093022208) (P0 : Int) (P1 : Int) (P2 : Int) (P3 : Int) (P4 : Int) (P5 : Int) (P6 : Int) (P7 : Int) (P8 : Int) (P9 : Int) (P10 : Int) (P11 : Int) (P12 : ByteArray) (P13 : ByteArray) (P14 : Int) (P15 : Int) (P16 : ByteArray) (P17 : Int) (P18 : Int) (P19 : Int) (P20 : Int) (P21 : Int) (P22 : Int) (P23 : Int) (P24 : Int) (P25 : Int) (P26 : ByteArray) (P27 : Bool) (P28 : Int) (P30 : Int) (P31 : Int) (P32 : Int) :
    ∀ (r j k : Nat), j + r = L.length → r < k → PRlong.holtref22_long.l1 k L (j : Int) P0 P1 P2 P3 P4 P5 P6 P7 P8 P9 P10 P11 P12 P13 P14 P15 P16 P17 P18 P19 P20 P21 P22 P23 P24 P25 P26 P27 P28 es P30 P31 P32 = some ((L.drop j).any bigS || decide (64 < es.length)) := by
  intro r
  induction r with
  | zero =>
    intro j k hj hk
    obtain ⟨k, rfl⟩ : ∃ m, k = m + 1 := ⟨k - 1, by omega⟩
    rw [PRlong.holtref22_long.l1, if_neg (by omega), List.drop_eq_nil_of_le (by omega)]
    have e : decide ((es.length : Int) > 64) = decide (64 < es.length) := decide_eq_decide.2 (by omega)
    rw [e]
    simp
  | succ r ih =>
    intro j k hj hk
    obtain ⟨k, rfl⟩ : ∃ m, k = m + 1 := ⟨k - 1, by omega⟩
    have hjl : j < L.length := by omega
    have hg : rdOf ByteArray.empty L (j : Int) = L[j]'hjl := by
      unfold rdOf
      simp [List.getD, hjl]
    rw [PRlong.holtref22_long.l1, if_pos (by omega), if_pos (by omega), hg, List.drop_eq_getElem_cons hjl, List.any_cons]
    by_cases hb : 4096 < (L[j]'hjl).size
    · rw [if_pos (by omega)]
      simp [bigS, hb]
    · rw [if_neg (by omega)]
      have hi := ih (j + 1) k (by omega) (by omega)
      have hw : wrap64 ((j : Int) + 1) = ((j + 1 : Nat) : Int) := by clear hi ih; unfold wrap64; omega
      rw [hw, hi]
      simp [bigS, hb]
theorem refLong_l0 (B : List ByteArray) (hB : B.length = 4) (es : List Ent) (hes : es.length ≤ 4398046511104) (P0 : Int) (P1 : Int) (P2 : Int) (P3 : Int) (P4 : Int) (P5 : Int) (P6 : Int) (P7 : Int) (P8 : Int) (P9 : Int) (P10 : Int) (P11 : Int) (P12 : ByteArray) (P13 : ByteArray) (P14 : Int) (P15 : Int) (P16 : ByteArray) (P17 : Int) (P18 : Int) (P19 : Int) (P20 : Int) (P21 : Int) (P22 : Int) (P23 : Int) (P24 : Int) (P25 : Int) (P26 : ByteArray) (P27 : Bool) (P28 : Int) (P30 : Int) (P31 : Int) (P32 : Int) :
    ∀ (r i k : Nat), i + r = es.length → r + (es.length + 6) < k → PRlong.holtref22_long.l0 k (B ++ (es.take i).map (·.name)) (i : Int) P0 P1 P2 P3 P4 P5 P6 P7 P8 P9 P10 P11 P12 P13 P14 P15 P16 P17 P18 P19 P20 P21 P22 P23 P24 P25 P26 P27 P28 (es.map toR) P30 P31 P32 = some ((B ++ es.map (·.name)).any bigS || decide (64 < es.length)) := by
  intro r
  induction r with
  | zero =>
    intro i k hi hk
    obtain ⟨k, rfl⟩ : ∃ m, k = m + 1 := ⟨k - 1, by omega⟩
    have hl1 := refLong_l1 (B ++ es.map (·.name)) (es.map toR) (by rw [List.length_append, List.length_map]; omega) P0 P1 P2 P3 P4 P5 P6 P7 P8 P9 P10 P11 P12 P13 P14 P15 P16 P17 P18 P19 P20 P21 P22 P23 P24 P25 P26 P27 P28 P30 P31 P32 (B ++ es.map (·.name)).length 0 k (by omega) (by rw [List.length_append, List.length_map]; omega)
    rw [List.drop_zero, List.length_map, show ((0 : Nat) : Int) = 0 from rfl] at hl1
    rw [PRlong.holtref22_long.l0, if_neg (by rw [List.length_map]; omega), List.take_of_length_le (by omega), hl1]
  | succ r ih =>
    intro i k hi hk
    obtain ⟨k, rfl⟩ : ∃ m, k = m + 1 := ⟨k - 1, by omega⟩
    have hil : i < es.length := by omega
    have h1 : (i : Int) < ((es.map toR).length : Int) := by rw [List.length_map]; omega
    have hg : PRlong.rd_T99 (es.map toR) (i : Int) = toR (es[i]'hil) := by
      unfold PRlong.rd_T99
      simp [List.getD, hil]
    have h2 : (B ++ (es.take i).map (·.name)).length < 8796093022208 := by rw [List.length_append, List.length_map, List.length_take]; omega
    have hi2 := ih (i + 1) k (by omega) (by omega)
    rw [List.take_succ_eq_append_getElem hil, List.map_append, ← List.append_assoc] at hi2
    have hw : wrap64 ((i : Int) + 1) = ((i + 1 : Nat) : Int) := by clear hi2 ih h1; unfold wrap64; omega
    rw [PRlong.holtref22_long.l0, if_pos h1, if_pos (by omega), if_pos h2, hg, hw]
    exact hi2

theorem refLong_any (m : Msg) (A : Option Addr) (c : Nat) (hlen : m.list.length ≤ 4398046511104) (hcap : m.list.length ≤ c) (w : World) (hA : EntsR w A m.list) :
    Calls Try.prog 36 #[.agg (m.vs (.slice A m.list.length c)).toArray] w fun e w' => e = .returned (.bool m.long) ∧ Below w.heap.size w w' := by
  have h0 : PRlong.holtref22_long.f (m.list.length + (m.list.length + 8)) m.kind m.client m.xid m.op m.h.ex m.h.snap m.h.ino m.h.gen m.h2.ex m.h2.snap m.h2.ino m.h2.gen m.name m.name2 m.off m.num m.data m.status m.ah.ex m.ah.snap m.ah.ino m.ah.gen m.akind m.links m.size m.change m.adata m.eof m.anum (m.list.map toR) m.boot m.gb m.gn = some m.long := by
    have h := refLong_l0 [m.name, m.name2, m.data, m.adata] rfl m.list hlen m.kind m.client m.xid m.op m.h.ex m.h.snap m.h.ino m.h.gen m.h2.ex m.h2.snap m.h2.ino m.h2.gen m.name m.name2 m.off m.num m.data m.status m.ah.ex m.ah.snap m.ah.ino m.ah.gen m.akind m.links m.size m.change m.adata m.eof m.anum m.boot m.gb m.gn m.list.length 0 (m.list.length + (m.list.length + 8)) (by omega) (by omega)
    rw [List.take_zero, List.map_nil, List.append_nil, show ((0 : Nat) : Int) = 0 from rfl] at h
    unfold PRlong.holtref22_long.f
    rw [h]
    congr 1
    unfold Msg.long
    rw [List.any_append, List.any_map]
    simp only [List.any_cons, List.any_nil, Bool.or_false, bigS]
    simp only [Bool.or_assoc]
    rfl
  have := PRlong.holtref22_long.calls (m.list.length + (m.list.length + 8)) m.kind m.client m.xid m.op m.h.ex m.h.snap m.h.ino m.h.gen m.h2.ex m.h2.snap m.h2.ino m.h2.gen m.name m.name2 m.off m.num m.data m.status m.ah.ex m.ah.snap m.ah.ino m.ah.gen m.akind m.links m.size m.change m.adata m.eof m.anum A c (m.list.map toR) m.boot m.gb m.gn m.long w (kR_of hlen hA) (by rw [List.length_map]; exact hcap) h0
  rw [List.length_map] at this
  exact this

/-- The reference's bytes. -/
def Msg.headS (m : Msg) : ByteArray := oneS m.kind ++ leS m.client.toNat 4 ++ leS m.xid.toNat 8
def Msg.layS (m : Msg) : ByteArray :=
  if m.kind = 1 then m.headS ++ oneS m.op ++ m.h.layS ++ m.h2.layS ++ txtS m.name ++ txtS m.name2 ++ leS m.off.toNat 8 ++ leS m.num.toNat 8 ++ txtS m.data
  else if m.kind = 2 then laidEnts (m.headS ++ oneS m.status ++ m.ah.layS ++ oneS m.akind ++ leS m.links.toNat 4 ++ leS m.size.toNat 8 ++ leS m.change.toNat 8 ++ txtS m.adata ++ leS m.eof.toNat 1 ++ leS m.anum.toNat 8 ++ leS m.list.length 4) m.list ++ tailS m
  else m.headS ++ m.h.layS ++ tailS m
theorem Hd.layS_size (h : Hd) : h.layS.size = 28 := by simp [Hd.layS, ByteArray.size_append, leS_size]
theorem oneS_size (x : Int) : (oneS x).size = 1 := leS_size _ _

theorem lay_any (x : List Value) (m : Msg) (A : Option Addr) (c : Nat) (hx : MsgAt x m A c) (hk : m.Ok) (hl : m.long = false) (w : World) (hA : EntsR w A m.list) :
    Calls Try.prog 38 #[.agg x.toArray] w fun e w' => e = .returned (.string m.layS) ∧ Below w.heap.size w w' := by
  unfold Msg.long at hl
  simp only [Bool.or_eq_false_iff, decide_eq_false_iff_not, List.any_eq_false, decide_eq_true_eq] at hl
  obtain ⟨⟨⟨⟨⟨l1, l2⟩, l3⟩, l4⟩, l5⟩, l6⟩ := hl
  have g : ∀ x n, n ≤ 8 → (leS x n).size ≤ 5000 := fun x n h => by rw [leS_size]; omega
  have g28 : ∀ h : Hd, h.layS.size ≤ 5000 := fun h => by rw [Hd.layS_size]; omega
  have g1 : ∀ x, (oneS x).size ≤ 5000 := fun x => by rw [oneS_size]; omega
  have gt : ∀ s : ByteArray, ¬ 4096 < s.size → (txtS s).size ≤ 5000 := fun s h => Nat.le_trans (txtS_size s (by omega)) (by omega)
  have p1 := one_says m.kind
  have p2 : Says 56 (.int .u32 m.client) _ := fun w => l4_any _ hk.client w
  have p3 : Says 57 (.int .u64 m.xid) _ := fun w => l8_any _ hk.xid w
  have tl := tail_says x m A c hx hk
  unfold Msg.layS Msg.headS
  by_cases h1 : m.kind = 1
  · rw [if_pos h1]
    exact layCall_raw x m A c hx _ _ _ (g1 _) (g _ _ (by omega)) (g _ _ (by omega)) p1 p2 p3 _ _ _ _ _ _ _ _ ⟨g1 _, g28 _, g28 _, gt _ l1, gt _ l2, g _ _ (by omega), g _ _ (by omega), gt _ l3⟩
      (one_says _) (refHd_says _ hk.h) (refHd_says _ hk.h2) (text_says _ (by omega)) (text_says _ (by omega)) (fun w => l8_any _ hk.off w) (fun w => l8_any _ hk.num w) (text_says _ (by omega)) h1 w
  by_cases h2 : m.kind = 2
  · rw [if_neg h1, if_pos h2]
    have hlen : Says 56 (.int .u32 m.list.length) (leS m.list.length 4) := fun w => l4_any (m.list.length : Int) ⟨by omega, by omega⟩ w
    exact layReply_raw x m A c hx _ _ _ (g1 _) (g _ _ (by omega)) (g _ _ (by omega)) p1 p2 p3 _ _ _ _ _ _ _ _ _ _ _ ⟨g1 _, g28 _, g1 _, g _ _ (by omega), g _ _ (by omega), g _ _ (by omega), gt _ l4, g _ _ (by omega), g _ _ (by omega), g _ _ (by omega), by rw [tailS_size]; omega⟩
      (one_says _) (refHd_says _ hk.ah) (one_says _) (fun w => l4_any _ hk.links w) (fun w => l8_any _ hk.size w) (fun w => l8_any _ hk.change w) (text_says _ (by omega)) (yes_says _) (fun w => l8_any _ hk.anum w) hlen tl
      (fun e he => ⟨by have := l5 e he; omega, (hk.list e he).2.1, (hk.list e he).2.2⟩) (by omega) h2 w hA
  · rw [if_neg h1, if_neg h2]
    exact layBack_raw x m A c hx _ _ _ (g1 _) (g _ _ (by omega)) (g _ _ (by omega)) p1 p2 p3 _ _ (g28 _) (by rw [tailS_size]; omega) (refHd_says _ hk.h) tl h1 h2 w

/-- What the reference's Encode answers. -/
def Msg.refE (m : Msg) : ByteArray × Int := if m.long = true then (⟨#[]⟩, 2201) else if m.mayB = false then (⟨#[]⟩, 2200) else (m.layS, 0)

set_option maxHeartbeats 4000000 in
set_option maxRecDepth 100000 in
theorem refEncode_raw (x : List Value) (hxl : x.length = 33) (lng may : Bool) (s : ByteArray) (P : World → Prop) (hP : ∀ w w1, Below w.heap.size w w1 → P w → P w1)
    (hL : ∀ w, P w → Calls Try.prog 36 #[.agg x.toArray] w fun e w' => e = .returned (.bool lng) ∧ Below w.heap.size w w')
    (hM : ∀ w, P w → Calls Try.prog 37 #[.agg x.toArray] w fun e w' => e = .returned (.bool may) ∧ Below w.heap.size w w')
    (hS : lng = false → ∀ w, P w → Calls Try.prog 38 #[.agg x.toArray] w fun e w' => e = .returned (.string s) ∧ Below w.heap.size w w') (w : World) (hw : P w) :
    Calls Try.prog 10 #[.agg x.toArray] w fun e w' => e = .returned (.tuple #[.string (if lng = true then (⟨#[]⟩, 2201) else if may = false then (⟨#[]⟩, 2200) else (s, 0) : ByteArray × Int).1, .int .i64 (if lng = true then (⟨#[]⟩, 2201) else if may = false then (⟨#[]⟩, 2200) else (s, 0) : ByteArray × Int).2]) ∧ Below w.heap.size w w' := by
  have HL := Lib.hid hL; have HM := Lib.hid hM; have HS := Lib.hid hS; have HP := Lib.hid hP; have Hxl := Lib.hid hxl; have HW := Lib.hid hw
  clear hL hM hS hP hxl hw
  cases lng
  rotate_left
  · simp only [if_true]
    go_enter Try.func10, Try.ntmps10
    go_wp2_with (first
      | ((with_reducible refine gate_dst (N := 1) rfl ?_); refine box_event rfl (N := 1) rfl (run_box _ _ _ 36 _ x.toArray rfl rfl _) ?_; intro gx hgx v1 hbox hbel; have BX := Lib.hid (show Blk v1 gx 36 x from hbox); have BL := Lib.hid hbel; clear hbox hbel hgx)
      | ((with_reducible refine gate_dst (N := 4) rfl ?_); refine wpList_load_mid rfl 36 _ rfl gx 0 rfl x _ ?hc Try.underlying36 rfl ?hi ?_; (case hc => exact BX.out.range); (case hi => rw [Hxl.out]; exact infoMsg)))
    refine (HL.out v1 (HP.out _ _ BL.out HW.out)).mono ?_
    rintro e w2 ⟨rfl, hb⟩
    have KB := Lib.hid (BL.out.trans (hb.mono BL.out.size))
    clear hb
    go_wp2_with fail
    go_ret2
    exact ⟨rfl, KB.out⟩
  cases may
  · simp only [if_true, Bool.false_eq_true, if_false]
    go_enter Try.func10, Try.ntmps10
    go_wp2_with (first
      | ((with_reducible refine gate_dst (N := 1) rfl ?_); refine box_event rfl (N := 1) rfl (run_box _ _ _ 36 _ x.toArray rfl rfl _) ?_; intro gx hgx v1 hbox hbel; have BX := Lib.hid (show Blk v1 gx 36 x from hbox); have BL := Lib.hid hbel; clear hbox hbel hgx)
      | ((with_reducible refine gate_dst (N := 4) rfl ?_); refine wpList_load_mid rfl 36 _ rfl gx 0 rfl x _ ?hc Try.underlying36 rfl ?hi ?_; (case hc => exact BX.out.range); (case hi => rw [Hxl.out]; exact infoMsg)))
    refine (HL.out v1 (HP.out _ _ BL.out HW.out)).mono ?_
    rintro e w2 ⟨rfl, hb⟩
    have BX2 := Lib.hid (BX.out.below hb)
    have KB := Lib.hid (BL.out.trans (hb.mono BL.out.size))
    have PW := Lib.hid (HP.out _ _ hb (HP.out _ _ BL.out HW.out))
    clear hb
    go_wp2_with (first
      | ((with_reducible refine gate_dst (N := 6) rfl ?_); refine wpList_load_mid rfl 36 _ rfl gx 0 rfl x _ ?hc Try.underlying36 rfl ?hi ?_; (case hc => exact BX2.out.range); (case hi => rw [Hxl.out]; exact infoMsg)))
    refine (HM.out w2 PW.out).mono ?_
    rintro e w3 ⟨rfl, hb⟩
    have KB3 := Lib.hid (KB.out.trans (hb.mono KB.out.size))
    clear hb
    go_wp2_with fail
    go_ret2
    exact ⟨rfl, KB3.out⟩
  · simp only [Bool.false_eq_true, if_false, Bool.true_eq_false]
    go_enter Try.func10, Try.ntmps10
    go_wp2_with (first
      | ((with_reducible refine gate_dst (N := 1) rfl ?_); refine box_event rfl (N := 1) rfl (run_box _ _ _ 36 _ x.toArray rfl rfl _) ?_; intro gx hgx v1 hbox hbel; have BX := Lib.hid (show Blk v1 gx 36 x from hbox); have BL := Lib.hid hbel; clear hbox hbel hgx)
      | ((with_reducible refine gate_dst (N := 4) rfl ?_); refine wpList_load_mid rfl 36 _ rfl gx 0 rfl x _ ?hc Try.underlying36 rfl ?hi ?_; (case hc => exact BX.out.range); (case hi => rw [Hxl.out]; exact infoMsg)))
    refine (HL.out v1 (HP.out _ _ BL.out HW.out)).mono ?_
    rintro e w2 ⟨rfl, hb⟩
    have BX2 := Lib.hid (BX.out.below hb)
    have KB := Lib.hid (BL.out.trans (hb.mono BL.out.size))
    have PW := Lib.hid (HP.out _ _ hb (HP.out _ _ BL.out HW.out))
    clear hb
    go_wp2_with (first
      | ((with_reducible refine gate_dst (N := 6) rfl ?_); refine wpList_load_mid rfl 36 _ rfl gx 0 rfl x _ ?hc Try.underlying36 rfl ?hi ?_; (case hc => exact BX2.out.range); (case hi => rw [Hxl.out]; exact infoMsg)))
    refine (HM.out w2 PW.out).mono ?_
    rintro e w3 ⟨rfl, hb⟩
    have BX3 := Lib.hid (BX2.out.below hb)
    have KB3 := Lib.hid (KB.out.trans (hb.mono KB.out.size))
    have PW3 := Lib.hid (HP.out _ _ hb PW.out)
    clear hb
    go_wp2_with (first
      | ((with_reducible refine gate_dst (N := 9) rfl ?_); refine wpList_load_mid rfl 36 _ rfl gx 0 rfl x _ ?hc Try.underlying36 rfl ?hi ?_; (case hc => exact BX3.out.range); (case hi => rw [Hxl.out]; exact infoMsg)))
    refine (HS.out (by trivial) w3 PW3.out).mono ?_
    rintro e w4 ⟨rfl, hb⟩
    have KB4 := Lib.hid (KB3.out.trans (hb.mono KB3.out.size))
    clear hb
    go_wp2_with fail
    go_ret2
    exact ⟨rfl, KB4.out⟩

theorem refEncode_any (m : Msg) (A : Option Addr) (c : Nat) (hk : m.Ok) (hcap : m.list.length ≤ c) (w : World) (hA : EntsR w A m.list) :
    Calls Try.prog 10 #[.agg (m.vs (.slice A m.list.length c)).toArray] w fun e w' => e = .returned (.tuple #[.string m.refE.1, .int .i64 m.refE.2]) ∧ Below w.heap.size w w' :=
  refEncode_raw (m.vs (.slice A m.list.length c)) rfl m.long m.mayB m.layS (fun w => EntsR w A m.list) (fun _ _ hb h => h.below hb) (fun w h => refLong_any m A c hk.len hcap w h) (fun w _ => may_any _ m A c (MsgAt.of m A c) w) (fun hl w h => lay_any _ m A c (MsgAt.of m A c) hk hl w h) w hA

end Go.Proofs.Ytibcadfpengacaa

-- PlainE
set_option linter.unusedVariables false
set_option linter.unusedSimpArgs false
namespace Go.Proofs.Ytibcadfpengacaa
open Go.RowKit Go.Lib

/-! ### A writer, step by step -/
theorem Wr.num_ok (σ : Wr) (x n : Nat) (h : x < 256 ^ n) : σ.num x n = σ.put (leB x n) := by unfold Wr.num; rw [if_pos h]
theorem Wr.put_put (σ : Wr) (a b : List UInt8) : (σ.put a).put b = σ.put (a ++ b) := by simp [Wr.put]
theorem Wr.text_ok (σ : Wr) (s : ByteArray) (h : s.size ≤ 4096) : σ.text s = σ.put (txt s) := by
  unfold Wr.text
  rw [if_neg (by omega), Wr.num_ok _ _ _ (by have : (256 : Nat) ^ 4 = 4294967296 := by decide
                                             omega), Wr.put_put, Wr.put_put]
  rfl
def entL (e : Ent) : List UInt8 := txt e.name ++ leB e.ino.toNat 8 ++ leB e.cookie.toNat 8
theorem u64_lt {x : Int} (h : U64 x) : x.toNat < 256 ^ 8 := by
  have h1 := h.1; have h2 := h.2
  have : (256 : Nat) ^ 8 = 18446744073709551616 := by decide
  omega
theorem u32_lt {x : Int} (h : U32 x) : x.toNat < 256 ^ 4 := by
  have h1 := h.1; have h2 := h.2
  have : (256 : Nat) ^ 4 = 4294967296 := by decide
  omega
theorem Wr.ents_ok (es : List Ent) (h : ∀ e ∈ es, e.name.size ≤ 4096 ∧ U64 e.ino ∧ U64 e.cookie) : ∀ σ : Wr, σ.ents es = σ.put (es.flatMap entL) := by
  induction es with
  | nil => intro σ; simp [Wr.ents, Wr.put]
  | cons e es ih =>
    intro σ
    obtain ⟨h1, h2, h3⟩ := h e List.mem_cons_self
    have hi := ih (fun e he => h e (List.mem_cons_of_mem _ he)) (σ.ent e)
    show (σ.ent e).ents es = _
    rw [hi]
    unfold Wr.ent
    rw [Wr.text_ok _ _ h1, Wr.num_ok _ _ _ (u64_lt h2), Wr.num_ok _ _ _ (u64_lt h3), Wr.put_put, Wr.put_put, Wr.put_put, List.flatMap_cons]
    unfold entL
    simp only [List.append_assoc]

theorem Wr.put_c (σ : Wr) (l : List UInt8) : (σ.put l).c = σ.c := rfl
theorem Wr.num_c (σ : Wr) (x n : Nat) (h : σ.c ≠ 0) : (σ.num x n).c = σ.c := by
  unfold Wr.num
  split
  · rfl
  · show (if σ.c = 0 then _ else σ.c) = σ.c
    rw [if_neg h]
theorem Wr.text_c (σ : Wr) (s : ByteArray) (h : σ.c ≠ 0) : (σ.text s).c = σ.c := by
  unfold Wr.text
  split
  · show (if σ.c = 0 then _ else σ.c) = σ.c
    rw [if_neg h]
  · rw [Wr.put_c, Wr.put_c, Wr.num_c _ _ _ h]
theorem Wr.ents_c (es : List Ent) : ∀ σ : Wr, σ.c ≠ 0 → (σ.ents es).c = σ.c := by
  induction es with
  | nil => intro σ _; rfl
  | cons e es ih =>
    intro σ h
    have h1 : (σ.ent e).c = σ.c := by
      unfold Wr.ent
      have a := Wr.text_c σ e.name h
      have b := Wr.num_c (σ.text e.name) e.ino.toNat 8 (by rw [a]; exact h)
      rw [Wr.num_c _ _ _ (by rw [b, a]; exact h), b, a]
    show ((σ.ent e).ents es).c = _
    rw [ih _ (by rw [h1]; exact h), h1]
theorem Wr.num_bad (σ : Wr) (x n : Nat) (h : σ.c = 0) (hx : ¬ x < 256 ^ n) : (σ.num x n).c = 2200 := by
  unfold Wr.num
  rw [if_neg hx]
  show (if σ.c = 0 then _ else σ.c) = _
  rw [if_pos h]
theorem Wr.num_stay (σ : Wr) (x n : Nat) (h : σ.c = 2200) : (σ.num x n).c = 2200 := by rw [Wr.num_c _ _ _ (by rw [h]; decide), h]
theorem Wr.text_stay (σ : Wr) (s : ByteArray) (h : σ.c = 2200) : (σ.text s).c = 2200 := by rw [Wr.text_c _ _ (by rw [h]; decide), h]
theorem Wr.ents_stay (σ : Wr) (es : List Ent) (h : σ.c = 2200) : (σ.ents es).c = 2200 := by rw [Wr.ents_c _ _ (by rw [h]; decide), h]
theorem Wr.put_stay (σ : Wr) (l : List UInt8) (h : σ.c = 2200) : (σ.put l).c = 2200 := h

theorem smallB_lt {x : Int} (h : smallB x = true) : u64of x = x.toNat ∧ x.toNat < 256 ^ 1 ∧ (x % 256).toNat = x.toNat := by
  have h' : 0 ≤ x ∧ x ≤ 255 := of_decide_eq_true h
  refine ⟨?_, ?_, ?_⟩
  · unfold u64of; omega
  · have : (256 : Nat) ^ 1 = 256 := by decide
    omega
  · omega
theorem smallB_ge {x : Int} (hx : I64 x) (h : smallB x = false) : ¬ u64of x < 256 ^ 1 := by
  have h' : ¬ (0 ≤ x ∧ x ≤ 255) := of_decide_eq_false h
  have h1 := hx.1; have h2 := hx.2
  have : (256 : Nat) ^ 1 = 256 := by decide
  unfold u64of
  omega

/-! ### The bytes, as lists -/
def one1 (x : Int) : List UInt8 := leB (x % 256).toNat 1
def Msg.headL (m : Msg) : List UInt8 := one1 m.kind ++ leB m.client.toNat 4 ++ leB m.xid.toNat 8
def tailL (m : Msg) : List UInt8 := leB m.boot.toNat 8 ++ leB m.gb.toNat 8 ++ leB m.gn.toNat 8
def Msg.layL (m : Msg) : List UInt8 :=
  if m.kind = 1 then m.headL ++ one1 m.op ++ m.h.lay ++ m.h2.lay ++ txt m.name ++ txt m.name2 ++ leB m.off.toNat 8 ++ leB m.num.toNat 8 ++ txt m.data
  else if m.kind = 2 then m.headL ++ one1 m.status ++ m.ah.lay ++ one1 m.akind ++ leB m.links.toNat 4 ++ leB m.size.toNat 8 ++ leB m.change.toNat 8 ++ txt m.adata ++ leB m.eof.toNat 1 ++ leB m.anum.toNat 8 ++ leB m.list.length 4 ++ m.list.flatMap entL ++ tailL m
  else m.headL ++ m.h.lay ++ tailL m
theorem laid_data (es : List Ent) : ∀ p : ByteArray, (laidEnts p es).data.toList = p.data.toList ++ es.flatMap entL := by
  induction es with
  | nil => intro p; simp [laidEnts]
  | cons e es ih =>
    intro p
    have := ih (entS p e)
    show (laidEnts (entS p e) es).data.toList = _
    rw [this, List.flatMap_cons]
    simp [entS, entL, ByteArray.data_append, txtS, leS]
theorem hd_data (h : Hd) : h.layS.data.toList = h.lay := by simp [Hd.layS, Hd.lay, ByteArray.data_append, leS]
theorem layS_data (m : Msg) : m.layS.data.toList = m.layL := by
  unfold Msg.layS Msg.layL
  split
  · simp only [Msg.headS, Msg.headL, ByteArray.data_append, Array.toList_append, hd_data, txtS, leS, oneS, one1]
  · split
    · simp only [Msg.headS, Msg.headL, ByteArray.data_append, Array.toList_append, laid_data, hd_data, txtS, leS, oneS, one1, tailS, tailL, List.append_assoc]
    · simp only [Msg.headS, Msg.headL, ByteArray.data_append, Array.toList_append, hd_data, leS, oneS, one1, tailS, tailL, List.append_assoc]

theorem ask_swap (op a b c d h2e h2s h2i h2g : Int) (name name2 : ByteArray) (off num : Int) (data : ByteArray) :
    askEq op a b c d h2e h2s h2i h2g name name2 off num data 0 a b c d 0 0 0 0 ⟨#[]⟩ ⟨#[]⟩ 0 0 ⟨#[]⟩ = askEq op 0 0 0 0 h2e h2s h2i h2g name name2 off num data 0 0 0 0 0 0 0 0 0 ⟨#[]⟩ ⟨#[]⟩ 0 0 ⟨#[]⟩ := by
  unfold askEq
  rw [hdEq_self, hdEq_self]

theorem pick (m : Msg) (b : Bool) : (if b = false then ([], 2200) else (m.layL, 0) : List UInt8 × Int) = ((if b = false then (⟨#[]⟩, 2200) else (m.layS, 0) : ByteArray × Int).1.data.toList, (if b = false then (⟨#[]⟩, 2200) else (m.layS, 0) : ByteArray × Int).2) := by
  cases b
  · rfl
  · rw [if_neg (by decide), if_neg (by decide), layS_data]
theorem enc_eq (m : Msg) (hk : m.Ok) : m.enc = (m.refE.1.data.toList, m.refE.2) := by
  unfold Msg.enc Msg.refE
  by_cases hl : m.long = true
  · rw [if_pos hl, encV_long (.inr (.inr hl))]
  have hl' : m.long = false := by simpa using hl
  rw [if_neg hl]
  have hl2 := hl'
  unfold Msg.long at hl2
  simp only [Bool.or_eq_false_iff, decide_eq_false_iff_not, List.any_eq_false, decide_eq_true_eq] at hl2
  obtain ⟨⟨⟨⟨⟨l1, l2⟩, l3⟩, l4⟩, l5⟩, l6⟩ := hl2
  have hes : ∀ e ∈ m.list, e.name.size ≤ 4096 ∧ U64 e.ino ∧ U64 e.cookie := fun e he => ⟨by have := l5 e he; omega, (hk.list e he).2.1, (hk.list e he).2.2⟩
  have hsh : m.short = true := decide_eq_true (fun _ => by omega)
  have hll : m.list.length < 256 ^ 4 := by have : (256 : Nat) ^ 4 = 4294967296 := by decide
                                           omega
  have he1 : m.eof.toNat < 256 ^ 1 := by cases m.eof <;> decide
  have hN : ∀ (σ : Wr) b, σ.c = 0 ∨ σ.c = 2200 → ¬ (σ.c = 2201 ∨ m.short = false ∨ b = true) ∨ b = true := fun σ b h => by
    cases b
    · left; rintro (h2 | h2 | h2)
      · rcases h with h | h <;> (rw [h] at h2; revert h2; decide)
      · rw [hsh] at h2; cases h2
      · cases h2
    · right; rfl
  have bad : ∀ σ : Wr, σ.c = 2200 → encV σ m.fine m.short m.long m.bare = ([], 2200) := fun σ h =>
    encV_form (by rw [hl', hsh, h]; decide) (.inl (by rw [h]; decide))
  have good : ∀ l : List UInt8, m.fine = true → encV (Wr.put ⟨0, []⟩ l) m.fine m.short m.long m.bare = if m.bare = false then ([], 2200) else (l, 0) := fun l hf => by
    by_cases hb : m.bare = false
    · rw [if_pos hb, encV_form (by rw [hl', hsh]; simp [Wr.put]) (.inr (.inr hb))]
    · rw [if_neg hb, encV_ok (by rw [hl', hsh]; simp [Wr.put]) (by rw [hf]; simp [Wr.put, hb])]
      rfl
  by_cases h1 : m.kind = 1
  · have hf : m.fine = true := decide_eq_true (.inl h1)
    have hbare : m.bare = (m.noAns && ((m.boot == 0) && stampEq m.gb m.gn 0 0)) := by unfold Msg.bare bareV Msg.noAns; rw [if_pos (by simp [h1])]
    have hmay : m.mayB = (smallB m.op && m.noAns && (m.boot == 0) && stampEq m.gb m.gn 0 0) := by unfold Msg.mayB; rw [if_pos h1]
    have hfl : Wr.fields ⟨0, []⟩ m = Wr.call ⟨0, []⟩ m := by unfold Wr.fields; rw [if_pos h1]
    have hkd : u64of m.kind = m.kind.toNat ∧ m.kind.toNat < 256 ^ 1 ∧ (m.kind % 256).toNat = m.kind.toNat := smallB_lt (by rw [h1]; rfl)
    rw [hfl]
    cases hs : smallB m.op with
    | true =>
      obtain ⟨o1, o2, o3⟩ := smallB_lt hs
      have hcall : Wr.call ⟨0, []⟩ m = Wr.put ⟨0, []⟩ m.layL := by
        unfold Wr.call Wr.ask Msg.layL Msg.headL one1
        rw [if_pos h1, hkd.1, hkd.2.2, o1, o3, Wr.num_ok _ _ _ hkd.2.1, Wr.num_ok _ _ _ (u32_lt hk.client), Wr.num_ok _ _ _ (u64_lt hk.xid), Wr.num_ok _ _ _ o2, Wr.text_ok _ _ (by omega), Wr.text_ok _ _ (by omega), Wr.num_ok _ _ _ (u64_lt hk.off), Wr.num_ok _ _ _ (u64_lt hk.num), Wr.text_ok _ _ (by omega)]
        simp only [Wr.put_put, List.append_assoc]
      rw [hcall, good _ hf, hbare, hmay, hs, Bool.true_and, Bool.and_assoc]
      exact pick m _
    | false =>
      have hc : (Wr.call ⟨0, []⟩ m).c = 2200 := by
        unfold Wr.call Wr.ask
        rw [hkd.1, Wr.num_ok _ _ _ hkd.2.1, Wr.num_ok _ _ _ (u32_lt hk.client), Wr.num_ok _ _ _ (u64_lt hk.xid)]
        exact Wr.text_stay _ _ (Wr.num_stay _ _ _ (Wr.num_stay _ _ _ (Wr.text_stay _ _ (Wr.text_stay _ _ (Wr.put_stay _ _ (Wr.put_stay _ _ (Wr.num_bad _ _ _ rfl (smallB_ge hk.op hs))))))))
      rw [bad _ hc, hmay, hs]
      rfl
  by_cases h2 : m.kind = 2
  · have hf : m.fine = true := decide_eq_true (.inr (.inl h2))
    have hbare : m.bare = askEq m.op m.h.ex m.h.snap m.h.ino m.h.gen m.h2.ex m.h2.snap m.h2.ino m.h2.gen m.name m.name2 m.off m.num m.data 0 0 0 0 0 0 0 0 0 ⟨#[]⟩ ⟨#[]⟩ 0 0 ⟨#[]⟩ := by unfold Msg.bare bareV; rw [if_neg (by simp [h2]), if_pos (by simp [h2])]
    have hmay : m.mayB = (askEq m.op m.h.ex m.h.snap m.h.ino m.h.gen m.h2.ex m.h2.snap m.h2.ino m.h2.gen m.name m.name2 m.off m.num m.data 0 0 0 0 0 0 0 0 0 ⟨#[]⟩ ⟨#[]⟩ 0 0 ⟨#[]⟩ && smallB m.status && smallB m.akind) := by unfold Msg.mayB; rw [if_neg h1, if_pos h2]
    have hfl : Wr.fields ⟨0, []⟩ m = Wr.reply ⟨0, []⟩ m := by unfold Wr.fields; rw [if_neg h1, if_pos h2, if_pos (by omega)]
    have hkd : u64of m.kind = m.kind.toNat ∧ m.kind.toNat < 256 ^ 1 ∧ (m.kind % 256).toNat = m.kind.toNat := smallB_lt (by rw [h2]; rfl)
    rw [hfl]
    cases hs : smallB m.status with
    | true =>
      obtain ⟨o1, o2, o3⟩ := smallB_lt hs
      cases hs2 : smallB m.akind with
      | true =>
        obtain ⟨q1, q2, q3⟩ := smallB_lt hs2
        have hcall : Wr.reply ⟨0, []⟩ m = Wr.put ⟨0, []⟩ m.layL := by
          unfold Wr.reply Wr.stamp Msg.layL Msg.headL one1 tailL
          rw [if_neg h1, if_pos h2, hkd.1, hkd.2.2, o1, o3, q1, q3, Wr.num_ok _ _ _ hkd.2.1, Wr.num_ok _ _ _ (u32_lt hk.client), Wr.num_ok _ _ _ (u64_lt hk.xid), Wr.num_ok _ _ _ o2, Wr.num_ok _ _ _ q2, Wr.num_ok _ _ _ (u32_lt hk.links), Wr.num_ok _ _ _ (u64_lt hk.size), Wr.num_ok _ _ _ (u64_lt hk.change), Wr.text_ok _ _ (by omega), Wr.num_ok _ _ _ he1, Wr.num_ok _ _ _ (u64_lt hk.anum), Wr.num_ok _ _ _ hll, Wr.ents_ok _ hes, Wr.num_ok _ _ _ (u64_lt hk.boot), Wr.num_ok _ _ _ (u64_lt hk.gb), Wr.num_ok _ _ _ (u64_lt hk.gn)]
          simp only [Wr.put_put, List.append_assoc]
        rw [hcall, good _ hf, hbare, hmay, hs, hs2, Bool.and_true, Bool.and_true]
        exact pick m _
      | false =>
        have hc : (Wr.reply ⟨0, []⟩ m).c = 2200 := by
          unfold Wr.reply Wr.stamp
          rw [hkd.1, o1, Wr.num_ok _ _ _ hkd.2.1, Wr.num_ok _ _ _ (u32_lt hk.client), Wr.num_ok _ _ _ (u64_lt hk.xid), Wr.num_ok _ _ _ o2]
          refine Wr.num_stay _ _ _ (Wr.num_stay _ _ _ (Wr.num_stay _ _ _ (Wr.ents_stay _ _ (Wr.num_stay _ _ _ (Wr.num_stay _ _ _ (Wr.num_stay _ _ _ (Wr.text_stay _ _ (Wr.num_stay _ _ _ (Wr.num_stay _ _ _ (Wr.num_stay _ _ _ (Wr.num_bad _ _ _ ?_ (smallB_ge hk.akind hs2))))))))))))
          rfl
        rw [bad _ hc, hmay, hs, hs2, Bool.and_false]
        rfl
    | false =>
      have hc : (Wr.reply ⟨0, []⟩ m).c = 2200 := by
        unfold Wr.reply Wr.stamp
        rw [hkd.1, Wr.num_ok _ _ _ hkd.2.1, Wr.num_ok _ _ _ (u32_lt hk.client), Wr.num_ok _ _ _ (u64_lt hk.xid)]
        refine Wr.num_stay _ _ _ (Wr.num_stay _ _ _ (Wr.num_stay _ _ _ (Wr.ents_stay _ _ (Wr.num_stay _ _ _ (Wr.num_stay _ _ _ (Wr.num_stay _ _ _ (Wr.text_stay _ _ (Wr.num_stay _ _ _ (Wr.num_stay _ _ _ (Wr.num_stay _ _ _ (Wr.num_stay _ _ _ (Wr.put_stay _ _ (Wr.num_bad _ _ _ ?_ (smallB_ge hk.status hs))))))))))))))
        rfl
      rw [bad _ hc, hmay, hs, Bool.and_false, Bool.false_and]
      rfl
  by_cases h3 : m.kind = 3 ∨ m.kind = 4
  · have hf : m.fine = true := decide_eq_true (by omega)
    have hbare : m.bare = (m.noAns && askEq m.op 0 0 0 0 m.h2.ex m.h2.snap m.h2.ino m.h2.gen m.name m.name2 m.off m.num m.data 0 0 0 0 0 0 0 0 0 ⟨#[]⟩ ⟨#[]⟩ 0 0 ⟨#[]⟩) := by unfold Msg.bare bareV Msg.noAns; rw [if_neg (by simp [h1]), if_neg (by simp [h2])]
    have hmay : m.mayB = (askEq m.op 0 0 0 0 m.h2.ex m.h2.snap m.h2.ino m.h2.gen m.name m.name2 m.off m.num m.data 0 0 0 0 0 0 0 0 0 ⟨#[]⟩ ⟨#[]⟩ 0 0 ⟨#[]⟩ && m.noAns) := by unfold Msg.mayB; rw [if_neg h1, if_neg h2, if_pos h3, ask_swap]
    have hfl : Wr.fields ⟨0, []⟩ m = Wr.back ⟨0, []⟩ m := by unfold Wr.fields; rw [if_neg h1, if_neg h2, if_pos h3]
    have hkd : u64of m.kind = m.kind.toNat ∧ m.kind.toNat < 256 ^ 1 ∧ (m.kind % 256).toNat = m.kind.toNat := smallB_lt (by rcases h3 with h | h <;> (rw [h]; rfl))
    have hcall : Wr.back ⟨0, []⟩ m = Wr.put ⟨0, []⟩ m.layL := by
      unfold Wr.back Wr.stamp Msg.layL Msg.headL one1 tailL
      rw [if_neg h1, if_neg h2, hkd.1, hkd.2.2, Wr.num_ok _ _ _ hkd.2.1, Wr.num_ok _ _ _ (u32_lt hk.client), Wr.num_ok _ _ _ (u64_lt hk.xid), Wr.num_ok _ _ _ (u64_lt hk.boot), Wr.num_ok _ _ _ (u64_lt hk.gb), Wr.num_ok _ _ _ (u64_lt hk.gn)]
      simp only [Wr.put_put, List.append_assoc]
    rw [hfl, hcall, good _ hf, hbare, hmay, Bool.and_comm]
    exact pick m _
  · have hf : m.fine = false := decide_eq_false (by omega)
    have hmay : m.mayB = false := by unfold Msg.mayB; rw [if_neg h1, if_neg h2, if_neg h3]
    have hfl : Wr.fields ⟨0, []⟩ m = Wr.head ⟨0, []⟩ m := by unfold Wr.fields; rw [if_neg h1, if_neg h2, if_neg h3]
    have hc : (Wr.head ⟨0, []⟩ m).c = 0 ∨ (Wr.head ⟨0, []⟩ m).c = 2200 := by
      unfold Wr.head
      by_cases hx : u64of m.kind < 256 ^ 1
      · left
        rw [Wr.num_ok _ _ _ hx, Wr.num_ok _ _ _ (u32_lt hk.client), Wr.num_ok _ _ _ (u64_lt hk.xid)]
        rfl
      · right
        exact Wr.num_stay _ _ _ (Wr.num_stay _ _ _ (Wr.num_bad _ _ _ rfl hx))
    have hb : ¬ ((Wr.head ⟨0, []⟩ m).c = 2201 ∨ m.short = false ∨ m.long = true) := by
      rw [hsh, hl']
      rintro (h | h | h)
      · rcases hc with h' | h' <;> (rw [h'] at h; revert h; decide)
      · cases h
      · cases h
    rw [hfl, encV_form hb (.inr (.inl hf)), hmay]
    rfl

end Go.Proofs.Ytibcadfpengacaa

-- PlainD
set_option linter.unusedVariables false
set_option linter.unusedSimpArgs false
namespace Go.Proofs.Ytibcadfpengacaa
open Go.RowKit Go.Lib

def mk (l : List UInt8) : Rd := ⟨0, ⟨l.toArray⟩⟩
theorem mk_size (l : List UInt8) : (mk l).s.size = l.length := by
  show l.toArray.size = l.length
  simp
theorem took_mk (a t : List UInt8) (n : Nat) (h : a.length = n) : (mk (a ++ t)).took n = ⟨a.toArray⟩ := by
  unfold Rd.took
  rw [if_neg (by rw [mk_size, List.length_append]; omega), extract_eq]
  subst h
  show (⟨(List.take (a.length - 0) (List.drop 0 (a ++ t).toArray.toList)).toArray⟩ : ByteArray) = _
  simp
theorem left_mk (a t : List UInt8) (n : Nat) (h : a.length = n) : (mk (a ++ t)).left n = mk t := by
  unfold Rd.left
  have hs : (mk (a ++ t)).s.size = a.length + t.length := by rw [mk_size, List.length_append]
  rw [if_neg (by omega), extract_eq, hs]
  subst h
  show (⟨0, ⟨(List.take (a.length + t.length - a.length) (List.drop a.length (a ++ t).toArray.toList)).toArray⟩⟩ : Rd) = _
  simp [mk]
theorem ofS_leB (x n : Nat) (h1 : 1 ≤ n) (h8 : n ≤ 8) (hx : x < 256 ^ n) : ofS ⟨(leB x n).toArray⟩ = x := by
  unfold ofS
  have hs : (⟨(leB x n).toArray⟩ : ByteArray).size = n := leS_size x n
  rw [if_pos ⟨by omega, by omega⟩]
  exact ofLe_leB n x hx
theorem num_mk (x n : Nat) (h1 : 1 ≤ n) (h8 : n ≤ 8) (hx : x < 256 ^ n) (t : List UInt8) : (mk (leB x n ++ t)).num n = x := by
  unfold Rd.num
  rw [took_mk _ _ _ (leB_length _ _), ofS_leB x n h1 h8 hx]
theorem leftn_mk (x n : Nat) (t : List UInt8) : (mk (leB x n ++ t)).left n = mk t := left_mk _ _ _ (leB_length _ _)
theorem lay_length (h : Hd) : h.lay.length = 28 := by simp [Hd.lay, leB_length]
theorem tookh_mk (h : Hd) (t : List UInt8) : (mk (h.lay ++ t)).took 28 = ⟨h.lay.toArray⟩ := took_mk _ _ _ (lay_length h)
theorem lefth_mk (h : Hd) (t : List UInt8) : (mk (h.lay ++ t)).left 28 = mk t := left_mk _ _ _ (lay_length h)
theorem decH_lay (h : Hd) (hk : h.Ok) : decH ⟨h.lay.toArray⟩ = h := by
  have hs : (⟨h.lay.toArray⟩ : ByteArray).size = 28 := by
    show h.lay.toArray.size = 28
    rw [List.size_toArray, lay_length]
  unfold decH
  rw [if_pos hs]
  simp only [extract_eq]
  have l4 := leB_length 4 h.ex.toNat
  have l8a := leB_length 8 h.snap.toNat
  have l8b := leB_length 8 h.ino.toNat
  have l8c := leB_length 8 h.gen.toNat
  have e1 : (List.take (4 - 0) (List.drop 0 h.lay)) = leB h.ex.toNat 4 := by
    unfold Hd.lay
    rw [List.append_assoc, List.append_assoc, List.drop_zero, List.take_append_of_le_length (by omega), List.take_of_length_le (by omega)]
  have e2 : (List.take (12 - 4) (List.drop 4 h.lay)) = leB h.snap.toNat 8 := by
    unfold Hd.lay
    rw [List.append_assoc, List.append_assoc, List.drop_append_of_le_length (by omega), List.drop_eq_nil_of_le (by omega), List.nil_append, List.take_append_of_le_length (by omega), List.take_of_length_le (by omega)]
  have e3 : (List.take (20 - 12) (List.drop 12 h.lay)) = leB h.ino.toNat 8 := by
    unfold Hd.lay
    rw [List.append_assoc, List.drop_append_of_le_length (by rw [List.length_append]; omega), List.drop_eq_nil_of_le (by rw [List.length_append]; omega), List.nil_append, List.take_append_of_le_length (by omega), List.take_of_length_le (by omega)]
  have e4 : (List.take (28 - 20) (List.drop 20 h.lay)) = leB h.gen.toNat 8 := by
    unfold Hd.lay
    rw [List.drop_append_of_le_length (by rw [List.length_append, List.length_append]; omega), List.drop_eq_nil_of_le (by rw [List.length_append, List.length_append]; omega), List.nil_append, List.take_of_length_le (by omega)]
  have f1 : (256 : Nat) ^ 4 = 4294967296 := by decide
  have f2 : (256 : Nat) ^ 8 = 18446744073709551616 := by decide
  obtain ⟨a0, a1, b0, b1, c0, c1, d0, d1⟩ := hk
  rw [e1, e2, e3, e4, ofS_leB _ _ (by omega) (by omega) (by omega), ofS_leB _ _ (by omega) (by omega) (by omega), ofS_leB _ _ (by omega) (by omega) (by omega), ofS_leB _ _ (by omega) (by omega) (by omega)]
  cases h
  simp only [Hd.mk.injEq]
  exact ⟨Int.toNat_of_nonneg a0, Int.toNat_of_nonneg b0, Int.toNat_of_nonneg c0, Int.toNat_of_nonneg d0⟩
theorem text_mk (s : ByteArray) (h : s.size ≤ 4096) (old : ByteArray) (t : List UInt8) : (mk (txt s ++ t)).textS old = s ∧ (mk (txt s ++ t)).textR = mk t := by
  have f1 : (256 : Nat) ^ 4 = 4294967296 := by decide
  have e : txt s ++ t = leB s.size 4 ++ (s.data.toList ++ (List.replicate (padN s.size) 0 ++ t)) := by unfold txt; simp only [List.append_assoc]
  have hn := num_mk s.size 4 (by omega) (by omega) (by omega) (s.data.toList ++ (List.replicate (padN s.size) 0 ++ t))
  have hl := leftn_mk s.size 4 (s.data.toList ++ (List.replicate (padN s.size) 0 ++ t))
  have hsz : s.data.toList.length = s.size := by rw [Array.length_toList]; rfl
  have ht := took_mk s.data.toList (List.replicate (padN s.size) 0 ++ t) s.size hsz
  have hl2 := left_mk s.data.toList (List.replicate (padN s.size) 0 ++ t) s.size hsz
  have ht3 := took_mk (List.replicate (padN s.size) 0) t (padN s.size) (by simp)
  have hl3 := left_mk (List.replicate (padN s.size) 0) t (padN s.size) (by simp)
  rw [e]
  unfold Rd.textS Rd.textR
  rw [hn, if_neg (by omega), if_neg (by omega), hl, ht, hl2, ht3, hl3, if_pos ?_]
  · exact ⟨rfl, rfl⟩
  · unfold allZ
    simp
theorem ents_mk (es : List Ent) (h : ∀ e ∈ es, e.name.size ≤ 4096 ∧ U64 e.ino ∧ U64 e.cookie) (t : List UInt8) : ∀ k, k ≤ es.length →
    (mk (es.flatMap entL ++ t)).ents k = (es.take k, mk ((es.drop k).flatMap entL ++ t)) := by
  intro k
  induction k with
  | zero => intro _; simp [Rd.ents]
  | succ k ih =>
    intro hk
    have hkl : k < es.length := by omega
    rw [Rd.ents, ih (by omega)]
    dsimp only
    obtain ⟨h1, h2, h3⟩ := h _ (List.getElem_mem hkl)
    rw [List.drop_eq_getElem_cons hkl, List.flatMap_cons, List.take_succ_eq_append_getElem hkl]
    generalize es[k] = e at *
    have e1 : entL e ++ (es.drop (k + 1)).flatMap entL ++ t = txt e.name ++ (leB e.ino.toNat 8 ++ (leB e.cookie.toNat 8 ++ ((es.drop (k + 1)).flatMap entL ++ t))) := by unfold entL; simp only [List.append_assoc]
    rw [e1]
    have t1 := text_mk e.name h1 ⟨#[]⟩ (leB e.ino.toNat 8 ++ (leB e.cookie.toNat 8 ++ ((es.drop (k + 1)).flatMap entL ++ t)))
    unfold Rd.entV Rd.entR
    rw [t1.1, t1.2, num_mk _ 8 (by omega) (by omega) (u64_lt h2), leftn_mk, num_mk _ 8 (by omega) (by omega) (u64_lt h3), leftn_mk]
    congr 2
    cases e
    simp only [Ent.mk.injEq, List.cons.injEq, and_true, true_and]
    exact ⟨Int.toNat_of_nonneg h2.1, Int.toNat_of_nonneg h3.1⟩

/-! ### What may be has zeros elsewhere -/
theorem ba_nil {s : ByteArray} (h : s.toList.isEmpty = true) : s = ⟨#[]⟩ := r_nil (by simpa using h)
theorem ba_eq {s t : ByteArray} (h : (s.toList == t.toList) = true) : s = t := by
  have := eq_of_beq h
  rw [ByteArray.toList_eq, ByteArray.toList_eq] at this
  exact ByteArray.ext (Array.toList_inj.1 this)
theorem hdEq_zero {a b c d : Int} (h : hdEq a b c d 0 0 0 0 = true) : (⟨a, b, c, d⟩ : Hd) = Hd.zero := by
  unfold hdEq at h
  simp only [Bool.and_eq_true, beq_iff_eq] at h
  obtain ⟨h1, h2, h3, h4⟩ := h
  rw [h1, h2, h3, h4]
  rfl
theorem noAns_zero {m : Msg} (h : m.noAns = true) : m.status = 0 ∧ m.ah = Hd.zero ∧ m.akind = 0 ∧ m.links = 0 ∧ m.size = 0 ∧ m.change = 0 ∧ m.adata = ⟨#[]⟩ ∧ m.eof = false ∧ m.anum = 0 ∧ m.list = [] := by
  unfold Msg.noAns noAns at h
  simp only [Bool.and_eq_true, beq_iff_eq, Bool.not_eq_true', attrEq] at h
  obtain ⟨⟨⟨⟨⟨⟨h1, h2⟩, h3, h4, h5, h6⟩, h7⟩, h8⟩, h9⟩, h10⟩ := h
  exact ⟨h1, hdEq_zero h2, h3, h4, h5, h6, ba_nil h7, h8, h9, List.eq_nil_of_length_eq_zero (by omega)⟩
theorem ask_zero {m : Msg} (h : askEq m.op m.h.ex m.h.snap m.h.ino m.h.gen m.h2.ex m.h2.snap m.h2.ino m.h2.gen m.name m.name2 m.off m.num m.data 0 0 0 0 0 0 0 0 0 ⟨#[]⟩ ⟨#[]⟩ 0 0 ⟨#[]⟩ = true) :
    m.op = 0 ∧ m.h = Hd.zero ∧ m.h2 = Hd.zero ∧ m.name = ⟨#[]⟩ ∧ m.name2 = ⟨#[]⟩ ∧ m.off = 0 ∧ m.num = 0 ∧ m.data = ⟨#[]⟩ := by
  unfold askEq at h
  simp only [Bool.and_eq_true] at h
  obtain ⟨h1, h2, h3, h4, h5, h6, h7, h8⟩ := h
  exact ⟨by simpa using h1, hdEq_zero h2, hdEq_zero h3, ba_eq h4, ba_eq h5, by simpa using h6, by simpa using h7, ba_eq h8⟩
theorem ask_zero2 {m : Msg} {a b c d : Int} (h : askEq m.op a b c d m.h2.ex m.h2.snap m.h2.ino m.h2.gen m.name m.name2 m.off m.num m.data 0 a b c d 0 0 0 0 ⟨#[]⟩ ⟨#[]⟩ 0 0 ⟨#[]⟩ = true) :
    m.op = 0 ∧ m.h2 = Hd.zero ∧ m.name = ⟨#[]⟩ ∧ m.name2 = ⟨#[]⟩ ∧ m.off = 0 ∧ m.num = 0 ∧ m.data = ⟨#[]⟩ := by
  unfold askEq at h
  simp only [Bool.and_eq_true] at h
  obtain ⟨h1, h2, h3, h4, h5, h6, h7, h8⟩ := h
  exact ⟨by simpa using h1, hdEq_zero h3, ba_eq h4, ba_eq h5, by simpa using h6, by simpa using h7, ba_eq h8⟩

/-- A message that Encode takes. -/
structure Msg.Val (m : Msg) : Prop where
  ok : m.Ok
  short : m.long = false
  may : m.mayB = true

theorem nat_toNat {x : Int} (h : 0 ≤ x) : ((x.toNat : Nat) : Int) = x := Int.toNat_of_nonneg h

set_option maxRecDepth 100000 in
theorem dec_lay (m : Msg) (hv : m.Val) (t : List UInt8) : rdM (mk (m.layL ++ t)) = m ∧ rdR (mk (m.layL ++ t)) = mk t ∧ rdFine (mk (m.layL ++ t)) = true ∧ rdShort (mk (m.layL ++ t)) = true := by
  obtain ⟨hk, hl2, hm⟩ := hv
  unfold Msg.long at hl2
  simp only [Bool.or_eq_false_iff, decide_eq_false_iff_not, List.any_eq_false, decide_eq_true_eq] at hl2
  obtain ⟨⟨⟨⟨⟨l1, l2⟩, l3⟩, l4⟩, l5⟩, l6⟩ := hl2
  have hes : ∀ e ∈ m.list, e.name.size ≤ 4096 ∧ U64 e.ino ∧ U64 e.cookie := fun e he => ⟨by have := l5 e he; omega, (hk.list e he).2.1, (hk.list e he).2.2⟩
  have hll : m.list.length < 256 ^ 4 := by have : (256 : Nat) ^ 4 = 4294967296 := by decide
                                           omega
  have he1 : m.eof.toNat < 256 ^ 1 := by cases m.eof <;> decide
  have he2 : m.eof.toNat < 2 := by cases m.eof <;> decide
  have n4 : ∀ x : Int, U32 x → ∀ t, (mk (leB x.toNat 4 ++ t)).num 4 = x.toNat := fun x h t => num_mk _ 4 (by omega) (by omega) (u32_lt h) t
  have n8 : ∀ x : Int, U64 x → ∀ t, (mk (leB x.toNat 8 ++ t)).num 8 = x.toNat := fun x h t => num_mk _ 8 (by omega) (by omega) (u64_lt h) t
  have hf4 : (256 : Nat) ^ 1 = 256 := by decide
  have n1 : ∀ x : Int, smallB x = true → ∀ t, (mk (one1 x ++ t)).num 1 = x.toNat := fun x h t => by
    obtain ⟨a, b, c⟩ := smallB_lt h
    unfold one1
    rw [c]
    exact num_mk _ 1 (by omega) (by omega) b t
  have q1 : ∀ (x : Int) t, (mk (one1 x ++ t)).left 1 = mk t := fun x t => leftn_mk _ _ _
  unfold Msg.mayB at hm
  by_cases h1 : m.kind = 1
  · rw [if_pos h1] at hm
    simp only [Bool.and_eq_true, beq_iff_eq] at hm
    obtain ⟨⟨⟨s1, z1⟩, z2⟩, z3⟩ := hm
    obtain ⟨a1, a2, a3, a4, a5, a6, a7, a8, a9, a10⟩ := noAns_zero z1
    have z3' : m.gb = 0 ∧ m.gn = 0 := by unfold stampEq at z3; simpa using z3
    have hlay : m.layL ++ t = one1 m.kind ++ (leB m.client.toNat 4 ++ (leB m.xid.toNat 8 ++ (one1 m.op ++ (m.h.lay ++ (m.h2.lay ++ (txt m.name ++ (txt m.name2 ++ (leB m.off.toNat 8 ++ (leB m.num.toNat 8 ++ (txt m.data ++ t)))))))))) := by
      unfold Msg.layL Msg.headL
      rw [if_pos h1]
      simp only [List.append_assoc]
    have hk1 : smallB m.kind = true := by rw [h1]; rfl
    have d0 := fun t => n1 m.kind hk1 t
    have d1 : ∀ old t, (mk (txt m.name ++ t)).textS old = m.name := fun old t => (text_mk m.name (by omega) old t).1
    have d2 : ∀ t, (mk (txt m.name ++ t)).textR = mk t := fun t => (text_mk m.name (by omega) ⟨#[]⟩ t).2
    have d3 : ∀ old t, (mk (txt m.name2 ++ t)).textS old = m.name2 := fun old t => (text_mk m.name2 (by omega) old t).1
    have d4 : ∀ t, (mk (txt m.name2 ++ t)).textR = mk t := fun t => (text_mk m.name2 (by omega) ⟨#[]⟩ t).2
    have d5 : ∀ old t, (mk (txt m.data ++ t)).textS old = m.data := fun old t => (text_mk m.data (by omega) old t).1
    have d6 : ∀ t, (mk (txt m.data ++ t)).textR = mk t := fun t => (text_mk m.data (by omega) ⟨#[]⟩ t).2
    have hkn : (mk (m.layL ++ t)).num 1 = 1 := by rw [hlay, d0, h1]; rfl
    refine ⟨?_, ?_, ?_, ?_⟩
    · unfold rdM
      rw [if_pos hkn, hlay]
      unfold callM askM
      simp only [d0, q1, n4 _ hk.client, leftn_mk, n8 _ hk.xid, n1 _ s1, tookh_mk, lefth_mk, decH_lay _ hk.h, decH_lay _ hk.h2, d1, d2, d3, d4, d5, d6, n8 _ hk.off, n8 _ hk.num]
      have s1' : 0 ≤ m.op := (show 0 ≤ m.op ∧ m.op ≤ 255 from of_decide_eq_true s1).1
      rw [nat_toNat (show 0 ≤ m.kind by omega), nat_toNat hk.client.1, nat_toNat hk.xid.1, nat_toNat s1', nat_toNat hk.off.1, nat_toNat hk.num.1]
      obtain ⟨⟩ := m
      simp only at a1 a2 a3 a4 a5 a6 a7 a8 a9 a10 z2 z3'
      obtain ⟨z5, z4⟩ := z3'
      subst a1 a2 a3 a4 a5 a6 a7 a8 a9 a10 z2 z5 z4
      rfl
    · unfold rdR
      rw [if_pos hkn, hlay]
      unfold callR askR
      simp only [q1, leftn_mk, lefth_mk, d2, d4, d6]
    · unfold rdFine
      rw [hkn]
      rfl
    · unfold rdShort
      rw [hkn]
      rfl
  by_cases h2 : m.kind = 2
  · rw [if_neg h1, if_pos h2] at hm
    simp only [Bool.and_eq_true] at hm
    obtain ⟨⟨z1, s1⟩, s2⟩ := hm
    obtain ⟨a1, a2, a3, a4, a5, a6, a7, a8⟩ := ask_zero z1
    have hlay : m.layL ++ t = one1 m.kind ++ (leB m.client.toNat 4 ++ (leB m.xid.toNat 8 ++ (one1 m.status ++ (m.ah.lay ++ (one1 m.akind ++ (leB m.links.toNat 4 ++ (leB m.size.toNat 8 ++ (leB m.change.toNat 8 ++ (txt m.adata ++ (leB m.eof.toNat 1 ++ (leB m.anum.toNat 8 ++ (leB m.list.length 4 ++ (m.list.flatMap entL ++ (leB m.boot.toNat 8 ++ (leB m.gb.toNat 8 ++ (leB m.gn.toNat 8 ++ t)))))))))))))))) := by
      unfold Msg.layL Msg.headL tailL
      rw [if_neg h1, if_pos h2]
      simp only [List.append_assoc]
    have hk1 : smallB m.kind = true := by rw [h2]; rfl
    have d0 := fun t => n1 m.kind hk1 t
    have d1 : ∀ old t, (mk (txt m.adata ++ t)).textS old = m.adata := fun old t => (text_mk m.adata (by omega) old t).1
    have d2 : ∀ t, (mk (txt m.adata ++ t)).textR = mk t := fun t => (text_mk m.adata (by omega) ⟨#[]⟩ t).2
    have hkn : (mk (m.layL ++ t)).num 1 = 2 := by rw [hlay, d0, h2]; rfl
    have ne : ∀ t, (mk (leB m.eof.toNat 1 ++ t)).num 1 = m.eof.toNat := fun t => num_mk _ 1 (by omega) (by omega) he1 t
    have nl : ∀ t, (mk (leB m.list.length 4 ++ t)).num 4 = m.list.length := fun t => num_mk _ 4 (by omega) (by omega) hll t
    have ee := ents_mk m.list hes (leB m.boot.toNat 8 ++ (leB m.gb.toNat 8 ++ (leB m.gn.toNat 8 ++ t))) m.list.length (Nat.le_refl _)
    rw [List.take_length, List.drop_length, List.flatMap_nil, List.nil_append] at ee
    have hrep : repR (mk (m.layL ++ t)) = mk (leB m.list.length 4 ++ (m.list.flatMap entL ++ (leB m.boot.toNat 8 ++ (leB m.gb.toNat 8 ++ (leB m.gn.toNat 8 ++ t))))) := by
      rw [hlay]
      unfold repR
      simp only [q1, leftn_mk, lefth_mk, d2]
    have hrl : rdL (mk (m.layL ++ t)) = (m.list, mk (leB m.boot.toNat 8 ++ (leB m.gb.toNat 8 ++ (leB m.gn.toNat 8 ++ t)))) := by
      unfold rdL
      rw [hrep, leftn_mk, nl, ee]
    have hn64 : (repR (mk (m.layL ++ t))).num 4 ≤ 64 := by rw [hrep, nl]; omega
    refine ⟨?_, ?_, ?_, ?_⟩
    · unfold rdM
      rw [if_neg (by omega), if_pos hkn, if_pos hn64, hrl]
      dsimp only
      unfold stampM repM
      rw [hlay]
      simp only [d0, q1, n4 _ hk.client, leftn_mk, n8 _ hk.xid, n1 _ s1, n1 _ s2, tookh_mk, lefth_mk, decH_lay _ hk.ah, d1, d2, n4 _ hk.links, n8 _ hk.size, n8 _ hk.change, ne, n8 _ hk.anum, n8 _ hk.boot, n8 _ hk.gb, n8 _ hk.gn]
      have s1' : 0 ≤ m.status := (show 0 ≤ m.status ∧ m.status ≤ 255 from of_decide_eq_true s1).1
      have s2' : 0 ≤ m.akind := (show 0 ≤ m.akind ∧ m.akind ≤ 255 from of_decide_eq_true s2).1
      rw [nat_toNat (show 0 ≤ m.kind by omega), nat_toNat hk.client.1, nat_toNat hk.xid.1, nat_toNat s1', nat_toNat s2', nat_toNat hk.links.1, nat_toNat hk.size.1, nat_toNat hk.change.1, nat_toNat hk.anum.1, nat_toNat hk.boot.1, nat_toNat hk.gb.1, nat_toNat hk.gn.1]
      obtain ⟨⟩ := m
      rename_i eof _ _ _ _ _
      simp only at a1 a2 a3 a4 a5 a6 a7 a8
      subst a1 a2 a3 a4 a5 a6 a7 a8
      cases eof <;> rfl
    · unfold rdR
      rw [if_neg (by omega), if_pos hkn, if_pos hn64, hrl]
      dsimp only
      unfold stampR
      simp only [leftn_mk]
    · unfold rdFine
      rw [if_pos hkn, hlay]
      unfold flR
      simp only [q1, leftn_mk, lefth_mk, d2, ne]
      exact decide_eq_true (by omega)
    · exact decide_eq_true (fun _ => hn64)
  by_cases h3 : m.kind = 3 ∨ m.kind = 4
  · rw [if_neg h1, if_neg h2, if_pos h3] at hm
    simp only [Bool.and_eq_true] at hm
    obtain ⟨z0, z1⟩ := hm
    obtain ⟨a1, a2, a3, a4, a5, a6, a7, a8, a9, a10⟩ := noAns_zero z1
    obtain ⟨b1, b2, b3, b4, b5, b6, b7⟩ := ask_zero2 z0
    have hlay : m.layL ++ t = one1 m.kind ++ (leB m.client.toNat 4 ++ (leB m.xid.toNat 8 ++ (m.h.lay ++ (leB m.boot.toNat 8 ++ (leB m.gb.toNat 8 ++ (leB m.gn.toNat 8 ++ t)))))) := by
      unfold Msg.layL Msg.headL tailL
      rw [if_neg h1, if_neg h2]
      simp only [List.append_assoc]
    have hk1 : smallB m.kind = true := by rcases h3 with h | h <;> (rw [h]; rfl)
    have d0 := fun t => n1 m.kind hk1 t
    have hkn : (mk (m.layL ++ t)).num 1 = m.kind.toNat := by rw [hlay, d0]
    have g1 : ¬ (mk (m.layL ++ t)).num 1 = 1 := by omega
    have g2 : ¬ (mk (m.layL ++ t)).num 1 = 2 := by omega
    have g3 : (mk (m.layL ++ t)).num 1 = 3 ∨ (mk (m.layL ++ t)).num 1 = 4 := by omega
    refine ⟨?_, ?_, ?_, ?_⟩
    · unfold rdM
      rw [if_neg g1, if_neg g2, if_pos g3, hlay]
      unfold backM stampM
      simp only [d0, q1, n4 _ hk.client, leftn_mk, n8 _ hk.xid, tookh_mk, lefth_mk, decH_lay _ hk.h, n8 _ hk.boot, n8 _ hk.gb, n8 _ hk.gn]
      rw [nat_toNat (show 0 ≤ m.kind by omega), nat_toNat hk.client.1, nat_toNat hk.xid.1, nat_toNat hk.boot.1, nat_toNat hk.gb.1, nat_toNat hk.gn.1]
      obtain ⟨⟩ := m
      simp only at a1 a2 a3 a4 a5 a6 a7 a8 a9 a10 b1 b2 b3 b4 b5 b6 b7
      subst a1 a2 a3 a4 a5 a6 a7 a8 a9 a10 b1 b2 b3 b4 b5 b6 b7
      rfl
    · unfold rdR
      rw [if_neg g1, if_neg g2, if_pos g3, hlay]
      unfold backR stampR
      simp only [q1, leftn_mk, lefth_mk]
    · unfold rdFine
      rw [if_neg g2]
      exact decide_eq_true (by omega)
    · exact decide_eq_true (fun h => absurd h g2)
  · rw [if_neg h1, if_neg h2, if_neg h3] at hm
    cases hm

end Go.Proofs.Ytibcadfpengacaa

-- Awake
set_option linter.unusedVariables false
set_option linter.unusedSimpArgs false
namespace Go.Proofs.Ytibcadfpengacaa
open Go.RowKit Go.Lib Go.Proofs.YtibcadfpengacaaW.PrintWords Go.Proofs.YtibcadfpengacaaW.PrintMore Go.Proofs.YtibcadfpengacaaW.PrintLast

theorem layS_eq (m : Msg) : m.layS = ⟨m.layL.toArray⟩ := by
  refine ByteArray.ext (Array.toList_inj.1 ?_)
  rw [layS_data]
theorem dec_text (m : Msg) (hv : m.Val) (t : List UInt8) : decOk ⟨(m.layL ++ t).toArray⟩ = t.isEmpty ∧ (t = [] → decM ⟨(m.layL ++ t).toArray⟩ = m ∧ decC ⟨(m.layL ++ t).toArray⟩ = 0) ∧ (t ≠ [] → decM ⟨(m.layL ++ t).toArray⟩ = Msg.zero ∧ decC ⟨(m.layL ++ t).toArray⟩ = 2200) := by
  obtain ⟨h1, h2, h3, h4⟩ := dec_lay m hv t
  have hd : decOk ⟨(m.layL ++ t).toArray⟩ = t.isEmpty := by
    unfold decOk
    show decide ((rdR (mk (m.layL ++ t))).c = 0 ∧ (rdR (mk (m.layL ++ t))).s.size = 0 ∧ rdFine (mk (m.layL ++ t)) = true ∧ rdShort (mk (m.layL ++ t)) = true) = _
    rw [h2, h3, h4, mk_size]
    cases t <;> simp [mk]
  refine ⟨hd, fun ht => ?_, fun ht => ?_⟩
  · have : decOk ⟨(m.layL ++ t).toArray⟩ = true := by rw [hd, ht]; rfl
    unfold decM decC
    rw [if_pos this, if_pos this]
    exact ⟨h1, rfl⟩
  · have : ¬ decOk ⟨(m.layL ++ t).toArray⟩ = true := by rw [hd]; simpa using ht
    unfold decM decC
    rw [if_neg this, if_neg this]
    exact ⟨rfl, rfl⟩
theorem dec_layS (m : Msg) (hv : m.Val) : decM m.layS = m ∧ decC m.layS = 0 := by
  have h := (dec_text m hv []).2.1 rfl
  rw [List.append_nil] at h
  rw [layS_eq]
  exact h
theorem enc_val (m : Msg) (hv : m.Val) : m.enc = (m.layL, 0) := by
  rw [enc_eq m hv.ok]
  unfold Msg.refE
  rw [hv.short, hv.may, if_neg (by decide), if_neg (by decide), layS_data]

theorem num_any (e : Int) (w : World) : Calls Try.prog 11 #[.int .i64 e] w fun r w' => r = .returned (.int .i64 e) ∧ w = w' := by
  go_enter Try.func11, Try.ntmps11
  go_wp2
  go_ret
  exact ⟨rfl, rfl⟩

/-- The message that awake sends. -/
def am : Msg := { Msg.zero with kind := 4, client := 1, h := ⟨0, 0, 3, 0⟩, boot := 2 }
theorem nil_toList : (⟨#[]⟩ : ByteArray).toList = [] := by rw [ByteArray.toList_eq]
theorem am_ok : am.Ok := by
  have z : Hd.Ok ⟨0, 0, 0, 0⟩ := ⟨by decide, by decide, by decide, by decide, by decide, by decide, by decide, by decide⟩
  have z3 : Hd.Ok ⟨0, 0, 3, 0⟩ := ⟨by decide, by decide, by decide, by decide, by decide, by decide, by decide, by decide⟩
  have u8 : U64 0 := ⟨by decide, by decide⟩
  have u4 : U32 0 := ⟨by decide, by decide⟩
  have i8 : I64 0 := ⟨by decide, by decide⟩
  have sz : Siz ⟨#[]⟩ := show 0 ≤ 140737488351232 from by decide
  exact ⟨⟨by decide, by decide⟩, ⟨by decide, by decide⟩, u8, i8, z3, z, sz, sz, u8, u8, sz, i8, z, i8, u4, u8, u8, sz, u8, fun e h => (by cases h), by decide, ⟨by decide, by decide⟩, u8, u8⟩
theorem am_val : am.Val where
  ok := am_ok
  short := rfl
  may := by
    have e1 : am.kind = 4 := rfl
    have e2 : am.noAns = true := by
      unfold Msg.noAns noAns
      show ((0 : Int) == 0 && hdEq 0 0 0 0 0 0 0 0 && attrEq 0 0 0 0 0 0 0 0 && (⟨#[]⟩ : ByteArray).toList.isEmpty && !false && (0 : Int) == 0 && ((0 : Nat) : Int) == 0) = true
      rw [nil_toList]
      rfl
    unfold Msg.mayB
    rw [e2, e1]
    show (askEq 0 0 0 3 0 0 0 0 0 ⟨#[]⟩ ⟨#[]⟩ 0 0 ⟨#[]⟩ 0 0 0 3 0 0 0 0 0 ⟨#[]⟩ ⟨#[]⟩ 0 0 ⟨#[]⟩ && true) = true
    rw [askEq_self]
    rfl
theorem am_size : am.layS.size = 65 := by
  have h : am.layS.data.toList.length = 65 := by
    rw [layS_data]
    rfl
  rw [Array.length_toList] at h
  exact h
def acs : List Value := am.vs (.slice none 0 0)
theorem acs_len : acs.length = 33 := rfl
theorem acs_one : ∀ v ∈ acs, v.oneCell' = true := am.one none 0 0
theorem acs_at : MsgAt acs am none 0 := MsgAt.of am none 0

set_option maxHeartbeats 4000000 in
set_option maxRecDepth 100000 in
theorem encode_am (w : World) : Calls Try.prog 9 #[.agg acs.toArray] w fun e w' => e = .returned (.tuple #[.string am.layS, .int .i64 0]) ∧ Below w.heap.size w w' := by
  have h := encode_any am none 0 am_ok (Nat.le_refl _) (.inl rfl) (by decide) w (fun i e h => by simp [am, Msg.zero] at h)
  rw [enc_val am am_val, ← layS_eq] at h
  exact h

set_option maxHeartbeats 4000000 in
set_option maxRecDepth 100000 in
theorem awake22_any (w : World) : Calls Try.prog 13 #[] w fun e w' => e = .returned (.bool true) ∧ Below w.heap.size w w' := by
  have hd1 := dec_layS am am_val
  have hd2 := (dec_text am am_val [120]).2.2 (by simp)
  have hcat : am.layS ++ ⟨#[120]⟩ = ⟨(am.layL ++ [120]).toArray⟩ := by
    rw [layS_eq]
    refine ByteArray.ext ?_
    simp [ByteArray.data_append]
  rw [← hcat] at hd2
  have hsz := am_size
  have E := fun w => Lib.hid (encode_am w)
  have D1 := fun w => Lib.hid (decode_any am.layS (by rw [hsz]; decide) w)
  have D2 := fun w => Lib.hid (decode_any (am.layS ++ ⟨#[120]⟩) (by rw [ByteArray.size_append, hsz]; decide) w)
  unfold DecPost at D1 D2
  rw [hd1.1, hd1.2] at D1
  rw [hd2.1, hd2.2] at D2
  generalize am.layS = s at *
  have f1 := lt_False (n := s.size + 1) (by omega)
  have h65 : ((s.size : Int) == 65) = true := by rw [hsz]; rfl
  have Hsz := Lib.hid hsz
  have E' := Lib.hid E; have D1' := Lib.hid D1; have D2' := Lib.hid D2
  clear hd1 hd2 hcat hsz E D1 D2
  go_enter Try.func13, Try.ntmps13
  go_wp2_with (first
    | ((with_reducible refine gate_dst (N := 10) rfl ?_); refine Kd.event_run (v := .agg acs.toArray) rfl ?hr ?_; (case hr => go_simp; rfl))
    | ((with_reducible refine gate_dst (N := 1) rfl ?_); refine box_event rfl (N := 1) rfl (run_allocM _ _ rfl _) ?_; intro g1 hg1 v1 hbox hbel; have Bg1 := Lib.hid (show Blk v1 g1 36 zcs from hbox); have BLg1 := Lib.hid hbel; have Hg1 := Lib.hid hg1; clear hbox hbel hg1)
    | ((with_reducible refine gate_store (t := 36) (p := 1) rfl ?_); refine wpList_store_mid rfl 36 _ _ rfl g1 0 acs.toArray rfl rfl ?ht ?hi ?h1 ?_; (case ht => exact Bg1.out.there _ (by rw [List.size_toArray, acs_len]; exact Nat.le_refl 33)); (case hi => rw [List.size_toArray, acs_len]; exact infoMsg); (case h1 => exact all_oneCell_toArray acs_one); have B2g1 := Lib.hid (Bg1.out.setAll acs (by rw [acs_len]; rfl)); have Kg1 := Lib.hid (Keeps.setCells (S := fun k => k = g1) acs 0 v1 (Keeps.refl _ _) (fun _ => rfl)); change wpList _ _ _ _ _ (v1.setCells g1 0 acs); generalize v1.setCells g1 0 acs = v2 at B2g1 Kg1 ⊢; have BMg1 := Lib.hid (BLg1.out.trans (Kg1.out.below BLg1.out.size (fun k hk => by show ¬ k = g1; have := Hg1.out; omega))); clear Bg1 BLg1 Kg1 Hg1)
    | ((with_reducible refine gate_dst (N := 12) rfl ?_); refine wpList_load_mid rfl 36 _ rfl g1 0 rfl acs _ ?hc Try.underlying36 rfl ?hi ?_; (case hc => exact B2g1.out.range); (case hi => rw [acs_len]; exact infoMsg)))
  refine (E'.out v2).out.mono ?_
  rintro e v3 ⟨rfl, hb⟩
  have B3 := Lib.hid (B2g1.out.below hb)
  have KB3 := Lib.hid (BMg1.out.trans (hb.mono BMg1.out.size))
  clear hb B2g1 BMg1 E'
  go_wp2_with fail
  refine (D1'.out v3).out.mono ?_
  rintro e v4 ⟨A, c, rfl, ho, hb⟩
  have B4 := Lib.hid (B3.out.below hb)
  have KB4 := Lib.hid (KB3.out.trans (hb.mono KB3.out.size))
  have HA := Lib.hid ho.reads
  have Hat := Lib.hid (MsgAt.of am A c)
  clear hb ho B3 KB3 D1'
  generalize am.vs (.slice A am.list.length c) = ys at *
  go_wp2_with (first
    | ((with_reducible refine gate_dst (N := 4) rfl ?_); refine box_event rfl (N := 4) rfl (run_allocM _ _ rfl _) ?_; intro g4 hg4 v5 hbox hbel; have Bg4 := Lib.hid (show Blk v5 g4 36 zcs from hbox); have BLg4 := Lib.hid hbel; have Hg4 := Lib.hid hg4; clear hbox hbel hg4)
    | ((with_reducible refine gate_store (t := 36) (p := 4) rfl ?_); refine wpList_store_mid rfl 36 _ _ rfl g4 0 ys.toArray rfl rfl ?ht ?hi ?h1 ?_; (case ht => exact Bg4.out.there _ (by rw [List.size_toArray, Hat.out.len]; exact Nat.le_refl 33)); (case hi => rw [List.size_toArray, Hat.out.len]; exact infoMsg); (case h1 => exact all_oneCell_toArray Hat.out.one); have B2g4 := Lib.hid (Bg4.out.setAll ys (by rw [Hat.out.len]; rfl)); have Kg4 := Lib.hid (Keeps.setCells (S := fun k => k = g4) ys 0 v5 (Keeps.refl _ _) (fun _ => rfl)); change wpList _ _ _ _ _ (v5.setCells g4 0 ys); generalize v5.setCells g4 0 ys = v6 at B2g4 Kg4 ⊢; have BMg4 := Lib.hid (BLg4.out.trans (Kg4.out.below BLg4.out.size (fun k hk => by show ¬ k = g4; have := Hg4.out; omega))); clear Bg4 BLg4 Kg4 Hg4))
  refine (D2'.out v6).out.mono ?_
  rintro e v7 ⟨A2, c2, rfl, ho, hb⟩
  have hb6 := BMg4.out.trans (hb.mono BMg4.out.size)
  have B7 := Lib.hid (B4.out.below hb6)
  have C7 := Lib.hid (B2g4.out.below hb)
  have KB7 := Lib.hid (KB4.out.trans (hb6.mono KB4.out.size))
  have HA7 := Lib.hid (HA.out.below hb6)
  have Hzt := Lib.hid (MsgAt.of Msg.zero A2 c2)
  clear hb hb6 ho B4 KB4 B2g4 BMg4 HA D2'
  generalize Msg.zero.vs (.slice A2 Msg.zero.list.length c2) = zs at *
  go_wp2_with (first
    | ((with_reducible refine gate_dst (N := 6) rfl ?_); refine box_event rfl (N := 6) rfl (run_allocM _ _ rfl _) ?_; intro g6 hg6 v8 hbox hbel; have Bg6 := Lib.hid (show Blk v8 g6 36 zcs from hbox); have BLg6 := Lib.hid hbel; have Hg6 := Lib.hid hg6; clear hbox hbel hg6)
    | ((with_reducible refine gate_store (t := 36) (p := 6) rfl ?_); refine wpList_store_mid rfl 36 _ _ rfl g6 0 zs.toArray rfl rfl ?ht ?hi ?h1 ?_; (case ht => exact Bg6.out.there _ (by rw [List.size_toArray, Hzt.out.len]; exact Nat.le_refl 33)); (case hi => rw [List.size_toArray, Hzt.out.len]; exact infoMsg); (case h1 => exact all_oneCell_toArray Hzt.out.one); have B2g6 := Lib.hid (Bg6.out.setAll zs (by rw [Hzt.out.len]; rfl)); have Kg6 := Lib.hid (Keeps.setCells (S := fun k => k = g6) zs 0 v8 (Keeps.refl _ _) (fun _ => rfl)); change wpList _ _ _ _ _ (v8.setCells g6 0 zs); generalize v8.setCells g6 0 zs = v9 at B2g6 Kg6 ⊢; have BMg6 := Lib.hid (BLg6.out.trans (Kg6.out.below BLg6.out.size (fun k hk => by show ¬ k = g6; have := Hg6.out; omega))); clear Bg6 BLg6 Kg6 Hg6; have B9 := Lib.hid (B7.out.below BMg6.out); have C9 := Lib.hid (C7.out.below BMg6.out); have KB9 := Lib.hid (KB7.out.trans (BMg6.out.mono KB7.out.size)); have HA9 := Lib.hid (HA7.out.below BMg6.out); clear B7 C7 KB7 HA7 BMg6 B2g6)
    | (go_at_call 11; refine (num_any _ _).mono ?_; rintro e w' ⟨rfl, rfl⟩)
    | ((with_reducible refine gate_dst (N := 41) rfl ?_); refine gate_guard (by rfl) ?_; refine wpList_load_mid rfl 36 _ rfl g4 0 rfl ys _ ?hc Try.underlying36 rfl ?hi ?_; (case hc => exact C9.out.range); (case hi => rw [Hat.out.len]; exact infoMsg))
    | ((with_reducible refine gate_dst (N := 42) rfl ?_); refine gate_guard (by rfl) ?_; refine wpList_load_mid rfl 36 _ rfl g1 0 rfl acs _ ?hc Try.underlying36 rfl ?hi ?_; (case hc => exact B9.out.range); (case hi => rw [acs_len]; exact infoMsg))
    | (go_at_call 16; refine (same_raw am A none c 0 ys acs Hat.out acs_at (by decide) _ HA9.out (fun i e h => by simp [am, Msg.zero] at h)).mono ?_; rintro e v10 ⟨rfl, hb⟩; have KB10 := Lib.hid (KB9.out.trans (hb.mono KB9.out.size)); clear hb))
  go_ret
  exact ⟨rfl, KB10.out⟩

end Go.Proofs.Ytibcadfpengacaa
