/- Words, contracts and plain laws for the claim's last text: RefQ, PlainE, PlainD, Awake, Encodes, Open, Shelf, Net, NetS, NetC, NetD, NetL, NetR, NetE, NetF, PlainI, RefR, RefS, RefT, RefU, RefV, RefW, RefX, RefY, Decodes, NetG, NetH, NetI, NetJ. -/
import Derived.Test.YtibcadfpengacaaMf4
import Derived.Deep.Slices
import Derived.ChangeStays
import Derived.OpenVars
import Derived.SizedLaws
import Derived.Ground.Names2Prog
import Derived.Shelf.Slices.Delete
import Derived.Test.YtibcadfpengacaaProg
import Derived.Test.YtibcadfpengacaaMf3
import Derived.Deep.AppendLies
import Derived.Sort.OwnSorted
import Derived.Great.BuildSlice
import Derived.Deep.RegionHeldLaw
-- RefQ
set_option linter.unusedVariables false
set_option linter.unusedSimpArgs false
namespace Go.Proofs.Ytibcadfpengacaa
open Go.RowKit Go.Lib Go.Proofs.YtibcadfpengacaaW.PrintWords Go.Proofs.YtibcadfpengacaaW.PrintMore Go.Proofs.YtibcadfpengacaaW.PrintLast

def toR (e : Ent) : PRlong.S99 := ⟨e.name, e.ino, e.cookie⟩
theorem kR_of {w : World} {A : Option Addr} {es : List Ent} (hlen : es.length ≤ 4398046511104) (hA : EntsR w A es) : Kd.C PRlong.k99 w A (es.map toR).length (es.map toR) := by
  refine ⟨rfl, by rw [List.length_map]; omega, fun h => ?_⟩
  rw [List.length_map] at h
  obtain ⟨b, o, e, _⟩ := hA 0 _ (List.getElem?_eq_getElem h)
  refine ⟨⟨b, o, none⟩, e, fun j p hp => ?_⟩
  have hj : j < es.length := by
    have := (List.getElem?_eq_some_iff.1 hp).1
    rwa [List.length_map] at this
  have hpe : p = toR (es[j]'hj) := by simpa [hj] using hp.symm
  subst hpe
  obtain ⟨b2, o2, e2, q0, q1, q2⟩ := hA j _ (List.getElem?_eq_getElem hj)
  obtain ⟨rfl, rfl⟩ : b2 = b ∧ o2 = o := by rw [e] at e2; injection e2 with e2; injection e2 with e3 e4; exact ⟨e3.symm, e4.symm⟩
  refine ⟨_, rfl, PRlong.k99_mk w _, fun i u hu => ?_⟩
  have q0' : w.cell? (Addr.add ⟨b2, o2, none⟩ (j * 3)) = some (.string (es[j]'hj).name) := by rw [addr_plus]; exact q0
  have q1' : w.cell? (Addr.add ⟨b2, o2, none⟩ (j * 3 + 1)) = some (.int .u64 (es[j]'hj).ino) := by rw [addr_plus]; exact q1
  have q2' : w.cell? (Addr.add ⟨b2, o2, none⟩ (j * 3 + 2)) = some (.int .u64 (es[j]'hj).cookie) := by rw [addr_plus]; exact q2
  match i, hu with
  | 0, hu => obtain rfl := Option.some.inj hu; exact q0'
  | 1, hu => obtain rfl := Option.some.inj hu; exact q1'
  | 2, hu => obtain rfl := Option.some.inj hu; exact q2'
  | i + 3, hu => exact absurd hu (by simp)

def bigS (s : ByteArray) : Bool := decide (4096 < s.size)
theorem refLong_l1 (L : List ByteArray) (es : List PRlong.S99) (hL : L.length ≤ 8796093022208) (P0 : Int) (P1 : Int) (P2 : Int) (P3 : Int) (P4 : Int) (P5 : Int) (P6 : Int) (P7 : Int) (P8 : Int) (P9 : Int) (P10 : Int) (P11 : Int) (P12 : ByteArray) (P13 : ByteArray) (P14 : Int) (P15 : Int) (P16 : ByteArray) (P17 : Int) (P18 : Int) (P19 : Int) (P20 : Int) (P21 : Int) (P22 : Int) (P23 : Int) (P24 : Int) (P25 : Int) (P26 : ByteArray) (P27 : Bool) (P28 : Int) (P30 : Int) (P31 : Int) (P32 : Int) :
    ∀ (r j k : Nat), j + r = L.length → r < k → PRlong.holtref22_long.l1 k L (j : Int) P0 P1 P2 P3 P4 P5 P6 P7 P8 P9 P10 P11 P12 P13 P14 P15 P16 P17 P18 P19 P20 P21 P22 P23 P24 P25 P26 P27 P28 es P30 P31 P32 = some ((L.drop j).any bigS || decide (64 < es.length)) := by
  intro r
  induction r with
  | zero =>
    intro j k hj hk
    obtain ⟨k, rfl⟩ : ∃ m, k = m + 1 := ⟨k - 1, by omega⟩
    rw [PRlong.holtref22_long.l1, if_neg (by omega), List.drop_eq_nil_of_le (by omega)]
    have e : decide ((es.length : Int) > 64) = decide (64 < es.length) := decide_eq_decide.2 (by omega)
    rw [e]
    simp
  | succ r ih =>
    intro j k hj hk
    obtain ⟨k, rfl⟩ : ∃ m, k = m + 1 := ⟨k - 1, by omega⟩
    have hjl : j < L.length := by omega
    have hg : rdOf ByteArray.empty L (j : Int) = L[j]'hjl := by
      unfold rdOf
      simp [List.getD, hjl]
    rw [PRlong.holtref22_long.l1, if_pos (by omega), if_pos (by omega), hg, List.drop_eq_getElem_cons hjl, List.any_cons]
    by_cases hb : 4096 < (L[j]'hjl).size
    · rw [if_pos (by omega)]
      simp [bigS, hb]
    · rw [if_neg (by omega)]
      have hi := ih (j + 1) k (by omega) (by omega)
      have hw : wrap64 ((j : Int) + 1) = ((j + 1 : Nat) : Int) := by clear hi ih; unfold wrap64; omega
      rw [hw, hi]
      simp [bigS, hb]
theorem refLong_l0 (B : List ByteArray) (hB : B.length = 4) (es : List Ent) (hes : es.length ≤ 4398046511104) (P0 : Int) (P1 : Int) (P2 : Int) (P3 : Int) (P4 : Int) (P5 : Int) (P6 : Int) (P7 : Int) (P8 : Int) (P9 : Int) (P10 : Int) (P11 : Int) (P12 : ByteArray) (P13 : ByteArray) (P14 : Int) (P15 : Int) (P16 : ByteArray) (P17 : Int) (P18 : Int) (P19 : Int) (P20 : Int) (P21 : Int) (P22 : Int) (P23 : Int) (P24 : Int) (P25 : Int) (P26 : ByteArray) (P27 : Bool) (P28 : Int) (P30 : Int) (P31 : Int) (P32 : Int) :
    ∀ (r i k : Nat), i + r = es.length → r + (es.length + 6) < k → PRlong.holtref22_long.l0 k (B ++ (es.take i).map (·.name)) (i : Int) P0 P1 P2 P3 P4 P5 P6 P7 P8 P9 P10 P11 P12 P13 P14 P15 P16 P17 P18 P19 P20 P21 P22 P23 P24 P25 P26 P27 P28 (es.map toR) P30 P31 P32 = some ((B ++ es.map (·.name)).any bigS || decide (64 < es.length)) := by
  intro r
  induction r with
  | zero =>
    intro i k hi hk
    obtain ⟨k, rfl⟩ : ∃ m, k = m + 1 := ⟨k - 1, by omega⟩
    have hl1 := refLong_l1 (B ++ es.map (·.name)) (es.map toR) (by rw [List.length_append, List.length_map]; omega) P0 P1 P2 P3 P4 P5 P6 P7 P8 P9 P10 P11 P12 P13 P14 P15 P16 P17 P18 P19 P20 P21 P22 P23 P24 P25 P26 P27 P28 P30 P31 P32 (B ++ es.map (·.name)).length 0 k (by omega) (by rw [List.length_append, List.length_map]; omega)
    rw [List.drop_zero, List.length_map, show ((0 : Nat) : Int) = 0 from rfl] at hl1
    rw [PRlong.holtref22_long.l0, if_neg (by rw [List.length_map]; omega), List.take_of_length_le (by omega), hl1]
  | succ r ih =>
    intro i k hi hk
    obtain ⟨k, rfl⟩ : ∃ m, k = m + 1 := ⟨k - 1, by omega⟩
    have hil : i < es.length := by omega
    have h1 : (i : Int) < ((es.map toR).length : Int) := by rw [List.length_map]; omega
    have hg : PRlong.rd_T99 (es.map toR) (i : Int) = toR (es[i]'hil) := by
      unfold PRlong.rd_T99
      simp [List.getD, hil]
    have h2 : (B ++ (es.take i).map (·.name)).length < 8796093022208 := by rw [List.length_append, List.length_map, List.length_take]; omega
    have hi2 := ih (i + 1) k (by omega) (by omega)
    rw [List.take_succ_eq_append_getElem hil, List.map_append, ← List.append_assoc] at hi2
    have hw : wrap64 ((i : Int) + 1) = ((i + 1 : Nat) : Int) := by clear hi2 ih h1; unfold wrap64; omega
    rw [PRlong.holtref22_long.l0, if_pos h1, if_pos (by omega), if_pos h2, hg, hw]
    exact hi2

theorem refLong_any (m : Msg) (A : Option Addr) (c : Nat) (hlen : m.list.length ≤ 4398046511104) (hcap : m.list.length ≤ c) (w : World) (hA : EntsR w A m.list) :
    Calls Try.prog 36 #[.agg (m.vs (.slice A m.list.length c)).toArray] w fun e w' => e = .returned (.bool m.long) ∧ Below w.heap.size w w' := by
  have h0 : PRlong.holtref22_long.f (m.list.length + (m.list.length + 8)) m.kind m.client m.xid m.op m.h.ex m.h.snap m.h.ino m.h.gen m.h2.ex m.h2.snap m.h2.ino m.h2.gen m.name m.name2 m.off m.num m.data m.status m.ah.ex m.ah.snap m.ah.ino m.ah.gen m.akind m.links m.size m.change m.adata m.eof m.anum (m.list.map toR) m.boot m.gb m.gn = some m.long := by
    have h := refLong_l0 [m.name, m.name2, m.data, m.adata] rfl m.list hlen m.kind m.client m.xid m.op m.h.ex m.h.snap m.h.ino m.h.gen m.h2.ex m.h2.snap m.h2.ino m.h2.gen m.name m.name2 m.off m.num m.data m.status m.ah.ex m.ah.snap m.ah.ino m.ah.gen m.akind m.links m.size m.change m.adata m.eof m.anum m.boot m.gb m.gn m.list.length 0 (m.list.length + (m.list.length + 8)) (by omega) (by omega)
    rw [List.take_zero, List.map_nil, List.append_nil, show ((0 : Nat) : Int) = 0 from rfl] at h
    unfold PRlong.holtref22_long.f
    rw [h]
    congr 1
    unfold Msg.long
    rw [List.any_append, List.any_map]
    simp only [List.any_cons, List.any_nil, Bool.or_false, bigS]
    simp only [Bool.or_assoc]
    rfl
  have := PRlong.holtref22_long.calls (m.list.length + (m.list.length + 8)) m.kind m.client m.xid m.op m.h.ex m.h.snap m.h.ino m.h.gen m.h2.ex m.h2.snap m.h2.ino m.h2.gen m.name m.name2 m.off m.num m.data m.status m.ah.ex m.ah.snap m.ah.ino m.ah.gen m.akind m.links m.size m.change m.adata m.eof m.anum A c (m.list.map toR) m.boot m.gb m.gn m.long w (kR_of hlen hA) (by rw [List.length_map]; exact hcap) h0
  rw [List.length_map] at this
  exact this

/-- The reference's bytes. -/
def Msg.headS (m : Msg) : ByteArray := oneS m.kind ++ leS m.client.toNat 4 ++ leS m.xid.toNat 8
def Msg.layS (m : Msg) : ByteArray :=
  if m.kind = 1 then m.headS ++ oneS m.op ++ m.h.layS ++ m.h2.layS ++ txtS m.name ++ txtS m.name2 ++ leS m.off.toNat 8 ++ leS m.num.toNat 8 ++ txtS m.data
  else if m.kind = 2 then laidEnts (m.headS ++ oneS m.status ++ m.ah.layS ++ oneS m.akind ++ leS m.links.toNat 4 ++ leS m.size.toNat 8 ++ leS m.change.toNat 8 ++ txtS m.adata ++ leS m.eof.toNat 1 ++ leS m.anum.toNat 8 ++ leS m.list.length 4) m.list ++ tailS m
  else m.headS ++ m.h.layS ++ tailS m
theorem Hd.layS_size (h : Hd) : h.layS.size = 28 := by simp [Hd.layS, ByteArray.size_append, leS_size]
theorem oneS_size (x : Int) : (oneS x).size = 1 := leS_size _ _

theorem lay_any (x : List Value) (m : Msg) (A : Option Addr) (c : Nat) (hx : MsgAt x m A c) (hk : m.Ok) (hl : m.long = false) (w : World) (hA : EntsR w A m.list) :
    Calls Try.prog 38 #[.agg x.toArray] w fun e w' => e = .returned (.string m.layS) ∧ Below w.heap.size w w' := by
  unfold Msg.long at hl
  simp only [Bool.or_eq_false_iff, decide_eq_false_iff_not, List.any_eq_false, decide_eq_true_eq] at hl
  obtain ⟨⟨⟨⟨⟨l1, l2⟩, l3⟩, l4⟩, l5⟩, l6⟩ := hl
  have g : ∀ x n, n ≤ 8 → (leS x n).size ≤ 5000 := fun x n h => by rw [leS_size]; omega
  have g28 : ∀ h : Hd, h.layS.size ≤ 5000 := fun h => by rw [Hd.layS_size]; omega
  have g1 : ∀ x, (oneS x).size ≤ 5000 := fun x => by rw [oneS_size]; omega
  have gt : ∀ s : ByteArray, ¬ 4096 < s.size → (txtS s).size ≤ 5000 := fun s h => Nat.le_trans (txtS_size s (by omega)) (by omega)
  have p1 := one_says m.kind
  have p2 : Says 56 (.int .u32 m.client) _ := fun w => l4_any _ hk.client w
  have p3 : Says 57 (.int .u64 m.xid) _ := fun w => l8_any _ hk.xid w
  have tl := tail_says x m A c hx hk
  unfold Msg.layS Msg.headS
  by_cases h1 : m.kind = 1
  · rw [if_pos h1]
    exact layCall_raw x m A c hx _ _ _ (g1 _) (g _ _ (by omega)) (g _ _ (by omega)) p1 p2 p3 _ _ _ _ _ _ _ _ ⟨g1 _, g28 _, g28 _, gt _ l1, gt _ l2, g _ _ (by omega), g _ _ (by omega), gt _ l3⟩
      (one_says _) (refHd_says _ hk.h) (refHd_says _ hk.h2) (text_says _ (by omega)) (text_says _ (by omega)) (fun w => l8_any _ hk.off w) (fun w => l8_any _ hk.num w) (text_says _ (by omega)) h1 w
  by_cases h2 : m.kind = 2
  · rw [if_neg h1, if_pos h2]
    have hlen : Says 56 (.int .u32 m.list.length) (leS m.list.length 4) := fun w => l4_any (m.list.length : Int) ⟨by omega, by omega⟩ w
    exact layReply_raw x m A c hx _ _ _ (g1 _) (g _ _ (by omega)) (g _ _ (by omega)) p1 p2 p3 _ _ _ _ _ _ _ _ _ _ _ ⟨g1 _, g28 _, g1 _, g _ _ (by omega), g _ _ (by omega), g _ _ (by omega), gt _ l4, g _ _ (by omega), g _ _ (by omega), g _ _ (by omega), by rw [tailS_size]; omega⟩
      (one_says _) (refHd_says _ hk.ah) (one_says _) (fun w => l4_any _ hk.links w) (fun w => l8_any _ hk.size w) (fun w => l8_any _ hk.change w) (text_says _ (by omega)) (yes_says _) (fun w => l8_any _ hk.anum w) hlen tl
      (fun e he => ⟨by have := l5 e he; omega, (hk.list e he).2.1, (hk.list e he).2.2⟩) (by omega) h2 w hA
  · rw [if_neg h1, if_neg h2]
    exact layBack_raw x m A c hx _ _ _ (g1 _) (g _ _ (by omega)) (g _ _ (by omega)) p1 p2 p3 _ _ (g28 _) (by rw [tailS_size]; omega) (refHd_says _ hk.h) tl h1 h2 w

/-- What the reference's Encode answers. -/
def Msg.refE (m : Msg) : ByteArray × Int := if m.long = true then (⟨#[]⟩, 2201) else if m.mayB = false then (⟨#[]⟩, 2200) else (m.layS, 0)

set_option maxHeartbeats 4000000 in
set_option maxRecDepth 100000 in
theorem refEncode_raw (x : List Value) (hxl : x.length = 33) (lng may : Bool) (s : ByteArray) (P : World → Prop) (hP : ∀ w w1, Below w.heap.size w w1 → P w → P w1)
    (hL : ∀ w, P w → Calls Try.prog 36 #[.agg x.toArray] w fun e w' => e = .returned (.bool lng) ∧ Below w.heap.size w w')
    (hM : ∀ w, P w → Calls Try.prog 37 #[.agg x.toArray] w fun e w' => e = .returned (.bool may) ∧ Below w.heap.size w w')
    (hS : lng = false → ∀ w, P w → Calls Try.prog 38 #[.agg x.toArray] w fun e w' => e = .returned (.string s) ∧ Below w.heap.size w w') (w : World) (hw : P w) :
    Calls Try.prog 10 #[.agg x.toArray] w fun e w' => e = .returned (.tuple #[.string (if lng = true then (⟨#[]⟩, 2201) else if may = false then (⟨#[]⟩, 2200) else (s, 0) : ByteArray × Int).1, .int .i64 (if lng = true then (⟨#[]⟩, 2201) else if may = false then (⟨#[]⟩, 2200) else (s, 0) : ByteArray × Int).2]) ∧ Below w.heap.size w w' := by
  have HL := Lib.hid hL; have HM := Lib.hid hM; have HS := Lib.hid hS; have HP := Lib.hid hP; have Hxl := Lib.hid hxl; have HW := Lib.hid hw
  clear hL hM hS hP hxl hw
  cases lng
  rotate_left
  · simp only [if_true]
    go_enter Try.func10, Try.ntmps10
    go_wp2_with (first
      | ((with_reducible refine gate_dst (N := 1) rfl ?_); refine box_event rfl (N := 1) rfl (run_box _ _ _ 36 _ x.toArray rfl rfl _) ?_; intro gx hgx v1 hbox hbel; have BX := Lib.hid (show Blk v1 gx 36 x from hbox); have BL := Lib.hid hbel; clear hbox hbel hgx)
      | ((with_reducible refine gate_dst (N := 4) rfl ?_); refine wpList_load_mid rfl 36 _ rfl gx 0 rfl x _ ?hc Try.underlying36 rfl ?hi ?_; (case hc => exact BX.out.range); (case hi => rw [Hxl.out]; exact infoMsg)))
    refine (HL.out v1 (HP.out _ _ BL.out HW.out)).mono ?_
    rintro e w2 ⟨rfl, hb⟩
    have KB := Lib.hid (BL.out.trans (hb.mono BL.out.size))
    clear hb
    go_wp2_with fail
    go_ret2
    exact ⟨rfl, KB.out⟩
  cases may
  · simp only [if_true, Bool.false_eq_true, if_false]
    go_enter Try.func10, Try.ntmps10
    go_wp2_with (first
      | ((with_reducible refine gate_dst (N := 1) rfl ?_); refine box_event rfl (N := 1) rfl (run_box _ _ _ 36 _ x.toArray rfl rfl _) ?_; intro gx hgx v1 hbox hbel; have BX := Lib.hid (show Blk v1 gx 36 x from hbox); have BL := Lib.hid hbel; clear hbox hbel hgx)
      | ((with_reducible refine gate_dst (N := 4) rfl ?_); refine wpList_load_mid rfl 36 _ rfl gx 0 rfl x _ ?hc Try.underlying36 rfl ?hi ?_; (case hc => exact BX.out.range); (case hi => rw [Hxl.out]; exact infoMsg)))
    refine (HL.out v1 (HP.out _ _ BL.out HW.out)).mono ?_
    rintro e w2 ⟨rfl, hb⟩
    have BX2 := Lib.hid (BX.out.below hb)
    have KB := Lib.hid (BL.out.trans (hb.mono BL.out.size))
    have PW := Lib.hid (HP.out _ _ hb (HP.out _ _ BL.out HW.out))
    clear hb
    go_wp2_with (first
      | ((with_reducible refine gate_dst (N := 6) rfl ?_); refine wpList_load_mid rfl 36 _ rfl gx 0 rfl x _ ?hc Try.underlying36 rfl ?hi ?_; (case hc => exact BX2.out.range); (case hi => rw [Hxl.out]; exact infoMsg)))
    refine (HM.out w2 PW.out).mono ?_
    rintro e w3 ⟨rfl, hb⟩
    have KB3 := Lib.hid (KB.out.trans (hb.mono KB.out.size))
    clear hb
    go_wp2_with fail
    go_ret2
    exact ⟨rfl, KB3.out⟩
  · simp only [Bool.false_eq_true, if_false, Bool.true_eq_false]
    go_enter Try.func10, Try.ntmps10
    go_wp2_with (first
      | ((with_reducible refine gate_dst (N := 1) rfl ?_); refine box_event rfl (N := 1) rfl (run_box _ _ _ 36 _ x.toArray rfl rfl _) ?_; intro gx hgx v1 hbox hbel; have BX := Lib.hid (show Blk v1 gx 36 x from hbox); have BL := Lib.hid hbel; clear hbox hbel hgx)
      | ((with_reducible refine gate_dst (N := 4) rfl ?_); refine wpList_load_mid rfl 36 _ rfl gx 0 rfl x _ ?hc Try.underlying36 rfl ?hi ?_; (case hc => exact BX.out.range); (case hi => rw [Hxl.out]; exact infoMsg)))
    refine (HL.out v1 (HP.out _ _ BL.out HW.out)).mono ?_
    rintro e w2 ⟨rfl, hb⟩
    have BX2 := Lib.hid (BX.out.below hb)
    have KB := Lib.hid (BL.out.trans (hb.mono BL.out.size))
    have PW := Lib.hid (HP.out _ _ hb (HP.out _ _ BL.out HW.out))
    clear hb
    go_wp2_with (first
      | ((with_reducible refine gate_dst (N := 6) rfl ?_); refine wpList_load_mid rfl 36 _ rfl gx 0 rfl x _ ?hc Try.underlying36 rfl ?hi ?_; (case hc => exact BX2.out.range); (case hi => rw [Hxl.out]; exact infoMsg)))
    refine (HM.out w2 PW.out).mono ?_
    rintro e w3 ⟨rfl, hb⟩
    have BX3 := Lib.hid (BX2.out.below hb)
    have KB3 := Lib.hid (KB.out.trans (hb.mono KB.out.size))
    have PW3 := Lib.hid (HP.out _ _ hb PW.out)
    clear hb
    go_wp2_with (first
      | ((with_reducible refine gate_dst (N := 9) rfl ?_); refine wpList_load_mid rfl 36 _ rfl gx 0 rfl x _ ?hc Try.underlying36 rfl ?hi ?_; (case hc => exact BX3.out.range); (case hi => rw [Hxl.out]; exact infoMsg)))
    refine (HS.out (by trivial) w3 PW3.out).mono ?_
    rintro e w4 ⟨rfl, hb⟩
    have KB4 := Lib.hid (KB3.out.trans (hb.mono KB3.out.size))
    clear hb
    go_wp2_with fail
    go_ret2
    exact ⟨rfl, KB4.out⟩

theorem refEncode_any (m : Msg) (A : Option Addr) (c : Nat) (hk : m.Ok) (hcap : m.list.length ≤ c) (w : World) (hA : EntsR w A m.list) :
    Calls Try.prog 10 #[.agg (m.vs (.slice A m.list.length c)).toArray] w fun e w' => e = .returned (.tuple #[.string m.refE.1, .int .i64 m.refE.2]) ∧ Below w.heap.size w w' :=
  refEncode_raw (m.vs (.slice A m.list.length c)) rfl m.long m.mayB m.layS (fun w => EntsR w A m.list) (fun _ _ hb h => h.below hb) (fun w h => refLong_any m A c hk.len hcap w h) (fun w _ => may_any _ m A c (MsgAt.of m A c) w) (fun hl w h => lay_any _ m A c (MsgAt.of m A c) hk hl w h) w hA

end Go.Proofs.Ytibcadfpengacaa

-- PlainE
set_option linter.unusedVariables false
set_option linter.unusedSimpArgs false
namespace Go.Proofs.Ytibcadfpengacaa
open Go.RowKit Go.Lib

/-! ### A writer, step by step -/
theorem Wr.num_ok (σ : Wr) (x n : Nat) (h : x < 256 ^ n) : σ.num x n = σ.put (leB x n) := by unfold Wr.num; rw [if_pos h]
theorem Wr.put_put (σ : Wr) (a b : List UInt8) : (σ.put a).put b = σ.put (a ++ b) := by simp [Wr.put]
theorem Wr.text_ok (σ : Wr) (s : ByteArray) (h : s.size ≤ 4096) : σ.text s = σ.put (txt s) := by
  unfold Wr.text
  rw [if_neg (by omega), Wr.num_ok _ _ _ (by have : (256 : Nat) ^ 4 = 4294967296 := by decide
                                             omega), Wr.put_put, Wr.put_put]
  rfl
def entL (e : Ent) : List UInt8 := txt e.name ++ leB e.ino.toNat 8 ++ leB e.cookie.toNat 8
theorem u64_lt {x : Int} (h : U64 x) : x.toNat < 256 ^ 8 := by
  have h1 := h.1; have h2 := h.2
  have : (256 : Nat) ^ 8 = 18446744073709551616 := by decide
  omega
theorem u32_lt {x : Int} (h : U32 x) : x.toNat < 256 ^ 4 := by
  have h1 := h.1; have h2 := h.2
  have : (256 : Nat) ^ 4 = 4294967296 := by decide
  omega
theorem Wr.ents_ok (es : List Ent) (h : ∀ e ∈ es, e.name.size ≤ 4096 ∧ U64 e.ino ∧ U64 e.cookie) : ∀ σ : Wr, σ.ents es = σ.put (es.flatMap entL) := by
  induction es with
  | nil => intro σ; simp [Wr.ents, Wr.put]
  | cons e es ih =>
    intro σ
    obtain ⟨h1, h2, h3⟩ := h e List.mem_cons_self
    have hi := ih (fun e he => h e (List.mem_cons_of_mem _ he)) (σ.ent e)
    show (σ.ent e).ents es = _
    rw [hi]
    unfold Wr.ent
    rw [Wr.text_ok _ _ h1, Wr.num_ok _ _ _ (u64_lt h2), Wr.num_ok _ _ _ (u64_lt h3), Wr.put_put, Wr.put_put, Wr.put_put, List.flatMap_cons]
    unfold entL
    simp only [List.append_assoc]

theorem Wr.put_c (σ : Wr) (l : List UInt8) : (σ.put l).c = σ.c := rfl
theorem Wr.num_c (σ : Wr) (x n : Nat) (h : σ.c ≠ 0) : (σ.num x n).c = σ.c := by
  unfold Wr.num
  split
  · rfl
  · show (if σ.c = 0 then _ else σ.c) = σ.c
    rw [if_neg h]
theorem Wr.text_c (σ : Wr) (s : ByteArray) (h : σ.c ≠ 0) : (σ.text s).c = σ.c := by
  unfold Wr.text
  split
  · show (if σ.c = 0 then _ else σ.c) = σ.c
    rw [if_neg h]
  · rw [Wr.put_c, Wr.put_c, Wr.num_c _ _ _ h]
theorem Wr.ents_c (es : List Ent) : ∀ σ : Wr, σ.c ≠ 0 → (σ.ents es).c = σ.c := by
  induction es with
  | nil => intro σ _; rfl
  | cons e es ih =>
    intro σ h
    have h1 : (σ.ent e).c = σ.c := by
      unfold Wr.ent
      have a := Wr.text_c σ e.name h
      have b := Wr.num_c (σ.text e.name) e.ino.toNat 8 (by rw [a]; exact h)
      rw [Wr.num_c _ _ _ (by rw [b, a]; exact h), b, a]
    show ((σ.ent e).ents es).c = _
    rw [ih _ (by rw [h1]; exact h), h1]
theorem Wr.num_bad (σ : Wr) (x n : Nat) (h : σ.c = 0) (hx : ¬ x < 256 ^ n) : (σ.num x n).c = 2200 := by
  unfold Wr.num
  rw [if_neg hx]
  show (if σ.c = 0 then _ else σ.c) = _
  rw [if_pos h]
theorem Wr.num_stay (σ : Wr) (x n : Nat) (h : σ.c = 2200) : (σ.num x n).c = 2200 := by rw [Wr.num_c _ _ _ (by rw [h]; decide), h]
theorem Wr.text_stay (σ : Wr) (s : ByteArray) (h : σ.c = 2200) : (σ.text s).c = 2200 := by rw [Wr.text_c _ _ (by rw [h]; decide), h]
theorem Wr.ents_stay (σ : Wr) (es : List Ent) (h : σ.c = 2200) : (σ.ents es).c = 2200 := by rw [Wr.ents_c _ _ (by rw [h]; decide), h]
theorem Wr.put_stay (σ : Wr) (l : List UInt8) (h : σ.c = 2200) : (σ.put l).c = 2200 := h

theorem smallB_lt {x : Int} (h : smallB x = true) : u64of x = x.toNat ∧ x.toNat < 256 ^ 1 ∧ (x % 256).toNat = x.toNat := by
  have h' : 0 ≤ x ∧ x ≤ 255 := of_decide_eq_true h
  refine ⟨?_, ?_, ?_⟩
  · unfold u64of; omega
  · have : (256 : Nat) ^ 1 = 256 := by decide
    omega
  · omega
theorem smallB_ge {x : Int} (hx : I64 x) (h : smallB x = false) : ¬ u64of x < 256 ^ 1 := by
  have h' : ¬ (0 ≤ x ∧ x ≤ 255) := of_decide_eq_false h
  have h1 := hx.1; have h2 := hx.2
  have : (256 : Nat) ^ 1 = 256 := by decide
  unfold u64of
  omega

/-! ### The bytes, as lists -/
def one1 (x : Int) : List UInt8 := leB (x % 256).toNat 1
def Msg.headL (m : Msg) : List UInt8 := one1 m.kind ++ leB m.client.toNat 4 ++ leB m.xid.toNat 8
def tailL (m : Msg) : List UInt8 := leB m.boot.toNat 8 ++ leB m.gb.toNat 8 ++ leB m.gn.toNat 8
def Msg.layL (m : Msg) : List UInt8 :=
  if m.kind = 1 then m.headL ++ one1 m.op ++ m.h.lay ++ m.h2.lay ++ txt m.name ++ txt m.name2 ++ leB m.off.toNat 8 ++ leB m.num.toNat 8 ++ txt m.data
  else if m.kind = 2 then m.headL ++ one1 m.status ++ m.ah.lay ++ one1 m.akind ++ leB m.links.toNat 4 ++ leB m.size.toNat 8 ++ leB m.change.toNat 8 ++ txt m.adata ++ leB m.eof.toNat 1 ++ leB m.anum.toNat 8 ++ leB m.list.length 4 ++ m.list.flatMap entL ++ tailL m
  else m.headL ++ m.h.lay ++ tailL m
theorem laid_data (es : List Ent) : ∀ p : ByteArray, (laidEnts p es).data.toList = p.data.toList ++ es.flatMap entL := by
  induction es with
  | nil => intro p; simp [laidEnts]
  | cons e es ih =>
    intro p
    have := ih (entS p e)
    show (laidEnts (entS p e) es).data.toList = _
    rw [this, List.flatMap_cons]
    simp [entS, entL, ByteArray.data_append, txtS, leS]
theorem hd_data (h : Hd) : h.layS.data.toList = h.lay := by simp [Hd.layS, Hd.lay, ByteArray.data_append, leS]
theorem layS_data (m : Msg) : m.layS.data.toList = m.layL := by
  unfold Msg.layS Msg.layL
  split
  · simp only [Msg.headS, Msg.headL, ByteArray.data_append, Array.toList_append, hd_data, txtS, leS, oneS, one1]
  · split
    · simp only [Msg.headS, Msg.headL, ByteArray.data_append, Array.toList_append, laid_data, hd_data, txtS, leS, oneS, one1, tailS, tailL, List.append_assoc]
    · simp only [Msg.headS, Msg.headL, ByteArray.data_append, Array.toList_append, hd_data, leS, oneS, one1, tailS, tailL, List.append_assoc]

theorem ask_swap (op a b c d h2e h2s h2i h2g : Int) (name name2 : ByteArray) (off num : Int) (data : ByteArray) :
    askEq op a b c d h2e h2s h2i h2g name name2 off num data 0 a b c d 0 0 0 0 ⟨#[]⟩ ⟨#[]⟩ 0 0 ⟨#[]⟩ = askEq op 0 0 0 0 h2e h2s h2i h2g name name2 off num data 0 0 0 0 0 0 0 0 0 ⟨#[]⟩ ⟨#[]⟩ 0 0 ⟨#[]⟩ := by
  unfold askEq
  rw [hdEq_self, hdEq_self]

theorem pick (m : Msg) (b : Bool) : (if b = false then ([], 2200) else (m.layL, 0) : List UInt8 × Int) = ((if b = false then (⟨#[]⟩, 2200) else (m.layS, 0) : ByteArray × Int).1.data.toList, (if b = false then (⟨#[]⟩, 2200) else (m.layS, 0) : ByteArray × Int).2) := by
  cases b
  · rfl
  · rw [if_neg (by decide), if_neg (by decide), layS_data]
theorem enc_eq (m : Msg) (hk : m.Ok) : m.enc = (m.refE.1.data.toList, m.refE.2) := by
  unfold Msg.enc Msg.refE
  by_cases hl : m.long = true
  · rw [if_pos hl, encV_long (.inr (.inr hl))]
  have hl' : m.long = false := by simpa using hl
  rw [if_neg hl]
  have hl2 := hl'
  unfold Msg.long at hl2
  simp only [Bool.or_eq_false_iff, decide_eq_false_iff_not, List.any_eq_false, decide_eq_true_eq] at hl2
  obtain ⟨⟨⟨⟨⟨l1, l2⟩, l3⟩, l4⟩, l5⟩, l6⟩ := hl2
  have hes : ∀ e ∈ m.list, e.name.size ≤ 4096 ∧ U64 e.ino ∧ U64 e.cookie := fun e he => ⟨by have := l5 e he; omega, (hk.list e he).2.1, (hk.list e he).2.2⟩
  have hsh : m.short = true := decide_eq_true (fun _ => by omega)
  have hll : m.list.length < 256 ^ 4 := by have : (256 : Nat) ^ 4 = 4294967296 := by decide
                                           omega
  have he1 : m.eof.toNat < 256 ^ 1 := by cases m.eof <;> decide
  have hN : ∀ (σ : Wr) b, σ.c = 0 ∨ σ.c = 2200 → ¬ (σ.c = 2201 ∨ m.short = false ∨ b = true) ∨ b = true := fun σ b h => by
    cases b
    · left; rintro (h2 | h2 | h2)
      · rcases h with h | h <;> (rw [h] at h2; revert h2; decide)
      · rw [hsh] at h2; cases h2
      · cases h2
    · right; rfl
  have bad : ∀ σ : Wr, σ.c = 2200 → encV σ m.fine m.short m.long m.bare = ([], 2200) := fun σ h =>
    encV_form (by rw [hl', hsh, h]; decide) (.inl (by rw [h]; decide))
  have good : ∀ l : List UInt8, m.fine = true → encV (Wr.put ⟨0, []⟩ l) m.fine m.short m.long m.bare = if m.bare = false then ([], 2200) else (l, 0) := fun l hf => by
    by_cases hb : m.bare = false
    · rw [if_pos hb, encV_form (by rw [hl', hsh]; simp [Wr.put]) (.inr (.inr hb))]
    · rw [if_neg hb, encV_ok (by rw [hl', hsh]; simp [Wr.put]) (by rw [hf]; simp [Wr.put, hb])]
      rfl
  by_cases h1 : m.kind = 1
  · have hf : m.fine = true := decide_eq_true (.inl h1)
    have hbare : m.bare = (m.noAns && ((m.boot == 0) && stampEq m.gb m.gn 0 0)) := by unfold Msg.bare bareV Msg.noAns; rw [if_pos (by simp [h1])]
    have hmay : m.mayB = (smallB m.op && m.noAns && (m.boot == 0) && stampEq m.gb m.gn 0 0) := by unfold Msg.mayB; rw [if_pos h1]
    have hfl : Wr.fields ⟨0, []⟩ m = Wr.call ⟨0, []⟩ m := by unfold Wr.fields; rw [if_pos h1]
    have hkd : u64of m.kind = m.kind.toNat ∧ m.kind.toNat < 256 ^ 1 ∧ (m.kind % 256).toNat = m.kind.toNat := smallB_lt (by rw [h1]; rfl)
    rw [hfl]
    cases hs : smallB m.op with
    | true =>
      obtain ⟨o1, o2, o3⟩ := smallB_lt hs
      have hcall : Wr.call ⟨0, []⟩ m = Wr.put ⟨0, []⟩ m.layL := by
        unfold Wr.call Wr.ask Msg.layL Msg.headL one1
        rw [if_pos h1, hkd.1, hkd.2.2, o1, o3, Wr.num_ok _ _ _ hkd.2.1, Wr.num_ok _ _ _ (u32_lt hk.client), Wr.num_ok _ _ _ (u64_lt hk.xid), Wr.num_ok _ _ _ o2, Wr.text_ok _ _ (by omega), Wr.text_ok _ _ (by omega), Wr.num_ok _ _ _ (u64_lt hk.off), Wr.num_ok _ _ _ (u64_lt hk.num), Wr.text_ok _ _ (by omega)]
        simp only [Wr.put_put, List.append_assoc]
      rw [hcall, good _ hf, hbare, hmay, hs, Bool.true_and, Bool.and_assoc]
      exact pick m _
    | false =>
      have hc : (Wr.call ⟨0, []⟩ m).c = 2200 := by
        unfold Wr.call Wr.ask
        rw [hkd.1, Wr.num_ok _ _ _ hkd.2.1, Wr.num_ok _ _ _ (u32_lt hk.client), Wr.num_ok _ _ _ (u64_lt hk.xid)]
        exact Wr.text_stay _ _ (Wr.num_stay _ _ _ (Wr.num_stay _ _ _ (Wr.text_stay _ _ (Wr.text_stay _ _ (Wr.put_stay _ _ (Wr.put_stay _ _ (Wr.num_bad _ _ _ rfl (smallB_ge hk.op hs))))))))
      rw [bad _ hc, hmay, hs]
      rfl
  by_cases h2 : m.kind = 2
  · have hf : m.fine = true := decide_eq_true (.inr (.inl h2))
    have hbare : m.bare = askEq m.op m.h.ex m.h.snap m.h.ino m.h.gen m.h2.ex m.h2.snap m.h2.ino m.h2.gen m.name m.name2 m.off m.num m.data 0 0 0 0 0 0 0 0 0 ⟨#[]⟩ ⟨#[]⟩ 0 0 ⟨#[]⟩ := by unfold Msg.bare bareV; rw [if_neg (by simp [h2]), if_pos (by simp [h2])]
    have hmay : m.mayB = (askEq m.op m.h.ex m.h.snap m.h.ino m.h.gen m.h2.ex m.h2.snap m.h2.ino m.h2.gen m.name m.name2 m.off m.num m.data 0 0 0 0 0 0 0 0 0 ⟨#[]⟩ ⟨#[]⟩ 0 0 ⟨#[]⟩ && smallB m.status && smallB m.akind) := by unfold Msg.mayB; rw [if_neg h1, if_pos h2]
    have hfl : Wr.fields ⟨0, []⟩ m = Wr.reply ⟨0, []⟩ m := by unfold Wr.fields; rw [if_neg h1, if_pos h2, if_pos (by omega)]
    have hkd : u64of m.kind = m.kind.toNat ∧ m.kind.toNat < 256 ^ 1 ∧ (m.kind % 256).toNat = m.kind.toNat := smallB_lt (by rw [h2]; rfl)
    rw [hfl]
    cases hs : smallB m.status with
    | true =>
      obtain ⟨o1, o2, o3⟩ := smallB_lt hs
      cases hs2 : smallB m.akind with
      | true =>
        obtain ⟨q1, q2, q3⟩ := smallB_lt hs2
        have hcall : Wr.reply ⟨0, []⟩ m = Wr.put ⟨0, []⟩ m.layL := by
          unfold Wr.reply Wr.stamp Msg.layL Msg.headL one1 tailL
          rw [if_neg h1, if_pos h2, hkd.1, hkd.2.2, o1, o3, q1, q3, Wr.num_ok _ _ _ hkd.2.1, Wr.num_ok _ _ _ (u32_lt hk.client), Wr.num_ok _ _ _ (u64_lt hk.xid), Wr.num_ok _ _ _ o2, Wr.num_ok _ _ _ q2, Wr.num_ok _ _ _ (u32_lt hk.links), Wr.num_ok _ _ _ (u64_lt hk.size), Wr.num_ok _ _ _ (u64_lt hk.change), Wr.text_ok _ _ (by omega), Wr.num_ok _ _ _ he1, Wr.num_ok _ _ _ (u64_lt hk.anum), Wr.num_ok _ _ _ hll, Wr.ents_ok _ hes, Wr.num_ok _ _ _ (u64_lt hk.boot), Wr.num_ok _ _ _ (u64_lt hk.gb), Wr.num_ok _ _ _ (u64_lt hk.gn)]
          simp only [Wr.put_put, List.append_assoc]
        rw [hcall, good _ hf, hbare, hmay, hs, hs2, Bool.and_true, Bool.and_true]
        exact pick m _
      | false =>
        have hc : (Wr.reply ⟨0, []⟩ m).c = 2200 := by
          unfold Wr.reply Wr.stamp
          rw [hkd.1, o1, Wr.num_ok _ _ _ hkd.2.1, Wr.num_ok _ _ _ (u32_lt hk.client), Wr.num_ok _ _ _ (u64_lt hk.xid), Wr.num_ok _ _ _ o2]
          refine Wr.num_stay _ _ _ (Wr.num_stay _ _ _ (Wr.num_stay _ _ _ (Wr.ents_stay _ _ (Wr.num_stay _ _ _ (Wr.num_stay _ _ _ (Wr.num_stay _ _ _ (Wr.text_stay _ _ (Wr.num_stay _ _ _ (Wr.num_stay _ _ _ (Wr.num_stay _ _ _ (Wr.num_bad _ _ _ ?_ (smallB_ge hk.akind hs2))))))))))))
          rfl
        rw [bad _ hc, hmay, hs, hs2, Bool.and_false]
        rfl
    | false =>
      have hc : (Wr.reply ⟨0, []⟩ m).c = 2200 := by
        unfold Wr.reply Wr.stamp
        rw [hkd.1, Wr.num_ok _ _ _ hkd.2.1, Wr.num_ok _ _ _ (u32_lt hk.client), Wr.num_ok _ _ _ (u64_lt hk.xid)]
        refine Wr.num_stay _ _ _ (Wr.num_stay _ _ _ (Wr.num_stay _ _ _ (Wr.ents_stay _ _ (Wr.num_stay _ _ _ (Wr.num_stay _ _ _ (Wr.num_stay _ _ _ (Wr.text_stay _ _ (Wr.num_stay _ _ _ (Wr.num_stay _ _ _ (Wr.num_stay _ _ _ (Wr.num_stay _ _ _ (Wr.put_stay _ _ (Wr.num_bad _ _ _ ?_ (smallB_ge hk.status hs))))))))))))))
        rfl
      rw [bad _ hc, hmay, hs, Bool.and_false, Bool.false_and]
      rfl
  by_cases h3 : m.kind = 3 ∨ m.kind = 4
  · have hf : m.fine = true := decide_eq_true (by omega)
    have hbare : m.bare = (m.noAns && askEq m.op 0 0 0 0 m.h2.ex m.h2.snap m.h2.ino m.h2.gen m.name m.name2 m.off m.num m.data 0 0 0 0 0 0 0 0 0 ⟨#[]⟩ ⟨#[]⟩ 0 0 ⟨#[]⟩) := by unfold Msg.bare bareV Msg.noAns; rw [if_neg (by simp [h1]), if_neg (by simp [h2])]
    have hmay : m.mayB = (askEq m.op 0 0 0 0 m.h2.ex m.h2.snap m.h2.ino m.h2.gen m.name m.name2 m.off m.num m.data 0 0 0 0 0 0 0 0 0 ⟨#[]⟩ ⟨#[]⟩ 0 0 ⟨#[]⟩ && m.noAns) := by unfold Msg.mayB; rw [if_neg h1, if_neg h2, if_pos h3, ask_swap]
    have hfl : Wr.fields ⟨0, []⟩ m = Wr.back ⟨0, []⟩ m := by unfold Wr.fields; rw [if_neg h1, if_neg h2, if_pos h3]
    have hkd : u64of m.kind = m.kind.toNat ∧ m.kind.toNat < 256 ^ 1 ∧ (m.kind % 256).toNat = m.kind.toNat := smallB_lt (by rcases h3 with h | h <;> (rw [h]; rfl))
    have hcall : Wr.back ⟨0, []⟩ m = Wr.put ⟨0, []⟩ m.layL := by
      unfold Wr.back Wr.stamp Msg.layL Msg.headL one1 tailL
      rw [if_neg h1, if_neg h2, hkd.1, hkd.2.2, Wr.num_ok _ _ _ hkd.2.1, Wr.num_ok _ _ _ (u32_lt hk.client), Wr.num_ok _ _ _ (u64_lt hk.xid), Wr.num_ok _ _ _ (u64_lt hk.boot), Wr.num_ok _ _ _ (u64_lt hk.gb), Wr.num_ok _ _ _ (u64_lt hk.gn)]
      simp only [Wr.put_put, List.append_assoc]
    rw [hfl, hcall, good _ hf, hbare, hmay, Bool.and_comm]
    exact pick m _
  · have hf : m.fine = false := decide_eq_false (by omega)
    have hmay : m.mayB = false := by unfold Msg.mayB; rw [if_neg h1, if_neg h2, if_neg h3]
    have hfl : Wr.fields ⟨0, []⟩ m = Wr.head ⟨0, []⟩ m := by unfold Wr.fields; rw [if_neg h1, if_neg h2, if_neg h3]
    have hc : (Wr.head ⟨0, []⟩ m).c = 0 ∨ (Wr.head ⟨0, []⟩ m).c = 2200 := by
      unfold Wr.head
      by_cases hx : u64of m.kind < 256 ^ 1
      · left
        rw [Wr.num_ok _ _ _ hx, Wr.num_ok _ _ _ (u32_lt hk.client), Wr.num_ok _ _ _ (u64_lt hk.xid)]
        rfl
      · right
        exact Wr.num_stay _ _ _ (Wr.num_stay _ _ _ (Wr.num_bad _ _ _ rfl hx))
    have hb : ¬ ((Wr.head ⟨0, []⟩ m).c = 2201 ∨ m.short = false ∨ m.long = true) := by
      rw [hsh, hl']
      rintro (h | h | h)
      · rcases hc with h' | h' <;> (rw [h'] at h; revert h; decide)
      · cases h
      · cases h
    rw [hfl, encV_form hb (.inr (.inl hf)), hmay]
    rfl

end Go.Proofs.Ytibcadfpengacaa

-- PlainD
set_option linter.unusedVariables false
set_option linter.unusedSimpArgs false
namespace Go.Proofs.Ytibcadfpengacaa
open Go.RowKit Go.Lib

def mk (l : List UInt8) : Rd := ⟨0, ⟨l.toArray⟩⟩
theorem mk_size (l : List UInt8) : (mk l).s.size = l.length := by
  show l.toArray.size = l.length
  simp
theorem took_mk (a t : List UInt8) (n : Nat) (h : a.length = n) : (mk (a ++ t)).took n = ⟨a.toArray⟩ := by
  unfold Rd.took
  rw [if_neg (by rw [mk_size, List.length_append]; omega), extract_eq]
  subst h
  show (⟨(List.take (a.length - 0) (List.drop 0 (a ++ t).toArray.toList)).toArray⟩ : ByteArray) = _
  simp
theorem left_mk (a t : List UInt8) (n : Nat) (h : a.length = n) : (mk (a ++ t)).left n = mk t := by
  unfold Rd.left
  have hs : (mk (a ++ t)).s.size = a.length + t.length := by rw [mk_size, List.length_append]
  rw [if_neg (by omega), extract_eq, hs]
  subst h
  show (⟨0, ⟨(List.take (a.length + t.length - a.length) (List.drop a.length (a ++ t).toArray.toList)).toArray⟩⟩ : Rd) = _
  simp [mk]
theorem ofS_leB (x n : Nat) (h1 : 1 ≤ n) (h8 : n ≤ 8) (hx : x < 256 ^ n) : ofS ⟨(leB x n).toArray⟩ = x := by
  unfold ofS
  have hs : (⟨(leB x n).toArray⟩ : ByteArray).size = n := leS_size x n
  rw [if_pos ⟨by omega, by omega⟩]
  exact ofLe_leB n x hx
theorem num_mk (x n : Nat) (h1 : 1 ≤ n) (h8 : n ≤ 8) (hx : x < 256 ^ n) (t : List UInt8) : (mk (leB x n ++ t)).num n = x := by
  unfold Rd.num
  rw [took_mk _ _ _ (leB_length _ _), ofS_leB x n h1 h8 hx]
theorem leftn_mk (x n : Nat) (t : List UInt8) : (mk (leB x n ++ t)).left n = mk t := left_mk _ _ _ (leB_length _ _)
theorem lay_length (h : Hd) : h.lay.length = 28 := by simp [Hd.lay, leB_length]
theorem tookh_mk (h : Hd) (t : List UInt8) : (mk (h.lay ++ t)).took 28 = ⟨h.lay.toArray⟩ := took_mk _ _ _ (lay_length h)
theorem lefth_mk (h : Hd) (t : List UInt8) : (mk (h.lay ++ t)).left 28 = mk t := left_mk _ _ _ (lay_length h)
theorem decH_lay (h : Hd) (hk : h.Ok) : decH ⟨h.lay.toArray⟩ = h := by
  have hs : (⟨h.lay.toArray⟩ : ByteArray).size = 28 := by
    show h.lay.toArray.size = 28
    rw [List.size_toArray, lay_length]
  unfold decH
  rw [if_pos hs]
  simp only [extract_eq]
  have l4 := leB_length 4 h.ex.toNat
  have l8a := leB_length 8 h.snap.toNat
  have l8b := leB_length 8 h.ino.toNat
  have l8c := leB_length 8 h.gen.toNat
  have e1 : (List.take (4 - 0) (List.drop 0 h.lay)) = leB h.ex.toNat 4 := by
    unfold Hd.lay
    rw [List.append_assoc, List.append_assoc, List.drop_zero, List.take_append_of_le_length (by omega), List.take_of_length_le (by omega)]
  have e2 : (List.take (12 - 4) (List.drop 4 h.lay)) = leB h.snap.toNat 8 := by
    unfold Hd.lay
    rw [List.append_assoc, List.append_assoc, List.drop_append_of_le_length (by omega), List.drop_eq_nil_of_le (by omega), List.nil_append, List.take_append_of_le_length (by omega), List.take_of_length_le (by omega)]
  have e3 : (List.take (20 - 12) (List.drop 12 h.lay)) = leB h.ino.toNat 8 := by
    unfold Hd.lay
    rw [List.append_assoc, List.drop_append_of_le_length (by rw [List.length_append]; omega), List.drop_eq_nil_of_le (by rw [List.length_append]; omega), List.nil_append, List.take_append_of_le_length (by omega), List.take_of_length_le (by omega)]
  have e4 : (List.take (28 - 20) (List.drop 20 h.lay)) = leB h.gen.toNat 8 := by
    unfold Hd.lay
    rw [List.drop_append_of_le_length (by rw [List.length_append, List.length_append]; omega), List.drop_eq_nil_of_le (by rw [List.length_append, List.length_append]; omega), List.nil_append, List.take_of_length_le (by omega)]
  have f1 : (256 : Nat) ^ 4 = 4294967296 := by decide
  have f2 : (256 : Nat) ^ 8 = 18446744073709551616 := by decide
  obtain ⟨a0, a1, b0, b1, c0, c1, d0, d1⟩ := hk
  rw [e1, e2, e3, e4, ofS_leB _ _ (by omega) (by omega) (by omega), ofS_leB _ _ (by omega) (by omega) (by omega), ofS_leB _ _ (by omega) (by omega) (by omega), ofS_leB _ _ (by omega) (by omega) (by omega)]
  cases h
  simp only [Hd.mk.injEq]
  exact ⟨Int.toNat_of_nonneg a0, Int.toNat_of_nonneg b0, Int.toNat_of_nonneg c0, Int.toNat_of_nonneg d0⟩
theorem text_mk (s : ByteArray) (h : s.size ≤ 4096) (old : ByteArray) (t : List UInt8) : (mk (txt s ++ t)).textS old = s ∧ (mk (txt s ++ t)).textR = mk t := by
  have f1 : (256 : Nat) ^ 4 = 4294967296 := by decide
  have e : txt s ++ t = leB s.size 4 ++ (s.data.toList ++ (List.replicate (padN s.size) 0 ++ t)) := by unfold txt; simp only [List.append_assoc]
  have hn := num_mk s.size 4 (by omega) (by omega) (by omega) (s.data.toList ++ (List.replicate (padN s.size) 0 ++ t))
  have hl := leftn_mk s.size 4 (s.data.toList ++ (List.replicate (padN s.size) 0 ++ t))
  have hsz : s.data.toList.length = s.size := by rw [Array.length_toList]; rfl
  have ht := took_mk s.data.toList (List.replicate (padN s.size) 0 ++ t) s.size hsz
  have hl2 := left_mk s.data.toList (List.replicate (padN s.size) 0 ++ t) s.size hsz
  have ht3 := took_mk (List.replicate (padN s.size) 0) t (padN s.size) (by simp)
  have hl3 := left_mk (List.replicate (padN s.size) 0) t (padN s.size) (by simp)
  rw [e]
  unfold Rd.textS Rd.textR
  rw [hn, if_neg (by omega), if_neg (by omega), hl, ht, hl2, ht3, hl3, if_pos ?_]
  · exact ⟨rfl, rfl⟩
  · unfold allZ
    simp
theorem ents_mk (es : List Ent) (h : ∀ e ∈ es, e.name.size ≤ 4096 ∧ U64 e.ino ∧ U64 e.cookie) (t : List UInt8) : ∀ k, k ≤ es.length →
    (mk (es.flatMap entL ++ t)).ents k = (es.take k, mk ((es.drop k).flatMap entL ++ t)) := by
  intro k
  induction k with
  | zero => intro _; simp [Rd.ents]
  | succ k ih =>
    intro hk
    have hkl : k < es.length := by omega
    rw [Rd.ents, ih (by omega)]
    dsimp only
    obtain ⟨h1, h2, h3⟩ := h _ (List.getElem_mem hkl)
    rw [List.drop_eq_getElem_cons hkl, List.flatMap_cons, List.take_succ_eq_append_getElem hkl]
    generalize es[k] = e at *
    have e1 : entL e ++ (es.drop (k + 1)).flatMap entL ++ t = txt e.name ++ (leB e.ino.toNat 8 ++ (leB e.cookie.toNat 8 ++ ((es.drop (k + 1)).flatMap entL ++ t))) := by unfold entL; simp only [List.append_assoc]
    rw [e1]
    have t1 := text_mk e.name h1 ⟨#[]⟩ (leB e.ino.toNat 8 ++ (leB e.cookie.toNat 8 ++ ((es.drop (k + 1)).flatMap entL ++ t)))
    unfold Rd.entV Rd.entR
    rw [t1.1, t1.2, num_mk _ 8 (by omega) (by omega) (u64_lt h2), leftn_mk, num_mk _ 8 (by omega) (by omega) (u64_lt h3), leftn_mk]
    congr 2
    cases e
    simp only [Ent.mk.injEq, List.cons.injEq, and_true, true_and]
    exact ⟨Int.toNat_of_nonneg h2.1, Int.toNat_of_nonneg h3.1⟩

/-! ### What may be has zeros elsewhere -/
theorem ba_nil {s : ByteArray} (h : s.toList.isEmpty = true) : s = ⟨#[]⟩ := r_nil (by simpa using h)
theorem ba_eq {s t : ByteArray} (h : (s.toList == t.toList) = true) : s = t := by
  have := eq_of_beq h
  rw [ByteArray.toList_eq, ByteArray.toList_eq] at this
  exact ByteArray.ext (Array.toList_inj.1 this)
theorem hdEq_zero {a b c d : Int} (h : hdEq a b c d 0 0 0 0 = true) : (⟨a, b, c, d⟩ : Hd) = Hd.zero := by
  unfold hdEq at h
  simp only [Bool.and_eq_true, beq_iff_eq] at h
  obtain ⟨h1, h2, h3, h4⟩ := h
  rw [h1, h2, h3, h4]
  rfl
theorem noAns_zero {m : Msg} (h : m.noAns = true) : m.status = 0 ∧ m.ah = Hd.zero ∧ m.akind = 0 ∧ m.links = 0 ∧ m.size = 0 ∧ m.change = 0 ∧ m.adata = ⟨#[]⟩ ∧ m.eof = false ∧ m.anum = 0 ∧ m.list = [] := by
  unfold Msg.noAns noAns at h
  simp only [Bool.and_eq_true, beq_iff_eq, Bool.not_eq_true', attrEq] at h
  obtain ⟨⟨⟨⟨⟨⟨h1, h2⟩, h3, h4, h5, h6⟩, h7⟩, h8⟩, h9⟩, h10⟩ := h
  exact ⟨h1, hdEq_zero h2, h3, h4, h5, h6, ba_nil h7, h8, h9, List.eq_nil_of_length_eq_zero (by omega)⟩
theorem ask_zero {m : Msg} (h : askEq m.op m.h.ex m.h.snap m.h.ino m.h.gen m.h2.ex m.h2.snap m.h2.ino m.h2.gen m.name m.name2 m.off m.num m.data 0 0 0 0 0 0 0 0 0 ⟨#[]⟩ ⟨#[]⟩ 0 0 ⟨#[]⟩ = true) :
    m.op = 0 ∧ m.h = Hd.zero ∧ m.h2 = Hd.zero ∧ m.name = ⟨#[]⟩ ∧ m.name2 = ⟨#[]⟩ ∧ m.off = 0 ∧ m.num = 0 ∧ m.data = ⟨#[]⟩ := by
  unfold askEq at h
  simp only [Bool.and_eq_true] at h
  obtain ⟨h1, h2, h3, h4, h5, h6, h7, h8⟩ := h
  exact ⟨by simpa using h1, hdEq_zero h2, hdEq_zero h3, ba_eq h4, ba_eq h5, by simpa using h6, by simpa using h7, ba_eq h8⟩
theorem ask_zero2 {m : Msg} {a b c d : Int} (h : askEq m.op a b c d m.h2.ex m.h2.snap m.h2.ino m.h2.gen m.name m.name2 m.off m.num m.data 0 a b c d 0 0 0 0 ⟨#[]⟩ ⟨#[]⟩ 0 0 ⟨#[]⟩ = true) :
    m.op = 0 ∧ m.h2 = Hd.zero ∧ m.name = ⟨#[]⟩ ∧ m.name2 = ⟨#[]⟩ ∧ m.off = 0 ∧ m.num = 0 ∧ m.data = ⟨#[]⟩ := by
  unfold askEq at h
  simp only [Bool.and_eq_true] at h
  obtain ⟨h1, h2, h3, h4, h5, h6, h7, h8⟩ := h
  exact ⟨by simpa using h1, hdEq_zero h3, ba_eq h4, ba_eq h5, by simpa using h6, by simpa using h7, ba_eq h8⟩

/-- A message that Encode takes. -/
structure Msg.Val (m : Msg) : Prop where
  ok : m.Ok
  short : m.long = false
  may : m.mayB = true

theorem nat_toNat {x : Int} (h : 0 ≤ x) : ((x.toNat : Nat) : Int) = x := Int.toNat_of_nonneg h

set_option maxRecDepth 100000 in
theorem dec_lay (m : Msg) (hv : m.Val) (t : List UInt8) : rdM (mk (m.layL ++ t)) = m ∧ rdR (mk (m.layL ++ t)) = mk t ∧ rdFine (mk (m.layL ++ t)) = true ∧ rdShort (mk (m.layL ++ t)) = true := by
  obtain ⟨hk, hl2, hm⟩ := hv
  unfold Msg.long at hl2
  simp only [Bool.or_eq_false_iff, decide_eq_false_iff_not, List.any_eq_false, decide_eq_true_eq] at hl2
  obtain ⟨⟨⟨⟨⟨l1, l2⟩, l3⟩, l4⟩, l5⟩, l6⟩ := hl2
  have hes : ∀ e ∈ m.list, e.name.size ≤ 4096 ∧ U64 e.ino ∧ U64 e.cookie := fun e he => ⟨by have := l5 e he; omega, (hk.list e he).2.1, (hk.list e he).2.2⟩
  have hll : m.list.length < 256 ^ 4 := by have : (256 : Nat) ^ 4 = 4294967296 := by decide
                                           omega
  have he1 : m.eof.toNat < 256 ^ 1 := by cases m.eof <;> decide
  have he2 : m.eof.toNat < 2 := by cases m.eof <;> decide
  have n4 : ∀ x : Int, U32 x → ∀ t, (mk (leB x.toNat 4 ++ t)).num 4 = x.toNat := fun x h t => num_mk _ 4 (by omega) (by omega) (u32_lt h) t
  have n8 : ∀ x : Int, U64 x → ∀ t, (mk (leB x.toNat 8 ++ t)).num 8 = x.toNat := fun x h t => num_mk _ 8 (by omega) (by omega) (u64_lt h) t
  have hf4 : (256 : Nat) ^ 1 = 256 := by decide
  have n1 : ∀ x : Int, smallB x = true → ∀ t, (mk (one1 x ++ t)).num 1 = x.toNat := fun x h t => by
    obtain ⟨a, b, c⟩ := smallB_lt h
    unfold one1
    rw [c]
    exact num_mk _ 1 (by omega) (by omega) b t
  have q1 : ∀ (x : Int) t, (mk (one1 x ++ t)).left 1 = mk t := fun x t => leftn_mk _ _ _
  unfold Msg.mayB at hm
  by_cases h1 : m.kind = 1
  · rw [if_pos h1] at hm
    simp only [Bool.and_eq_true, beq_iff_eq] at hm
    obtain ⟨⟨⟨s1, z1⟩, z2⟩, z3⟩ := hm
    obtain ⟨a1, a2, a3, a4, a5, a6, a7, a8, a9, a10⟩ := noAns_zero z1
    have z3' : m.gb = 0 ∧ m.gn = 0 := by unfold stampEq at z3; simpa using z3
    have hlay : m.layL ++ t = one1 m.kind ++ (leB m.client.toNat 4 ++ (leB m.xid.toNat 8 ++ (one1 m.op ++ (m.h.lay ++ (m.h2.lay ++ (txt m.name ++ (txt m.name2 ++ (leB m.off.toNat 8 ++ (leB m.num.toNat 8 ++ (txt m.data ++ t)))))))))) := by
      unfold Msg.layL Msg.headL
      rw [if_pos h1]
      simp only [List.append_assoc]
    have hk1 : smallB m.kind = true := by rw [h1]; rfl
    have d0 := fun t => n1 m.kind hk1 t
    have d1 : ∀ old t, (mk (txt m.name ++ t)).textS old = m.name := fun old t => (text_mk m.name (by omega) old t).1
    have d2 : ∀ t, (mk (txt m.name ++ t)).textR = mk t := fun t => (text_mk m.name (by omega) ⟨#[]⟩ t).2
    have d3 : ∀ old t, (mk (txt m.name2 ++ t)).textS old = m.name2 := fun old t => (text_mk m.name2 (by omega) old t).1
    have d4 : ∀ t, (mk (txt m.name2 ++ t)).textR = mk t := fun t => (text_mk m.name2 (by omega) ⟨#[]⟩ t).2
    have d5 : ∀ old t, (mk (txt m.data ++ t)).textS old = m.data := fun old t => (text_mk m.data (by omega) old t).1
    have d6 : ∀ t, (mk (txt m.data ++ t)).textR = mk t := fun t => (text_mk m.data (by omega) ⟨#[]⟩ t).2
    have hkn : (mk (m.layL ++ t)).num 1 = 1 := by rw [hlay, d0, h1]; rfl
    refine ⟨?_, ?_, ?_, ?_⟩
    · unfold rdM
      rw [if_pos hkn, hlay]
      unfold callM askM
      simp only [d0, q1, n4 _ hk.client, leftn_mk, n8 _ hk.xid, n1 _ s1, tookh_mk, lefth_mk, decH_lay _ hk.h, decH_lay _ hk.h2, d1, d2, d3, d4, d5, d6, n8 _ hk.off, n8 _ hk.num]
      have s1' : 0 ≤ m.op := (show 0 ≤ m.op ∧ m.op ≤ 255 from of_decide_eq_true s1).1
      rw [nat_toNat (show 0 ≤ m.kind by omega), nat_toNat hk.client.1, nat_toNat hk.xid.1, nat_toNat s1', nat_toNat hk.off.1, nat_toNat hk.num.1]
      obtain ⟨⟩ := m
      simp only at a1 a2 a3 a4 a5 a6 a7 a8 a9 a10 z2 z3'
      obtain ⟨z5, z4⟩ := z3'
      subst a1 a2 a3 a4 a5 a6 a7 a8 a9 a10 z2 z5 z4
      rfl
    · unfold rdR
      rw [if_pos hkn, hlay]
      unfold callR askR
      simp only [q1, leftn_mk, lefth_mk, d2, d4, d6]
    · unfold rdFine
      rw [hkn]
      rfl
    · unfold rdShort
      rw [hkn]
      rfl
  by_cases h2 : m.kind = 2
  · rw [if_neg h1, if_pos h2] at hm
    simp only [Bool.and_eq_true] at hm
    obtain ⟨⟨z1, s1⟩, s2⟩ := hm
    obtain ⟨a1, a2, a3, a4, a5, a6, a7, a8⟩ := ask_zero z1
    have hlay : m.layL ++ t = one1 m.kind ++ (leB m.client.toNat 4 ++ (leB m.xid.toNat 8 ++ (one1 m.status ++ (m.ah.lay ++ (one1 m.akind ++ (leB m.links.toNat 4 ++ (leB m.size.toNat 8 ++ (leB m.change.toNat 8 ++ (txt m.adata ++ (leB m.eof.toNat 1 ++ (leB m.anum.toNat 8 ++ (leB m.list.length 4 ++ (m.list.flatMap entL ++ (leB m.boot.toNat 8 ++ (leB m.gb.toNat 8 ++ (leB m.gn.toNat 8 ++ t)))))))))))))))) := by
      unfold Msg.layL Msg.headL tailL
      rw [if_neg h1, if_pos h2]
      simp only [List.append_assoc]
    have hk1 : smallB m.kind = true := by rw [h2]; rfl
    have d0 := fun t => n1 m.kind hk1 t
    have d1 : ∀ old t, (mk (txt m.adata ++ t)).textS old = m.adata := fun old t => (text_mk m.adata (by omega) old t).1
    have d2 : ∀ t, (mk (txt m.adata ++ t)).textR = mk t := fun t => (text_mk m.adata (by omega) ⟨#[]⟩ t).2
    have hkn : (mk (m.layL ++ t)).num 1 = 2 := by rw [hlay, d0, h2]; rfl
    have ne : ∀ t, (mk (leB m.eof.toNat 1 ++ t)).num 1 = m.eof.toNat := fun t => num_mk _ 1 (by omega) (by omega) he1 t
    have nl : ∀ t, (mk (leB m.list.length 4 ++ t)).num 4 = m.list.length := fun t => num_mk _ 4 (by omega) (by omega) hll t
    have ee := ents_mk m.list hes (leB m.boot.toNat 8 ++ (leB m.gb.toNat 8 ++ (leB m.gn.toNat 8 ++ t))) m.list.length (Nat.le_refl _)
    rw [List.take_length, List.drop_length, List.flatMap_nil, List.nil_append] at ee
    have hrep : repR (mk (m.layL ++ t)) = mk (leB m.list.length 4 ++ (m.list.flatMap entL ++ (leB m.boot.toNat 8 ++ (leB m.gb.toNat 8 ++ (leB m.gn.toNat 8 ++ t))))) := by
      rw [hlay]
      unfold repR
      simp only [q1, leftn_mk, lefth_mk, d2]
    have hrl : rdL (mk (m.layL ++ t)) = (m.list, mk (leB m.boot.toNat 8 ++ (leB m.gb.toNat 8 ++ (leB m.gn.toNat 8 ++ t)))) := by
      unfold rdL
      rw [hrep, leftn_mk, nl, ee]
    have hn64 : (repR (mk (m.layL ++ t))).num 4 ≤ 64 := by rw [hrep, nl]; omega
    refine ⟨?_, ?_, ?_, ?_⟩
    · unfold rdM
      rw [if_neg (by omega), if_pos hkn, if_pos hn64, hrl]
      dsimp only
      unfold stampM repM
      rw [hlay]
      simp only [d0, q1, n4 _ hk.client, leftn_mk, n8 _ hk.xid, n1 _ s1, n1 _ s2, tookh_mk, lefth_mk, decH_lay _ hk.ah, d1, d2, n4 _ hk.links, n8 _ hk.size, n8 _ hk.change, ne, n8 _ hk.anum, n8 _ hk.boot, n8 _ hk.gb, n8 _ hk.gn]
      have s1' : 0 ≤ m.status := (show 0 ≤ m.status ∧ m.status ≤ 255 from of_decide_eq_true s1).1
      have s2' : 0 ≤ m.akind := (show 0 ≤ m.akind ∧ m.akind ≤ 255 from of_decide_eq_true s2).1
      rw [nat_toNat (show 0 ≤ m.kind by omega), nat_toNat hk.client.1, nat_toNat hk.xid.1, nat_toNat s1', nat_toNat s2', nat_toNat hk.links.1, nat_toNat hk.size.1, nat_toNat hk.change.1, nat_toNat hk.anum.1, nat_toNat hk.boot.1, nat_toNat hk.gb.1, nat_toNat hk.gn.1]
      obtain ⟨⟩ := m
      rename_i eof _ _ _ _ _
      simp only at a1 a2 a3 a4 a5 a6 a7 a8
      subst a1 a2 a3 a4 a5 a6 a7 a8
      cases eof <;> rfl
    · unfold rdR
      rw [if_neg (by omega), if_pos hkn, if_pos hn64, hrl]
      dsimp only
      unfold stampR
      simp only [leftn_mk]
    · unfold rdFine
      rw [if_pos hkn, hlay]
      unfold flR
      simp only [q1, leftn_mk, lefth_mk, d2, ne]
      exact decide_eq_true (by omega)
    · exact decide_eq_true (fun _ => hn64)
  by_cases h3 : m.kind = 3 ∨ m.kind = 4
  · rw [if_neg h1, if_neg h2, if_pos h3] at hm
    simp only [Bool.and_eq_true] at hm
    obtain ⟨z0, z1⟩ := hm
    obtain ⟨a1, a2, a3, a4, a5, a6, a7, a8, a9, a10⟩ := noAns_zero z1
    obtain ⟨b1, b2, b3, b4, b5, b6, b7⟩ := ask_zero2 z0
    have hlay : m.layL ++ t = one1 m.kind ++ (leB m.client.toNat 4 ++ (leB m.xid.toNat 8 ++ (m.h.lay ++ (leB m.boot.toNat 8 ++ (leB m.gb.toNat 8 ++ (leB m.gn.toNat 8 ++ t)))))) := by
      unfold Msg.layL Msg.headL tailL
      rw [if_neg h1, if_neg h2]
      simp only [List.append_assoc]
    have hk1 : smallB m.kind = true := by rcases h3 with h | h <;> (rw [h]; rfl)
    have d0 := fun t => n1 m.kind hk1 t
    have hkn : (mk (m.layL ++ t)).num 1 = m.kind.toNat := by rw [hlay, d0]
    have g1 : ¬ (mk (m.layL ++ t)).num 1 = 1 := by omega
    have g2 : ¬ (mk (m.layL ++ t)).num 1 = 2 := by omega
    have g3 : (mk (m.layL ++ t)).num 1 = 3 ∨ (mk (m.layL ++ t)).num 1 = 4 := by omega
    refine ⟨?_, ?_, ?_, ?_⟩
    · unfold rdM
      rw [if_neg g1, if_neg g2, if_pos g3, hlay]
      unfold backM stampM
      simp only [d0, q1, n4 _ hk.client, leftn_mk, n8 _ hk.xid, tookh_mk, lefth_mk, decH_lay _ hk.h, n8 _ hk.boot, n8 _ hk.gb, n8 _ hk.gn]
      rw [nat_toNat (show 0 ≤ m.kind by omega), nat_toNat hk.client.1, nat_toNat hk.xid.1, nat_toNat hk.boot.1, nat_toNat hk.gb.1, nat_toNat hk.gn.1]
      obtain ⟨⟩ := m
      simp only at a1 a2 a3 a4 a5 a6 a7 a8 a9 a10 b1 b2 b3 b4 b5 b6 b7
      subst a1 a2 a3 a4 a5 a6 a7 a8 a9 a10 b1 b2 b3 b4 b5 b6 b7
      rfl
    · unfold rdR
      rw [if_neg g1, if_neg g2, if_pos g3, hlay]
      unfold backR stampR
      simp only [q1, leftn_mk, lefth_mk]
    · unfold rdFine
      rw [if_neg g2]
      exact decide_eq_true (by omega)
    · exact decide_eq_true (fun h => absurd h g2)
  · rw [if_neg h1, if_neg h2, if_neg h3] at hm
    cases hm

end Go.Proofs.Ytibcadfpengacaa

-- Awake
set_option linter.unusedVariables false
set_option linter.unusedSimpArgs false
namespace Go.Proofs.Ytibcadfpengacaa
open Go.RowKit Go.Lib Go.Proofs.YtibcadfpengacaaW.PrintWords Go.Proofs.YtibcadfpengacaaW.PrintMore Go.Proofs.YtibcadfpengacaaW.PrintLast

theorem layS_eq (m : Msg) : m.layS = ⟨m.layL.toArray⟩ := by
  refine ByteArray.ext (Array.toList_inj.1 ?_)
  rw [layS_data]
theorem dec_text (m : Msg) (hv : m.Val) (t : List UInt8) : decOk ⟨(m.layL ++ t).toArray⟩ = t.isEmpty ∧ (t = [] → decM ⟨(m.layL ++ t).toArray⟩ = m ∧ decC ⟨(m.layL ++ t).toArray⟩ = 0) ∧ (t ≠ [] → decM ⟨(m.layL ++ t).toArray⟩ = Msg.zero ∧ decC ⟨(m.layL ++ t).toArray⟩ = 2200) := by
  obtain ⟨h1, h2, h3, h4⟩ := dec_lay m hv t
  have hd : decOk ⟨(m.layL ++ t).toArray⟩ = t.isEmpty := by
    unfold decOk
    show decide ((rdR (mk (m.layL ++ t))).c = 0 ∧ (rdR (mk (m.layL ++ t))).s.size = 0 ∧ rdFine (mk (m.layL ++ t)) = true ∧ rdShort (mk (m.layL ++ t)) = true) = _
    rw [h2, h3, h4, mk_size]
    cases t <;> simp [mk]
  refine ⟨hd, fun ht => ?_, fun ht => ?_⟩
  · have : decOk ⟨(m.layL ++ t).toArray⟩ = true := by rw [hd, ht]; rfl
    unfold decM decC
    rw [if_pos this, if_pos this]
    exact ⟨h1, rfl⟩
  · have : ¬ decOk ⟨(m.layL ++ t).toArray⟩ = true := by rw [hd]; simpa using ht
    unfold decM decC
    rw [if_neg this, if_neg this]
    exact ⟨rfl, rfl⟩
theorem dec_layS (m : Msg) (hv : m.Val) : decM m.layS = m ∧ decC m.layS = 0 := by
  have h := (dec_text m hv []).2.1 rfl
  rw [List.append_nil] at h
  rw [layS_eq]
  exact h
theorem enc_val (m : Msg) (hv : m.Val) : m.enc = (m.layL, 0) := by
  rw [enc_eq m hv.ok]
  unfold Msg.refE
  rw [hv.short, hv.may, if_neg (by decide), if_neg (by decide), layS_data]

theorem num_any (e : Int) (w : World) : Calls Try.prog 11 #[.int .i64 e] w fun r w' => r = .returned (.int .i64 e) ∧ w = w' := by
  go_enter Try.func11, Try.ntmps11
  go_wp2
  go_ret
  exact ⟨rfl, rfl⟩

theorem nil_toList : (⟨#[]⟩ : ByteArray).toList = [] := by rw [ByteArray.toList_eq]
end Go.Proofs.Ytibcadfpengacaa

-- Encodes
set_option linter.unusedVariables false
set_option linter.unusedSimpArgs false
namespace Go.Proofs.Ytibcadfpengacaa
open Go.RowKit Go.Lib Go.Proofs.YtibcadfpengacaaW.PrintWords Go.Proofs.YtibcadfpengacaaW.PrintMore Go.Proofs.YtibcadfpengacaaW.PrintLast

theorem Wr.put_l (σ : Wr) (l : List UInt8) : (σ.put l).bs.length = σ.bs.length + l.length := by simp [Wr.put]
theorem Wr.fields_len (m : Msg) : (Wr.fields ⟨0, []⟩ m).bs.length ≤ 1000000 := by
  have n := fun σ x k => Wr.num_len σ x k
  have tl := fun σ s => Wr.text_len σ s
  have p := fun σ (h : Hd) => (Wr.put_l σ h.lay).trans (by rw [lay_length])
  have e := fun σ => Wr.ents_len m.list σ
  have hz : (⟨0, []⟩ : Wr).bs.length = 0 := rfl
  unfold Wr.fields
  split
  · unfold Wr.call Wr.ask
    have h1 := n ⟨0, []⟩ (u64of m.kind) 1
    generalize (Wr.num ⟨0, []⟩ (u64of m.kind) 1) = σ1 at *
    have h2 := n σ1 m.client.toNat 4
    generalize (σ1.num m.client.toNat 4) = σ2 at *
    have h3 := n σ2 m.xid.toNat 8
    generalize (σ2.num m.xid.toNat 8) = σ3 at *
    have h4 := n σ3 (u64of m.op) 1
    generalize (σ3.num (u64of m.op) 1) = σ4 at *
    have h5 := p σ4 m.h
    generalize σ4.put m.h.lay = σ5 at *
    have h6 := p σ5 m.h2
    generalize σ5.put m.h2.lay = σ6 at *
    have h7 := tl σ6 m.name
    generalize σ6.text m.name = σ7 at *
    have h8 := tl σ7 m.name2
    generalize σ7.text m.name2 = σ8 at *
    have h9 := n σ8 m.off.toNat 8
    generalize σ8.num m.off.toNat 8 = σ9 at *
    have h10 := n σ9 m.num.toNat 8
    generalize σ9.num m.num.toNat 8 = σ10 at *
    have h11 := tl σ10 m.data
    omega
  split
  · split
    · rename_i h64
      unfold Wr.reply Wr.stamp
      have h1 := n ⟨0, []⟩ (u64of m.kind) 1
      generalize (Wr.num ⟨0, []⟩ (u64of m.kind) 1) = σ1 at *
      have h2 := n σ1 m.client.toNat 4
      generalize (σ1.num m.client.toNat 4) = σ2 at *
      have h3 := n σ2 m.xid.toNat 8
      generalize (σ2.num m.xid.toNat 8) = σ3 at *
      have h4 := n σ3 (u64of m.status) 1
      generalize (σ3.num (u64of m.status) 1) = σ4 at *
      have h5 := p σ4 m.ah
      generalize σ4.put m.ah.lay = σ5 at *
      have h6 := n σ5 (u64of m.akind) 1
      generalize (σ5.num (u64of m.akind) 1) = σ6 at *
      have h7 := n σ6 m.links.toNat 4
      generalize (σ6.num m.links.toNat 4) = σ7 at *
      have h8 := n σ7 m.size.toNat 8
      generalize (σ7.num m.size.toNat 8) = σ8 at *
      have h9 := n σ8 m.change.toNat 8
      generalize (σ8.num m.change.toNat 8) = σ9 at *
      have h10 := tl σ9 m.adata
      generalize (σ9.text m.adata) = σ10 at *
      have h11 := n σ10 m.eof.toNat 1
      generalize (σ10.num m.eof.toNat 1) = σ11 at *
      have h12 := n σ11 m.anum.toNat 8
      generalize (σ11.num m.anum.toNat 8) = σ12 at *
      have h13 := n σ12 m.list.length 4
      generalize (σ12.num m.list.length 4) = σ13 at *
      have h14 := e σ13
      generalize (σ13.ents m.list) = σ14 at *
      have h15 := n σ14 m.boot.toNat 8
      generalize (σ14.num m.boot.toNat 8) = σ15 at *
      have h16 := n σ15 m.gb.toNat 8
      generalize (σ15.num m.gb.toNat 8) = σ16 at *
      have h17 := n σ16 m.gn.toNat 8
      omega
    · unfold Wr.replyLong
      have h1 := n ⟨0, []⟩ (u64of m.kind) 1
      generalize (Wr.num ⟨0, []⟩ (u64of m.kind) 1) = σ1 at *
      have h2 := n σ1 m.client.toNat 4
      generalize (σ1.num m.client.toNat 4) = σ2 at *
      have h3 := n σ2 m.xid.toNat 8
      generalize (σ2.num m.xid.toNat 8) = σ3 at *
      have h4 := n σ3 (u64of m.status) 1
      generalize (σ3.num (u64of m.status) 1) = σ4 at *
      have h5 := p σ4 m.ah
      generalize σ4.put m.ah.lay = σ5 at *
      have h6 := n σ5 (u64of m.akind) 1
      generalize (σ5.num (u64of m.akind) 1) = σ6 at *
      have h7 := n σ6 m.links.toNat 4
      generalize (σ6.num m.links.toNat 4) = σ7 at *
      have h8 := n σ7 m.size.toNat 8
      generalize (σ7.num m.size.toNat 8) = σ8 at *
      have h9 := n σ8 m.change.toNat 8
      generalize (σ8.num m.change.toNat 8) = σ9 at *
      have h10 := tl σ9 m.adata
      generalize (σ9.text m.adata) = σ10 at *
      have h11 := n σ10 m.eof.toNat 1
      generalize (σ10.num m.eof.toNat 1) = σ11 at *
      have h12 := n σ11 m.anum.toNat 8
      generalize (σ11.num m.anum.toNat 8) = σ12 at *
      have h13 := n σ12 m.list.length 4
      omega
  split
  · unfold Wr.back Wr.stamp
    have h1 := n ⟨0, []⟩ (u64of m.kind) 1
    generalize (Wr.num ⟨0, []⟩ (u64of m.kind) 1) = σ1 at *
    have h2 := n σ1 m.client.toNat 4
    generalize (σ1.num m.client.toNat 4) = σ2 at *
    have h3 := n σ2 m.xid.toNat 8
    generalize (σ2.num m.xid.toNat 8) = σ3 at *
    have h5 := p σ3 m.h
    generalize σ3.put m.h.lay = σ5 at *
    have h15 := n σ5 m.boot.toNat 8
    generalize (σ5.num m.boot.toNat 8) = σ15 at *
    have h16 := n σ15 m.gb.toNat 8
    generalize (σ15.num m.gb.toNat 8) = σ16 at *
    have h17 := n σ16 m.gn.toNat 8
    omega
  · unfold Wr.head
    have h1 := n ⟨0, []⟩ (u64of m.kind) 1
    generalize (Wr.num ⟨0, []⟩ (u64of m.kind) 1) = σ1 at *
    have h2 := n σ1 m.client.toNat 4
    generalize (σ1.num m.client.toNat 4) = σ2 at *
    have h3 := n σ2 m.xid.toNat 8
    omega

theorem encode_ref (m : Msg) (A : Option Addr) (cap : Nat) (hk : m.Ok) (hcap : m.list.length ≤ cap) (hnil : m.list = [] ∨ A.isSome = true) (w : World) (hA : EntsR w A m.list) :
    Calls Try.prog 9 #[.agg (m.vs (.slice A m.list.length cap)).toArray] w fun e w' => e = .returned (.tuple #[.string m.refE.1, .int .i64 m.refE.2]) ∧ Below w.heap.size w w' := by
  have h := encode_any m A cap hk hcap hnil (Nat.le_trans (Wr.fields_len m) (by decide)) w hA
  rw [enc_eq m hk] at h
  exact h

end Go.Proofs.Ytibcadfpengacaa

-- Open
set_option linter.unusedVariables false
set_option linter.unusedSimpArgs false
namespace Go.Proofs.Ytibcadfpengacaa
open Go.RowKit Go.Lib Go.ChangeShapes Go.WideShapes

theorem c8 : Try.prog.cellsOf 23 = 1 := by kernel_rfl
theorem c3 : Try.prog.cellsOf 3 = 1 := by kernel_rfl
theorem c4 : Try.prog.cellsOf 4 = 1 := by kernel_rfl
theorem c22 : Try.prog.cellsOf 22 = 1 := by kernel_rfl
theorem c9 : Try.prog.cellsOf 9 = 1 := by kernel_rfl
theorem c25 : Try.prog.cellsOf 25 = 4 := by kernel_rfl
theorem c29 : Try.prog.cellsOf 29 = 4 := by kernel_rfl
theorem c34 : Try.prog.cellsOf 34 = 2 := by kernel_rfl
theorem c27 : Try.prog.cellsOf 27 = 14 := by kernel_rfl
theorem c32 : Try.prog.cellsOf 32 = 13 := by kernel_rfl
theorem c36 : Try.prog.cellsOf 36 = 33 := by kernel_rfl
theorem c99 : Try.prog.cellsOf 99 = 3 := by kernel_rfl
theorem c30s : Try.prog.cellsOf 30 = 1 := by kernel_rfl
theorem b99 : Try.prog.bytesOf 99 = 32 := by kernel_rfl

theorem u64_of {v : Int} (h : (Lit.int .u64 v).wf = true) : U64 v := by
  simp [Lit.wf, IntKind.min, IntKind.max, IntKind.signed, IntKind.bits] at h
  unfold U64
  omega
theorem u32_of {v : Int} (h : (Lit.int .u32 v).wf = true) : U32 v := by
  simp [Lit.wf, IntKind.min, IntKind.max, IntKind.signed, IntKind.bits] at h
  unfold U32
  omega
theorem i64_of {v : Int} (h : (Lit.int .i64 v).wf = true) : I64 v := by
  simp [Lit.wf, IntKind.min, IntKind.max, IntKind.signed, IntKind.bits] at h
  unfold I64
  omega

section
variable {H : Type} {enc : TypeId × Value → H} {w : World} {base : Nat} {sp : Nat → Bool} {hd : Bool} {fuel : Nat}

/-- The parts of a struct that is read: one for each field. -/
theorem parts2 {α : Type} {xs : List α} (h : xs.length = 2) : ∃ x0 x1, xs = [x0, x1] := by
  match xs, h with
  | [x0, x1], _ => exact ⟨x0, x1, rfl⟩
theorem parts3 {α : Type} {xs : List α} (h : xs.length = 3) : ∃ x0 x1 x2, xs = [x0, x1, x2] := by
  match xs, h with
  | [x0, x1, x2], _ => exact ⟨x0, x1, x2, rfl⟩
theorem parts4 {α : Type} {xs : List α} (h : xs.length = 4) : ∃ x0 x1 x2 x3, xs = [x0, x1, x2, x3] := by
  match xs, h with
  | [x0, x1, x2, x3], _ => exact ⟨x0, x1, x2, x3, rfl⟩
theorem parts7 {α : Type} {xs : List α} (h : xs.length = 7) : ∃ x0 x1 x2 x3 x4 x5 x6, xs = [x0, x1, x2, x3, x4, x5, x6] := by
  match xs, h with
  | [x0, x1, x2, x3, x4, x5, x6], _ => exact ⟨x0, x1, x2, x3, x4, x5, x6, rfl⟩
theorem parts8 {α : Type} {xs : List α} (h : xs.length = 8) : ∃ x0 x1 x2 x3 x4 x5 x6 x7, xs = [x0, x1, x2, x3, x4, x5, x6, x7] := by
  match xs, h with
  | [x0, x1, x2, x3, x4, x5, x6, x7], _ => exact ⟨x0, x1, x2, x3, x4, x5, x6, x7, rfl⟩

theorem fieldAt {fs : Array Field} {n : Nat} {cs : List Value} {xs : List (DataW H × List MemPlace)} (hf : ∀ (i : Nat) (f : Field), fs[i]? = some f → DataW.trod enc Try.prog w base sp hd n f.type ((cs.drop f.offset).take (Try.prog.cellsOf f.type)) = xs[i]?)
    (i : Nat) (ty : TypeId) (off : Nat) (h : (fs[i]?).map (fun f => (f.type, f.offset)) = some (ty, off)) : DataW.trod enc Try.prog w base sp hd n ty ((cs.drop off).take (Try.prog.cellsOf ty)) = xs[i]? := by
  cases hi : fs[i]? with
  | none => rw [hi] at h; cases h
  | some f =>
    rw [hi] at h
    have h2 : f.type = ty ∧ f.offset = off := by simpa using h
    have := hf i f hi
    rw [h2.1, h2.2] at this
    exact this

theorem parts33 {α : Type} {xs : List α} (h : xs.length = 33) : ∃ a0 a1 a2 a3 a4 a5 a6 a7 a8 a9 a10 a11 a12 a13 a14 a15 a16 a17 a18 a19 a20 a21 a22 a23 a24 a25 a26 a27 a28 a29 a30 a31 a32, xs = [a0, a1, a2, a3, a4, a5, a6, a7, a8, a9, a10, a11, a12, a13, a14, a15, a16, a17, a18, a19, a20, a21, a22, a23, a24, a25, a26, a27, a28, a29, a30, a31, a32] := by
  rcases xs with _ | ⟨a0, _ | ⟨a1, _ | ⟨a2, _ | ⟨a3, _ | ⟨a4, _ | ⟨a5, _ | ⟨a6, _ | ⟨a7, _ | ⟨a8, _ | ⟨a9, _ | ⟨a10, _ | ⟨a11, _ | ⟨a12, _ | ⟨a13, _ | ⟨a14, _ | ⟨a15, _ | ⟨a16, _ | ⟨a17, _ | ⟨a18, _ | ⟨a19, _ | ⟨a20, _ | ⟨a21, _ | ⟨a22, _ | ⟨a23, _ | ⟨a24, _ | ⟨a25, _ | ⟨a26, _ | ⟨a27, _ | ⟨a28, _ | ⟨a29, _ | ⟨a30, _ | ⟨a31, _ | ⟨a32, xs⟩⟩⟩⟩⟩⟩⟩⟩⟩⟩⟩⟩⟩⟩⟩⟩⟩⟩⟩⟩⟩⟩⟩⟩⟩⟩⟩⟩⟩⟩⟩⟩⟩
  all_goals first | (simp at h; done) | skip
  cases xs with
  | nil => exact ⟨_, _, _, _, _, _, _, _, _, _, _, _, _, _, _, _, _, _, _, _, _, _, _, _, _, _, _, _, _, _, _, _, _, rfl⟩
  | cons a b => simp at h
theorem open_hd {a b c d : Value} {x : DataW H × List MemPlace} (h : DataW.trod enc Try.prog w base sp hd fuel 25 [a, b, c, d] = some x) :
    ∃ g : Hd, a = .int .u32 g.ex ∧ b = .int .u64 g.snap ∧ c = .int .u64 g.ino ∧ d = .int .u64 g.gen ∧ g.Ok := by
  obtain ⟨xs, n, rfl, rfl, _, hl, hf⟩ := DataW.trod_struct Try.underlying25 h
  obtain ⟨x0, x1, x2, x3, rfl⟩ := parts4 hl
  have h0 := fieldAt hf 0 22 0 rfl
  rw [c22] at h0
  have h1 := fieldAt hf 1 23 1 rfl
  rw [c8] at h1
  have h2 := fieldAt hf 2 23 2 rfl
  rw [c8] at h2
  have h3 := fieldAt hf 3 23 3 rfl
  rw [c8] at h3
  obtain ⟨v0, e0, y0, g0⟩ := DataW.trod_int Try.underlying22 (show _ = some x0 from h0)
  have f0 := u32_of g0
  have e0' := List.head_eq_of_cons_eq e0
  obtain ⟨v1, e1, y1, g1⟩ := DataW.trod_int Try.underlying23 (show _ = some x1 from h1)
  have f1 := u64_of g1
  have e1' := List.head_eq_of_cons_eq e1
  obtain ⟨v2, e2, y2, g2⟩ := DataW.trod_int Try.underlying23 (show _ = some x2 from h2)
  have f2 := u64_of g2
  have e2' := List.head_eq_of_cons_eq e2
  obtain ⟨v3, e3, y3, g3⟩ := DataW.trod_int Try.underlying23 (show _ = some x3 from h3)
  have f3 := u64_of g3
  have e3' := List.head_eq_of_cons_eq e3
  exact ⟨⟨v0, v1, v2, v3⟩, e0', e1', e2', e3', ⟨f0.1, f0.2, f1.1, f1.2, f2.1, f2.2, f3.1, f3.2⟩⟩
theorem open_attr {a b c d : Value} {x : DataW H × List MemPlace} (h : DataW.trod enc Try.prog w base sp hd fuel 29 [a, b, c, d] = some x) :
    ∃ k l s g : Int, a = .int .i64 k ∧ b = .int .u32 l ∧ c = .int .u64 s ∧ d = .int .u64 g ∧ I64 k ∧ U32 l ∧ U64 s ∧ U64 g := by
  obtain ⟨xs, n, rfl, rfl, _, hl, hf⟩ := DataW.trod_struct Try.underlying29 h
  obtain ⟨x0, x1, x2, x3, rfl⟩ := parts4 hl
  have h0 := fieldAt hf 0 3 0 rfl
  rw [c3] at h0
  have h1 := fieldAt hf 1 22 1 rfl
  rw [c22] at h1
  have h2 := fieldAt hf 2 23 2 rfl
  rw [c8] at h2
  have h3 := fieldAt hf 3 23 3 rfl
  rw [c8] at h3
  obtain ⟨v0, e0, y0, g0⟩ := DataW.trod_int Try.underlying3 (show _ = some x0 from h0)
  have f0 := i64_of g0
  have e0' := List.head_eq_of_cons_eq e0
  obtain ⟨v1, e1, y1, g1⟩ := DataW.trod_int Try.underlying22 (show _ = some x1 from h1)
  have f1 := u32_of g1
  have e1' := List.head_eq_of_cons_eq e1
  obtain ⟨v2, e2, y2, g2⟩ := DataW.trod_int Try.underlying23 (show _ = some x2 from h2)
  have f2 := u64_of g2
  have e2' := List.head_eq_of_cons_eq e2
  obtain ⟨v3, e3, y3, g3⟩ := DataW.trod_int Try.underlying23 (show _ = some x3 from h3)
  have f3 := u64_of g3
  have e3' := List.head_eq_of_cons_eq e3
  exact ⟨v0, v1, v2, v3, e0', e1', e2', e3', f0, f1, f2, f3⟩
theorem open_stamp {a b : Value} {x : DataW H × List MemPlace} (h : DataW.trod enc Try.prog w base sp hd fuel 34 [a, b] = some x) :
    ∃ k l : Int, a = .int .u64 k ∧ b = .int .u64 l ∧ U64 k ∧ U64 l := by
  obtain ⟨xs, n, rfl, rfl, _, hl, hf⟩ := DataW.trod_struct Try.underlying34 h
  obtain ⟨x0, x1, rfl⟩ := parts2 hl
  have h0 := fieldAt hf 0 23 0 rfl
  rw [c8] at h0
  have h1 := fieldAt hf 1 23 1 rfl
  rw [c8] at h1
  obtain ⟨v0, e0, y0, g0⟩ := DataW.trod_int Try.underlying23 (show _ = some x0 from h0)
  have f0 := u64_of g0
  have e0' := List.head_eq_of_cons_eq e0
  obtain ⟨v1, e1, y1, g1⟩ := DataW.trod_int Try.underlying23 (show _ = some x1 from h1)
  have f1 := u64_of g1
  have e1' := List.head_eq_of_cons_eq e1
  exact ⟨v0, v1, e0', e1', f0, f1⟩

/-- A string's weight stands in what is read. -/
def Reach (P : Program) (t : TypeId) (d : DataW H) : Prop := ∀ n ∈ d.weights P t, n ≤ reachBytes
theorem reach_str {l : List UInt8} (h : Reach Try.prog 9 (.lit (.string l) : DataW H)) : l.length ≤ reachBytes := h _ (by simp [DataW.weights])
theorem reach_part {fs : Array Field} {t : TypeId} {ds : List (DataW H)} (hu : Try.prog.underlying t = some (.struct fs)) (h : Reach Try.prog t (.agg ds)) (j : Nat) (ty : TypeId) (d : DataW H) (ht : (fs[j]?).map (·.type) = some ty) (hd : ds[j]? = some d) : Reach Try.prog ty d := fun n hn => h n (by
  simp only [DataW.weights, hu]
  refine DataW.weights_mem_each (j := j) (t := ty) ?_ hd n hn
  rw [List.getElem?_map, Array.getElem?_toList]
  exact ht)
theorem siz_of {s : ByteArray} (h : s.data.toList.length ≤ reachBytes) : Siz s := by
  have e : s.data.toList.length = s.size := by rw [Array.length_toList]; rfl
  unfold Siz
  have : reachBytes = 140737488351232 := rfl
  omega

theorem open_ask {l : List Value} {x : DataW H × List MemPlace} (h : DataW.trod enc Try.prog w base sp hd fuel 27 l = some x) (hr : Reach Try.prog 27 x.1) (hlen : l.length = 14) :
    ∃ (op : Int) (g g2 : Hd) (name name2 : ByteArray) (off num : Int) (data : ByteArray), l = [.int .i64 op, .int .u32 g.ex, .int .u64 g.snap, .int .u64 g.ino, .int .u64 g.gen, .int .u32 g2.ex, .int .u64 g2.snap, .int .u64 g2.ino, .int .u64 g2.gen, .string name, .string name2, .int .u64 off, .int .u64 num, .string data] ∧
      I64 op ∧ g.Ok ∧ g2.Ok ∧ Siz name ∧ Siz name2 ∧ U64 off ∧ U64 num ∧ Siz data := by
  match l, hlen with
  | [a0, a1, a2, a3, a4, a5, a6, a7, a8, a9, a10, a11, a12, a13], _ =>
  obtain ⟨xs, n, rfl, rfl, _, hl, hf⟩ := DataW.trod_struct Try.underlying27 h
  obtain ⟨x0, x1, x2, x3, x4, x5, x6, x7, rfl⟩ := parts8 hl
  have h0 := fieldAt hf 0 3 0 rfl
  rw [c3] at h0
  have h1 := fieldAt hf 1 25 1 rfl
  rw [c25] at h1
  have h2 := fieldAt hf 2 25 5 rfl
  rw [c25] at h2
  have h3 := fieldAt hf 3 9 9 rfl
  rw [c9] at h3
  have h4 := fieldAt hf 4 9 10 rfl
  rw [c9] at h4
  have h5 := fieldAt hf 5 23 11 rfl
  rw [c8] at h5
  have h6 := fieldAt hf 6 23 12 rfl
  rw [c8] at h6
  have h7 := fieldAt hf 7 9 13 rfl
  rw [c9] at h7
  obtain ⟨v0, e0, y0, g0⟩ := DataW.trod_int Try.underlying3 (show _ = some x0 from h0)
  have f0 := i64_of g0
  have e0' := List.head_eq_of_cons_eq e0
  obtain ⟨g1, i1, i2, i3, i4, gk⟩ := open_hd (show DataW.trod enc Try.prog w base sp hd n 25 [a1, a2, a3, a4] = some x1 from h1)
  obtain ⟨g2, j1, j2, j3, j4, gk2⟩ := open_hd (show DataW.trod enc Try.prog w base sp hd n 25 [a5, a6, a7, a8] = some x2 from h2)
  obtain ⟨v3, e3, y3, g3⟩ := DataW.trod_string Try.underlying9 (show _ = some x3 from h3)
  have e3' := List.head_eq_of_cons_eq e3
  obtain ⟨v4, e4, y4, g4⟩ := DataW.trod_string Try.underlying9 (show _ = some x4 from h4)
  have e4' := List.head_eq_of_cons_eq e4
  obtain ⟨v5, e5, y5, g5⟩ := DataW.trod_int Try.underlying23 (show _ = some x5 from h5)
  have f5 := u64_of g5
  have e5' := List.head_eq_of_cons_eq e5
  obtain ⟨v6, e6, y6, g6⟩ := DataW.trod_int Try.underlying23 (show _ = some x6 from h6)
  have f6 := u64_of g6
  have e6' := List.head_eq_of_cons_eq e6
  obtain ⟨v7, e7, y7, g7⟩ := DataW.trod_string Try.underlying9 (show _ = some x7 from h7)
  have e7' := List.head_eq_of_cons_eq e7
  subst y3 y4 y7
  have r3 := siz_of (reach_str (reach_part Try.underlying27 hr 3 9 _ rfl rfl))
  have r4 := siz_of (reach_str (reach_part Try.underlying27 hr 4 9 _ rfl rfl))
  have r7 := siz_of (reach_str (reach_part Try.underlying27 hr 7 9 _ rfl rfl))
  subst e0' e3' e4' e5' e6' e7' i1 i2 i3 i4 j1 j2 j3 j4
  exact ⟨v0, g1, g2, v3, v4, v5, v6, v7, rfl, f0, gk, gk2, r3, r4, f5, f6, r7⟩

theorem open_ent {l : List Value} {x : DataW H × List MemPlace} (h : DataW.trod enc Try.prog w base sp hd fuel 99 l = some x) (hr : Reach Try.prog 99 x.1) (hlen : l.length = 3) :
    ∃ e : Ent, l = e.vs ∧ Siz e.name ∧ U64 e.ino ∧ U64 e.cookie := by
  match l, hlen with
  | [a0, a1, a2], _ =>
  obtain ⟨xs, n, rfl, rfl, _, hl, hf⟩ := DataW.trod_struct Try.underlying99 h
  obtain ⟨x0, x1, x2, rfl⟩ := parts3 hl
  have h0 := fieldAt hf 0 9 0 rfl
  rw [c9] at h0
  have h1 := fieldAt hf 1 23 1 rfl
  rw [c8] at h1
  have h2 := fieldAt hf 2 23 2 rfl
  rw [c8] at h2
  obtain ⟨v0, e0, y0, g0⟩ := DataW.trod_string Try.underlying9 (show _ = some x0 from h0)
  have e0' := List.head_eq_of_cons_eq e0
  obtain ⟨v1, e1, y1, g1⟩ := DataW.trod_int Try.underlying23 (show _ = some x1 from h1)
  have f1 := u64_of g1
  have e1' := List.head_eq_of_cons_eq e1
  obtain ⟨v2, e2, y2, g2⟩ := DataW.trod_int Try.underlying23 (show _ = some x2 from h2)
  have f2 := u64_of g2
  have e2' := List.head_eq_of_cons_eq e2
  subst y0
  have r0 := siz_of (reach_str (reach_part Try.underlying99 hr 0 9 _ rfl rfl))
  subst e0' e1' e2'
  exact ⟨⟨v0, v1, v2⟩, rfl, r0, f1, f2⟩

theorem reach_elems {elems spare : List (DataW H)} (h : Reach Try.prog 30 (.slice elems spare)) : (elems.length + spare.length) * 32 ≤ reachBytes ∧ ∀ d ∈ elems, Reach Try.prog 99 d := by
  refine ⟨h _ ?_, fun d hd n hn => h n ?_⟩
  · simp only [DataW.weights, Try.underlying30, b99]
    exact List.mem_cons_self
  · simp only [DataW.weights, Try.underlying30]
    refine List.mem_cons_of_mem _ (List.mem_append_left _ ?_)
    clear h
    induction elems with
    | nil => cases hd
    | cons a r ih =>
      rw [DataW.weightsAll]
      rcases List.mem_cons.1 hd with e | e
      · subst e
        exact List.mem_append_left _ hn
      · exact List.mem_append_right _ (ih e)

instance : Inhabited Ent := ⟨⟨⟨#[]⟩, 0, 0⟩⟩
theorem open_ents {l : List Value} {x : DataW H × List MemPlace} (h : DataW.trod enc Try.prog w base sp hd fuel 30 l = some x) (hr : Reach Try.prog 30 x.1) :
    ∃ (es : List Ent) (A : Option Addr) (c : Nat), l = [.slice A es.length c] ∧ es.length ≤ c ∧ (∀ e ∈ es, Siz e.name ∧ U64 e.ino ∧ U64 e.cookie) ∧ es.length + 2 < 4398046511104 ∧ EntsR w A es ∧ (es = [] ∨ A.isSome = true) := by
  rcases Go.Deep.open_slice Try.underlying30 h with ⟨rfl, rfl⟩ | ⟨a, len, cap, m, n, D, Pl, rfl, hb, hlc, hm, hmm, rfl, hx⟩
  · exact ⟨[], none, 0, rfl, Nat.le_refl _, (fun e h => by cases h), (by decide), (fun i e h => by simp at h), .inl rfl⟩
  · have hml : len ≤ m := by rw [hmm]; split <;> omega
    obtain ⟨hr1, hr2⟩ := reach_elems hr
    have hrl : reachBytes = 140737488351232 := rfl
    have hl2 : len + 2 < 4398046511104 := by
      rw [List.length_map, List.length_range] at hr1
      omega
    obtain ⟨V, hV⟩ := Go.Deep.choose_lt (α := Ent) (n := len) (p := fun i e => w.cells? base (a.add (i * Try.prog.cellsOf 99)) (Try.prog.cellsOf 99) = some e.vs ∧ Siz e.name ∧ U64 e.ino ∧ U64 e.cookie) (fun i hi => by
      obtain ⟨cs', q1, q2⟩ := hx i (by omega)
      obtain ⟨_, ql, _⟩ := World.cells?_some q1
      rw [c99] at ql
      obtain ⟨e, rfl, z⟩ := open_ent q2 (hr2 _ (List.mem_map.2 ⟨i, List.mem_range.2 hi, rfl⟩)) ql
      exact ⟨e, q1, z⟩)
    refine ⟨(List.range len).map V, some a, cap, by rw [List.length_map, List.length_range], by rw [List.length_map, List.length_range]; exact hlc, ?_, by rw [List.length_map, List.length_range]; exact hl2, ?_, .inr rfl⟩
    · intro e he
      obtain ⟨i, hi, rfl⟩ := List.mem_map.1 he
      exact (hV i (List.mem_range.1 hi)).2
    · intro i e he
      have hi : i < len := by
        have := (List.getElem?_eq_some_iff.1 he).1
        rwa [List.length_map, List.length_range] at this
      have hev : e = V i := by simpa [hi] using he.symm
      subst hev
      obtain ⟨q1, _⟩ := hV i hi
      rw [c99] at q1
      obtain ⟨_, _, qc⟩ := World.cells?_some q1
      obtain ⟨b, o, spot⟩ := a
      have q0 := qc 0 (by omega)
      have hspot : spot = none := by
        obtain ⟨p1, _⟩ := hV 0 (by omega)
        rw [c99] at p1
        obtain ⟨_, _, pc⟩ := World.cells?_some p1
        have q0' : w.cell? ((Addr.add ⟨b, o, spot⟩ (0 * 3)).add 0) = some (.string (V 0).name) := pc 0 (by omega)
        have := World.cell?_spot q0'
        simpa [Addr.add] using this
      subst hspot
      have z1 := qc 1 (by omega)
      have z2 := qc 2 (by omega)
      rw [addr_plus] at q0 z1 z2
      rw [addr_plus] at q0 z1 z2
      exact ⟨b, o, rfl, q0, z1, z2⟩

theorem open_ans {l : List Value} {x : DataW H × List MemPlace} (h : DataW.trod enc Try.prog w base sp hd fuel 32 l = some x) (hr : Reach Try.prog 32 x.1) (hlen : l.length = 13) :
    ∃ (status : Int) (g : Hd) (ak lk sz cg : Int) (data : ByteArray) (eof : Bool) (num : Int) (es : List Ent) (A : Option Addr) (c : Nat),
      l = [.int .i64 status, .int .u32 g.ex, .int .u64 g.snap, .int .u64 g.ino, .int .u64 g.gen, .int .i64 ak, .int .u32 lk, .int .u64 sz, .int .u64 cg, .string data, .bool eof, .int .u64 num, .slice A es.length c] ∧
      I64 status ∧ g.Ok ∧ I64 ak ∧ U32 lk ∧ U64 sz ∧ U64 cg ∧ Siz data ∧ U64 num ∧ es.length ≤ c ∧ (∀ e ∈ es, Siz e.name ∧ U64 e.ino ∧ U64 e.cookie) ∧ es.length + 2 < 4398046511104 ∧ EntsR w A es ∧ (es = [] ∨ A.isSome = true) := by
  match l, hlen with
  | [a0, a1, a2, a3, a4, a5, a6, a7, a8, a9, a10, a11, a12], _ =>
  obtain ⟨xs, n, rfl, rfl, _, hl, hf⟩ := DataW.trod_struct Try.underlying32 h
  obtain ⟨x0, x1, x2, x3, x4, x5, x6, rfl⟩ := parts7 hl
  have h0 := fieldAt hf 0 3 0 rfl
  rw [c3] at h0
  have h1 := fieldAt hf 1 25 1 rfl
  rw [c25] at h1
  have h2 := fieldAt hf 2 29 5 rfl
  rw [c29] at h2
  have h3 := fieldAt hf 3 9 9 rfl
  rw [c9] at h3
  have h4 := fieldAt hf 4 4 10 rfl
  rw [c4] at h4
  have h5 := fieldAt hf 5 23 11 rfl
  rw [c8] at h5
  have h6 := fieldAt hf 6 30 12 rfl
  rw [c30s] at h6
  obtain ⟨v0, e0, y0, g0⟩ := DataW.trod_int Try.underlying3 (show _ = some x0 from h0)
  have f0 := i64_of g0
  have e0' := List.head_eq_of_cons_eq e0
  obtain ⟨g1, i1, i2, i3, i4, gk⟩ := open_hd (show DataW.trod enc Try.prog w base sp hd n 25 [a1, a2, a3, a4] = some x1 from h1)
  obtain ⟨k2, l2, s2, c2, j1, j2, j3, j4, w1, w2, w3, w4⟩ := open_attr (show DataW.trod enc Try.prog w base sp hd n 29 [a5, a6, a7, a8] = some x2 from h2)
  obtain ⟨v3, e3, y3, g3⟩ := DataW.trod_string Try.underlying9 (show _ = some x3 from h3)
  have e3' := List.head_eq_of_cons_eq e3
  obtain ⟨v4, e4, y4⟩ := DataW.trod_bool Try.underlying4 (show _ = some x4 from h4)
  have e4' := List.head_eq_of_cons_eq e4
  obtain ⟨v5, e5, y5, g5⟩ := DataW.trod_int Try.underlying23 (show _ = some x5 from h5)
  have f5 := u64_of g5
  have e5' := List.head_eq_of_cons_eq e5
  obtain ⟨es, A, c, p1, p2, p3, p4, p5, p6⟩ := open_ents (show DataW.trod enc Try.prog w base sp hd n 30 [a12] = some x6 from h6) (reach_part Try.underlying32 hr 6 30 _ rfl rfl)
  have p1' := List.head_eq_of_cons_eq p1
  subst y3
  have r3 := siz_of (reach_str (reach_part Try.underlying32 hr 3 9 _ rfl rfl))
  subst e0' e3' e4' e5' i1 i2 i3 i4 j1 j2 j3 j4 p1'
  exact ⟨v0, g1, k2, l2, s2, c2, v3, v4, v5, es, A, c, rfl, f0, gk, w1, w2, w3, w4, r3, f5, p2, p3, p4, p5, p6⟩

/-- A message that is read: its cells, its entries. -/
theorem open_msg {l : List Value} {x : DataW H × List MemPlace} (h : DataW.trod enc Try.prog w base sp hd fuel 36 l = some x) (hr : Reach Try.prog 36 x.1) :
    ∃ (m : Msg) (A : Option Addr) (c : Nat), l = m.vs (.slice A m.list.length c) ∧ m.Ok ∧ m.list.length ≤ c ∧ m.list.length + 2 < 4398046511104 ∧ EntsR w A m.list ∧ (m.list = [] ∨ A.isSome = true) := by
  obtain ⟨xs, n, rfl, rfl, hlen, hl, hf⟩ := DataW.trod_struct Try.underlying36 h
  rw [c36] at hlen
  obtain ⟨a0, a1, a2, a3, a4, a5, a6, a7, a8, a9, a10, a11, a12, a13, a14, a15, a16, a17, a18, a19, a20, a21, a22, a23, a24, a25, a26, a27, a28, a29, a30, a31, a32, rfl⟩ := parts33 hlen
  obtain ⟨x0, x1, x2, x3, x4, x5, x6, rfl⟩ := parts7 hl
  have h0 := fieldAt hf 0 3 0 rfl
  rw [c3] at h0
  have h1 := fieldAt hf 1 22 1 rfl
  rw [c22] at h1
  have h2 := fieldAt hf 2 23 2 rfl
  rw [c8] at h2
  have h3 := fieldAt hf 3 27 3 rfl
  rw [c27] at h3
  have h4 := fieldAt hf 4 32 17 rfl
  rw [c32] at h4
  have h5 := fieldAt hf 5 23 30 rfl
  rw [c8] at h5
  have h6 := fieldAt hf 6 34 31 rfl
  rw [c34] at h6
  obtain ⟨v0, e0, y0, g0⟩ := DataW.trod_int Try.underlying3 (show _ = some x0 from h0)
  have f0 := i64_of g0
  have e0' := List.head_eq_of_cons_eq e0
  obtain ⟨v1, e1, y1, g1⟩ := DataW.trod_int Try.underlying22 (show _ = some x1 from h1)
  have f1 := u32_of g1
  have e1' := List.head_eq_of_cons_eq e1
  obtain ⟨v2, e2, y2, g2⟩ := DataW.trod_int Try.underlying23 (show _ = some x2 from h2)
  have f2 := u64_of g2
  have e2' := List.head_eq_of_cons_eq e2
  obtain ⟨op, g, g2, name, name2, off, num, data, o1, o2, o3, o4, o5, o6, o7, o8, o9⟩ := open_ask (show DataW.trod enc Try.prog w base sp hd n 27 [a3, a4, a5, a6, a7, a8, a9, a10, a11, a12, a13, a14, a15, a16] = some x3 from h3) (reach_part Try.underlying36 hr 3 27 _ rfl rfl) rfl
  obtain ⟨status, ag, ak, lk, sz, cg, adata, eof, anum, es, A, c, q0, q1, q2, q3, q4, q5, q6, q7, q8, q9, q10, q11, q12, q13⟩ := open_ans (show DataW.trod enc Try.prog w base sp hd n 32 [a17, a18, a19, a20, a21, a22, a23, a24, a25, a26, a27, a28, a29] = some x4 from h4) (reach_part Try.underlying36 hr 4 32 _ rfl rfl) rfl
  obtain ⟨v5, e5, y5, g5⟩ := DataW.trod_int Try.underlying23 (show _ = some x5 from h5)
  have f5 := u64_of g5
  have e5' := List.head_eq_of_cons_eq e5
  obtain ⟨gb, gn, s1, s2, s3, s4⟩ := open_stamp (show DataW.trod enc Try.prog w base sp hd n 34 [a31, a32] = some x6 from h6)
  simp only [List.cons.injEq, and_true] at o1 q0
  obtain ⟨o10, o11, o12, o13, o14, o15, o16, o17, o18, o19, o20, o21, o22, o23⟩ := o1
  obtain ⟨r0, r1, r2, r3, r4, r5, r6, r7, r8, r9, r10, r11, r12⟩ := q0
  subst e0' e1' e2' e5' s1 s2 o10 o11 o12 o13 o14 o15 o16 o17 o18 o19 o20 o21 o22 o23 r0 r1 r2 r3 r4 r5 r6 r7 r8 r9 r10 r11 r12
  exact ⟨⟨v0, v1, v2, op, g, g2, name, name2, off, num, data, status, ag, ak, lk, sz, cg, adata, eof, anum, es, v5, gb, gn⟩, A, c, rfl,
    ⟨f0, f1, f2, o2, o3, o4, o5, o6, o7, o8, o9, q1, q2, q3, q4, q5, q6, q7, q8, q10, by show es.length ≤ 4398046511104; omega, f5, s3, s4⟩, q9, q11, q12, q13⟩

end

theorem agg_of_cells {v : Value} {l : List Value} (h : v.cells.toList = l) (hl : l.length = 33) : v = .agg l.toArray := by
  subst h
  cases v with
  | agg cs => rfl
  | _ => exact absurd hl (by simp [Value.cells])

end Go.Proofs.Ytibcadfpengacaa

-- Shelf
namespace Go.Proofs
open Go.Shelf
def Try.laysNm224_ren : Go.Shelf.Ren := ⟨fun | 24 => 46 | n => n, fun | 24 => 101 | 9 => 9 | 3 => 3 | 4 => 4 | 0 => 0 | n => n, fun | n => n⟩
theorem Try.laysNm224 : Go.Proofs.Lays2.n24 Try.prog Try.laysNm224_ren := {
  mixed := by kernel_rfl
  f24 := Try.func46.trans (congrArg some (by kernel_rfl))
  t0 := Try.underlying0
  a0 := Try.isAgg0
  z0 := Try.sizeOf0
  v0 := Try.zeroValue0
  t3 := Try.underlying3
  a3 := Try.isAgg3
  z3 := Try.sizeOf3
  v3 := Try.zeroValue3
  t4 := Try.underlying4
  a4 := Try.isAgg4
  z4 := Try.sizeOf4
  v4 := Try.zeroValue4
  t9 := Try.underlying9
  a9 := Try.isAgg9
  z9 := Try.sizeOf9
  v9 := Try.zeroValue9
  t24 := Try.underlying101
  a24 := Try.isAgg101
  z24 := Try.sizeOf101
  v24 := Try.zeroValue101
  i9 := by kernel_rfl }
open Go.RowKit Go.Lib Go.Sort in
/-- slices.Delete at []string: "Delete modifies s in place by removing the elements s[i:j], and returns the modified slice. Delete panics if j > len(s) or s[i:j] is not a valid slice of s. Delete is O(len(s)-i), so if many items must be deleted, it is better to make a single call deleting them all together than to delete one at a time. Delete zeroes the elements s[len(s)-(j-i):len(s)]. If the result is empty, it has the same nilness as s.": FOR i ≤ j ≤ len(s) IT RETURNS THE SLICE CUT TO len(s) - (j - i) ELEMENTS; ITS CELLS HOLD what stood ahead of i, what stood from j on, then j - i zero values; all else is as it was, but for the count of draws. IN THE WORDS OF slices.Sort's CONTRACT ('Holds', 'putRow'). It asks 'zs.length ≤ cap ≤ 2^63 - 1' (every slice's). (Outside i ≤ j ≤ len(s) it panics: no contract here.) (LAID: no walk: one application.) -/
theorem Try.slices_Delete_string (blk off cap i j : Nat) (zs : List (List UInt8)) (w : World) (hH : Holds encStr w blk off zs.toArray) (hcap : zs.length ≤ cap) (hm : cap ≤ 9223372036854775807) (hij : i ≤ j) (hj : j ≤ zs.length) :
    Calls Try.prog 46 #[.slice (some ⟨blk, off, none⟩) zs.length cap, .int .i64 i, .int .i64 j] w fun e w' => e = .returned (.slice (some ⟨blk, off, none⟩) (zs.length - (j - i)) cap) ∧ ∃ q, w' = putRow encStr (Sort.ahead w q) blk off (zs.take i ++ zs.drop j ++ List.replicate (j - i) []).toArray := Any.slices_Delete_string Try.laysNm224 blk off cap i j zs w hH hcap hm hij hj
end Go.Proofs

-- Net
set_option linter.unusedVariables false
set_option linter.unusedSimpArgs false
namespace Go.Proofs.Ytibcadfpengacaa
open Go.RowKit Go.Lib Go.Proofs.YtibcadfpengacaaW.PrintWords Go.Proofs.YtibcadfpengacaaW.PrintMore Go.Proofs.YtibcadfpengacaaW.PrintLast

theorem infoStr : (Try.prog.info? 9).map (fun i => (i.zero, i.size, i.bytes)) = some (some (.string ⟨#[]⟩), 1, 16) := by kernel_rfl

/-- A net at N that holds the texts ss; their row lies in block g. -/
def NetAt (w : World) (N base : Nat) (g : Option Nat) (ss : List ByteArray) : Prop :=
  ∃ A c, Blk w N 103 [.slice A ss.length c] ∧ w.ownsRow base 9 1 (.slice A ss.length c) ss.length (ss.map .string) ∧ (Value.slice A ss.length c).ownBlock = g
theorem NetAt.lt {w : World} {N base : Nat} {g : Option Nat} {ss : List ByteArray} (h : NetAt w N base g ss) : N < w.heap.size := by
  obtain ⟨A, c, hb, _⟩ := h
  exact hb.lt
theorem NetAt.row_lt {w : World} {N base : Nat} {g : Option Nat} {ss : List ByteArray} (h : NetAt w N base g ss) : ∀ k, g = some k → base ≤ k ∧ k < w.heap.size := by
  obtain ⟨A, c, hb, hown, rfl⟩ := h
  exact fun k hk => hown.lt k hk
theorem ownsRow_keeps {S : Nat → Prop} {w w' : World} {base : Nat} {e : TypeId} {size : Nat} {v : Value} {n : Nat} {xs : List Value} (h : w.ownsRow base e size v n xs) (k : Keeps S w w') (hn : ∀ b, v.ownBlock = some b → ¬ S b) : w'.ownsRow base e size v n xs := by
  have hl := h.lt
  refine ⟨h.1, ?_⟩
  rcases h.2 with h | ⟨b, cap, cur, rfl, q0, q1, q2⟩
  · exact .inl h
  · exact .inr ⟨b, cap, cur, rfl, q0, (k.block b (hl b rfl).2 (hn b rfl)).trans q1, q2⟩
theorem NetAt.kept {S : Nat → Prop} {w w' : World} {N base : Nat} {g : Option Nat} {ss : List ByteArray} (h : NetAt w N base g ss) (k : Keeps S w w') (hN : ¬ S N) (hg : ∀ b, g = some b → ¬ S b) : NetAt w' N base g ss := by
  obtain ⟨A, c, hb, hown, rfl⟩ := h
  exact ⟨A, c, hb.kept k hN, ownsRow_keeps hown k hg, rfl⟩
theorem NetAt.below {w w' : World} {N base : Nat} {g : Option Nat} {ss : List ByteArray} (h : NetAt w N base g ss) (hb : Below w.heap.size w w') : NetAt w' N base g ss := h.kept (Keeps.of_below_all (S := fun _ => False) hb) id (fun _ _ => id)
theorem slice_cur {w : World} {base : Nat} {e : TypeId} {size : Nat} {A : Option Addr} {n c : Nat} {xs : List Value} (h : w.ownsRow base e size (.slice A n c) n xs) : (A = none ∧ n = 0 ∧ c = 0) ∨ ∃ g cur, A = some ⟨g, 0, none⟩ ∧ w.heap[g]? = some (.cells cur e (0, 0)) := by
  rcases h.2 with ⟨h1, h2⟩ | ⟨g, cap, cur, h1, _, h2, _⟩
  · injection h1 with a b c
    exact .inl ⟨a, h2, c⟩
  · injection h1 with a b c
    exact .inr ⟨g, cur, a, h2⟩
/-- The net's block is not its row's. -/
theorem NetAt.ne {w : World} {N base : Nat} {g : Option Nat} {ss : List ByteArray} (h : NetAt w N base g ss) : g ≠ some N := by
  obtain ⟨A, c, hb, hown, rfl⟩ := h
  intro e
  rcases slice_cur hown with ⟨rfl, _⟩ | ⟨g, cur, rfl, hc⟩
  · cases e
  · have e2 : g = N := by simpa [Value.ownBlock] using e
    subst e2
    have h6 := (show w.heap[g]? = _ from hb).symm.trans hc
    injection h6 with h6
    injection h6 with _ h7 _
    exact absurd h7 (by decide)
theorem NetAt.cell {w : World} {N base : Nat} {g : Option Nat} {ss : List ByteArray} (h : NetAt w N base g ss) : ∃ A c, w.cell? ⟨N, 0, none⟩ = some (.slice A ss.length c) := by
  obtain ⟨A, c, hb, _⟩ := h
  exact ⟨A, c, hb.cell 0 rfl⟩

theorem netNew_any (w : World) : Calls Try.prog 19 #[] w fun e w' => e = .returned (.pointer (some ⟨w.heap.size, 0, none⟩)) ∧ w' = w.alloc (.cells #[.slice none 0 0] 103) := by
  go_enter Try.func19, Try.ntmps19
  go_wp2
  go_ret
  exact ⟨rfl, rfl⟩
theorem NetAt.new (w : World) : NetAt (w.alloc (.cells #[.slice none 0 0] 103)) w.heap.size w.heap.size none [] :=
  ⟨none, 0, Blk.new w 103 [.slice none 0 0], World.ownsRow_nil _ _ _ _, rfl⟩

theorem may_high (N n c : Nat) (A : Option Addr) (i : Int) (h : (n : Int) ≤ i) (w : World) (hc : w.cell? ⟨N, 0, none⟩ = some (.slice A n c)) :
    Calls Try.prog 45 #[.pointer (some ⟨N, 0, none⟩), .int .i64 i] w fun e w' => e = .returned (.int .i64 2601) ∧ w = w' := by
  have h0 : ¬ i < 0 := by omega
  have h1 : decide (i < 0) = false := by simpa using h0
  go_enter Try.func45, Try.ntmps45
  go_wp2
  go_ret
  exact ⟨rfl, rfl⟩
theorem may_ok (N n c : Nat) (A : Option Addr) (i : Int) (h0 : ¬ i < 0) (h : ¬ (n : Int) ≤ i) (w : World) (hc : w.cell? ⟨N, 0, none⟩ = some (.slice A n c)) :
    Calls Try.prog 45 #[.pointer (some ⟨N, 0, none⟩), .int .i64 i] w fun e w' => e = .returned (.int .i64 0) ∧ w = w' := by
  have h1 : decide (i < 0) = false := by simpa using h0
  have h2 : decide ((n : Int) ≤ i) = false := by simpa using h
  go_enter Try.func45, Try.ntmps45
  go_wp2
  go_ret
  exact ⟨rfl, rfl⟩

end Go.Proofs.Ytibcadfpengacaa

-- NetS
set_option linter.unusedVariables false
set_option linter.unusedSimpArgs false
namespace Go.Proofs.Ytibcadfpengacaa
open Go.RowKit Go.Lib Go.Proofs.YtibcadfpengacaaW.PrintWords Go.Proofs.YtibcadfpengacaaW.PrintMore Go.Proofs.YtibcadfpengacaaW.PrintLast

theorem wpList_append_lies {P : Program} (w : World) {ops : Array Oper} {rest : List Oper} {o : Oper} {a : Act} {Q : Exit → Act → World → Prop} (hgd : o.guard = none) (s x : Operand) (t : TypeId)
    (ho : o.op = .call { callee := .builtin .append, args := #[s, x], argTypes := #[t, t] })
    (base : Nat) (e : TypeId) (i : TypeInfo) (z : Value) (size bytes : Nat) (ht : P.underlying t = some (.slice e)) (hi : P.info? e = some i) (hz : i.zero = some z)
    (hsize : i.size = size) (hby : i.bytes = bytes) (hzs : z.cells.size = size) (hsz : 0 < size)
    (v : Value) (n : Nat) (xs : List Value) (hs : a.eval s = v) (hown : w.ownsRow base e size v n xs)
    (ad : Addr) (m c : Nat) (news : List Value) (hx : a.eval x = .slice (some ad) m c) (hl : news.length = m * size) (hnews : ∀ j u, news[j]? = some u → w.cell? (ad.add j) = some u) (h1 : ∀ u ∈ news, u.oneCell' = true)
    (hm : 0 < m) (h63 : n + m ≤ maxLen) (hbytes : (n + m) * bytes ≤ 140737488355328) (hbase : base ≤ w.heap.size) (H : Nat) (hH : w.heap.size = H)
    (h : ∀ g cap w', w'.ownsRow base e size (.slice (some ⟨g, 0, none⟩) (n + m) cap) (n + m) (xs ++ news) → w.grownBy w' v.ownBlock → (v.ownBlock = some g ∨ g = H) → g < w'.heap.size → wpList P ops Q rest (a.put o.dst (.slice (some ⟨g, 0, none⟩) (n + m) cap)) w') : wpList P ops Q (o :: rest) a w :=
  wpList_plain hgd fun _ hK => wp_append_lies w s x t ho base e i z size bytes ht hi hz hsize hby hzs hsz v n xs hs hown ad m c news hx hl hnews h1 hm h63 hbytes hbase H hH fun g cap w' h1 h2 h3 h4 => hK _ _ (h g cap w' h1 h2 h3 h4)

theorem news_cells (w : World) (cs : List Value) (t : TypeId) : ∀ j u, cs[j]? = some u → (w.alloc (.cells cs.toArray t)).cell? ((⟨w.heap.size, 0, none⟩ : Addr).add j) = some u := fun j u hu => by
  rw [addr_plus, Nat.zero_add]
  exact (Blk.new w t cs).cell j hu
theorem news_one (w : World) (v : Value) (t : TypeId) : ∀ j u, [v][j]? = some u → (w.alloc (.cells #[v] t)).cell? ((⟨w.heap.size, 0, none⟩ : Addr).add j) = some u := fun j u hu => by
  rw [addr_plus, Nat.zero_add]
  exact (Blk.new w t [v]).cell j hu
theorem NetAt.cellg {w w1 : World} {N base : Nat} {g : Option Nat} {ss : List ByteArray} (h : NetAt w N base g ss) (hg : w.grownBy w1 g) : w1.cell? ⟨N, 0, none⟩ = w.cell? ⟨N, 0, none⟩ ∧ w1.frozen? ⟨N, 0, none⟩ = false := by
  have hne := h.ne
  obtain ⟨A, c, hb, _, _⟩ := h
  have e : w1.heap[N]? = w.heap[N]? := hg.block N hb.lt (fun e => hne e.symm)
  exact ⟨World.cell?_of_block (a := ⟨N, 0, none⟩) e, (World.frozen?_of_block (a := ⟨N, 0, none⟩) e).trans (hb.frozen 0)⟩
/-- Behind an append and the store of the slice the net holds one text more. -/
theorem NetAt.appended {w w1 : World} {N base : Nat} {g : Option Nat} {ss : List ByteArray} (h : NetAt w N base g ss) {k cap : Nat} {s : ByteArray} {A : Option Addr} {c : Nat} (hA : (Value.slice A ss.length c).ownBlock = g) (hown : w1.ownsRow base 9 1 (.slice (some ⟨k, 0, none⟩) (ss.length + 1) cap) (ss.length + 1) (ss.map .string ++ [.string s]))
    (hg : w.grownBy w1 (Value.slice A ss.length c).ownBlock) : NetAt (w1.setCell ⟨N, 0, none⟩ (.slice (some ⟨k, 0, none⟩) (ss.length + 1) cap)) N base (some k) (ss ++ [s]) := by
  have hne := h.ne
  obtain ⟨A', c', hb, ho', hg'⟩ := h
  rw [hA] at hg
  have hb1 : Blk w1 N 103 [.slice A' ss.length c'] := (hg.block N hb.lt (fun e => hne e.symm)).trans hb
  have hkN : k ≠ N := by
    intro e
    subst e
    rcases slice_cur hown with ⟨h, _⟩ | ⟨g, cur, h, hc⟩
    · cases h
    · injection h with h
      injection h with h _ _
      subst h
      have h6 := (show w1.heap[k]? = _ from hb1).symm.trans hc
      injection h6 with h6
      injection h6 with _ h7 _
      exact absurd h7 (by decide)
  refine ⟨some ⟨k, 0, none⟩, cap, ?_, ?_, rfl⟩
  · have := hb1.set 0 (.slice (some ⟨k, 0, none⟩) (ss.length + 1) cap)
    rw [show (ss ++ [s]).length = ss.length + 1 by simp]
    exact this
  · rw [show (ss ++ [s]).length = ss.length + 1 by simp, List.map_append]
    exact ownsRow_keeps hown ((Keeps.refl (fun b => b = N) w1).setCell (a := ⟨N, 0, none⟩) (fun _ => rfl) _) (fun b e => by
      have : b = k := by simpa [Value.ownBlock] using e.symm
      subst this
      exact hkN)

set_option maxHeartbeats 4000000 in
set_option maxRecDepth 100000 in
theorem send_full (N n c : Nat) (A : Option Addr) (x : List Value) (hxl : x.length = 33) (hn : 1024 ≤ n) (hn2 : n ≤ 1099511627776) (w : World) (hc : w.cell? ⟨N, 0, none⟩ = some (.slice A n c)) :
    Calls Try.prog 20 #[.pointer (some ⟨N, 0, none⟩), .agg x.toArray] w fun e w' => e = .returned (.int .i64 2600) ∧ Below w.heap.size w w' := by
  have hi : (1024 : Int) ≤ (n : Int) := by omega
  have Hc := Lib.hid hc
  have hlt := World.block_lt_of_cell? w _ hc
  clear hc
  go_enter Try.func20, Try.ntmps20
  go_wp2_with (first
    | ((with_reducible refine gate_dst (N := 3) rfl ?_); refine box_event rfl (N := 3) rfl (run_box _ _ _ 36 _ x.toArray rfl rfl _) ?_; intro g3 hg3 v1 hbox hbel; have B3 := Lib.hid (show Blk v1 g3 36 x from hbox); have BLg3 := Lib.hid hbel; have Hg3 := Lib.hid hg3; clear hbox hbel hg3; have c0 := (BLg3.out.cell (p := ⟨N, 0, none⟩) hlt).trans Hc.out))
  go_ret
  exact ⟨rfl, BLg3.out⟩
set_option maxHeartbeats 4000000 in
set_option maxRecDepth 100000 in
theorem send_ok (N base : Nat) (g : Option Nat) (ss : List ByteArray) (x : List Value) (hxl : x.length = 33) (s : ByteArray) (P : World → Prop) (hP : ∀ w w1, Below w.heap.size w w1 → P w → P w1)
    (HE : ∀ w, P w → Calls Try.prog 9 #[.agg x.toArray] w fun e w' => e = .returned (.tuple #[.string s, .int .i64 0]) ∧ Below w.heap.size w w') (hn : ¬ 1024 ≤ ss.length) (w : World) (h : NetAt w N base g ss) (hbase : base ≤ w.heap.size) (hp : P w) :
    Calls Try.prog 20 #[.pointer (some ⟨N, 0, none⟩), .agg x.toArray] w fun e w' => e = .returned (.int .i64 0) ∧ ∃ k, NetAt w' N base (some k) (ss ++ [s]) ∧ (g = some k ∨ w.heap.size ≤ k) ∧ Keeps (fun k => k = N ∨ some k = g) w w' := by
  obtain ⟨i0, hi0, hz0, hz1, hz2⟩ := info_parts infoStr
  have hi : ¬ (1024 : Int) ≤ (ss.length : Int) := by omega
  have hi2 : (ss.length : Int) < 1024 := by omega
  have h' := h
  obtain ⟨A, c, hb, hown, hA⟩ := h
  have Hc := Lib.hid (hb.cell 0 rfl)
  have HP := Lib.hid hP; have HE' := Lib.hid HE; have Hp := Lib.hid hp; have Hxl := Lib.hid hxl; have HN := Lib.hid h'; have HA := Lib.hid hA; have Hown := Lib.hid hown
  have hlt := hb.lt
  clear hP HE hp hxl h' hA hown hb
  go_enter Try.func20, Try.ntmps20
  go_wp2_with (first
    | ((with_reducible refine gate_dst (N := 3) rfl ?_); refine box_event rfl (N := 3) rfl (run_box _ _ _ 36 _ x.toArray rfl rfl _) ?_; intro g3 hg3 v1 hbox hbel; have B3 := Lib.hid (show Blk v1 g3 36 x from hbox); have BLg3 := Lib.hid hbel; have Hg3 := Lib.hid hg3; clear hbox hbel hg3; have c0 := (BLg3.out.cell (p := ⟨N, 0, none⟩) hlt).trans Hc.out; have Hp1 := Lib.hid (HP.out _ _ BLg3.out Hp.out))
    | ((with_reducible refine gate_dst (N := 18) rfl ?_); refine wpList_load_mid rfl 36 _ rfl g3 0 rfl x _ ?hc Try.underlying36 rfl ?hi ?_; (case hc => exact B3.out.range); (case hi => rw [Hxl.out]; exact infoMsg)))
  refine (HE'.out v1 Hp1.out).mono ?_
  rintro e v2 ⟨rfl, hb⟩
  have KB := Lib.hid (BLg3.out.trans (hb.mono BLg3.out.size))
  have HN2 := Lib.hid (HN.out.below KB.out)
  have Hsz := Lib.hid KB.out.size
  have c2 := (KB.out.cell (p := ⟨N, 0, none⟩) hlt).trans Hc.out
  have hown2 := ownsRow_keeps Hown.out (Keeps.of_below_all (S := fun _ => False) KB.out) (fun _ _ => id)
  have hb2 : base ≤ v2.heap.size + 1 := by have := Hsz.out; omega
  have hlt2 : ss.length + 1 ≤ maxLen := by unfold maxLen; omega
  have hby2 : (ss.length + 1) * 16 ≤ 140737488355328 := by omega
  have HO := Lib.hid (hown2.alloc (.cells #[.string s] 9))
  clear hb c0 hown2
  go_wp2_with (first
    | (at_builtin; refine wpList_append_lies _ rfl _ _ 101 rfl base 9 i0 _ 1 16 Try.underlying101 hi0 hz0 hz1 hz2 rfl (by decide) _ _ _ rfl HO.out ⟨v2.heap.size, 0, none⟩ 1 1 [.string s] rfl rfl (news_one _ _ _) (fun u hu => by rw [List.mem_singleton] at hu; subst hu; rfl) (by decide) hlt2 hby2 (by simp; exact hb2) (v2.heap.size + 1) (by simp) ?_; intro k cap w3 hown' hgrow hat hkl; have HW := Lib.hid hown'; have HG := Lib.hid hgrow; have HT := Lib.hid hat; have HN3 := HN2.out.below ((Below.refl _ _).alloc (Nat.le_refl _) (.cells #[.string s] 9)); have N3 := Lib.hid ((HN2.out.below ((Below.refl _ _).alloc (Nat.le_refl _) (.cells #[.string s] 9))).appended HA.out hown' hgrow); clear hown' hgrow hat; have c3 := (HN3.cellg (HA.out ▸ HG.out)).1.trans (((Below.refl _ _).alloc (Nat.le_refl _) _ |>.cell (p := ⟨N, 0, none⟩) HN2.out.lt).trans c2); have f3 := (HN3.cellg (HA.out ▸ HG.out)).2; clear HN3))
  go_ret
  refine ⟨rfl, k, N3.out, ?_, ?_⟩
  · rcases HT.out with h | h
    · exact .inl (HA.out ▸ h)
    · exact .inr (by have := Hsz.out; omega)
  · exact (((Keeps.of_below_all (S := fun k => k = N ∨ some k = g) KB.out).alloc (.cells #[.string s] 9)).trans (Keeps.of_grown (HA.out ▸ HG.out) (S := fun k => k = N ∨ some k = g) (fun k hk _ => .inr hk.symm)) (fun _ _ h => h)).setCell (a := ⟨N, 0, none⟩) (fun _ => .inl rfl) _

end Go.Proofs.Ytibcadfpengacaa

-- NetC
set_option linter.unusedVariables false
set_option linter.unusedSimpArgs false
namespace Go.Proofs.Ytibcadfpengacaa
open Go.RowKit Go.Lib Go.Proofs.YtibcadfpengacaaW.PrintWords Go.Proofs.YtibcadfpengacaaW.PrintMore Go.Proofs.YtibcadfpengacaaW.PrintLast

set_option maxHeartbeats 4000000 in
set_option maxRecDepth 100000 in
theorem copy_full (N n c : Nat) (A : Option Addr) (i : Int) (h0 : ¬ i < 0) (h1 : ¬ (n : Int) ≤ i) (hn : 1024 ≤ n) (w : World) (hc : w.cell? ⟨N, 0, none⟩ = some (.slice A n c)) :
    Calls Try.prog 25 #[.pointer (some ⟨N, 0, none⟩), .int .i64 i] w fun e w' => e = .returned (.int .i64 2600) ∧ w = w' := by
  have HM := Lib.hid (may_ok N n c A i h0 h1 w hc)
  have hi : (1024 : Int) ≤ (n : Int) := by omega
  clear h0 h1 hn
  go_enter Try.func25, Try.ntmps25
  go_wp2_with (go_at_call 45; refine HM.out.mono ?_; rintro e w' ⟨rfl, rfl⟩)
  go_ret
  exact ⟨rfl, rfl⟩
set_option maxHeartbeats 4000000 in
set_option maxRecDepth 100000 in
theorem copy_ok (N base : Nat) (g : Option Nat) (ss : List ByteArray) (i : Nat) (s : ByteArray) (hs : ss[i]? = some s) (hn : ¬ 1024 ≤ ss.length) (w : World) (h : NetAt w N base g ss) (hbase : base ≤ w.heap.size) :
    Calls Try.prog 25 #[.pointer (some ⟨N, 0, none⟩), .int .i64 i] w fun e w' => e = .returned (.int .i64 0) ∧ ∃ k, NetAt w' N base (some k) (ss ++ [s]) ∧ (g = some k ∨ w.heap.size ≤ k) ∧ Keeps (fun k => k = N ∨ some k = g) w w' := by
  obtain ⟨i0, hi0, hz0, hz1, hz2⟩ := info_parts infoStr
  have hil : i < ss.length := (List.getElem?_eq_some_iff.1 hs).1
  have h1 : ¬ ((ss.length : Int) ≤ (i : Int)) := by omega
  have h2 : ¬ (1024 : Int) ≤ (ss.length : Int) := by omega
  have h3 : (ss.length : Int) < 1024 := by omega
  have HN := Lib.hid h
  obtain ⟨A, c, hb, hown, hA⟩ := h
  have hc := hb.cell 0 rfl
  have HM := Lib.hid (may_ok N ss.length c A i (by omega) h1 w hc)
  obtain ⟨gr, cur, rfl, hcur⟩ : ∃ gr cur, A = some ⟨gr, 0, none⟩ ∧ w.heap[gr]? = some (.cells cur 9 (0, 0)) := by
    rcases slice_cur hown with ⟨_, h, _⟩ | h
    · omega
    · exact h
  have hci : w.cell? ⟨gr, i, none⟩ = some (.string s) := by
    rw [World.ownsRow.cellAt hown i (by omega)]
    simp [hs]
  have hb2 : base ≤ w.heap.size + 1 := by omega
  have hlt2 : ss.length + 1 ≤ maxLen := by unfold maxLen; omega
  have hby2 : (ss.length + 1) * 16 ≤ 140737488355328 := by omega
  have HA := Lib.hid hA; have HO := Lib.hid hown; have Hs := Lib.hid hs
  clear h1 h2 hs hA hown hb hcur
  go_enter Try.func25, Try.ntmps25
  go_wp2_with (go_at_call 45; refine HM.out.mono ?_; rintro e w' ⟨rfl, rfl⟩)
  have hca := (((Below.refl _ w).alloc (Nat.le_refl _) (.cells #[.string s] 9)).cell (p := ⟨N, 0, none⟩) HN.out.lt).trans hc
  go_region_law
    ((refine step_append_lies _ (by rfl) _ _ _ (by rfl) base 9 i0 _ 1 16 Try.underlying101 hi0 hz0 hz1 hz2 (by rfl) (by omega) (.slice (some ⟨gr, 0, none⟩) ss.length c) ss.length (ss.map .string) (by rfl) (HO.out.alloc _) _ 1 1 [.string s] (by rfl) rfl (news_one _ _ _) (fun u hu => by rw [List.mem_singleton] at hu; subst hu; rfl) (by decide) hlt2 hby2 (by simp; exact hb2) (w.heap.size + 1) (by simp) ?_; intro k cap w3 hown' hgrow hat hkl; have HN3 := (HN.out.below ((Below.refl _ _).drew)).below ((Below.refl _ _).alloc (Nat.le_refl _) (.cells #[.string s] 9)); have N3 := Lib.hid (HN3.appended HA.out hown' hgrow); have c3 := (HN3.cellg (HA.out ▸ hgrow)).1; have f3 := (HN3.cellg (HA.out ▸ hgrow)).2; have HG := Lib.hid hgrow; have HT := Lib.hid hat; have c4 : w3.cell? ⟨N, 0, none⟩ = some (.slice (some ⟨gr, 0, none⟩) ss.length c) := c3.trans (((Below.refl _ _).alloc (Nat.le_refl _) _ |>.cell (p := ⟨N, 0, none⟩) HN.out.lt).trans hc); clear hown' hgrow hat HN3 c3))
  all_goals
    go_wp2_with fail
    go_ret
    refine ⟨rfl, k, N3.out, ?_, ?_⟩
    · rcases HT.out with h | h
      · exact .inl (HA.out ▸ h)
      · exact .inr (by omega)
    · exact ((((Keeps.refl (fun k => k = N ∨ some k = g) w).drew).alloc (.cells #[.string s] 9)).trans (Keeps.of_grown (HA.out ▸ HG.out) (S := fun k => k = N ∨ some k = g) (fun k hk _ => .inr hk.symm)) (fun _ _ h => h)).setCell (a := ⟨N, 0, none⟩) (fun _ => .inl rfl) _

end Go.Proofs.Ytibcadfpengacaa

-- NetD
set_option linter.unusedVariables false
set_option linter.unusedSimpArgs false
namespace Go.Proofs.Ytibcadfpengacaa
open Go.RowKit Go.Lib Go.Proofs.YtibcadfpengacaaW.PrintWords Go.Proofs.YtibcadfpengacaaW.PrintMore Go.Proofs.YtibcadfpengacaaW.PrintLast

def toL (s : ByteArray) : List UInt8 := s.data.toList
theorem encStr_toL (s : ByteArray) : encStr (toL s) = .string s := by
  unfold toL
  show Value.string ⟨s.data.toList.toArray⟩ = _
  rw [Array.toArray_toList]
theorem map_encStr (ss : List ByteArray) : (ss.map toL).map encStr = ss.map .string := by
  rw [List.map_map]
  exact List.map_congr_left (fun s _ => encStr_toL s)
theorem delete_own (base g cap i : Nat) (ss : List ByteArray) (hi : i < ss.length) (w : World) (hown : w.ownsRow base 9 1 (.slice (some ⟨g, 0, none⟩) ss.length cap) ss.length (ss.map .string)) :
    Calls Try.prog 46 #[.slice (some ⟨g, 0, none⟩) ss.length cap, .int .i64 i, .int .i64 ((i : Int) + 1)] w fun e w' => e = .returned (.slice (some ⟨g, 0, none⟩) (ss.length - 1) cap) ∧
      w'.ownsRow base 9 1 (.slice (some ⟨g, 0, none⟩) (ss.length - 1) cap) (ss.length - 1) ((ss.eraseIdx i).map .string) ∧ Keeps (fun k => k = g) w w' := by
  have hown' := hown
  obtain ⟨_, h | ⟨g', cap', cur, hv, hbg, hb, hnc, hcm, hcs, htk⟩⟩ := hown
  · cases h.1
  injection hv with e1 _ e3
  injection e1 with e1
  injection e1 with e1 _ _
  subst e1 e3
  have hm : cap ≤ 9223372036854775807 := by unfold maxLen at hcm; exact hcm
  have hl : (ss.map toL).length = ss.length := List.length_map ..
  have hH : Go.Sort.Holds encStr w g 0 (ss.map toL).toArray := fun j hj => by
    have hj' : j < ss.length := by simpa using hj
    rw [Nat.zero_add]
    refine ⟨?_, World.ownsRow.frozenAt hown' j⟩
    rw [World.ownsRow.cellAt hown' j (by omega)]
    rw [← map_encStr, List.getElem?_map, List.getElem?_map]
    simp [hj']
  have h := Try.slices_Delete_string g 0 cap i (i + 1) (ss.map toL) w hH (by omega) hm (by omega) (by omega)
  rw [hl, show ((i + 1 : Nat) : Int) = (i : Int) + 1 from by omega] at h
  refine h.mono ?_
  rintro e w' ⟨rfl, q, rfl⟩
  have e11 : i + 1 - i = 1 := by omega
  rw [e11]
  generalize hd : (ss.map toL).take i ++ (ss.map toL).drop (i + 1) ++ List.replicate 1 [] = d
  have hdl : d.length = ss.length := by
    rw [← hd]
    simp
    omega
  have hheap : (Go.Sort.putRow encStr (Go.Sort.ahead w q) g 0 d.toArray).heap[g]? = some (.cells (Go.Sort.putCells encStr 0 d.toArray cur) 9 (0, 0)) := by
    simp [Go.Sort.putRow, Go.Sort.mapBlock, Go.Sort.ahead, Array.getElem?_modify, hb, Go.Sort.onCells]
  refine ⟨rfl, ⟨by rw [List.length_map, List.length_eraseIdx_of_lt hi]; omega, .inr ⟨g, cap, _, rfl, hbg, hheap, by omega, hcm, by simp [Go.Sort.putCells, hcs], ?_⟩⟩, ?_⟩
  · rw [Nat.mul_one]
    have h1 := Go.take_putCells cur d (by rw [hcs, hdl]; omega)
    rw [hdl] at h1
    have h2 : (Go.Sort.putCells encStr 0 d.toArray cur).toList.take (ss.length - 1) = (d.map encStr).take (ss.length - 1) := by
      rw [← h1, List.take_take, Nat.min_eq_left (by omega)]
    rw [h2, ← hd, ← map_encStr, List.eraseIdx_eq_take_drop_succ, List.map_append, List.map_append, List.map_append, List.map_take, List.map_drop]
    rw [List.take_append_of_le_length (by simp; omega), List.take_of_length_le (by simp; omega)]
    simp [List.map_take, List.map_drop]
  · refine ⟨rfl, rfl, rfl, by simp, fun k hk hn => ?_⟩
    have hne : ¬ g = k := fun e => hn e.symm
    simp [Go.Sort.putRow, Go.Sort.mapBlock, Go.Sort.ahead, Array.getElem?_modify, hne]

theorem Blk.apart {w : World} {a b : Nat} {t u : TypeId} {cs ds : List Value} (h1 : Blk w a t cs) (h2 : Blk w b u ds) (hne : t ≠ u) : a ≠ b := by
  intro e
  subst e
  have h6 := (show w.heap[a]? = _ from h1).symm.trans h2
  injection h6 with h6
  injection h6 with _ h7 _
  exact hne h7
theorem NetAt.apart {w : World} {N base : Nat} {g : Option Nat} {ss : List ByteArray} (h : NetAt w N base g ss) {b : Nat} {t : TypeId} {cs : List Value} (hb : Blk w b t cs) (h1 : t ≠ 103) (h2 : t ≠ 9) : N ≠ b ∧ g ≠ some b := by
  obtain ⟨A, c, hN, hown, rfl⟩ := h
  refine ⟨fun e => hN.apart hb (fun e => h1 e.symm) e, fun e => ?_⟩
  rcases slice_cur hown with ⟨rfl, _⟩ | ⟨g, cur, rfl, hc⟩
  · cases e
  · have e2 : g = b := by simpa [Value.ownBlock] using e
    subst e2
    have h6 := (show w.heap[g]? = _ from hb).symm.trans hc
    injection h6 with h6
    injection h6 with _ h7 _
    exact h2 h7
theorem OwnEnts.apart {w0 w : World} {A : Option Addr} {cap : Nat} {es : List Ent} (h : OwnEnts w0 w A cap es) {g : Nat} {t : TypeId} {cs : List Value} (hg : Blk w g t cs) (h1 : t ≠ 99) : ¬ A = some ⟨g, 0, none⟩ := by
  intro e
  rcases h with ⟨_, rfl, _⟩ | ⟨L, _, rfl, _, _, h5⟩
  · cases e
  · injection e with e
    injection e with e _ _
    subst e
    exact h5.apart hg (fun e => h1 e.symm) rfl
theorem OwnEnts.apartRow {w0 w : World} {A : Option Addr} {cap : Nat} {es : List Ent} (h : OwnEnts w0 w A cap es) {base : Nat} {e : TypeId} {size : Nat} {B : Option Addr} {n c : Nat} {xs : List Value} (ho : w.ownsRow base e size (.slice B n c) n xs) (b : Nat) (hA : A = some ⟨b, 0, none⟩) (hB : (Value.slice B n c).ownBlock = some b) (h1 : e ≠ 99 := by decide) : False := by
  rcases h with ⟨_, rfl, _⟩ | ⟨L, _, rfl, _, _, h5⟩
  · cases hA
  · injection hA with hA
    injection hA with hA _ _
    subst hA
    rcases slice_cur ho with ⟨rfl, _⟩ | ⟨g, cur, rfl, hc⟩
    · cases hB
    · have e2 : g = L := by simpa [Value.ownBlock] using hB
      subst e2
      have h6 := (show w.heap[g]? = _ from h5).symm.trans hc
      injection h6 with h6
      injection h6 with _ h7 _
      exact h1 h7.symm
theorem OwnEnts.below' {w0 w w' : World} {A : Option Addr} {cap : Nat} {es : List Ent} (h : OwnEnts w0 w A cap es) (hb : Below w.heap.size w w') : OwnEnts w0 w' A cap es := by
  rcases h with h | ⟨L, h1, h2, h3, h4, h5⟩
  · exact .inl h
  · exact .inr ⟨L, h1, h2, h3, h4, h5.below hb⟩
theorem OwnEnts.keeps {S : Nat → Prop} {w0 w w' : World} {A : Option Addr} {cap : Nat} {es : List Ent} (h : OwnEnts w0 w A cap es) (k : Keeps S w w') (hn : ∀ b, A = some ⟨b, 0, none⟩ → ¬ S b) : OwnEnts w0 w' A cap es := by
  rcases h with h | ⟨L, h1, h2, h3, h4, h5⟩
  · exact .inl h
  · exact .inr ⟨L, h1, h2, h3, h4, h5.kept k (hn L h2)⟩

set_option maxHeartbeats 4000000 in
set_option maxRecDepth 100000 in
theorem deliver_high (N n c : Nat) (A : Option Addr) (i : Int) (h : (n : Int) ≤ i) (w : World) (hc : w.cell? ⟨N, 0, none⟩ = some (.slice A n c)) :
    Calls Try.prog 22 #[.pointer (some ⟨N, 0, none⟩), .int .i64 i] w fun e w' => e = .returned (.tuple #[.agg zcs.toArray, .int .i64 2601]) ∧ Below w.heap.size w w' := by
  have HM := Lib.hid (fun w hc => may_high N n c A i h w hc)
  have Hc := Lib.hid hc
  have hlt := World.block_lt_of_cell? w _ hc
  clear h hc
  go_enter Try.func22, Try.ntmps22
  go_wp2_with (first
    | ((with_reducible refine gate_dst (N := 4) rfl ?_); refine box_event rfl (N := 4) rfl (run_allocM _ _ rfl _) ?_; intro gr hgr v1 hbox hbel; have Br := Lib.hid (show Blk v1 gr 36 zcs from hbox); have BLgr := Lib.hid hbel; have Hgr := Lib.hid hgr; clear hbox hbel hgr; have c0 := Lib.hid ((BLgr.out.cell (p := ⟨N, 0, none⟩) hlt).trans Hc.out))
    | (go_at_call 45; refine (HM.out _ c0.out).mono ?_; rintro e w' ⟨rfl, rfl⟩)
    | ((with_reducible refine gate_dst (N := 14) rfl ?_); refine Kd.event_run rfl (run_buildM _ _ rfl _) ?_)
    | ((with_reducible refine gate_store (t := 36) (p := 4) rfl ?_); refine wpList_store_mid rfl 36 _ _ rfl gr 0 zcs.toArray rfl rfl ?ht ?hi ?h1 ?_; (case ht => exact Br.out.there 33 (Nat.le_refl 33)); (case hi => exact infoMsg); (case h1 => exact all_oneCell_toArray zcs_one); have B2gr := Lib.hid (Br.out.setAll zcs rfl); have Kgr := Lib.hid (Keeps.setCells (S := fun k => k = gr) zcs 0 v1 (Keeps.refl _ _) (fun _ => rfl)); change wpList _ _ _ _ _ (v1.setCells gr 0 zcs); generalize v1.setCells gr 0 zcs = v2 at B2gr Kgr ⊢))
  refine bodyPost_ret (v := .tuple #[.agg zcs.toArray, .int .i64 2601]) (results_cell_tmp Try.results22 (by rfl) (by rfl) (load_msg B2gr.out zcs_len)) rfl ⟨rfl, ?_⟩
  exact BLgr.out.trans (Kgr.out.below BLgr.out.size (fun k hk => by show ¬ k = gr; have := Hgr.out; omega))
set_option maxHeartbeats 4000000 in
set_option maxRecDepth 100000 in
theorem deliver_ok (N base : Nat) (g : Option Nat) (ss : List ByteArray) (i : Nat) (s : ByteArray) (hs : ss[i]? = some s) (hsz : s.size ≤ 281474976710656) (hn : ss.length ≤ 1099511627776) (w : World) (h : NetAt w N base g ss) :
    Calls Try.prog 22 #[.pointer (some ⟨N, 0, none⟩), .int .i64 i] w fun e w' => ∃ A cap, e = .returned (.tuple #[.agg ((decM s).vs (.slice A (decM s).list.length cap)).toArray, .int .i64 (decC s)]) ∧ NetAt w' N base g (ss.eraseIdx i) ∧
      OwnEnts w w' A cap (decM s).list ∧ Keeps (fun k => k = N ∨ some k = g) w w' := by
  have hil : i < ss.length := (List.getElem?_eq_some_iff.1 hs).1
  have h1 : ¬ ((ss.length : Int) ≤ (i : Int)) := by omega
  have h3 : (i : Int) < (ss.length : Int) := by omega
  have h4 : (ss.length : Int) ≤ 1099511627776 := by omega
  have HD := Lib.hid (fun w => decode_any s hsz w)
  unfold DecPost at HD
  generalize decM s = m at *
  generalize decC s = cc at *
  have HN := Lib.hid h
  obtain ⟨A, c, hb, hown, hA⟩ := h
  have Hc := Lib.hid (hb.cell 0 rfl)
  have HM := Lib.hid (fun w hc => may_ok N ss.length c A i (by omega) h1 w hc)
  obtain ⟨gr, cur, rfl, hcur⟩ : ∃ gr cur, A = some ⟨gr, 0, none⟩ ∧ w.heap[gr]? = some (.cells cur 9 (0, 0)) := by
    rcases slice_cur hown with ⟨_, h, _⟩ | h
    · omega
    · exact h
  have Hci : Hid (w.cell? ⟨gr, i, none⟩ = some (.string s)) := Lib.hid (by
    rw [World.ownsRow.cellAt hown i (by omega)]
    simp [hs])
  obtain rfl : g = some gr := hA.symm
  have hlt := hb.lt
  have hltg : gr < w.heap.size := (Array.getElem?_eq_some_iff.1 hcur).1
  have HO := Lib.hid hown; have Hs := Lib.hid hs; have Hil := Lib.hid hil
  clear h1 hs hown hb hcur hsz hil
  go_enter Try.func22, Try.ntmps22
  go_wp2_with (first
    | ((with_reducible refine gate_dst (N := 4) rfl ?_); refine box_event rfl (N := 4) rfl (run_allocM _ _ rfl _) ?_; intro gr0 hgr0 v1 hbox hbel; have Br := Lib.hid (show Blk v1 gr0 36 zcs from hbox); have BLgr0 := Lib.hid hbel; have Hgr0 := Lib.hid hgr0; clear hbox hbel hgr0; have c0 := Lib.hid ((BLgr0.out.cell (p := ⟨N, 0, none⟩) hlt).trans Hc.out); have ci := (BLgr0.out.cell (p := ⟨gr, i, none⟩) hltg).trans Hci.out; have c1 := c0.out)
    | (go_at_call 45; refine (HM.out _ c0.out).mono ?_; rintro e w' ⟨rfl, rfl⟩))
  refine (HD.out v1).mono ?_
  rintro e v2 ⟨A, cp, rfl, ho, hb⟩
  have K2 := Lib.hid (BLgr0.out.trans (hb.mono BLgr0.out.size))
  have R2 := Lib.hid (Br.out.below hb)
  have E2 := Lib.hid ho
  have Z2 := Lib.hid BLgr0.out.size
  have T2 := Lib.hid (MsgAt.of m A cp)
  generalize hx : m.vs (.slice A m.list.length cp) = x at *
  have Hx := Lib.hid hx
  clear hx hb ho c0 ci c1 Br BLgr0 HM HD
  go_wp2_with (first
    | ((with_reducible refine gate_dst (N := 7) rfl ?_); refine box_event rfl (N := 7) rfl (run_allocM _ _ rfl _) ?_; intro g7 hg7 v3 hbox hbel; have Bg7 := Lib.hid (show Blk v3 g7 36 zcs from hbox); have BLg7 := Lib.hid hbel; have Hg7 := Lib.hid hg7; clear hbox hbel hg7)
    | ((with_reducible refine gate_store (t := 36) (p := 7) rfl ?_); refine wpList_store_mid rfl 36 _ _ rfl g7 0 x.toArray rfl rfl ?ht ?hi ?h1 ?_; (case ht => exact Bg7.out.there _ (by rw [List.size_toArray, T2.out.len]; exact Nat.le_refl 33)); (case hi => rw [List.size_toArray, T2.out.len]; exact infoMsg); (case h1 => exact all_oneCell_toArray T2.out.one); have B2g7 := Lib.hid (Bg7.out.setAll x (by rw [T2.out.len]; rfl)); have Kg7 := Lib.hid (Keeps.setCells (S := fun k => k = g7) x 0 v3 (Keeps.refl _ _) (fun _ => rfl)); change wpList _ _ _ _ _ (v3.setCells g7 0 x); generalize v3.setCells g7 0 x = v4 at B2g7 Kg7 ⊢; have BMg7 := Lib.hid (BLg7.out.trans (Kg7.out.below BLg7.out.size (fun k hk => by show ¬ k = g7; have := Hg7.out; omega))); clear Bg7 BLg7 Kg7 Hg7; have K4 := Lib.hid (K2.out.trans (BMg7.out.mono K2.out.size)); have R4 := Lib.hid (R2.out.below BMg7.out); have E4 := Lib.hid (E2.out.below' BMg7.out); have N4 := Lib.hid (HN.out.below K4.out); have c4 := (K4.out.cell (p := ⟨N, 0, none⟩) hlt).trans Hc.out; have O4 := Lib.hid (ownsRow_keeps HO.out (Keeps.of_below_all (S := fun _ => False) K4.out) (fun _ _ => id)); clear R2 E2 BMg7))
  refine (delete_own base gr c i ss Hil.out v4 O4.out).mono ?_
  rintro e v5 ⟨rfl, ho5, hk5⟩
  have P4 := N4.out.apart B2g7.out (by decide) (by decide)
  have Q4 := N4.out.apart R4.out (by decide) (by decide)
  have hg7 : g7 ≠ gr := fun e => P4.2 (by rw [e])
  have hg0 : gr0 ≠ gr := fun e => Q4.2 (by rw [e])
  have B5 := B2g7.out.kept hk5 hg7
  have R5 := R4.out.kept hk5 hg0
  have E5 := E4.out.keeps hk5 (fun b h e => E4.out.apartRow O4.out b h (by rw [e]; rfl))
  have hNg : N ≠ gr := fun e => N4.out.ne (by rw [e])
  have BN5 : Blk v5 N 103 [.slice (some ⟨gr, 0, none⟩) ss.length c] := by
    obtain ⟨A', c', q1, _, _⟩ := N4.out
    have q2 : Value.slice A' ss.length c' = .slice (some ⟨gr, 0, none⟩) ss.length c := by
      have := (q1.cell 0 rfl).symm.trans c4
      simpa using this
    rw [q2] at q1
    exact q1.kept hk5 hNg
  have BN6 := BN5.set 0 (.slice (some ⟨gr, 0, none⟩) (ss.length - 1) c)
  have K6 : Keeps (fun k => k = N) v5 (v5.setCell ⟨N, 0, none⟩ (.slice (some ⟨gr, 0, none⟩) (ss.length - 1) c)) := (Keeps.refl (fun k => k = N) v5).setCell (a := ⟨N, 0, none⟩) (fun _ => rfl) _
  have B6 := Lib.hid (B5.kept K6 (fun e => P4.1 e.symm))
  have R6 := Lib.hid (R5.kept K6 (fun e => Q4.1 e.symm))
  have E6 := Lib.hid (E5.keeps K6 (fun b h e => E5.apart BN5 (by decide) (by rw [h, show b = N from e])))
  have hel : (ss.eraseIdx i).length = ss.length - 1 := List.length_eraseIdx_of_lt Hil.out
  have N6 : Hid (NetAt (v5.setCell ⟨N, 0, none⟩ (.slice (some ⟨gr, 0, none⟩) (ss.length - 1) c)) N base (some gr) (ss.eraseIdx i)) := Lib.hid (by
    refine ⟨some ⟨gr, 0, none⟩, c, ?_, ?_, rfl⟩
    · rw [hel]; exact BN6
    · rw [hel]
      exact ownsRow_keeps ho5 K6 (fun b e => by
        have : b = gr := by simpa [Value.ownBlock] using e.symm
        subst this
        exact fun e => hNg e.symm))
  have c5 := BN5.cell 0 rfl
  have f5 := BN5.frozen 0
  have KK := Lib.hid (((Keeps.of_below_all (S := fun k => k = N ∨ some k = some gr) K4.out).trans (hk5.mono (S' := fun k => k = N ∨ some k = some gr) (fun k _ h => .inr (by rw [h]))) (fun _ _ h => h)).trans (K6.mono (S' := fun k => k = N ∨ some k = some gr) (fun k _ h => .inl h)) (fun _ _ h => h))
  clear ho5 hk5 P4 Q4 hg7 hg0 B5 R5 E5 hNg BN5 BN6 K6 hel N4 c4 O4 B2g7 R4 E4 K4
  go_wp2_with (first
    | ((with_reducible refine gate_dst (N := 38) rfl ?_); refine wpList_load_mid rfl 36 _ rfl g7 0 rfl x _ ?hc Try.underlying36 rfl ?hi ?_; (case hc => exact B6.out.range); (case hi => rw [T2.out.len]; exact infoMsg))
    | ((with_reducible refine gate_store (t := 36) (p := 4) rfl ?_); refine wpList_store_mid rfl 36 _ _ rfl gr0 0 x.toArray rfl rfl ?ht ?hi ?h1 ?_; (case ht => exact R6.out.there _ (by rw [List.size_toArray, T2.out.len]; exact Nat.le_refl 33)); (case hi => rw [List.size_toArray, T2.out.len]; exact infoMsg); (case h1 => exact all_oneCell_toArray T2.out.one); have B2gr0 := Lib.hid (R6.out.setAll x (by rw [T2.out.len]; rfl)); have Kgr0 := Lib.hid (Keeps.setCells (S := fun k => k = gr0) x 0 (v5.setCell ⟨N, 0, none⟩ (.slice (some ⟨gr, 0, none⟩) (ss.length - 1) c)) (Keeps.refl _ _) (fun _ => rfl)); change wpList _ _ _ _ _ ((v5.setCell ⟨N, 0, none⟩ (.slice (some ⟨gr, 0, none⟩) (ss.length - 1) c)).setCells gr0 0 x); generalize (v5.setCell ⟨N, 0, none⟩ (.slice (some ⟨gr, 0, none⟩) (ss.length - 1) c)).setCells gr0 0 x = v7 at B2gr0 Kgr0 ⊢))
  have P6 := N6.out.apart R6.out (by decide) (by decide)
  refine bodyPost_ret (v := .tuple #[.agg x.toArray, .int .i64 cc]) (results_cell_tmp Try.results22 (by rfl) (by rfl) (load_msg B2gr0.out T2.out.len)) rfl ⟨A, cp, by rw [Hx.out], N6.out.kept Kgr0.out P6.1 (fun b e h => P6.2 (by rw [e, h])), ?_, ?_⟩
  · rcases E6.out.keeps Kgr0.out (fun b h e => E6.out.apart R6.out (by decide) (by rw [h, show b = gr0 from e])) with h | ⟨L, h1, h2⟩
    · exact .inl h
    · exact .inr ⟨L, Nat.le_trans Z2.out h1, h2⟩
  · exact KK.out.trans Kgr0.out (fun k h1 h2 => by have := Hgr0.out; omega)

set_option maxHeartbeats 4000000 in
set_option maxRecDepth 100000 in
theorem lose_ok (N base : Nat) (g : Option Nat) (ss : List ByteArray) (i : Nat) (s : ByteArray) (hs : ss[i]? = some s) (hsz : s.size ≤ 281474976710656) (hn : ss.length ≤ 1099511627776) (w : World) (h : NetAt w N base g ss) :
    Calls Try.prog 24 #[.pointer (some ⟨N, 0, none⟩), .int .i64 i] w fun e w' => e = .returned (.int .i64 (decC s)) ∧ NetAt w' N base g (ss.eraseIdx i) ∧ Keeps (fun k => k = N ∨ some k = g) w w' := by
  have HM := Lib.hid (deliver_ok N base g ss i s hs hsz hn w h)
  generalize decM s = m at *
  generalize decC s = cc at *
  clear hs hsz hn h
  go_enter Try.func24, Try.ntmps24
  go_wp2_with fail
  refine HM.out.mono ?_
  rintro e v1 ⟨A, cp, rfl, hn1, _, hk⟩
  have N1 := Lib.hid hn1
  have K1 := Lib.hid hk
  have T1 := Lib.hid (MsgAt.of m A cp)
  generalize m.vs (.slice A m.list.length cp) = x at *
  clear hn1 hk HM
  go_wp2_with (first
    | ((with_reducible refine gate_dst (N := 5) rfl ?_); refine box_event rfl (N := 5) rfl (run_allocM _ _ rfl _) ?_; intro g5 hg5 v2 hbox hbel; have Bg5 := Lib.hid (show Blk v2 g5 36 zcs from hbox); have BLg5 := Lib.hid hbel; have Hg5 := Lib.hid hg5; clear hbox hbel hg5)
    | ((with_reducible refine gate_store (t := 36) (p := 5) rfl ?_); refine wpList_store_mid rfl 36 _ _ rfl g5 0 x.toArray rfl rfl ?ht ?hi ?h1 ?_; (case ht => exact Bg5.out.there _ (by rw [List.size_toArray, T1.out.len]; exact Nat.le_refl 33)); (case hi => rw [List.size_toArray, T1.out.len]; exact infoMsg); (case h1 => exact all_oneCell_toArray T1.out.one); have B2g5 := Lib.hid (Bg5.out.setAll x (by rw [T1.out.len]; rfl)); have Kg5 := Lib.hid (Keeps.setCells (S := fun k => k = g5) x 0 v2 (Keeps.refl _ _) (fun _ => rfl)); change wpList _ _ _ _ _ (v2.setCells g5 0 x); generalize v2.setCells g5 0 x = v3 at B2g5 Kg5 ⊢; have BMg5 := Lib.hid (BLg5.out.trans (Kg5.out.below BLg5.out.size (fun k hk => by show ¬ k = g5; have := Hg5.out; omega))); clear Bg5 BLg5 Kg5 Hg5))
  go_ret
  exact ⟨rfl, N1.out.below BMg5.out, K1.out.trans (Keeps.of_below_all (S := fun k => k = N ∨ some k = g) BMg5.out) (fun _ _ h => h)⟩

end Go.Proofs.Ytibcadfpengacaa

-- NetL
set_option linter.unusedVariables false
set_option linter.unusedSimpArgs false
namespace Go.Proofs.Ytibcadfpengacaa
open Go.RowKit Go.Lib Go.Proofs.YtibcadfpengacaaW.PrintWords Go.Proofs.YtibcadfpengacaaW.PrintMore Go.Proofs.YtibcadfpengacaaW.PrintLast

theorem foldl_sets (l : List Value) : ∀ (k : Nat) (cs : Array Value) (i : Nat), ((l.zipIdx k).foldl (fun (cs : Array Value) (p : Value × Nat) => cs.setIfInBounds p.2 p.1) cs)[i]? = if k ≤ i ∧ i < k + l.length ∧ i < cs.size then l[i - k]? else cs[i]? := by
  induction l with
  | nil => intro k cs i; simp; omega
  | cons v l ih =>
    intro k cs i
    rw [List.zipIdx_cons, List.foldl_cons, ih (k + 1)]
    simp only [Array.size_setIfInBounds, List.length_cons]
    by_cases h : k + 1 ≤ i ∧ i < k + 1 + l.length ∧ i < cs.size
    · rw [if_pos h, if_pos (by omega), show i - k = (i - (k + 1)) + 1 by omega, List.getElem?_cons_succ]
    · rw [if_neg h, Array.getElem?_setIfInBounds]
      by_cases hk : k = i
      · subst hk
        by_cases hs : k < cs.size
        · rw [if_pos rfl, if_pos hs, if_pos (by omega)]; simp
        · rw [if_pos rfl, if_neg hs, if_neg (by omega), Array.getElem?_eq_none (by omega)]
      · rw [if_neg hk, if_neg (by omega)]
theorem fill_one (x : List Value) (z : Array Value) (size : Nat) (hx : x.length = size) (hz : z.size = size) : Instr.fill (fun i => some (i * size, size)) z [(0, Value.agg x.toArray)] = some x.toArray := by
  unfold Instr.fill
  have hc : (Value.agg x.toArray).cells = x.toArray := rfl
  simp only [hc, List.size_toArray, hx, hz, Nat.zero_mul, Nat.zero_add]
  rw [if_neg (by simp)]
  unfold Instr.fill
  congr 1
  apply Array.ext_getElem?
  intro i
  have h := foldl_sets x 0 z i
  rw [← Array.foldl_toList]
  have e : (x.toArray.zipIdx 0).toList = x.zipIdx 0 := by simp
  rw [e]
  refine Eq.trans ?_ (h.trans ?_)
  · congr 1
  · by_cases hi : i < size
    · rw [if_pos ⟨Nat.zero_le _, by omega, by omega⟩]; simp
    · rw [if_neg (by omega), Array.getElem?_eq_none (by omega), Array.getElem?_eq_none (by simp; omega)]
theorem infoMs : (Try.prog.info? 36).map (fun i => (i.zero, i.size, i.bytes)) = some (some (.agg zcs.toArray), 33, 312) := by kernel_rfl
/-- A slice literal of one struct. -/
theorem run_buildOneM (ev : Operand → Value) (o : Oper) (s : Operand) (x : List Value) (hx : x.length = 33) (ho : o.op = .buildSlice 59 1 #[(0, s)]) (hs : ev s = .agg x.toArray) (w : World) :
    (execOp ev o).run Try.prog w = .ok (.value (.slice (some ⟨w.heap.size, 0, none⟩) 1 1)) (w.alloc (.cells x.toArray 36)) := by
  obtain ⟨i, hi, hz0, hz1, hz2⟩ := info_parts infoMs
  have hf : Instr.fill (fun j => some (j * i.size, i.size)) ((Array.range (1 * i.size)).map ((Value.agg zcs.toArray).cells[· % (Value.agg zcs.toArray).cells.size]!)) [(0, Value.agg x.toArray)] = some x.toArray := fill_one x _ i.size (by rw [hz1]; exact hx) (by simp)
  have h := run_buildSlice (P := Try.prog) w 59 36 1 #[(0, Value.agg x.toArray)] x.toArray i (.agg zcs.toArray) Try.underlying59 hi hz0 (by rw [hz1]; decide) (by rw [hz1]; decide) hf
  unfold execOp
  rw [ho]
  simp only [List.map_toArray, List.map_cons, List.map_nil, hs]
  rw [Sem.run_bind, h]
  rfl

/-- A message in memory: its fields, where its list lies. -/
structure Qm where
  m : Msg
  A : Option Addr
  c : Nat
def Qm.cs (q : Qm) : List Value := q.m.vs (.slice q.A q.m.list.length q.c)
theorem Qm.len (q : Qm) : q.cs.length = 33 := rfl
theorem Qm.one (q : Qm) : ∀ v ∈ q.cs, v.oneCell' = true := q.m.one _ _ _
theorem Qm.at (q : Qm) : MsgAt q.cs q.m q.A q.c := MsgAt.of q.m q.A q.c
/-- Its list lies in a block of its own. -/
def EntsG (w : World) (q : Qm) : Prop := (q.A = none ∧ q.c = 0 ∧ q.m.list = []) ∨ ∃ L, q.A = some ⟨L, 0, none⟩ ∧ q.m.list.length ≤ q.c ∧ EntsB w L q.m.list
theorem EntsG.reads {w : World} {q : Qm} (h : EntsG w q) : EntsR w q.A q.m.list := by
  rcases h with ⟨h1, _, h2⟩ | ⟨L, h1, _, h2⟩
  · rw [h2]; exact fun i e he => by simp at he
  · rw [h1]; exact h2.reads
theorem EntsG.keeps {S : Nat → Prop} {w w' : World} {q : Qm} (h : EntsG w q) (k : Keeps S w w') (hn : ∀ b, q.A = some ⟨b, 0, none⟩ → ¬ S b) : EntsG w' q := by
  rcases h with h | ⟨L, h1, h2, h3⟩
  · exact .inl h
  · exact .inr ⟨L, h1, h2, h3.kept k (hn L h1)⟩
theorem EntsG.below {w w' : World} {q : Qm} (h : EntsG w q) (hb : Below w.heap.size w w') : EntsG w' q := h.keeps (Keeps.of_below_all (S := fun _ => False) hb) (fun _ _ => id)
theorem EntsG.lt {w : World} {q : Qm} (h : EntsG w q) : ∀ b, q.A = some ⟨b, 0, none⟩ → b < w.heap.size := by
  intro b hb
  rcases h with ⟨h1, _⟩ | ⟨L, h1, _, h3⟩
  · rw [h1] at hb; cases hb
  · rw [h1] at hb
    injection hb with hb
    injection hb with hb _ _
    subst hb
    exact h3.lt
theorem OwnEnts.ge {w0 w : World} {A : Option Addr} {c : Nat} {es : List Ent} (h : OwnEnts w0 w A c es) : ∀ b, A = some ⟨b, 0, none⟩ → w0.heap.size ≤ b := by
  intro b hb
  rcases h with ⟨_, h2, _⟩ | ⟨L, h1, h2, _⟩
  · rw [h2] at hb; cases hb
  · rw [h2] at hb
    injection hb with hb
    injection hb with hb _ _
    subst hb
    exact h1
theorem OwnEnts.g {w0 w : World} {A : Option Addr} {c : Nat} {m : Msg} (h : OwnEnts w0 w A c m.list) : EntsG w ⟨m, A, c⟩ := by
  rcases h with ⟨h1, h2, h3⟩ | ⟨L, _, h2, h3, _, h5⟩
  · exact .inl ⟨h2, h3, h1⟩
  · exact .inr ⟨L, h2, Nat.le_of_eq h3.symm, _, h5, [], (List.append_nil _).symm⟩
theorem EntsG.apartRow {w : World} {q : Qm} (h : EntsG w q) {base : Nat} {e : TypeId} {size : Nat} {B : Option Addr} {n c : Nat} {xs : List Value} (ho : w.ownsRow base e size (.slice B n c) n xs) (b : Nat) (hA : q.A = some ⟨b, 0, none⟩) (hB : (Value.slice B n c).ownBlock = some b) (h1 : e ≠ 99 := by decide) : False := by
  rcases h with ⟨h0, _, _⟩ | ⟨L, h2, _, cs, h5, _⟩
  · rw [h0] at hA; cases hA
  · rw [h2] at hA
    injection hA with hA
    injection hA with hA _ _
    subst hA
    rcases slice_cur ho with ⟨rfl, _⟩ | ⟨g, cur, rfl, hc⟩
    · cases hB
    · have e2 : g = L := by simpa [Value.ownBlock] using hB
      subst e2
      have h6 := (show w.heap[g]? = _ from h5).symm.trans hc
      injection h6 with h6
      injection h6 with _ h7 _
      exact h1 h7.symm
theorem EntsG.apart {w : World} {q : Qm} (h : EntsG w q) {g : Nat} {t : TypeId} {cs : List Value} (hg : Blk w g t cs) (h1 : t ≠ 99) : ¬ q.A = some ⟨g, 0, none⟩ := by
  intro e
  rcases h with ⟨h0, _, _⟩ | ⟨L, h2, _, cs', h5, _⟩
  · rw [h0] at e; cases e
  · rw [h2] at e
    injection e with e
    injection e with e _ _
    subst e
    exact h5.apart hg (fun e => h1 e.symm) rfl

/-- No two lie at one place. -/
def Apart (qs : List Qm) : Prop := qs.Pairwise (fun p q => ∀ b, p.A = some ⟨b, 0, none⟩ → q.A ≠ some ⟨b, 0, none⟩)
/-- A slice value that owns a row of messages, made since base. -/
structure MsRow (w : World) (base : Nat) (v : Value) (qs : List Qm) : Prop where
  own : w.ownsRow base 36 33 v qs.length (qs.flatMap Qm.cs)
  ents : ∀ q ∈ qs, EntsG w q ∧ ∀ b, q.A = some ⟨b, 0, none⟩ → base ≤ b
  apart : Apart qs
theorem MsRow.nil (w : World) (base : Nat) : MsRow w base (.slice none 0 0) [] := ⟨World.ownsRow_nil _ _ _ _, (fun q h => by cases h), List.Pairwise.nil⟩
theorem MsRow.keeps {S : Nat → Prop} {w w' : World} {base : Nat} {v : Value} {qs : List Qm} (h : MsRow w base v qs) (k : Keeps S w w') (h1 : ∀ b, v.ownBlock = some b → ¬ S b) (h2 : ∀ q ∈ qs, ∀ b, q.A = some ⟨b, 0, none⟩ → ¬ S b) : MsRow w' base v qs :=
  ⟨ownsRow_keeps h.own k h1, fun q hq => ⟨(h.ents q hq).1.keeps k (h2 q hq), (h.ents q hq).2⟩, h.apart⟩
theorem MsRow.below {w w' : World} {base : Nat} {v : Value} {qs : List Qm} (h : MsRow w base v qs) (hb : Below w.heap.size w w') : MsRow w' base v qs := h.keeps (Keeps.of_below_all (S := fun _ => False) hb) (fun _ _ => id) (fun _ _ _ _ => id)
/-- Behind an append of one more. -/
theorem MsRow.append {w w1 : World} {base : Nat} {A : Option Addr} {n c : Nat} {qs : List Qm} (hn : qs.length = n) (h : MsRow w base (.slice A n c) qs) (q : Qm) (hq : EntsG w q) (hqb : ∀ b, q.A = some ⟨b, 0, none⟩ → base ≤ b) (hqn : ∀ p ∈ qs, ∀ b, p.A = some ⟨b, 0, none⟩ → q.A ≠ some ⟨b, 0, none⟩) {k cap : Nat}
    (ho : w1.ownsRow base 36 33 (.slice (some ⟨k, 0, none⟩) (n + 1) cap) (n + 1) (qs.flatMap Qm.cs ++ q.cs)) (hg : w.grownBy w1 (Value.slice A n c).ownBlock) : MsRow w1 base (.slice (some ⟨k, 0, none⟩) (n + 1) cap) (qs ++ [q]) := by
  subst hn
  have hk : Keeps (fun b => (Value.slice A qs.length c).ownBlock = some b) w w1 := Keeps.of_grown hg (fun b hb _ => hb)
  refine ⟨?_, ?_, ?_⟩
  · rw [List.flatMap_append, List.length_append]
    simpa using ho
  · intro p hp
    rcases List.mem_append.1 hp with hp | hp
    · exact ⟨(h.ents p hp).1.keeps hk (fun b hb e => (h.ents p hp).1.apartRow h.own b hb e), (h.ents p hp).2⟩
    · rw [List.mem_singleton] at hp
      subst hp
      exact ⟨hq.keeps hk (fun b hb e => hq.apartRow h.own b hb e), hqb⟩
  · refine List.pairwise_append.2 ⟨h.apart, List.pairwise_singleton _ _, fun p hp p' hp' => ?_⟩
    rw [List.mem_singleton] at hp'
    subst hp'
    exact hqn p hp

def NListPost (ss : List ByteArray) (w : World) (e : Ending) (w' : World) : Prop :=
  ∃ A c qs, e = .returned (.slice A ss.length c) ∧ MsRow w' w.heap.size (.slice A ss.length c) qs ∧ qs.map Qm.m = ss.map decM ∧ Below w.heap.size w w'
theorem dec_row (ss : List ByteArray) (k : Nat) (h : k < ss.length) : (ss.take (k + 1)).map decM = (ss.take k).map decM ++ [decM ss[k]] := by
  rw [List.take_succ_eq_append_getElem h, List.map_append]
  rfl

set_option maxHeartbeats 4000000 in
set_option maxRecDepth 100000 in
theorem list_any (N base : Nat) (g : Option Nat) (ss : List ByteArray) (hn : ss.length ≤ 1048576) (hsz : ∀ s ∈ ss, s.size ≤ 281474976710656) (w : World) (h : NetAt w N base g ss) :
    Calls Try.prog 27 #[.pointer (some ⟨N, 0, none⟩)] w (NListPost ss w) := by
  obtain ⟨i0, hi0, hz0, hz1, hz2⟩ := info_parts infoMs
  obtain ⟨A, c, hb, hown, hA⟩ := h
  have hc := hb.cell 0 rfl
  have HO := Lib.hid hown
  have HK : Hid (∀ k : Nat, k < ss.length → ∃ gr s m cc, A = some ⟨gr, 0, none⟩ ∧ w.cell? ⟨gr, k, none⟩ = some (.string s) ∧ gr < w.heap.size ∧ (∀ w, Calls Try.prog 14 #[.string s] w fun e w' => ∃ A cap, e = .returned (.tuple #[.agg (m.vs (.slice A m.list.length cap)).toArray, .int .i64 cc]) ∧ OwnEnts w w' A cap m.list ∧ Below w.heap.size w w') ∧ (ss.take (k + 1)).map decM = (ss.take k).map decM ++ [m]) := Lib.hid (fun k hk => by
    rcases slice_cur hown with ⟨_, h, _⟩ | ⟨gr, cur, rfl, h⟩
    · omega
    · refine ⟨gr, ss[k], decM ss[k], decC ss[k], rfl, ?_, (Array.getElem?_eq_some_iff.1 h).1, fun w => decode_any ss[k] (hsz _ (List.getElem_mem hk)) w, dec_row ss k hk⟩
      rw [World.ownsRow.cellAt hown k (by omega)]
      simp [hk])
  have HT : Hid ((ss.take ss.length).map decM = ss.map decM) := Lib.hid (by rw [List.take_length])
  have HT0 : Hid ((ss.take 0).map decM = []) := Lib.hid (by rw [List.take_zero]; rfl)
  have HS : Hid (ss.length = ss.length) := Lib.hid rfl
  clear hb hown hA hsz
  unfold NListPost
  generalize hnn : ss.length = n at *
  replace HS : Hid (ss.length = n) := Lib.hid hnn
  clear hnn
  go_enter Try.func27, Try.ntmps27
  go_wp2
  go_loopw [3, 15] (fun v i wr => ∃ k A c qs, k ≤ n ∧ i = .int .i64 (k : Nat) ∧ v = .slice A k c ∧ MsRow wr w.heap.size (.slice A k c) qs ∧ qs.map Qm.m = (ss.take k).map decM ∧ Below w.heap.size w wr) (fun _ i _ => n - (RowKit.intOf i).toNat)
  case atStart => exact ⟨0, none, 0, [], Nat.zero_le _, rfl, rfl, MsRow.nil _ _, HT0.out.symm, Below.refl _ _⟩
  case round =>
    obtain ⟨k, B, cb, qs, hk, rfl, rfl, hms, hq, hbel⟩ := hrel
    have HM := Lib.hid hms; have HQ := Lib.hid hq; have HB := Lib.hid hbel
    clear hms hq hbel
    by_cases hlt : k < n
    · obtain ⟨gr, s, m, cc, rfl, hcs, hgl, hdec, hrow⟩ := HK.out k hlt
      have cs := (HB.out.cell (p := ⟨gr, k, none⟩) hgl).trans hcs
      have HD := Lib.hid hdec; have HW := Lib.hid hrow
      clear hcs hdec hrow
      go_wp2_with fail
      refine (HD.out wr).mono ?_
      rintro e v1 ⟨A1, c1, rfl, ho, hb⟩
      have M1 := Lib.hid (HM.out.below hb)
      have B1 := Lib.hid (HB.out.trans (hb.mono HB.out.size))
      have B1a := Lib.hid hb
      have E1 := Lib.hid ho.g
      have F1 := Lib.hid (OwnEnts.ge ho)
      have L1 := Lib.hid (fun p hp b h => ((HM.out.ents p hp).1.lt b h))
      generalize hx : m.vs (.slice A1 m.list.length c1) = x at *
      have T1 : Hid (x.length = 33) := Lib.hid (by rw [← hx]; rfl)
      have O1 : Hid (∀ v ∈ x, v.oneCell' = true) := Lib.hid (by rw [← hx]; exact m.one _ _ _)
      have X1 : Hid (x = Qm.cs ⟨m, A1, c1⟩) := Lib.hid hx.symm
      have Z1 := Lib.hid HB.out.size
      have hlt2 : k + 1 ≤ maxLen := by unfold maxLen; omega
      have hby2 : (k + 1) * 312 ≤ 140737488355328 := by omega
      have hql : Hid (qs.length = k) := Lib.hid (by
        have h1 := congrArg List.length HQ.out
        simp only [List.length_map, List.length_take] at h1
        have := HS.out
        omega)
      clear hx hb ho cs HD
      go_wp2_with (first
    | ((with_reducible refine gate_dst (N := 6) rfl ?_); refine box_event rfl (N := 6) rfl (run_allocM _ _ rfl _) ?_; intro g6 hg6 v2 hbox hbel; have Bg6 := Lib.hid (show Blk v2 g6 36 zcs from hbox); have BLg6 := Lib.hid hbel; have Hg6 := Lib.hid hg6; clear hbox hbel hg6)
    | ((with_reducible refine gate_store (t := 36) (p := 6) rfl ?_); refine wpList_store_mid rfl 36 _ _ rfl g6 0 x.toArray rfl rfl ?ht ?hi ?h1 ?_; (case ht => exact Bg6.out.there _ (by rw [List.size_toArray, T1.out]; exact Nat.le_refl 33)); (case hi => rw [List.size_toArray, T1.out]; exact infoMsg); (case h1 => exact all_oneCell_toArray O1.out); have B2g6 := Lib.hid (Bg6.out.setAll x (by rw [T1.out]; rfl)); have Kg6 := Lib.hid (Keeps.setCells (S := fun k => k = g6) x 0 v2 (Keeps.refl _ _) (fun _ => rfl)); change wpList _ _ _ _ _ (v2.setCells g6 0 x); generalize v2.setCells g6 0 x = v3 at B2g6 Kg6 ⊢; have BMg6 := Lib.hid (BLg6.out.trans (Kg6.out.below BLg6.out.size (fun k hk => by show ¬ k = g6; have := Hg6.out; omega))); clear Bg6 BLg6 Kg6 Hg6; have M3 := Lib.hid (M1.out.below BMg6.out); have B3 := Lib.hid (B1.out.trans (BMg6.out.mono B1.out.size)); have E3 := Lib.hid (E1.out.below BMg6.out); have Z3 := Lib.hid (Nat.le_trans Z1.out (Nat.le_trans B1a.out.size BMg6.out.size)))
    | ((with_reducible refine gate_dst (N := 25) rfl ?_); refine wpList_load_mid rfl 36 _ rfl g6 0 rfl x _ ?hc Try.underlying36 rfl ?hi ?_; (case hc => exact B2g6.out.range); (case hi => rw [T1.out]; exact infoMsg))
        | ((with_reducible refine gate_dst (N := 26) rfl ?_); refine Kd.event_run rfl (run_buildOneM _ _ _ x T1.out rfl rfl _) ?_; have M4 := Lib.hid (M3.out.below ((Below.refl _ _).alloc (Nat.le_refl _) (.cells x.toArray 36))); have E4 := Lib.hid (E3.out.below ((Below.refl _ _).alloc (Nat.le_refl _) (.cells x.toArray 36))); have B4 := Lib.hid (B3.out.trans ((Below.refl _ _).alloc B3.out.size (.cells x.toArray 36))); have own4 := hql.out ▸ M4.out.own; have hb4 := B4.out.size)
        | (at_builtin; refine wpList_append_lies _ rfl _ _ 59 rfl w.heap.size 36 i0 _ 33 312 Try.underlying59 hi0 hz0 hz1 hz2 rfl (by decide) _ _ _ rfl own4 ⟨v3.heap.size, 0, none⟩ 1 1 x rfl T1.out (news_cells _ _ _) O1.out (by decide) hlt2 hby2 hb4 _ rfl ?_; intro k2 cap w4 hown' hgrow hat hkl; have M5 := Lib.hid (MsRow.append hql.out M4.out ⟨m, A1, c1⟩ E4.out (fun b h => Nat.le_trans Z1.out (F1.out b h)) (fun p hp b h h2 => by have h3 := L1.out p hp b h; have h4 := F1.out b h2; omega) (X1.out ▸ hown') hgrow); have B5 := Lib.hid (B4.out.trans ((Keeps.of_grown hgrow (S := fun b => (Value.slice B k cb).ownBlock = some b) (fun b hb _ => hb)).below B4.out.size (fun b hb e => by have := (M4.out.own.lt b e).1; omega))); clear hown' hgrow hat hkl own4 hb4))
      go_roundw
      case rel => exact ⟨k + 1, some ⟨k2, 0, none⟩, cap, qs ++ [⟨m, A1, c1⟩], by omega, by go_num, rfl, M5.out, by rw [List.map_append, HQ.out, HW.out]; rfl, B5.out⟩
      case measure => simp [RowKit.intOf]; omega
    · have he : k = n := by omega
      subst he
      go_wp2_with fail
      go_ret
      exact ⟨B, cb, qs, rfl, HM.out, by rw [HQ.out, ← HS.out]; exact (by rw [List.take_length]), HB.out⟩

end Go.Proofs.Ytibcadfpengacaa

-- NetR
set_option linter.unusedVariables false
set_option linter.unusedSimpArgs false
namespace Go.Proofs.Ytibcadfpengacaa
open Go.RowKit Go.Lib Go.Proofs.YtibcadfpengacaaW.PrintWords Go.Proofs.YtibcadfpengacaaW.PrintMore Go.Proofs.YtibcadfpengacaaW.PrintLast

def isM33 : Value → Bool
  | .agg cs => cs.size == 33
  | _ => false
def aggArr : Value → Array Value
  | .agg cs => cs
  | _ => #[]
theorem aggArr_mk (cs : Array Value) : aggArr (.agg cs) = cs := rfl
theorem bsX (ev : Operand → Value) (d : Option Tmp) (s : Operand) (t : TypeId) (p : String) (af : Array Edge) (g : Option (Nat × Bool)) (w : World) (h : isM33 (ev s) = true) :
    (execOp ev { dst := d, op := .buildSlice 59 1 #[(0, s)], type := t, pos := p, after := af, guard := g }).run Try.prog w = .ok (.value (.slice (some ⟨w.heap.size, 0, none⟩) 1 1)) (w.alloc (.cells (aggArr (ev s)) 36)) := by
  unfold isM33 at h
  split at h
  · rename_i cs he
    have := run_buildOneM ev { dst := d, op := .buildSlice 59 1 #[(0, s)], type := t, pos := p, after := af, guard := g } s cs.toList (by simpa using h) rfl (by rw [he]) w
    rw [he]
    exact this
  · cases h
attribute [local go_sem ↓] ldX bsX
attribute [local go_sem] ptrBlk_mk isHead_mk aggArr_mk

/-- The document's net at R: its messages; their row lies in block g. -/
structure RefN (w : World) (R base : Nat) (A : Option Addr) (c : Nat) (qs : List Qm) : Prop where
  b : Blk w R 61 [.slice A qs.length c]
  own : w.ownsRow base 36 33 (.slice A qs.length c) qs.length (qs.flatMap Qm.cs)
  ents : ∀ q ∈ qs, EntsG w q ∧ ∀ b, q.A = some ⟨b, 0, none⟩ → base ≤ b
theorem Blk.rowApart {w : World} {N : Nat} {t : TypeId} {cs : List Value} (hb : Blk w N t cs) {base : Nat} {e : TypeId} {size : Nat} {A : Option Addr} {n c : Nat} {xs : List Value} (ho : w.ownsRow base e size (.slice A n c) n xs) (h1 : t ≠ e) : ∀ b, (Value.slice A n c).ownBlock = some b → b ≠ N := by
  intro b e2 e3
  subst e3
  rcases slice_cur ho with ⟨rfl, _⟩ | ⟨g, cur, rfl, hc⟩
  · cases e2
  · have e3 : g = b := by simpa [Value.ownBlock] using e2
    subst e3
    have h6 := (show w.heap[g]? = _ from hb).symm.trans hc
    injection h6 with h6
    injection h6 with _ h7 _
    exact h1 h7
theorem RefN.ne {w : World} {R base : Nat} {A : Option Addr} {c : Nat} {qs : List Qm} (h : RefN w R base A c qs) : ∀ b, (Value.slice A qs.length c).ownBlock = some b → b ≠ R := h.b.rowApart h.own (by decide)
theorem RefN.keeps {S : Nat → Prop} {w w' : World} {R base : Nat} {A : Option Addr} {c : Nat} {qs : List Qm} (h : RefN w R base A c qs) (k : Keeps S w w') (hR : ¬ S R) (h1 : ∀ b, (Value.slice A qs.length c).ownBlock = some b → ¬ S b) (h2 : ∀ q ∈ qs, ∀ b, q.A = some ⟨b, 0, none⟩ → ¬ S b) : RefN w' R base A c qs :=
  ⟨h.b.kept k hR, ownsRow_keeps h.own k h1, fun q hq => ⟨(h.ents q hq).1.keeps k (h2 q hq), (h.ents q hq).2⟩⟩
theorem RefN.below {w w' : World} {R base : Nat} {A : Option Addr} {c : Nat} {qs : List Qm} (h : RefN w R base A c qs) (hb : Below w.heap.size w w') : RefN w' R base A c qs := h.keeps (Keeps.of_below_all (S := fun _ => False) hb) id (fun _ _ => id) (fun _ _ _ _ => id)
theorem RefN.new (w : World) : RefN (w.alloc (.cells #[.slice none 0 0] 61)) w.heap.size w.heap.size none 0 [] :=
  ⟨Blk.new w 61 [.slice none 0 0], World.ownsRow_nil _ _ _ _, fun q h => by cases h⟩
/-- Behind an append and the store of the slice. -/
theorem RefN.appended {w w1 : World} {R base : Nat} {A : Option Addr} {c n : Nat} {qs : List Qm} (hn : qs.length = n) (h : RefN w R base A c qs) (q : Qm) (hq : EntsG w q) (hqb : ∀ b, q.A = some ⟨b, 0, none⟩ → base ≤ b) {k cap : Nat}
    (ho : w1.ownsRow base 36 33 (.slice (some ⟨k, 0, none⟩) (n + 1) cap) (n + 1) (qs.flatMap Qm.cs ++ q.cs)) (hg : w.grownBy w1 (Value.slice A n c).ownBlock) : RefN (w1.setCell ⟨R, 0, none⟩ (.slice (some ⟨k, 0, none⟩) (n + 1) cap)) R base (some ⟨k, 0, none⟩) cap (qs ++ [q]) := by
  subst hn
  have hk : Keeps (fun b => (Value.slice A qs.length c).ownBlock = some b) w w1 := Keeps.of_grown hg (fun b hb _ => hb)
  have hb1 : Blk w1 R 61 [.slice A qs.length c] := h.b.kept hk (fun e => h.ne R e rfl)
  have hkR := hb1.rowApart ho (by decide) k rfl
  have hel : (qs ++ [q]).length = qs.length + 1 := by simp
  have kS : Keeps (fun b => b = R) w1 (w1.setCell ⟨R, 0, none⟩ (.slice (some ⟨k, 0, none⟩) (qs.length + 1) cap)) := (Keeps.refl (fun b => b = R) w1).setCell (a := ⟨R, 0, none⟩) (fun _ => rfl) _
  refine ⟨by rw [hel]; exact hb1.set 0 _, ?_, ?_⟩
  · rw [hel, List.flatMap_append]
    have e : ([q] : List Qm).flatMap Qm.cs = q.cs := by simp
    rw [e]
    exact ownsRow_keeps ho kS (fun b e => by
      have : b = k := by simpa [Value.ownBlock] using e.symm
      subst this
      exact hkR)
  · have step : ∀ p : Qm, EntsG w p → EntsG (w1.setCell ⟨R, 0, none⟩ (.slice (some ⟨k, 0, none⟩) (qs.length + 1) cap)) p := fun p hp => by
      have h1 := hp.keeps hk (fun b hb e => hp.apartRow h.own b hb e)
      exact h1.keeps kS (fun b hb e => h1.apart hb1 (by decide) (by rw [hb, show b = R from e]))
    intro p hp
    rcases List.mem_append.1 hp with hp | hp
    · exact ⟨step p (h.ents p hp).1, (h.ents p hp).2⟩
    · rw [List.mem_singleton] at hp
      subst hp
      exact ⟨step p hq, hqb⟩
end Go.Proofs.Ytibcadfpengacaa

-- NetE
set_option linter.unusedVariables false
set_option linter.unusedSimpArgs false
namespace Go.Proofs.Ytibcadfpengacaa
open Go.RowKit Go.Lib Go.Proofs.YtibcadfpengacaaW.PrintWords Go.Proofs.YtibcadfpengacaaW.PrintMore Go.Proofs.YtibcadfpengacaaW.PrintLast

end Go.Proofs.Ytibcadfpengacaa

-- NetF
set_option linter.unusedVariables false
set_option linter.unusedSimpArgs false
namespace Go.Proofs.Ytibcadfpengacaa
open Go.RowKit Go.Lib Go.Proofs.YtibcadfpengacaaW.PrintWords Go.Proofs.YtibcadfpengacaaW.PrintMore Go.Proofs.YtibcadfpengacaaW.PrintLast

end Go.Proofs.Ytibcadfpengacaa

-- PlainI
set_option linter.unusedVariables false
set_option linter.unusedSimpArgs false
namespace Go.Proofs.Ytibcadfpengacaa
open Go.RowKit Go.Lib

def Rd.L (ρ : Rd) : List UInt8 := ρ.s.data.toList
theorem ofS_lay (l : List UInt8) (n : Nat) (h1 : 1 ≤ n) (h8 : n ≤ 8) (hl : l.length = n) : leB (ofS ⟨l.toArray⟩) n = l ∧ ofS ⟨l.toArray⟩ < 256 ^ n := by
  have hs : (⟨l.toArray⟩ : ByteArray).size = n := by
    show l.toArray.size = n
    rw [List.size_toArray, hl]
  have h2 := leB_ofLe l
  have h3 := ofLe_lt l
  unfold ofS
  rw [if_pos ⟨by omega, by omega⟩]
  show leB (ofLe l) n = l ∧ ofLe l < 256 ^ n
  rw [hl] at h2 h3
  exact ⟨h2, h3⟩
theorem u64_nat {n : Nat} (h : n < 256 ^ 8) : U64 (n : Int) := by
  have f2 : (256 : Nat) ^ 8 = 18446744073709551616 := by decide
  exact ⟨by omega, by omega⟩
theorem u32_nat {n : Nat} (h : n < 256 ^ 4) : U32 (n : Int) := by
  have f2 : (256 : Nat) ^ 4 = 4294967296 := by decide
  exact ⟨by omega, by omega⟩
theorem i64_nat {n : Nat} (h : n < 256 ^ 1) : I64 (n : Int) := by
  have f2 : (256 : Nat) ^ 1 = 256 := by decide
  exact ⟨by omega, by omega⟩
theorem siz_small {s : ByteArray} (h : s.size ≤ 4096) : Siz s := by unfold Siz; omega
theorem hz_ok : Hd.zero.Ok := ⟨by decide, by decide, by decide, by decide, by decide, by decide, by decide, by decide⟩
theorem u80 : U64 0 := ⟨by decide, by decide⟩
theorem u40 : U32 0 := ⟨by decide, by decide⟩
theorem i80 : I64 0 := ⟨by decide, by decide⟩
theorem sz0 : Siz ⟨#[]⟩ := show 0 ≤ 140737488351232 from by decide
attribute [local irreducible] decH Rd.left Rd.textS Rd.textR Rd.num Rd.took Rd.ents leB txt
end Go.Proofs.Ytibcadfpengacaa

-- RefR
set_option linter.unusedVariables false
set_option linter.unusedSimpArgs false
namespace Go.Proofs.Ytibcadfpengacaa
open Go.RowKit Go.Lib Go.Proofs.YtibcadfpengacaaW.PrintWords Go.Proofs.YtibcadfpengacaaW.PrintMore Go.Proofs.YtibcadfpengacaaW.PrintLast

/-- The reference's reader: what is left, and was too little there? -/
structure Rr where
  s : ByteArray
  bad : Bool
abbrev RrS (w : World) (R : Nat) (ρ : Rr) : Prop := Blk w R 95 [.string ρ.s, .bool ρ.bad]
def Rr.took (ρ : Rr) (n : Nat) : ByteArray := if ρ.s.size < n then zerS n else ρ.s.extract 0 n
def Rr.left (ρ : Rr) (n : Nat) : Rr := if ρ.s.size < n then ⟨⟨#[]⟩, true⟩ else ⟨ρ.s.extract n ρ.s.size, ρ.bad⟩
theorem Rr.left_size (ρ : Rr) (n : Nat) : (ρ.left n).s.size ≤ ρ.s.size := by
  unfold Rr.left
  split
  · show 0 ≤ _; omega
  · show (ρ.s.extract n ρ.s.size).size ≤ _
    rw [ByteArray.size_extract]; omega
theorem Rr.took_size (ρ : Rr) (n : Nat) : (ρ.took n).size = n := by
  unfold Rr.took
  split
  · exact zerS_size n
  · rw [ByteArray.size_extract]; omega

end Go.Proofs.Ytibcadfpengacaa

-- RefS
set_option linter.unusedVariables false
set_option linter.unusedSimpArgs false
namespace Go.Proofs.Ytibcadfpengacaa
open Go.RowKit Go.Lib Go.Proofs.YtibcadfpengacaaW.PrintWords Go.Proofs.YtibcadfpengacaaW.PrintMore Go.Proofs.YtibcadfpengacaaW.PrintLast

def Rr.num (ρ : Rr) (n : Nat) : Nat := ofS (ρ.took n)
def Rr.hd (ρ : Rr) : Hd := decH (ρ.took 28)
def Rr.textS (ρ : Rr) : ByteArray := if 4096 < ρ.num 4 then ⟨#[]⟩ else (ρ.left 4).took (ρ.num 4)
def Rr.textR (ρ : Rr) : Rr := if 4096 < ρ.num 4 then ⟨(ρ.left 4).s, true⟩ else ((ρ.left 4).left (ρ.num 4)).left (padN (ρ.num 4))
/-- What a read leaves of the reader and of the world. -/
def RrPost (R : Nat) (ρ' : Rr) (w w' : World) : Prop := RrS w' R ρ' ∧ Keeps (fun k => k = R) w w'

end Go.Proofs.Ytibcadfpengacaa

-- RefT
set_option linter.unusedVariables false
set_option linter.unusedSimpArgs false
namespace Go.Proofs.Ytibcadfpengacaa
open Go.RowKit Go.Lib

def Rr.entV (ρ : Rr) : Ent := ⟨ρ.textS, ρ.textR.num 8, (ρ.textR.left 8).num 8⟩
def Rr.entR (ρ : Rr) : Rr := (ρ.textR.left 8).left 8
def Rr.ents (ρ : Rr) : Nat → List Ent × Rr
  | 0 => ([], ρ)
  | k + 1 => ((ρ.ents k).1 ++ [(ρ.ents k).2.entV], (ρ.ents k).2.entR)
theorem Rr.ents_length (ρ : Rr) : ∀ k, (ρ.ents k).1.length = k
  | 0 => rfl
  | k + 1 => by rw [Rr.ents, List.length_append, Rr.ents_length ρ k]; rfl
end Go.Proofs.Ytibcadfpengacaa

-- RefU
set_option linter.unusedVariables false
set_option linter.unusedSimpArgs false
namespace Go.Proofs.Ytibcadfpengacaa
open Go.RowKit Go.Lib Go.Proofs.YtibcadfpengacaaW.PrintWords Go.Proofs.YtibcadfpengacaaW.PrintMore Go.Proofs.YtibcadfpengacaaW.PrintLast

/-! GEN -/
/-- What stands while the reference reads: its reader, the answer's place. -/
structure RefH (w0 w : World) (R g2 : Nat) (ρ : Rr) : Prop where
  r : RrS w R ρ
  z : Blk w g2 36 zcs
  bl : Below w0.heap.size w0 w
  hR : w0.heap.size ≤ R
  h2 : w0.heap.size ≤ g2
  n2 : g2 ≠ R
theorem RefH.next {w0 w w' : World} {R g2 : Nat} {ρ ρ' : Rr} (h : RefH w0 w R g2 ρ) (q : RrPost R ρ' w w') : RefH w0 w' R g2 ρ' :=
  ⟨q.1, h.z.kept q.2 h.n2, h.bl.trans (q.2.below (B := w0.heap.size) h.bl.size (fun k hk => by show ¬ k = R; have := h.hR; omega)), h.hR, h.h2, h.n2⟩
/-- .. and the message that is read, at gm. -/
structure RefI (w0 w : World) (R g2 gm : Nat) (ρ : Rr) (cs : List Value) : Prop extends RefH w0 w R g2 ρ where
  m : Blk w gm 36 cs
  hm : w0.heap.size ≤ gm
  n1 : gm ≠ R
  n3 : g2 ≠ gm
theorem RefI.next {w0 w w' : World} {R g2 gm : Nat} {ρ ρ' : Rr} {cs : List Value} (h : RefI w0 w R g2 gm ρ cs) (q : RrPost R ρ' w w') : RefI w0 w' R g2 gm ρ' cs :=
  ⟨h.toRefH.next q, h.m.kept q.2 h.n1, h.hm, h.n1, h.n3⟩
theorem RefI.below {w0 w w' : World} {R g2 gm : Nat} {ρ : Rr} {cs : List Value} (h : RefI w0 w R g2 gm ρ cs) (hb : Below w.heap.size w w') : RefI w0 w' R g2 gm ρ cs :=
  ⟨⟨h.r.below hb, h.z.below hb, h.bl.trans (hb.mono h.bl.size), h.hR, h.h2, h.n2⟩, h.m.below hb, h.hm, h.n1, h.n3⟩
theorem RefI.bad {w0 w : World} {R g2 gm : Nat} {ρ : Rr} {cs : List Value} (h : RefI w0 w R g2 gm ρ cs) : RefI w0 (w.setCell ⟨R, 1, none⟩ (.bool true)) R g2 gm ⟨ρ.s, true⟩ cs := by
  have k := (Keeps.refl (fun k => k = R) w).setCell (a := ⟨R, 1, none⟩) (fun _ => rfl) (.bool true)
  exact h.next ⟨h.r.set 1 (.bool true), k⟩
theorem RefI.put {w0 w w' : World} {R g2 gm : Nat} {ρ : Rr} {cs cs' : List Value} (h : RefI w0 w R g2 gm ρ cs) (k : Keeps (fun k => k = gm) w w') (hc : Blk w' gm 36 cs') : RefI w0 w' R g2 gm ρ cs' :=
  ⟨⟨h.r.kept k (fun e => h.n1 e.symm), h.z.kept k h.n3, h.bl.trans (k.below (B := w0.heap.size) h.bl.size (fun k hk => by show ¬ k = gm; have := h.hm; omega)), h.hR, h.h2, h.n2⟩, hc, h.hm, h.n1, h.n3⟩
theorem RefI.set {w0 w : World} {R g2 gm : Nat} {ρ : Rr} {cs : List Value} (h : RefI w0 w R g2 gm ρ cs) (j : Nat) (v : Value) : RefI w0 (w.setCell ⟨gm, j, none⟩ v) R g2 gm ρ (cs.set j v) :=
  h.put ((Keeps.refl (fun k => k = gm) w).setCell (a := ⟨gm, j, none⟩) (fun _ => rfl) v) (h.m.set j v)
theorem RefI.over {w0 w : World} {R g2 gm : Nat} {ρ : Rr} {cs : List Value} (h : RefI w0 w R g2 gm ρ cs) (vs : List Value) (hl : vs.length = 33) : Blk (w.setCells g2 0 vs) g2 36 vs ∧ Below w0.heap.size w0 (w.setCells g2 0 vs) ∧ ∀ A es, (∀ b o, A = some ⟨b, o, none⟩ → b ≠ g2) → EntsR w A es → EntsR (w.setCells g2 0 vs) A es := by
  have k := Keeps.setCells (S := fun k => k = g2) vs 0 w (Keeps.refl _ _) (fun _ => rfl)
  refine ⟨h.z.setAll vs (by rw [hl]; rfl), h.bl.trans (k.below (B := w0.heap.size) h.bl.size (fun k hk => by show ¬ k = g2; have := h.h2; omega)), fun A es hA he => he.kept k (fun b o e _ => hA b o e)⟩

/-- A message of which the head is known. -/
def hm (k c x : Int) : List Value := ({ Msg.zero with kind := k, client := c, xid := x } : Msg).vs (.slice none 0 0)
end Go.Proofs.Ytibcadfpengacaa

-- RefV
set_option linter.unusedVariables false
set_option linter.unusedSimpArgs false
namespace Go.Proofs.Ytibcadfpengacaa
open Go.RowKit Go.Lib Go.Proofs.YtibcadfpengacaaW.PrintWords Go.Proofs.YtibcadfpengacaaW.PrintMore Go.Proofs.YtibcadfpengacaaW.PrintLast

theorem ownsRow_same {w w' : World} {base : Nat} {e : TypeId} {size : Nat} {v : Value} {n : Nat} {xs : List Value} (h : w.ownsRow base e size v n xs) (hk : ∀ g, v.ownBlock = some g → w'.heap[g]? = w.heap[g]?) : w'.ownsRow base e size v n xs := by
  refine ⟨h.1, ?_⟩
  rcases h.2 with h2 | ⟨g, cap, cur, rfl, hb, hg, rest⟩
  · exact .inl h2
  · exact .inr ⟨g, cap, cur, rfl, hb, (hk g rfl).trans hg, rest⟩
/-- .. and the answer that is read, at ga; its list sl holds es. -/
structure RefA (w0 w : World) (R g2 gm ga : Nat) (ρ : Rr) (cs an : List Value) (sl : Value) (es : List Ent) : Prop extends RefI w0 w R g2 gm ρ cs where
  a : Blk w ga 32 an
  ha : w0.heap.size ≤ ga
  a1 : ga ≠ R
  a2 : ga ≠ g2
  a3 : ga ≠ gm
  own : w.ownsRow w0.heap.size 99 3 sl es.length (es.flatMap Ent.vs)
  nb : ∀ b, sl.ownBlock = some b → b ≠ R ∧ b ≠ g2 ∧ b ≠ gm ∧ b ≠ ga
section
variable {w0 w w' : World} {R g2 gm ga : Nat} {ρ ρ' : Rr} {cs cs' an an' : List Value} {sl sl' : Value} {es : List Ent}
theorem RefA.next (h : RefA w0 w R g2 gm ga ρ cs an sl es) (q : RrPost R ρ' w w') : RefA w0 w' R g2 gm ga ρ' cs an sl es :=
  ⟨h.toRefI.next q, h.a.kept q.2 h.a1, h.ha, h.a1, h.a2, h.a3, ownsRow_same h.own (fun g hg => q.2.block g (h.own.lt g hg).2 (h.nb g hg).1), h.nb⟩
theorem RefA.below (h : RefA w0 w R g2 gm ga ρ cs an sl es) (hb : Below w.heap.size w w') : RefA w0 w' R g2 gm ga ρ cs an sl es :=
  ⟨h.toRefI.below hb, h.a.below hb, h.ha, h.a1, h.a2, h.a3, ownsRow_same h.own (fun g hg => hb.block g (h.own.lt g hg).2), h.nb⟩
theorem RefA.drew (h : RefA w0 w R g2 gm ga ρ cs an sl es) : RefA w0 w.drew R g2 gm ga ρ cs an sl es := h.below ((Below.refl _ _).drew)
theorem RefA.alloc (h : RefA w0 w R g2 gm ga ρ cs an sl es) (o : Obj) : RefA w0 (w.alloc o) R g2 gm ga ρ cs an sl es := h.below ((Below.refl _ _).alloc (Nat.le_refl _) o)
/-- A store into the answer. -/
theorem RefA.put (h : RefA w0 w R g2 gm ga ρ cs an sl es) (k : Keeps (fun k => k = ga) w w') (hc : Blk w' ga 32 an') : RefA w0 w' R g2 gm ga ρ cs an' sl es :=
  ⟨⟨⟨h.r.kept k (fun e => h.a1 e.symm), h.z.kept k (fun e => h.a2 e.symm), h.bl.trans (k.below (B := w0.heap.size) h.bl.size (fun k hk => by show ¬ k = ga; have := h.ha; omega)), h.hR, h.h2, h.n2⟩, h.m.kept k (fun e => h.a3 e.symm), h.hm, h.n1, h.n3⟩,
    hc, h.ha, h.a1, h.a2, h.a3, ownsRow_same h.own (fun g hg => k.block g (h.own.lt g hg).2 (h.nb g hg).2.2.2), h.nb⟩
theorem RefA.set (h : RefA w0 w R g2 gm ga ρ cs an sl es) (j : Nat) (v : Value) : RefA w0 (w.setCell ⟨ga, j, none⟩ v) R g2 gm ga ρ cs (an.set j v) sl es :=
  h.put ((Keeps.refl (fun k => k = ga) w).setCell (a := ⟨ga, j, none⟩) (fun _ => rfl) v) (h.a.set j v)
/-- An append. -/
theorem RefA.append {n : Nat} (hn : es.length = n) (h : RefA w0 w R g2 gm ga ρ cs an sl es) (hg : w.grownBy w' sl.ownBlock) {e : Ent} {g cap : Nat} (ho : w'.ownsRow w0.heap.size 99 3 (.slice (some ⟨g, 0, none⟩) (n + 1) cap) (n + 1) (es.flatMap Ent.vs ++ e.vs))
    (hat : sl.ownBlock = some g ∨ g = w.heap.size) : RefA w0 w' R g2 gm ga ρ cs an (.slice (some ⟨g, 0, none⟩) (n + 1) cap) (es ++ [e]) := by
  subst hn
  have k : Keeps (fun k => sl.ownBlock = some k) w w' := Keeps.of_grown hg (fun k hk _ => hk)
  have e1 : (es ++ [e]).length = es.length + 1 := by simp
  have e2 : (es ++ [e]).flatMap Ent.vs = es.flatMap Ent.vs ++ e.vs := by simp
  refine ⟨⟨⟨h.r.kept k (fun e => (h.nb _ e).1 rfl), h.z.kept k (fun e => (h.nb _ e).2.1 rfl), h.bl.trans (k.below (B := w0.heap.size) h.bl.size (fun b hk hb => by have := (h.own.lt b hb).1; omega)), h.hR, h.h2, h.n2⟩, h.m.kept k (fun e => (h.nb _ e).2.2.1 rfl), h.hm, h.n1, h.n3⟩,
    h.a.kept k (fun e => (h.nb _ e).2.2.2 rfl), h.ha, h.a1, h.a2, h.a3, by rw [e1, e2]; exact ho, ?_⟩
  intro b hb
  have hb' : g = b := by simpa [Value.ownBlock] using hb
  subst hb'
  rcases hat with h5 | h5
  · exact h.nb _ h5
  · have l1 := h.r.lt; have l2 := h.z.lt; have l3 := h.m.lt; have l4 := h.a.lt
    refine ⟨?_, ?_, ?_, ?_⟩ <;> omega
end
def av (status : Int) (ah : Hd) (akind links size change : Int) (adata : ByteArray) (eof : Bool) (anum : Int) (sl : Value) : List Value := [.int .i64 status, .int .u32 ah.ex, .int .u64 ah.snap, .int .u64 ah.ino, .int .u64 ah.gen, .int .i64 akind, .int .u32 links, .int .u64 size, .int .u64 change, .string adata, .bool eof, .int .u64 anum, sl]
theorem RefA.c12 {w0 w : World} {R g2 gm ga : Nat} {ρ : Rr} {cs : List Value} {sl : Value} {es : List Ent} {status : Int} {ah : Hd} {akind links size change : Int} {adata : ByteArray} {eof : Bool} {anum : Int} (h : RefA w0 w R g2 gm ga ρ cs (av status ah akind links size change adata eof anum sl) sl es) : w.cell? ⟨ga, 12, none⟩ = some sl := h.a.cell 12 rfl

end Go.Proofs.Ytibcadfpengacaa

-- RefW
set_option linter.unusedVariables false
set_option linter.unusedSimpArgs false
namespace Go.Proofs.Ytibcadfpengacaa
open Go.RowKit Go.Lib

theorem val_refE {m : Msg} (h : m.Val) {s : ByteArray} (hs : m.layL = s.data.toList) : m.refE = (s, 0) := by
  unfold Msg.refE
  rw [h.short, h.may, if_neg (by decide), if_neg (by decide)]
  have : m.layS = s := by rw [layS_eq, hs]
  rw [this]
/-- The reader behind a message's head. -/
def Rr.a0 (ρ : Rr) : Rr := ((ρ.left 1).left 4).left 8
def Rr.callM (ρ : Rr) : Msg := ⟨(ρ.num 1 : Nat), ((ρ.left 1).num 4 : Nat), (((ρ.left 1).left 4).num 8 : Nat), (ρ.a0.num 1 : Nat), (ρ.a0.left 1).hd, ((ρ.a0.left 1).left 28).hd, (((ρ.a0.left 1).left 28).left 28).textS, (((ρ.a0.left 1).left 28).left 28).textR.textS, ((((ρ.a0.left 1).left 28).left 28).textR.textR.num 8 : Nat), (((((ρ.a0.left 1).left 28).left 28).textR.textR.left 8).num 8 : Nat), (((((ρ.a0.left 1).left 28).left 28).textR.textR.left 8).left 8).textS, 0, Hd.zero, 0, 0, 0, 0, ⟨#[]⟩, false, 0, [], 0, 0, 0⟩
def Rr.callR (ρ : Rr) : Rr := (((((ρ.a0.left 1).left 28).left 28).textR.textR.left 8).left 8).textR
def Rr.backM (ρ : Rr) : Msg := ⟨(ρ.num 1 : Nat), ((ρ.left 1).num 4 : Nat), (((ρ.left 1).left 4).num 8 : Nat), 0, ρ.a0.hd, Hd.zero, ⟨#[]⟩, ⟨#[]⟩, 0, 0, ⟨#[]⟩, 0, Hd.zero, 0, 0, 0, 0, ⟨#[]⟩, false, 0, [], ((ρ.a0.left 28).num 8 : Nat), (((ρ.a0.left 28).left 8).num 8 : Nat), ((((ρ.a0.left 28).left 8).left 8).num 8 : Nat)⟩
def Rr.backR (ρ : Rr) : Rr := (((ρ.a0.left 28).left 8).left 8).left 8

/-- The reader behind a reply's list's length; the reply of which j entries are read. -/
def Rr.b0 (ρ : Rr) : Rr := (((((ρ.a0.left 1).left 28).left 1).left 4).left 8).left 8
def Rr.e0 (ρ : Rr) : Rr := (((ρ.b0.textR).left 1).left 8).left 4
def Rr.repM (ρ : Rr) (j : Nat) : Msg := ⟨(ρ.num 1 : Nat), ((ρ.left 1).num 4 : Nat), (((ρ.left 1).left 4).num 8 : Nat), 0, Hd.zero, Hd.zero, ⟨#[]⟩, ⟨#[]⟩, 0, 0, ⟨#[]⟩, (ρ.a0.num 1 : Nat), (ρ.a0.left 1).hd, (((ρ.a0.left 1).left 28).num 1 : Nat), ((((ρ.a0.left 1).left 28).left 1).num 4 : Nat), (((((ρ.a0.left 1).left 28).left 1).left 4).num 8 : Nat), ((((((ρ.a0.left 1).left 28).left 1).left 4).left 8).num 8 : Nat), ρ.b0.textS, (((ρ.b0.textR.num 1 : Nat) : Int) == 1), ((ρ.b0.textR.left 1).num 8 : Nat), (ρ.e0.ents j).1, ((ρ.e0.ents j).2.num 8 : Nat), (((ρ.e0.ents j).2.left 8).num 8 : Nat), ((((ρ.e0.ents j).2.left 8).left 8).num 8 : Nat)⟩
def Rr.repR (ρ : Rr) (j : Nat) : Rr := (((ρ.e0.ents j).2.left 8).left 8).left 8
end Go.Proofs.Ytibcadfpengacaa

-- RefX
set_option linter.unusedVariables false
set_option linter.unusedSimpArgs false
namespace Go.Proofs.Ytibcadfpengacaa
open Go.RowKit Go.Lib

theorem rr_num_lt (ρ : Rr) (n : Nat) (h1 : 1 ≤ n) (h8 : n ≤ 8) : ρ.num n < 256 ^ n := by
  unfold Rr.num
  have h := (ofS_lay (ρ.took n).data.toList n h1 h8 (by rw [Array.length_toList]; exact Rr.took_size ρ n)).2
  exact h
theorem textR_size' (ρ : Rr) : ρ.textR.s.size ≤ ρ.s.size := by
  unfold Rr.textR
  have h1 := Rr.left_size ρ 4
  have h2 := Rr.left_size (ρ.left 4) (ρ.num 4)
  have h3 := Rr.left_size ((ρ.left 4).left (ρ.num 4)) (padN (ρ.num 4))
  split
  · exact h1
  · omega

theorem Rr.textS_size (ρ : Rr) : ρ.textS.size ≤ 4096 := by
  unfold Rr.textS
  split
  · show 0 ≤ _; omega
  · rw [Rr.took_size]; omega
theorem Rr.u64 (ρ : Rr) : U64 ((ρ.num 8 : Nat) : Int) := u64_nat (rr_num_lt ρ 8 (by omega) (by omega))
theorem Rr.u32 (ρ : Rr) : U32 ((ρ.num 4 : Nat) : Int) := u32_nat (rr_num_lt ρ 4 (by omega) (by omega))
theorem Rr.i64 (ρ : Rr) : I64 ((ρ.num 1 : Nat) : Int) := i64_nat (rr_num_lt ρ 1 (by omega) (by omega))
theorem Rr.siz (ρ : Rr) : Siz ρ.textS := siz_small (Rr.textS_size ρ)
theorem Rr.ents_ok (ρ : Rr) : ∀ k, ∀ e ∈ (ρ.ents k).1, Siz e.name ∧ U64 e.ino ∧ U64 e.cookie
  | 0 => fun e h => by simp [Rr.ents] at h
  | k + 1 => fun e h => by
    rw [Rr.ents, List.mem_append] at h
    rcases h with h | h
    · exact Rr.ents_ok ρ k e h
    · have : e = (ρ.ents k).2.entV := by simpa using h
      subst this
      exact ⟨Rr.siz _, Rr.u64 _, Rr.u64 _⟩
theorem Rr.entR_size (ρ : Rr) : ρ.entR.s.size ≤ ρ.s.size := Nat.le_trans (Rr.left_size _ 8) (Nat.le_trans (Rr.left_size _ 8) (textR_size' ρ))
section
attribute [local irreducible] Rr.left Rr.num Rr.hd Rr.textS Rr.textR Rr.took Rr.entR Rr.entV
theorem Rr.ents_size (ρ : Rr) : ∀ k, (ρ.ents k).2.s.size ≤ ρ.s.size
  | 0 => Nat.le_refl _
  | k + 1 => by
    have h : (ρ.ents (k + 1)).2 = (ρ.ents k).2.entR := rfl
    rw [h]
    exact Nat.le_trans (Rr.entR_size _) (Rr.ents_size ρ k)
end

end Go.Proofs.Ytibcadfpengacaa

-- RefY
set_option linter.unusedVariables false
set_option linter.unusedSimpArgs false
namespace Go.Proofs.Ytibcadfpengacaa
open Go.RowKit Go.Lib

section
attribute [local irreducible] Rr.left Rr.num Rr.hd Rr.textS Rr.textR Rr.took Rr.entR Rr.entV
end

theorem Rr.leS (ρ : Rr) (n : Nat) (h : ρ.s.size ≤ 281474976710656) : (ρ.left n).s.size ≤ 281474976710656 := Nat.le_trans (Rr.left_size ρ n) h
end Go.Proofs.Ytibcadfpengacaa

-- Decodes
set_option linter.unusedVariables false
set_option linter.unusedSimpArgs false
namespace Go.Proofs.Ytibcadfpengacaa
open Go.RowKit Go.Lib Go.Proofs.YtibcadfpengacaaW.PrintWords Go.Proofs.YtibcadfpengacaaW.PrintMore Go.Proofs.YtibcadfpengacaaW.PrintLast

theorem ref_val {m : Msg} (hk : m.Ok) {s : ByteArray} (h : m.refE = (s, 0)) : m.Val ∧ m.layS = s := by
  unfold Msg.refE at h
  cases h1 : m.long with
  | true =>
    rw [h1, if_pos rfl] at h
    exact absurd (congrArg Prod.snd h) (show ¬ (2201 : Int) = 0 from by decide)
  | false =>
    rw [h1, if_neg (by decide)] at h
    cases h2 : m.mayB with
    | false =>
      rw [h2, if_pos rfl] at h
      exact absurd (congrArg Prod.snd h) (show ¬ (2200 : Int) = 0 from by decide)
    | true =>
      rw [h2, if_neg (by decide)] at h
      exact ⟨⟨hk, h1, h2⟩, congrArg Prod.fst h⟩
theorem OwnEnts.ne {w0 w : World} {A : Option Addr} {cap : Nat} {es : List Ent} (h : OwnEnts w0 w A cap es) {g : Nat} {cs : List Value} (hg : Blk w g 36 cs) : ¬ A = some ⟨g, 0, none⟩ := by
  intro e
  rcases h with ⟨_, rfl, _⟩ | ⟨L, _, rfl, _, _, h5⟩
  · cases e
  · injection e with e
    injection e with e _ _
    subst e
    have h6 := (show w.heap[L]? = _ from h5).symm.trans hg
    injection h6 with h6
    injection h6 with _ h7 _
    exact absurd h7 (by decide)
theorem OwnEnts.below {w0 w w' : World} {A : Option Addr} {cap : Nat} {es : List Ent} (h : OwnEnts w0 w A cap es) (hb : Below w.heap.size w w') : OwnEnts w0 w' A cap es := by
  rcases h with h | ⟨L, h1, h2, h3, h4, h5⟩
  · exact .inl h
  · exact .inr ⟨L, h1, h2, h3, h4, h5.below hb⟩
theorem OwnEnts.lt {w0 w : World} {A : Option Addr} {cap : Nat} {es : List Ent} (h : OwnEnts w0 w A cap es) : ∀ b o, A = some ⟨b, o, none⟩ → w0.heap.size ≤ b ∧ b < w.heap.size := by
  intro b o e
  rcases h with ⟨_, rfl, _⟩ | ⟨L, h1, rfl, _, _, h5⟩
  · cases e
  · injection e with e; injection e with e _ _; subst e; exact ⟨h1, h5.lt⟩

end Go.Proofs.Ytibcadfpengacaa

-- NetG
set_option linter.unusedVariables false
set_option linter.unusedSimpArgs false
namespace Go.Proofs.Ytibcadfpengacaa
open Go.RowKit Go.Lib Go.Proofs.YtibcadfpengacaaW.PrintWords Go.Proofs.YtibcadfpengacaaW.PrintMore Go.Proofs.YtibcadfpengacaaW.PrintLast

/-- The 33 cells at an address, as a value; do they lie there? -/
def midVal (w : World) : Value → Value
  | .pointer (some ⟨b, o, none⟩) => .agg ((List.range 33).map (fun j => (w.cell? ⟨b, o + j, none⟩).getD undef)).toArray
  | _ => undef
def midOk (w : World) : Value → Bool
  | .pointer (some ⟨b, o, none⟩) => (List.range 33).all (fun j => (w.cell? ⟨b, o + j, none⟩).isSome)
  | _ => false
theorem ldM (ev : Operand → Value) (d : Option Tmp) (x : Operand) (t : TypeId) (p : String) (af : Array Edge) (g : Option (Nat × Bool)) (w : World) (h : midOk w (ev x) = true) :
    (execOp ev { dst := d, op := .load 36 x, type := t, pos := p, after := af, guard := g }).run Try.prog w = .ok (.value (midVal w (ev x))) w := by
  generalize he : ev x = v at *
  unfold midOk at h
  split at h
  · rename_i b o
    have hr : w.rangeAt b o ((List.range 33).map (fun j => (w.cell? ⟨b, o + j, none⟩).getD undef)) := fun j u hu => by
      have hj : j < 33 := by
        have := (List.getElem?_eq_some_iff.1 hu).1
        simpa using this
      rw [List.getElem?_map, List.getElem?_range hj, Option.map_some] at hu
      have h2 := (List.all_eq_true.1 h) j (List.mem_range.2 hj)
      obtain ⟨v, hv⟩ := Option.isSome_iff_exists.1 h2
      rw [hv] at hu ⊢
      exact hu
    have hl := run_loadAt_mid (P := Try.prog) w b o 36 _ _ hr Try.underlying36 rfl (by rw [infoMsg]; simp)
    unfold execOp
    simp only [he]
    rw [Sem.run_bind, hl]
    rfl
  · cases h
attribute [local go_sem ↓] ldM

end Go.Proofs.Ytibcadfpengacaa

-- NetH
set_option linter.unusedVariables false
set_option linter.unusedSimpArgs false
namespace Go.Proofs.Ytibcadfpengacaa
open Go.RowKit Go.Lib Go.Proofs.YtibcadfpengacaaW.PrintWords Go.Proofs.YtibcadfpengacaaW.PrintMore Go.Proofs.YtibcadfpengacaaW.PrintLast

end Go.Proofs.Ytibcadfpengacaa

-- NetI
set_option linter.unusedVariables false
set_option linter.unusedSimpArgs false
namespace Go.Proofs.Ytibcadfpengacaa
open Go.RowKit Go.Lib Go.Proofs.YtibcadfpengacaaW.PrintWords Go.Proofs.YtibcadfpengacaaW.PrintMore Go.Proofs.YtibcadfpengacaaW.PrintLast

theorem net_next {w v v' : World} {N base : Nat} {g : Option Nat} {ss : List ByteArray} (KB : Below w.heap.size w v) (hN : NetAt v N base g ss) (hb : w.heap.size ≤ base) (hNw : w.heap.size ≤ N) (hk : Keeps (fun k => k = N ∨ some k = g) v v') : Below w.heap.size w v' :=
  KB.trans (hk.below KB.size (fun k h1 h2 => by
    rcases h2 with h | h
    · omega
    · have := (hN.row_lt k h.symm).1
      omega))
theorem blk_next {v v' : World} {N base : Nat} {g : Option Nat} {ss : List ByteArray} (hN : NetAt v N base g ss) {b : Nat} {t : TypeId} {cs : List Value} (hB : Blk v b t cs) (hk : Keeps (fun k => k = N ∨ some k = g) v v') (h1 : t ≠ 103 := by decide) (h2 : t ≠ 9 := by decide) : Blk v' b t cs :=
  hB.kept hk (by
    have h := hN.apart hB h1 h2
    rintro (e | e)
    · exact h.1 e.symm
    · exact h.2 e.symm)
/-- The message of awake. -/
def bm : Msg := { Msg.zero with kind := 4, client := 1 }
theorem bm_ok : bm.Ok := by
  refine ⟨⟨by decide, by decide⟩, ⟨by decide, by decide⟩, u80, i80, hz_ok, hz_ok, sz0, sz0, u80, u80, sz0, i80, hz_ok, i80, u40, u80, u80, sz0, u80, ?_, Nat.zero_le _, u80, u80, u80⟩
  intro e h
  cases h
theorem bm_val : bm.Val where
  ok := bm_ok
  short := by decide
  may := by
    have e1 : bm.kind = 4 := rfl
    have e2 : bm.noAns = true := by
      unfold Msg.noAns noAns
      show ((0 : Int) == 0 && hdEq 0 0 0 0 0 0 0 0 && attrEq 0 0 0 0 0 0 0 0 && (⟨#[]⟩ : ByteArray).toList.isEmpty && !false && (0 : Int) == 0 && ((0 : Nat) : Int) == 0) = true
      rw [nil_toList]
      rfl
    unfold Msg.mayB
    rw [e2, e1]
    show (askEq 0 0 0 0 0 0 0 0 0 ⟨#[]⟩ ⟨#[]⟩ 0 0 ⟨#[]⟩ 0 0 0 0 0 0 0 0 0 ⟨#[]⟩ ⟨#[]⟩ 0 0 ⟨#[]⟩ && true) = true
    rw [askEq_self]
    rfl
def bcs : List Value := bm.vs (.slice none 0 0)
theorem bcs_len : bcs.length = 33 := rfl
theorem bcs_one : ∀ v ∈ bcs, v.oneCell' = true := bm.one none 0 0
theorem bcs_at : MsgAt bcs bm none 0 := MsgAt.of bm none 0
theorem layS_small2 (m : Msg) (hv : m.Val) : m.layS.size ≤ 1000000 ∧ 1 ≤ m.layS.size := by
  have h1 := enc_val m hv
  have h2 := Wr.fields_len m
  have h3 : m.enc.1 = m.layL := by rw [h1]
  have h4 := Wr.head_pos m hv.ok
  have h5 := Wr.fields_ge m ⟨0, []⟩
  have h6 : m.enc.1 = (Wr.fields ⟨0, []⟩ m).bs ∨ m.enc.1 = [] := by
    unfold Msg.enc encV
    split
    · right; rfl
    · split
      · right; rfl
      · left; rfl
  have h7 : m.layS.size = m.layL.length := by rw [layS_eq]; show m.layL.toArray.size = _; simp
  have h8 : 1 ≤ m.layL.length := by
    unfold Msg.layL Msg.headL one1
    split
    · simp [leB_length] <;> omega
    · split
      · simp [leB_length] <;> omega
      · simp [leB_length] <;> omega
  rw [h7]
  refine ⟨?_, h8⟩
  rw [← h3]
  rcases h6 with h | h
  · rw [h]; exact h2
  · rw [h]; simp



/-- Below, and what stands of the net. -/
structure NetI (w v : World) (g : Option Nat) (ss : List ByteArray) : Prop where
  kb : Below w.heap.size w v
  n : NetAt v w.heap.size w.heap.size g ss
theorem NetI.next {w v v' : World} {g g' : Option Nat} {ss ss' : List ByteArray} (h : NetI w v g ss) (hk : Keeps (fun k => k = w.heap.size ∨ some k = g) v v') (hn : NetAt v' w.heap.size w.heap.size g' ss') : NetI w v' g' ss' :=
  ⟨net_next h.kb h.n (Nat.le_refl _) (Nat.le_refl _) hk, hn⟩
theorem NetI.below {w v v' : World} {g : Option Nat} {ss : List ByteArray} (h : NetI w v g ss) (hb : Below v.heap.size v v') : NetI w v' g ss := ⟨h.kb.trans (hb.mono h.kb.size), h.n.below hb⟩

set_option maxHeartbeats 4000000 in
set_option maxRecDepth 100000 in
theorem awake26_any (w : World) : Calls Try.prog 30 #[] w fun e w' => e = .returned (.bool true) ∧ Below w.heap.size w w' := by
  have hd := dec_layS bm bm_val
  have hsz := (layS_small2 bm bm_val).1
  have hre : bm.refE = (bm.layS, 0) := val_refE bm_val (layS_data bm).symm
  have HE : Hid (∀ w, True → Calls Try.prog 9 #[.agg bcs.toArray] w fun e w' => e = .returned (.tuple #[.string bm.layS, .int .i64 0]) ∧ Below w.heap.size w w') := Lib.hid (fun w _ => by
    have h := encode_ref bm none 0 bm_ok (Nat.zero_le _) (.inl rfl) w (fun i e h => by simp [bm, Msg.zero] at h)
    rw [hre] at h
    exact h)
  have HDV : Hid (∀ (N base : Nat) (g : Option Nat) (ss : List ByteArray) (i : Nat), ss[i]? = some bm.layS → ss.length ≤ 1099511627776 → ∀ w, NetAt w N base g ss → Calls Try.prog 22 #[.pointer (some ⟨N, 0, none⟩), .int .i64 i] w fun e w' => ∃ A cap, e = .returned (.tuple #[.agg (bm.vs (.slice A bm.list.length cap)).toArray, .int .i64 0]) ∧ NetAt w' N base g (ss.eraseIdx i) ∧ OwnEnts w w' A cap bm.list ∧ Keeps (fun k => k = N ∨ some k = g) w w') := Lib.hid (fun N base g ss i h1 h2 w h => by
    have h3 := deliver_ok N base g ss i bm.layS h1 (by omega) h2 w h
    rw [hd.1, hd.2] at h3
    exact h3)
  have HLO : Hid (∀ (N base : Nat) (g : Option Nat) (ss : List ByteArray) (i : Nat), ss[i]? = some bm.layS → ss.length ≤ 1099511627776 → ∀ w, NetAt w N base g ss → Calls Try.prog 24 #[.pointer (some ⟨N, 0, none⟩), .int .i64 i] w fun e w' => e = .returned (.int .i64 0) ∧ NetAt w' N base g (ss.eraseIdx i) ∧ Keeps (fun k => k = N ∨ some k = g) w w') := Lib.hid (fun N base g ss i h1 h2 w h => by
    have h3 := lose_ok N base g ss i bm.layS h1 (by omega) h2 w h
    rw [hd.2] at h3
    exact h3)
  clear hd hsz hre
  generalize bm.layS = s at *
  go_enter Try.func30, Try.ntmps30
  go_wp2_with fail
  refine (netNew_any w).mono ?_
  rintro e v0 ⟨rfl, hv0⟩
  have I0 : Hid (NetI w v0 none []) := Lib.hid (by rw [hv0]; exact ⟨(Below.refl _ _).alloc (Nat.le_refl _) _, NetAt.new w⟩)
  clear hv0
  go_wp2_with (first
    | ((with_reducible refine gate_dst (N := 11) rfl ?_); refine Kd.event_run (v := .agg bcs.toArray) rfl ?hr ?_; (case hr => go_simp; rfl))
    | ((with_reducible refine gate_dst (N := 2) rfl ?_); refine box_event rfl (N := 2) rfl (run_allocM _ _ rfl _) ?_; intro g2 hg2 v1 hbox hbel; have Bg2 := Lib.hid (show Blk v1 g2 36 zcs from hbox); have BLg2 := Lib.hid hbel; have Hg2 := Lib.hid hg2; clear hbox hbel hg2)
    | ((with_reducible refine gate_store (t := 36) (p := 2) rfl ?_); refine wpList_store_mid rfl 36 _ _ rfl g2 0 bcs.toArray rfl rfl ?ht ?hi ?h1 ?_; (case ht => exact Bg2.out.there _ (by rw [List.size_toArray, bcs_len]; exact Nat.le_refl 33)); (case hi => rw [List.size_toArray, bcs_len]; exact infoMsg); (case h1 => exact all_oneCell_toArray bcs_one); have B2g2 := Lib.hid (Bg2.out.setAll bcs (by rw [bcs_len]; rfl)); have Kg2 := Lib.hid (Keeps.setCells (S := fun k => k = g2) bcs 0 v1 (Keeps.refl _ _) (fun _ => rfl)); change wpList _ _ _ _ _ (v1.setCells g2 0 bcs); generalize v1.setCells g2 0 bcs = v2 at B2g2 Kg2 ⊢; have BMg2 := Lib.hid (BLg2.out.trans (Kg2.out.below BLg2.out.size (fun k hk => by show ¬ k = g2; have := Hg2.out; omega))); clear Bg2 BLg2 Kg2 Hg2; have I2 := Lib.hid (I0.out.below BMg2.out); clear BMg2)
    | ((with_reducible refine gate_dst (N := 13) rfl ?_); refine wpList_load_mid rfl 36 _ rfl g2 0 rfl bcs _ ?hc Try.underlying36 rfl ?hi ?_; (case hc => exact B2g2.out.range); (case hi => rw [bcs_len]; exact infoMsg)))
  refine (send_ok w.heap.size w.heap.size none [] bcs bcs_len s (fun _ => True) (fun _ _ _ h => h) HE.out (show ¬ 1024 ≤ 0 from by decide) v2 I2.out.n I2.out.kb.size trivial).mono ?_
  rintro e v3 ⟨rfl, k3, hn3, _, hk3⟩
  have I3 := Lib.hid (show NetI w v3 (some k3) [s] from I2.out.next hk3 hn3)
  have B3 := Lib.hid (blk_next I2.out.n B2g2.out hk3)
  clear hn3 hk3 I2 B2g2
  go_wp2_with fail
  refine (copy_ok w.heap.size w.heap.size (some k3) [s] 0 s rfl (show ¬ 1024 ≤ 1 from by decide) v3 I3.out.n I3.out.kb.size).mono ?_
  rintro e v4 ⟨rfl, k4, hn4, _, hk4⟩
  have I4 := Lib.hid (show NetI w v4 (some k4) [s, s] from I3.out.next hk4 hn4)
  have B4 := Lib.hid (blk_next I3.out.n B3.out hk4)
  clear hn4 hk4 I3 B3
  go_wp2_with fail
  refine (HDV.out w.heap.size w.heap.size (some k4) [s, s] 1 rfl (show 2 ≤ 1099511627776 from by decide) v4 I4.out.n).mono ?_
  rintro e v5 ⟨A5, c5, rfl, hn5, ho5, hk5⟩
  have I5 := Lib.hid (show NetI w v5 (some k4) [s] from I4.out.next hk5 hn5)
  have B5 := Lib.hid (blk_next I4.out.n B4.out hk5)
  have T5 := Lib.hid (MsgAt.of bm A5 c5)
  generalize bm.vs (.slice A5 bm.list.length c5) = x at *
  clear hn5 ho5 hk5 I4 B4
  go_wp2_with (first
    | ((with_reducible refine gate_dst (N := 5) rfl ?_); refine box_event rfl (N := 5) rfl (run_allocM _ _ rfl _) ?_; intro g5 hg5 v6 hbox hbel; have Bg5 := Lib.hid (show Blk v6 g5 36 zcs from hbox); have BLg5 := Lib.hid hbel; have Hg5 := Lib.hid hg5; clear hbox hbel hg5)
    | ((with_reducible refine gate_store (t := 36) (p := 5) rfl ?_); refine wpList_store_mid rfl 36 _ _ rfl g5 0 x.toArray rfl rfl ?ht ?hi ?h1 ?_; (case ht => exact Bg5.out.there _ (by rw [List.size_toArray, T5.out.len]; exact Nat.le_refl 33)); (case hi => rw [List.size_toArray, T5.out.len]; exact infoMsg); (case h1 => exact all_oneCell_toArray T5.out.one); have B2g5 := Lib.hid (Bg5.out.setAll x (by rw [T5.out.len]; rfl)); have Kg5 := Lib.hid (Keeps.setCells (S := fun k => k = g5) x 0 v6 (Keeps.refl _ _) (fun _ => rfl)); change wpList _ _ _ _ _ (v6.setCells g5 0 x); generalize v6.setCells g5 0 x = v7 at B2g5 Kg5 ⊢; have BMg5 := Lib.hid (BLg5.out.trans (Kg5.out.below BLg5.out.size (fun k hk => by show ¬ k = g5; have := Hg5.out; omega))); clear Bg5 BLg5 Kg5 Hg5; have I7 := Lib.hid (I5.out.below BMg5.out); have B7 := Lib.hid (B5.out.below BMg5.out); clear BMg5))
  obtain ⟨A7, c7, hc7⟩ := I7.out.n.cell
  have HDH := Lib.hid (deliver_high w.heap.size 1 c7 A7 1 (by decide) v7 hc7)
  clear hc7
  refine HDH.out.mono ?_
  rintro e v8 ⟨rfl, hb⟩
  have I8 := Lib.hid (I7.out.below hb)
  have B8 := Lib.hid (B7.out.below hb)
  have X8 := Lib.hid (B2g5.out.below hb)
  clear hb I7 B7 B2g5 HDH
  go_wp2_with (first
    | ((with_reducible refine gate_dst (N := 7) rfl ?_); refine box_event rfl (N := 7) rfl (run_allocM _ _ rfl _) ?_; intro g7 hg7 v9 hbox hbel; have B9 := Lib.hid (show Blk v9 g7 36 zcs from hbox); have BLg7 := Lib.hid hbel; have Hg7 := Lib.hid hg7; clear hbox hbel hg7)
    | ((with_reducible refine gate_store (t := 36) (p := 7) rfl ?_); refine wpList_store_mid rfl 36 _ _ rfl g7 0 zcs.toArray rfl rfl ?ht ?hi ?h1 ?_; (case ht => exact B9.out.there 33 (Nat.le_refl 33)); (case hi => exact infoMsg); (case h1 => exact all_oneCell_toArray zcs_one); have B2g7 := Lib.hid (B9.out.setAll zcs rfl); have Kg7 := Lib.hid (Keeps.setCells (S := fun k => k = g7) zcs 0 v9 (Keeps.refl _ _) (fun _ => rfl)); change wpList _ _ _ _ _ (v9.setCells g7 0 zcs); generalize v9.setCells g7 0 zcs = v10 at B2g7 Kg7 ⊢))
  have BM7 := Lib.hid (BLg7.out.trans (Kg7.out.below BLg7.out.size (fun k hk => by show ¬ k = g7; have := Hg7.out; omega)))
  have I10 := Lib.hid (I8.out.below BM7.out)
  have B10 := Lib.hid (B8.out.below BM7.out)
  have X10 := Lib.hid (X8.out.below BM7.out)
  clear BLg7 Kg7 Hg7 BM7 B2g7 B9 I8 B8 X8
  refine (HLO.out w.heap.size w.heap.size (some k4) [s] 0 rfl (show 1 ≤ 1099511627776 from by decide) v10 I10.out.n).mono ?_
  rintro e v11 ⟨rfl, hn11, hk11⟩
  have I11 := Lib.hid (show NetI w v11 (some k4) [] from I10.out.next hk11 hn11)
  have B11 := Lib.hid (blk_next I10.out.n B10.out hk11)
  have X11 := Lib.hid (blk_next I10.out.n X10.out hk11)
  have NL : Hid (∀ w A, EntsR w A bm.list) := Lib.hid (fun w A i e h => by simp [bm, Msg.zero] at h)
  have HLI := Lib.hid (fun w (h : NetAt w w.heap.size w.heap.size (some k4) []) => h)
  clear hn11 hk11 I10 B10 X10 HLI HDV HLO HE
  go_wp2_with (first
    | (go_at_call 11; refine (num_any _ _).mono ?_; rintro e w' ⟨rfl, rfl⟩)
    | ((with_reducible refine gate_dst (N := 38) rfl ?_); refine gate_guard (by rfl) ?_; refine wpList_load_mid rfl 36 _ rfl g5 0 rfl x _ ?hc Try.underlying36 rfl ?hi ?_; (case hc => exact X11.out.range); (case hi => rw [T5.out.len]; exact infoMsg))
    | ((with_reducible refine gate_dst (N := 39) rfl ?_); refine gate_guard (by rfl) ?_; refine wpList_load_mid rfl 36 _ rfl g2 0 rfl bcs _ ?hc Try.underlying36 rfl ?hi ?_; (case hc => exact B11.out.range); (case hi => rw [bcs_len]; exact infoMsg))
    | (go_at_call 16; refine (same_raw bm A5 none c5 0 x bcs T5.out bcs_at (by decide) _ (NL.out _ _) (NL.out _ _)).mono ?_; rintro e v12 ⟨rfl, hb⟩; have I12 := Lib.hid (I11.out.below hb); clear hb)
    | (go_at_call 27; refine (list_any w.heap.size w.heap.size (some k4) [] (by decide) (fun s h => by cases h) _ I12.out.n).mono ?_; rintro e v13 ⟨A13, c13, qs13, rfl, _, _, hb⟩; have I13 := Lib.hid (I12.out.below hb); clear hb))
  go_ret
  exact ⟨rfl, I13.out.kb⟩

end Go.Proofs.Ytibcadfpengacaa

-- NetJ
set_option linter.unusedVariables false
set_option linter.unusedSimpArgs false
namespace Go.Proofs.Ytibcadfpengacaa
open Go.RowKit Go.Lib Go.Proofs.YtibcadfpengacaaW.PrintWords Go.Proofs.YtibcadfpengacaaW.PrintMore Go.Proofs.YtibcadfpengacaaW.PrintLast

/-- A net made since w. -/
structure NetJ (w v : World) (N base : Nat) (g : Option Nat) (ss : List ByteArray) : Prop where
  kb : Below w.heap.size w v
  n : NetAt v N base g ss
  hb : w.heap.size ≤ base
  hN : w.heap.size ≤ N
  hs : base ≤ v.heap.size
theorem NetJ.next {w v v' : World} {N base : Nat} {g g' : Option Nat} {ss ss' : List ByteArray} (h : NetJ w v N base g ss) (hk : Keeps (fun k => k = N ∨ some k = g) v v') (hn : NetAt v' N base g' ss') : NetJ w v' N base g' ss' :=
  ⟨net_next h.kb h.n h.hb h.hN hk, hn, h.hb, h.hN, Nat.le_trans h.hs hk.size⟩
theorem NetJ.below {w v v' : World} {N base : Nat} {g : Option Nat} {ss : List ByteArray} (h : NetJ w v N base g ss) (hb : Below v.heap.size v v') : NetJ w v' N base g ss := ⟨h.kb.trans (hb.mono h.kb.size), h.n.below hb, h.hb, h.hN, Nat.le_trans h.hs hb.size⟩
theorem full_idx (more : Int) (hm : I64 more) : ∃ j : Nat, j < 1024 ∧ wrap64 ((IntKind.u64.wrap more).tmod 1024) = (j : Int) := by
  have h1 : I64 more := hm
  have h2 : 0 ≤ IntKind.u64.wrap more := by rw [u64_wrap]; omega
  have h3 : (IntKind.u64.wrap more).tmod 1024 = IntKind.u64.wrap more % 1024 := Int.tmod_eq_emod_of_nonneg h2
  have h4 := Int.emod_nonneg (IntKind.u64.wrap more) (show (1024 : Int) ≠ 0 by decide)
  have h5 := Int.emod_lt_of_pos (IntKind.u64.wrap more) (show (0 : Int) < 1024 by decide)
  refine ⟨(IntKind.u64.wrap more % 1024).toNat, by omega, ?_⟩
  rw [h3]
  generalize IntKind.u64.wrap more % 1024 = r at *
  clear h1 h2 h3
  unfold wrap64
  omega

set_option maxHeartbeats 4000000 in
set_option maxRecDepth 100000 in
theorem full_bad (m : Msg) (A : Option Addr) (c : Nat) (more : Int) (hk : m.Ok) (hcap : m.list.length ≤ c) (w : World) (hA : EntsR w A m.list) (hv : (m.refE.2 == 0) = false) :
    Calls Try.prog 7 #[.agg (m.vs (.slice A m.list.length c)).toArray, .int .i64 more] w fun e w' => e = .returned (.bool true) ∧ Below w.heap.size w w' := by
  have HE := Lib.hid (fun w h => refEncode_any m A c hk hcap w h)
  have T := Lib.hid (MsgAt.of m A c)
  have HA := Lib.hid hA
  generalize m.vs (.slice A m.list.length c) = x at *
  generalize m.refE.1 = s at *
  generalize m.refE.2 = code at *
  have hv2 : (code != 0) = true := by simpa using hv
  clear hA
  go_enter Try.func7, Try.ntmps7
  go_wp2_with (first
    | ((with_reducible refine gate_dst (N := 2) rfl ?_); refine box_event rfl (N := 2) rfl (run_box _ _ _ 36 _ x.toArray rfl rfl _) ?_; intro g2 hg2 v1 hbox hbel; have B2 := Lib.hid (show Blk v1 g2 36 x from hbox); have BLg2 := Lib.hid hbel; have Hg2 := Lib.hid hg2; clear hbox hbel hg2)
    | ((with_reducible refine gate_dst (N := 15) rfl ?_); refine wpList_load_mid rfl 36 _ rfl g2 0 rfl x _ ?hc Try.underlying36 rfl ?hi ?_; (case hc => exact B2.out.range); (case hi => rw [T.out.len]; exact infoMsg)))
  refine (HE.out v1 (HA.out.below BLg2.out)).mono ?_
  rintro e v2 ⟨rfl, hb⟩
  have KB := Lib.hid (BLg2.out.trans (hb.mono BLg2.out.size))
  clear hb
  go_wp2_with (go_at_call 30; refine (awake26_any _).mono ?_; rintro e v3 ⟨rfl, hb⟩; have KB3 := Lib.hid (KB.out.trans (hb.mono KB.out.size)); clear hb)
  go_ret
  exact ⟨rfl, KB3.out⟩
set_option maxHeartbeats 4000000 in
set_option maxRecDepth 100000 in
theorem full_ok (m : Msg) (A : Option Addr) (c : Nat) (more : Int) (hmore : I64 more) (hk : m.Ok) (hcap : m.list.length ≤ c) (hnil : m.list = [] ∨ A.isSome = true) (w : World) (hA : EntsR w A m.list) (hv : m.Val) :
    Calls Try.prog 7 #[.agg (m.vs (.slice A m.list.length c)).toArray, .int .i64 more] w fun e w' => e = .returned (.bool true) ∧ Below w.heap.size w w' := by
  have hre : m.refE = (m.layS, 0) := val_refE hv (layS_data m).symm
  have hd := dec_layS m hv
  have hsz := (layS_small2 m hv).1
  have HR := Lib.hid (fun w h => refEncode_any m A c hk hcap w h)
  have HE := Lib.hid (fun w h => encode_ref m A c hk hcap hnil w h)
  have HLO : Hid (∀ (N base : Nat) (g : Option Nat) (ss : List ByteArray) (i : Nat), ss[i]? = some m.layS → ss.length ≤ 1099511627776 → ∀ w, NetAt w N base g ss → Calls Try.prog 24 #[.pointer (some ⟨N, 0, none⟩), .int .i64 i] w fun e w' => e = .returned (.int .i64 0) ∧ NetAt w' N base g (ss.eraseIdx i) ∧ Keeps (fun k => k = N ∨ some k = g) w w') := Lib.hid (fun N base g ss i h1 h2 w h => by
    have h3 := lose_ok N base g ss i m.layS h1 (by omega) h2 w h
    rw [hd.2] at h3
    exact h3)
  rw [hre] at HR HE
  have T := Lib.hid (MsgAt.of m A c)
  have HA := Lib.hid hA
  have HMP := Lib.hid (fun w w1 (h : Below w.heap.size w w1) (hA : EntsR w A m.list) => hA.below h)
  generalize m.vs (.slice A m.list.length c) = x at *
  clear hA hre hd hsz hv
  generalize m.layS = s at *
  obtain ⟨j, hj, hje⟩ := full_idx more hmore
  go_enter Try.func7, Try.ntmps7
  go_wp2_with (first
    | ((with_reducible refine gate_dst (N := 2) rfl ?_); refine box_event rfl (N := 2) rfl (run_box _ _ _ 36 _ x.toArray rfl rfl _) ?_; intro g2 hg2 v1 hbox hbel; have B2 := Lib.hid (show Blk v1 g2 36 x from hbox); have BLg2 := Lib.hid hbel; have Hg2 := Lib.hid hg2; clear hbox hbel hg2)
    | ((with_reducible refine gate_dst (N := 15) rfl ?_); refine wpList_load_mid rfl 36 _ rfl g2 0 rfl x _ ?hc Try.underlying36 rfl ?hi ?_; (case hc => exact B2.out.range); (case hi => rw [T.out.len]; exact infoMsg)))
  refine (HR.out v1 (HA.out.below BLg2.out)).mono ?_
  rintro e v2 ⟨rfl, hb⟩
  have KB := Lib.hid (BLg2.out.trans (hb.mono BLg2.out.size))
  have B2a := Lib.hid (B2.out.below hb)
  clear hb
  go_wp2_with fail
  refine (netNew_any v2).mono ?_
  rintro e v3 ⟨rfl, hv3⟩
  have J3 : Hid (NetJ w v3 v2.heap.size v2.heap.size none []) := Lib.hid (by rw [hv3]; exact ⟨KB.out.trans (((Below.refl _ _).alloc (Nat.le_refl _) _).mono KB.out.size), NetAt.new v2, KB.out.size, KB.out.size, by simp⟩)
  have B3 : Hid (Blk v3 g2 36 x) := Lib.hid (by rw [hv3]; exact B2a.out.alloc _)
  clear hv3 B2a KB
  generalize v2.heap.size = N at *
  go_wp2_with fail
  go_loopw [8] (fun i wr => ∃ k g, k ≤ 1024 ∧ i = .int .i64 (k : Nat) ∧ NetJ w wr N N g (List.replicate k s) ∧ Blk wr g2 36 x) (fun i _ => 1024 - (RowKit.intOf i).toNat)
  case atStart => exact ⟨0, none, Nat.zero_le _, rfl, J3.out, B3.out⟩
  case round =>
    obtain ⟨k, g, hk, rfl, hJ, hB⟩ := hrel
    have J := Lib.hid hJ; have B := Lib.hid hB
    clear hJ hB J3 B3
    by_cases hlt : k < 1024
    · have hki : (k : Int) < 1024 := by omega
      go_wp2_with (first
        | ((with_reducible refine gate_dst (N := 28) rfl ?_); refine wpList_load_mid rfl 36 _ rfl g2 0 rfl x _ ?hc Try.underlying36 rfl ?hi ?_; (case hc => exact B.out.range); (case hi => rw [T.out.len]; exact infoMsg)))
      refine (send_ok N N g (List.replicate k s) x T.out.len s (fun w => EntsR w A m.list) HMP.out HE.out (by rw [List.length_replicate]; omega) wr J.out.n J.out.hs (HA.out.below J.out.kb)).mono ?_
      rintro e v5 ⟨rfl, k5, hn5, _, hk5⟩
      have J5 := Lib.hid (J.out.next hk5 hn5)
      have B5 := Lib.hid (blk_next J.out.n B.out hk5)
      clear hn5 hk5
      go_wp2_with (go_at_call 11; refine (num_any _ _).mono ?_; rintro e w' ⟨rfl, rfl⟩)
      go_roundw
      case rel => exact ⟨k + 1, some k5, by omega, by go_num, by rw [List.replicate_succ']; exact J5.out, B5.out⟩
      case measure => simp [RowKit.intOf]; omega
    · obtain rfl : k = 1024 := by omega
      obtain ⟨A5, c5, hc5⟩ := J.out.n.cell
      rw [List.length_replicate] at hc5
      have HSF := Lib.hid (send_full N 1024 c5 A5 x T.out.len (by decide) (by decide) wr hc5)
      clear hc5
      go_wp2_with (first
        | ((with_reducible refine gate_dst (N := 34) rfl ?_); refine wpList_load_mid rfl 36 _ rfl g2 0 rfl x _ ?hc Try.underlying36 rfl ?hi ?_; (case hc => exact B.out.range); (case hi => rw [T.out.len]; exact infoMsg)))
      refine HSF.out.mono ?_
      rintro e v6 ⟨rfl, hb⟩
      have J6 := Lib.hid (J.out.below hb)
      have HL := Lib.hid (show (List.replicate 1024 s).length = 1024 from List.length_replicate)
      have HI := Lib.hid (show (List.replicate 1024 s)[j]? = some s by rw [List.getElem?_replicate, if_pos hj])
      have HER : Hid ((List.replicate 1024 s).eraseIdx j = List.replicate 1023 s) := Lib.hid (by rw [List.eraseIdx_replicate, if_pos hj])
      have HL2 := Lib.hid (show (List.replicate 1023 s).length = 1023 from List.length_replicate)
      have HI2 := Lib.hid (show (List.replicate 1023 s)[0]? = some s by rw [List.getElem?_replicate, if_pos (by decide)])
      clear hb HSF J B
      generalize List.replicate 1023 s = L2 at *
      generalize List.replicate 1024 s = L at *
      obtain ⟨A6, c6, hc6⟩ := J6.out.n.cell
      rw [HL.out] at hc6
      have HCF := Lib.hid (copy_full N 1024 c6 A6 j (by omega) (by omega) (by decide) v6 hc6)
      clear hc6
      go_wp2_with fail
      refine HCF.out.mono ?_
      rintro e w' ⟨rfl, rfl⟩
      clear HCF
      go_wp2_with fail
      refine (HLO.out N N g L j HI.out (by rw [HL.out]; decide) v6 J6.out.n).mono ?_
      rintro e v7 ⟨rfl, hn7, hk7⟩
      have J7 := Lib.hid (J6.out.next hk7 hn7)
      rw [HER.out] at J7
      clear hn7 hk7
      go_wp2_with fail
      refine (copy_ok N N g L2 0 s HI2.out (by rw [HL2.out]; decide) v7 J7.out.n J7.out.hs).mono ?_
      rintro e v8 ⟨rfl, k8, hn8, _, hk8⟩
      have J8 := Lib.hid (J7.out.next hk8 hn8)
      clear hn8 hk8
      go_wp2_with (first
        | (go_at_call 11; refine (num_any _ _).mono ?_; rintro e w' ⟨rfl, rfl⟩)
        | (go_at_call 30; refine (awake26_any _).mono ?_; rintro e v9 ⟨rfl, hb⟩; have KB9 := Lib.hid (J8.out.kb.trans (hb.mono J8.out.kb.size)); clear hb))
      go_ret
      exact ⟨rfl, KB9.out⟩

theorem full_walk (m : Msg) (A : Option Addr) (c : Nat) (more : Int) (hmore : I64 more) (hk : m.Ok) (hcap : m.list.length ≤ c) (hnil : m.list = [] ∨ A.isSome = true) (w : World) (hA : EntsR w A m.list) :
    Calls Try.prog 7 #[.agg (m.vs (.slice A m.list.length c)).toArray, .int .i64 more] w fun e w' => e = .returned (.bool true) ∧ Below w.heap.size w w' := by
  cases h : (m.refE.2 == 0) with
  | false => exact full_bad m A c more hk hcap w hA h
  | true =>
    have h2 : m.refE = (m.refE.1, 0) := Prod.ext rfl (by simpa using h)
    exact full_ok m A c more hmore hk hcap hnil w hA (ref_val hk h2).1

end Go.Proofs.Ytibcadfpengacaa
