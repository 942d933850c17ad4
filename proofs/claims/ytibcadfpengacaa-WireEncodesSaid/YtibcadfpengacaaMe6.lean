/- holtlaw22's WireEncodes walked: it answers true at every message. Condition: the message's numbers and texts are what their types let be; the list's entries are read. A message that is handed to a statement, opened: its cells, its entries. No condition. WireEncodes: for every message m the law returns true, and m reads as before: the bytes that the program gives are the document's. No condition. -/
import Derived.Test.YtibcadfpengacaaMe5
import Derived.Deep.Slices
import Derived.ChangeStays
import Derived.OpenVars
import Derived.SizedLaws
import Derived.Test.YtibcadfpengacaaRows
import Derived.WalkKit
import Derived.ProofKit
import Derived.OpenShut
import Derived.ShutString
import Derived.ChangeOld
import Derived.Below
-- Encodes
set_option linter.unusedVariables false
set_option linter.unusedSimpArgs false
namespace Go.Proofs.Ytibcadfpengacaa
open Go.RowKit Go.Lib Go.Proofs.YtibcadfpengacaaW.PrintWords Go.Proofs.YtibcadfpengacaaW.PrintMore Go.Proofs.YtibcadfpengacaaW.PrintLast

theorem Wr.put_l (σ : Wr) (l : List UInt8) : (σ.put l).bs.length = σ.bs.length + l.length := by simp [Wr.put]
theorem Wr.fields_len (m : Msg) : (Wr.fields ⟨0, []⟩ m).bs.length ≤ 1000000 := by
  have n := fun σ x k => Wr.num_len σ x k
  have tl := fun σ s => Wr.text_len σ s
  have p := fun σ (h : Hd) => (Wr.put_l σ h.lay).trans (by rw [lay_length])
  have e := fun σ => Wr.ents_len m.list σ
  have hz : (⟨0, []⟩ : Wr).bs.length = 0 := rfl
  unfold Wr.fields
  split
  · unfold Wr.call Wr.ask
    have h1 := n ⟨0, []⟩ (u64of m.kind) 1
    generalize (Wr.num ⟨0, []⟩ (u64of m.kind) 1) = σ1 at *
    have h2 := n σ1 m.client.toNat 4
    generalize (σ1.num m.client.toNat 4) = σ2 at *
    have h3 := n σ2 m.xid.toNat 8
    generalize (σ2.num m.xid.toNat 8) = σ3 at *
    have h4 := n σ3 (u64of m.op) 1
    generalize (σ3.num (u64of m.op) 1) = σ4 at *
    have h5 := p σ4 m.h
    generalize σ4.put m.h.lay = σ5 at *
    have h6 := p σ5 m.h2
    generalize σ5.put m.h2.lay = σ6 at *
    have h7 := tl σ6 m.name
    generalize σ6.text m.name = σ7 at *
    have h8 := tl σ7 m.name2
    generalize σ7.text m.name2 = σ8 at *
    have h9 := n σ8 m.off.toNat 8
    generalize σ8.num m.off.toNat 8 = σ9 at *
    have h10 := n σ9 m.num.toNat 8
    generalize σ9.num m.num.toNat 8 = σ10 at *
    have h11 := tl σ10 m.data
    omega
  split
  · split
    · rename_i h64
      unfold Wr.reply Wr.stamp
      have h1 := n ⟨0, []⟩ (u64of m.kind) 1
      generalize (Wr.num ⟨0, []⟩ (u64of m.kind) 1) = σ1 at *
      have h2 := n σ1 m.client.toNat 4
      generalize (σ1.num m.client.toNat 4) = σ2 at *
      have h3 := n σ2 m.xid.toNat 8
      generalize (σ2.num m.xid.toNat 8) = σ3 at *
      have h4 := n σ3 (u64of m.status) 1
      generalize (σ3.num (u64of m.status) 1) = σ4 at *
      have h5 := p σ4 m.ah
      generalize σ4.put m.ah.lay = σ5 at *
      have h6 := n σ5 (u64of m.akind) 1
      generalize (σ5.num (u64of m.akind) 1) = σ6 at *
      have h7 := n σ6 m.links.toNat 4
      generalize (σ6.num m.links.toNat 4) = σ7 at *
      have h8 := n σ7 m.size.toNat 8
      generalize (σ7.num m.size.toNat 8) = σ8 at *
      have h9 := n σ8 m.change.toNat 8
      generalize (σ8.num m.change.toNat 8) = σ9 at *
      have h10 := tl σ9 m.adata
      generalize (σ9.text m.adata) = σ10 at *
      have h11 := n σ10 m.eof.toNat 1
      generalize (σ10.num m.eof.toNat 1) = σ11 at *
      have h12 := n σ11 m.anum.toNat 8
      generalize (σ11.num m.anum.toNat 8) = σ12 at *
      have h13 := n σ12 m.list.length 4
      generalize (σ12.num m.list.length 4) = σ13 at *
      have h14 := e σ13
      generalize (σ13.ents m.list) = σ14 at *
      have h15 := n σ14 m.boot.toNat 8
      generalize (σ14.num m.boot.toNat 8) = σ15 at *
      have h16 := n σ15 m.gb.toNat 8
      generalize (σ15.num m.gb.toNat 8) = σ16 at *
      have h17 := n σ16 m.gn.toNat 8
      omega
    · unfold Wr.replyLong
      have h1 := n ⟨0, []⟩ (u64of m.kind) 1
      generalize (Wr.num ⟨0, []⟩ (u64of m.kind) 1) = σ1 at *
      have h2 := n σ1 m.client.toNat 4
      generalize (σ1.num m.client.toNat 4) = σ2 at *
      have h3 := n σ2 m.xid.toNat 8
      generalize (σ2.num m.xid.toNat 8) = σ3 at *
      have h4 := n σ3 (u64of m.status) 1
      generalize (σ3.num (u64of m.status) 1) = σ4 at *
      have h5 := p σ4 m.ah
      generalize σ4.put m.ah.lay = σ5 at *
      have h6 := n σ5 (u64of m.akind) 1
      generalize (σ5.num (u64of m.akind) 1) = σ6 at *
      have h7 := n σ6 m.links.toNat 4
      generalize (σ6.num m.links.toNat 4) = σ7 at *
      have h8 := n σ7 m.size.toNat 8
      generalize (σ7.num m.size.toNat 8) = σ8 at *
      have h9 := n σ8 m.change.toNat 8
      generalize (σ8.num m.change.toNat 8) = σ9 at *
      have h10 := tl σ9 m.adata
      generalize (σ9.text m.adata) = σ10 at *
      have h11 := n σ10 m.eof.toNat 1
      generalize (σ10.num m.eof.toNat 1) = σ11 at *
      have h12 := n σ11 m.anum.toNat 8
      generalize (σ11.num m.anum.toNat 8) = σ12 at *
      have h13 := n σ12 m.list.length 4
      omega
  split
  · unfold Wr.back Wr.stamp
    have h1 := n ⟨0, []⟩ (u64of m.kind) 1
    generalize (Wr.num ⟨0, []⟩ (u64of m.kind) 1) = σ1 at *
    have h2 := n σ1 m.client.toNat 4
    generalize (σ1.num m.client.toNat 4) = σ2 at *
    have h3 := n σ2 m.xid.toNat 8
    generalize (σ2.num m.xid.toNat 8) = σ3 at *
    have h5 := p σ3 m.h
    generalize σ3.put m.h.lay = σ5 at *
    have h15 := n σ5 m.boot.toNat 8
    generalize (σ5.num m.boot.toNat 8) = σ15 at *
    have h16 := n σ15 m.gb.toNat 8
    generalize (σ15.num m.gb.toNat 8) = σ16 at *
    have h17 := n σ16 m.gn.toNat 8
    omega
  · unfold Wr.head
    have h1 := n ⟨0, []⟩ (u64of m.kind) 1
    generalize (Wr.num ⟨0, []⟩ (u64of m.kind) 1) = σ1 at *
    have h2 := n σ1 m.client.toNat 4
    generalize (σ1.num m.client.toNat 4) = σ2 at *
    have h3 := n σ2 m.xid.toNat 8
    omega

theorem encode_ref (m : Msg) (A : Option Addr) (cap : Nat) (hk : m.Ok) (hcap : m.list.length ≤ cap) (hnil : m.list = [] ∨ A.isSome = true) (w : World) (hA : EntsR w A m.list) :
    Calls Try.prog 9 #[.agg (m.vs (.slice A m.list.length cap)).toArray] w fun e w' => e = .returned (.tuple #[.string m.refE.1, .int .i64 m.refE.2]) ∧ Below w.heap.size w w' := by
  have h := encode_any m A cap hk hcap hnil (Nat.le_trans (Wr.fields_len m) (by decide)) w hA
  rw [enc_eq m hk] at h
  exact h

set_option maxHeartbeats 4000000 in
set_option maxRecDepth 100000 in
theorem encodes_walk (m : Msg) (A : Option Addr) (c : Nat) (hk : m.Ok) (hcap : m.list.length ≤ c) (hlen : m.list.length + 2 < 4398046511104) (hnil : m.list = [] ∨ A.isSome = true) (w : World) (hA : EntsR w A m.list) :
    Calls Try.prog 3 #[.agg (m.vs (.slice A m.list.length c)).toArray] w fun e w' => e = .returned (.bool true) ∧ Below w.heap.size w w' := by
  have hat := MsgAt.of m A c
  have hL := fun w1 (h : EntsR w1 A m.list) => lendMessage_any m A c hlen hcap w1 h
  have hR := fun w1 (h : EntsR w1 A m.list) => refEncode_any m A c hk hcap w1 h
  have hE := fun L cc w1 (hc : m.list.length ≤ cc) (h : EntsR w1 (some ⟨L, 0, none⟩) m.list) => encode_ref m (some ⟨L, 0, none⟩) cc hk hc (.inr rfl) w1 h
  have Hl := Lib.hid hlen
  have Hat := Lib.hid hat; have HL := Lib.hid hL; have HR := Lib.hid hR; have HE := Lib.hid hE; have HA := Lib.hid hA
  clear hat hL hR hE hk hcap hlen hnil hA
  unfold MLendPost at HL
  generalize hx : m.vs (.slice A m.list.length c) = x at *
  clear hx
  generalize m.refE.1 = s at *
  generalize m.refE.2 = ec at *
  go_enter Try.func3, Try.ntmps3
  go_wp2_with (first
    | ((with_reducible refine gate_dst (N := 1) rfl ?_); refine box_event rfl (N := 1) rfl (run_box _ _ _ 36 _ x.toArray rfl rfl _) ?_; intro g1 hg1 v1 hbox hbel; have B1 := Lib.hid (show Blk v1 g1 36 x from hbox); have BLg1 := Lib.hid hbel; have Hg1 := Lib.hid hg1; clear hbox hbel hg1; have KB1 := Lib.hid BLg1.out; have HA1 := Lib.hid (HA.out.below BLg1.out); clear BLg1 Hg1 HA)
    | ((with_reducible refine gate_dst (N := 8) rfl ?_); refine wpList_load_mid rfl 36 _ rfl g1 0 rfl x _ ?hc Try.underlying36 rfl ?hi ?_; (case hc => exact B1.out.range); (case hi => rw [Hat.out.len]; exact infoMsg)))
  refine (HL.out v1 HA1.out).mono ?_
  rintro e v2 ⟨L, cc, rfl, hL1, hL2, hL3, hb⟩
  have B2 := Lib.hid (B1.out.below hb)
  have KB2 := Lib.hid (KB1.out.trans (hb.mono KB1.out.size))
  have HA2 := Lib.hid (HA1.out.below hb)
  have HLc := Lib.hid hL2
  have HLE := Lib.hid hL3
  have Hyt := Lib.hid (MsgAt.of m (some ⟨L, 0, none⟩) cc)
  have HE2 := Lib.hid (fun w1 h => HE.out L cc w1 (by have := HLc.out; omega) h)
  clear hb hL1 hL2 hL3 B1 KB1 HA1 HE HL
  generalize hy : m.vs (.slice (some ⟨L, 0, none⟩) m.list.length cc) = y at *
  clear hy
  go_wp2_with (first
    | ((with_reducible refine gate_dst (N := 3) rfl ?_); refine box_event rfl (N := 3) rfl (run_allocM _ _ rfl _) ?_; intro g3 hg3 v3 hbox hbel; have Bg3 := Lib.hid (show Blk v3 g3 36 zcs from hbox); have BLg3 := Lib.hid hbel; have Hg3 := Lib.hid hg3; clear hbox hbel hg3)
    | ((with_reducible refine gate_store (t := 36) (p := 3) rfl ?_); refine wpList_store_mid rfl 36 _ _ rfl g3 0 y.toArray rfl rfl ?ht ?hi ?h1 ?_; (case ht => exact Bg3.out.there _ (by rw [List.size_toArray, Hyt.out.len]; exact Nat.le_refl 33)); (case hi => rw [List.size_toArray, Hyt.out.len]; exact infoMsg); (case h1 => exact all_oneCell_toArray Hyt.out.one); have B2g3 := Lib.hid (Bg3.out.setAll y (by rw [Hyt.out.len]; rfl)); have Kg3 := Lib.hid (Keeps.setCells (S := fun k => k = g3) y 0 v3 (Keeps.refl _ _) (fun _ => rfl)); change wpList _ _ _ _ _ (v3.setCells g3 0 y); generalize v3.setCells g3 0 y = v4 at B2g3 Kg3 ⊢; have BMg3 := Lib.hid (BLg3.out.trans (Kg3.out.below BLg3.out.size (fun k hk => by show ¬ k = g3; have := Hg3.out; omega))); clear Bg3 BLg3 Kg3 Hg3; have B4 := Lib.hid (B2.out.below BMg3.out); have KB4 := Lib.hid (KB2.out.trans (BMg3.out.mono KB2.out.size)); have HA4 := Lib.hid (HA2.out.below BMg3.out); have HLE4 := Lib.hid (HLE.out.below BMg3.out); have C4 := B2g3; clear B2 KB2 HA2 BMg3 HLE B2g3)
    | ((with_reducible refine gate_dst (N := 11) rfl ?_); refine wpList_load_mid rfl 36 _ rfl g3 0 rfl y _ ?hc Try.underlying36 rfl ?hi ?_; (case hc => exact C4.out.range); (case hi => rw [Hyt.out.len]; exact infoMsg)))
  refine (HE2.out v4 (HLE4.out.reads.take)).mono ?_
  rintro e v5 ⟨rfl, hb⟩
  have B5 := Lib.hid (B4.out.below hb)
  have C5 := Lib.hid (C4.out.below hb)
  have KB5 := Lib.hid (KB4.out.trans (hb.mono KB4.out.size))
  have HA5 := Lib.hid (HA4.out.below hb)
  have HLE5 := Lib.hid (HLE4.out.below hb)
  clear hb B4 C4 KB4 HA4 HLE4 HE2
  go_wp2_with (first
    | ((with_reducible refine gate_dst (N := 16) rfl ?_); refine wpList_load_mid rfl 36 _ rfl g1 0 rfl x _ ?hc Try.underlying36 rfl ?hi ?_; (case hc => exact B5.out.range); (case hi => rw [Hat.out.len]; exact infoMsg)))
  refine (HR.out v5 HA5.out).mono ?_
  rintro e v6 ⟨rfl, hb⟩
  have B6 := Lib.hid (B5.out.below hb)
  have C6 := Lib.hid (C5.out.below hb)
  have KB6 := Lib.hid (KB5.out.trans (hb.mono KB5.out.size))
  have HA6 := Lib.hid (HA5.out.below hb)
  have HLE6 := Lib.hid (HLE5.out.below hb)
  clear hb B5 C5 KB5 HA5 HLE5 HR
  have hse : (s.toList == s.toList) = true := beq_self_eq_true _
  have hee : (ec == ec) = true := beq_self_eq_true _
  go_wp2_with (first
    | (go_at_call 11; refine (num_any _ _).mono ?_; rintro e w' ⟨rfl, rfl⟩)
    | ((with_reducible refine gate_dst (N := 30) rfl ?_); refine gate_guard (by rfl) ?_; refine wpList_load_mid rfl 36 _ rfl g3 0 rfl y _ ?hc Try.underlying36 rfl ?hi ?_; (case hc => exact C6.out.range); (case hi => rw [Hyt.out.len]; exact infoMsg))
    | ((with_reducible refine gate_dst (N := 31) rfl ?_); refine gate_guard (by rfl) ?_; refine wpList_load_mid rfl 36 _ rfl g1 0 rfl x _ ?hc Try.underlying36 rfl ?hi ?_; (case hc => exact B6.out.range); (case hi => rw [Hat.out.len]; exact infoMsg))
    | (go_at_call 12; refine (kept_raw m L A cc c y x Hyt.out Hat.out (by have := Hl.out; omega) HLc.out _ HLE6.out.reads HA6.out).mono ?_; rintro e v7 ⟨rfl, hb⟩; have KB7 := Lib.hid (KB6.out.trans (hb.mono KB6.out.size)); clear hb)
    | (go_at_call 13; refine (awake22_any _).mono ?_; rintro e v8 ⟨rfl, hb⟩; have KB8 := Lib.hid (KB7.out.trans (hb.mono KB7.out.size)); clear hb))
  go_ret
  exact ⟨rfl, KB8.out⟩

end Go.Proofs.Ytibcadfpengacaa

-- Open
set_option linter.unusedVariables false
set_option linter.unusedSimpArgs false
namespace Go.Proofs.Ytibcadfpengacaa
open Go.RowKit Go.Lib Go.ChangeShapes Go.WideShapes

theorem c8 : Try.prog.cellsOf 23 = 1 := by kernel_rfl
theorem c3 : Try.prog.cellsOf 3 = 1 := by kernel_rfl
theorem c4 : Try.prog.cellsOf 4 = 1 := by kernel_rfl
theorem c22 : Try.prog.cellsOf 22 = 1 := by kernel_rfl
theorem c9 : Try.prog.cellsOf 9 = 1 := by kernel_rfl
theorem c25 : Try.prog.cellsOf 25 = 4 := by kernel_rfl
theorem c29 : Try.prog.cellsOf 29 = 4 := by kernel_rfl
theorem c34 : Try.prog.cellsOf 34 = 2 := by kernel_rfl
theorem c27 : Try.prog.cellsOf 27 = 14 := by kernel_rfl
theorem c32 : Try.prog.cellsOf 32 = 13 := by kernel_rfl
theorem c36 : Try.prog.cellsOf 36 = 33 := by kernel_rfl
theorem c99 : Try.prog.cellsOf 99 = 3 := by kernel_rfl
theorem c30s : Try.prog.cellsOf 30 = 1 := by kernel_rfl
theorem b99 : Try.prog.bytesOf 99 = 32 := by kernel_rfl

theorem u64_of {v : Int} (h : (Lit.int .u64 v).wf = true) : U64 v := by
  simp [Lit.wf, IntKind.min, IntKind.max, IntKind.signed, IntKind.bits] at h
  unfold U64
  omega
theorem u32_of {v : Int} (h : (Lit.int .u32 v).wf = true) : U32 v := by
  simp [Lit.wf, IntKind.min, IntKind.max, IntKind.signed, IntKind.bits] at h
  unfold U32
  omega
theorem i64_of {v : Int} (h : (Lit.int .i64 v).wf = true) : I64 v := by
  simp [Lit.wf, IntKind.min, IntKind.max, IntKind.signed, IntKind.bits] at h
  unfold I64
  omega

section
variable {H : Type} {enc : TypeId × Value → H} {w : World} {base : Nat} {sp : Nat → Bool} {hd : Bool} {fuel : Nat}

/-- The parts of a struct that is read: one for each field. -/
theorem parts2 {α : Type} {xs : List α} (h : xs.length = 2) : ∃ x0 x1, xs = [x0, x1] := by
  match xs, h with
  | [x0, x1], _ => exact ⟨x0, x1, rfl⟩
theorem parts3 {α : Type} {xs : List α} (h : xs.length = 3) : ∃ x0 x1 x2, xs = [x0, x1, x2] := by
  match xs, h with
  | [x0, x1, x2], _ => exact ⟨x0, x1, x2, rfl⟩
theorem parts4 {α : Type} {xs : List α} (h : xs.length = 4) : ∃ x0 x1 x2 x3, xs = [x0, x1, x2, x3] := by
  match xs, h with
  | [x0, x1, x2, x3], _ => exact ⟨x0, x1, x2, x3, rfl⟩
theorem parts7 {α : Type} {xs : List α} (h : xs.length = 7) : ∃ x0 x1 x2 x3 x4 x5 x6, xs = [x0, x1, x2, x3, x4, x5, x6] := by
  match xs, h with
  | [x0, x1, x2, x3, x4, x5, x6], _ => exact ⟨x0, x1, x2, x3, x4, x5, x6, rfl⟩
theorem parts8 {α : Type} {xs : List α} (h : xs.length = 8) : ∃ x0 x1 x2 x3 x4 x5 x6 x7, xs = [x0, x1, x2, x3, x4, x5, x6, x7] := by
  match xs, h with
  | [x0, x1, x2, x3, x4, x5, x6, x7], _ => exact ⟨x0, x1, x2, x3, x4, x5, x6, x7, rfl⟩

theorem fieldAt {fs : Array Field} {n : Nat} {cs : List Value} {xs : List (DataW H × List MemPlace)} (hf : ∀ (i : Nat) (f : Field), fs[i]? = some f → DataW.trod enc Try.prog w base sp hd n f.type ((cs.drop f.offset).take (Try.prog.cellsOf f.type)) = xs[i]?)
    (i : Nat) (ty : TypeId) (off : Nat) (h : (fs[i]?).map (fun f => (f.type, f.offset)) = some (ty, off)) : DataW.trod enc Try.prog w base sp hd n ty ((cs.drop off).take (Try.prog.cellsOf ty)) = xs[i]? := by
  cases hi : fs[i]? with
  | none => rw [hi] at h; cases h
  | some f =>
    rw [hi] at h
    have h2 : f.type = ty ∧ f.offset = off := by simpa using h
    have := hf i f hi
    rw [h2.1, h2.2] at this
    exact this

theorem parts33 {α : Type} {xs : List α} (h : xs.length = 33) : ∃ a0 a1 a2 a3 a4 a5 a6 a7 a8 a9 a10 a11 a12 a13 a14 a15 a16 a17 a18 a19 a20 a21 a22 a23 a24 a25 a26 a27 a28 a29 a30 a31 a32, xs = [a0, a1, a2, a3, a4, a5, a6, a7, a8, a9, a10, a11, a12, a13, a14, a15, a16, a17, a18, a19, a20, a21, a22, a23, a24, a25, a26, a27, a28, a29, a30, a31, a32] := by
  rcases xs with _ | ⟨a0, _ | ⟨a1, _ | ⟨a2, _ | ⟨a3, _ | ⟨a4, _ | ⟨a5, _ | ⟨a6, _ | ⟨a7, _ | ⟨a8, _ | ⟨a9, _ | ⟨a10, _ | ⟨a11, _ | ⟨a12, _ | ⟨a13, _ | ⟨a14, _ | ⟨a15, _ | ⟨a16, _ | ⟨a17, _ | ⟨a18, _ | ⟨a19, _ | ⟨a20, _ | ⟨a21, _ | ⟨a22, _ | ⟨a23, _ | ⟨a24, _ | ⟨a25, _ | ⟨a26, _ | ⟨a27, _ | ⟨a28, _ | ⟨a29, _ | ⟨a30, _ | ⟨a31, _ | ⟨a32, xs⟩⟩⟩⟩⟩⟩⟩⟩⟩⟩⟩⟩⟩⟩⟩⟩⟩⟩⟩⟩⟩⟩⟩⟩⟩⟩⟩⟩⟩⟩⟩⟩⟩
  all_goals first | (simp at h; done) | skip
  cases xs with
  | nil => exact ⟨_, _, _, _, _, _, _, _, _, _, _, _, _, _, _, _, _, _, _, _, _, _, _, _, _, _, _, _, _, _, _, _, _, rfl⟩
  | cons a b => simp at h
theorem open_hd {a b c d : Value} {x : DataW H × List MemPlace} (h : DataW.trod enc Try.prog w base sp hd fuel 25 [a, b, c, d] = some x) :
    ∃ g : Hd, a = .int .u32 g.ex ∧ b = .int .u64 g.snap ∧ c = .int .u64 g.ino ∧ d = .int .u64 g.gen ∧ g.Ok := by
  obtain ⟨xs, n, rfl, rfl, _, hl, hf⟩ := DataW.trod_struct Try.underlying25 h
  obtain ⟨x0, x1, x2, x3, rfl⟩ := parts4 hl
  have h0 := fieldAt hf 0 22 0 rfl
  rw [c22] at h0
  have h1 := fieldAt hf 1 23 1 rfl
  rw [c8] at h1
  have h2 := fieldAt hf 2 23 2 rfl
  rw [c8] at h2
  have h3 := fieldAt hf 3 23 3 rfl
  rw [c8] at h3
  obtain ⟨v0, e0, y0, g0⟩ := DataW.trod_int Try.underlying22 (show _ = some x0 from h0)
  have f0 := u32_of g0
  have e0' := List.head_eq_of_cons_eq e0
  obtain ⟨v1, e1, y1, g1⟩ := DataW.trod_int Try.underlying23 (show _ = some x1 from h1)
  have f1 := u64_of g1
  have e1' := List.head_eq_of_cons_eq e1
  obtain ⟨v2, e2, y2, g2⟩ := DataW.trod_int Try.underlying23 (show _ = some x2 from h2)
  have f2 := u64_of g2
  have e2' := List.head_eq_of_cons_eq e2
  obtain ⟨v3, e3, y3, g3⟩ := DataW.trod_int Try.underlying23 (show _ = some x3 from h3)
  have f3 := u64_of g3
  have e3' := List.head_eq_of_cons_eq e3
  exact ⟨⟨v0, v1, v2, v3⟩, e0', e1', e2', e3', ⟨f0.1, f0.2, f1.1, f1.2, f2.1, f2.2, f3.1, f3.2⟩⟩
theorem open_attr {a b c d : Value} {x : DataW H × List MemPlace} (h : DataW.trod enc Try.prog w base sp hd fuel 29 [a, b, c, d] = some x) :
    ∃ k l s g : Int, a = .int .i64 k ∧ b = .int .u32 l ∧ c = .int .u64 s ∧ d = .int .u64 g ∧ I64 k ∧ U32 l ∧ U64 s ∧ U64 g := by
  obtain ⟨xs, n, rfl, rfl, _, hl, hf⟩ := DataW.trod_struct Try.underlying29 h
  obtain ⟨x0, x1, x2, x3, rfl⟩ := parts4 hl
  have h0 := fieldAt hf 0 3 0 rfl
  rw [c3] at h0
  have h1 := fieldAt hf 1 22 1 rfl
  rw [c22] at h1
  have h2 := fieldAt hf 2 23 2 rfl
  rw [c8] at h2
  have h3 := fieldAt hf 3 23 3 rfl
  rw [c8] at h3
  obtain ⟨v0, e0, y0, g0⟩ := DataW.trod_int Try.underlying3 (show _ = some x0 from h0)
  have f0 := i64_of g0
  have e0' := List.head_eq_of_cons_eq e0
  obtain ⟨v1, e1, y1, g1⟩ := DataW.trod_int Try.underlying22 (show _ = some x1 from h1)
  have f1 := u32_of g1
  have e1' := List.head_eq_of_cons_eq e1
  obtain ⟨v2, e2, y2, g2⟩ := DataW.trod_int Try.underlying23 (show _ = some x2 from h2)
  have f2 := u64_of g2
  have e2' := List.head_eq_of_cons_eq e2
  obtain ⟨v3, e3, y3, g3⟩ := DataW.trod_int Try.underlying23 (show _ = some x3 from h3)
  have f3 := u64_of g3
  have e3' := List.head_eq_of_cons_eq e3
  exact ⟨v0, v1, v2, v3, e0', e1', e2', e3', f0, f1, f2, f3⟩
theorem open_stamp {a b : Value} {x : DataW H × List MemPlace} (h : DataW.trod enc Try.prog w base sp hd fuel 34 [a, b] = some x) :
    ∃ k l : Int, a = .int .u64 k ∧ b = .int .u64 l ∧ U64 k ∧ U64 l := by
  obtain ⟨xs, n, rfl, rfl, _, hl, hf⟩ := DataW.trod_struct Try.underlying34 h
  obtain ⟨x0, x1, rfl⟩ := parts2 hl
  have h0 := fieldAt hf 0 23 0 rfl
  rw [c8] at h0
  have h1 := fieldAt hf 1 23 1 rfl
  rw [c8] at h1
  obtain ⟨v0, e0, y0, g0⟩ := DataW.trod_int Try.underlying23 (show _ = some x0 from h0)
  have f0 := u64_of g0
  have e0' := List.head_eq_of_cons_eq e0
  obtain ⟨v1, e1, y1, g1⟩ := DataW.trod_int Try.underlying23 (show _ = some x1 from h1)
  have f1 := u64_of g1
  have e1' := List.head_eq_of_cons_eq e1
  exact ⟨v0, v1, e0', e1', f0, f1⟩

/-- A string's weight stands in what is read. -/
def Reach (P : Program) (t : TypeId) (d : DataW H) : Prop := ∀ n ∈ d.weights P t, n ≤ reachBytes
theorem reach_str {l : List UInt8} (h : Reach Try.prog 9 (.lit (.string l) : DataW H)) : l.length ≤ reachBytes := h _ (by simp [DataW.weights])
theorem reach_part {fs : Array Field} {t : TypeId} {ds : List (DataW H)} (hu : Try.prog.underlying t = some (.struct fs)) (h : Reach Try.prog t (.agg ds)) (j : Nat) (ty : TypeId) (d : DataW H) (ht : (fs[j]?).map (·.type) = some ty) (hd : ds[j]? = some d) : Reach Try.prog ty d := fun n hn => h n (by
  simp only [DataW.weights, hu]
  refine DataW.weights_mem_each (j := j) (t := ty) ?_ hd n hn
  rw [List.getElem?_map, Array.getElem?_toList]
  exact ht)
theorem siz_of {s : ByteArray} (h : s.data.toList.length ≤ reachBytes) : Siz s := by
  have e : s.data.toList.length = s.size := by rw [Array.length_toList]; rfl
  unfold Siz
  have : reachBytes = 140737488351232 := rfl
  omega

theorem open_ask {l : List Value} {x : DataW H × List MemPlace} (h : DataW.trod enc Try.prog w base sp hd fuel 27 l = some x) (hr : Reach Try.prog 27 x.1) (hlen : l.length = 14) :
    ∃ (op : Int) (g g2 : Hd) (name name2 : ByteArray) (off num : Int) (data : ByteArray), l = [.int .i64 op, .int .u32 g.ex, .int .u64 g.snap, .int .u64 g.ino, .int .u64 g.gen, .int .u32 g2.ex, .int .u64 g2.snap, .int .u64 g2.ino, .int .u64 g2.gen, .string name, .string name2, .int .u64 off, .int .u64 num, .string data] ∧
      I64 op ∧ g.Ok ∧ g2.Ok ∧ Siz name ∧ Siz name2 ∧ U64 off ∧ U64 num ∧ Siz data := by
  match l, hlen with
  | [a0, a1, a2, a3, a4, a5, a6, a7, a8, a9, a10, a11, a12, a13], _ =>
  obtain ⟨xs, n, rfl, rfl, _, hl, hf⟩ := DataW.trod_struct Try.underlying27 h
  obtain ⟨x0, x1, x2, x3, x4, x5, x6, x7, rfl⟩ := parts8 hl
  have h0 := fieldAt hf 0 3 0 rfl
  rw [c3] at h0
  have h1 := fieldAt hf 1 25 1 rfl
  rw [c25] at h1
  have h2 := fieldAt hf 2 25 5 rfl
  rw [c25] at h2
  have h3 := fieldAt hf 3 9 9 rfl
  rw [c9] at h3
  have h4 := fieldAt hf 4 9 10 rfl
  rw [c9] at h4
  have h5 := fieldAt hf 5 23 11 rfl
  rw [c8] at h5
  have h6 := fieldAt hf 6 23 12 rfl
  rw [c8] at h6
  have h7 := fieldAt hf 7 9 13 rfl
  rw [c9] at h7
  obtain ⟨v0, e0, y0, g0⟩ := DataW.trod_int Try.underlying3 (show _ = some x0 from h0)
  have f0 := i64_of g0
  have e0' := List.head_eq_of_cons_eq e0
  obtain ⟨g1, i1, i2, i3, i4, gk⟩ := open_hd (show DataW.trod enc Try.prog w base sp hd n 25 [a1, a2, a3, a4] = some x1 from h1)
  obtain ⟨g2, j1, j2, j3, j4, gk2⟩ := open_hd (show DataW.trod enc Try.prog w base sp hd n 25 [a5, a6, a7, a8] = some x2 from h2)
  obtain ⟨v3, e3, y3, g3⟩ := DataW.trod_string Try.underlying9 (show _ = some x3 from h3)
  have e3' := List.head_eq_of_cons_eq e3
  obtain ⟨v4, e4, y4, g4⟩ := DataW.trod_string Try.underlying9 (show _ = some x4 from h4)
  have e4' := List.head_eq_of_cons_eq e4
  obtain ⟨v5, e5, y5, g5⟩ := DataW.trod_int Try.underlying23 (show _ = some x5 from h5)
  have f5 := u64_of g5
  have e5' := List.head_eq_of_cons_eq e5
  obtain ⟨v6, e6, y6, g6⟩ := DataW.trod_int Try.underlying23 (show _ = some x6 from h6)
  have f6 := u64_of g6
  have e6' := List.head_eq_of_cons_eq e6
  obtain ⟨v7, e7, y7, g7⟩ := DataW.trod_string Try.underlying9 (show _ = some x7 from h7)
  have e7' := List.head_eq_of_cons_eq e7
  subst y3 y4 y7
  have r3 := siz_of (reach_str (reach_part Try.underlying27 hr 3 9 _ rfl rfl))
  have r4 := siz_of (reach_str (reach_part Try.underlying27 hr 4 9 _ rfl rfl))
  have r7 := siz_of (reach_str (reach_part Try.underlying27 hr 7 9 _ rfl rfl))
  subst e0' e3' e4' e5' e6' e7' i1 i2 i3 i4 j1 j2 j3 j4
  exact ⟨v0, g1, g2, v3, v4, v5, v6, v7, rfl, f0, gk, gk2, r3, r4, f5, f6, r7⟩

theorem open_ent {l : List Value} {x : DataW H × List MemPlace} (h : DataW.trod enc Try.prog w base sp hd fuel 99 l = some x) (hr : Reach Try.prog 99 x.1) (hlen : l.length = 3) :
    ∃ e : Ent, l = e.vs ∧ Siz e.name ∧ U64 e.ino ∧ U64 e.cookie := by
  match l, hlen with
  | [a0, a1, a2], _ =>
  obtain ⟨xs, n, rfl, rfl, _, hl, hf⟩ := DataW.trod_struct Try.underlying99 h
  obtain ⟨x0, x1, x2, rfl⟩ := parts3 hl
  have h0 := fieldAt hf 0 9 0 rfl
  rw [c9] at h0
  have h1 := fieldAt hf 1 23 1 rfl
  rw [c8] at h1
  have h2 := fieldAt hf 2 23 2 rfl
  rw [c8] at h2
  obtain ⟨v0, e0, y0, g0⟩ := DataW.trod_string Try.underlying9 (show _ = some x0 from h0)
  have e0' := List.head_eq_of_cons_eq e0
  obtain ⟨v1, e1, y1, g1⟩ := DataW.trod_int Try.underlying23 (show _ = some x1 from h1)
  have f1 := u64_of g1
  have e1' := List.head_eq_of_cons_eq e1
  obtain ⟨v2, e2, y2, g2⟩ := DataW.trod_int Try.underlying23 (show _ = some x2 from h2)
  have f2 := u64_of g2
  have e2' := List.head_eq_of_cons_eq e2
  subst y0
  have r0 := siz_of (reach_str (reach_part Try.underlying99 hr 0 9 _ rfl rfl))
  subst e0' e1' e2'
  exact ⟨⟨v0, v1, v2⟩, rfl, r0, f1, f2⟩

theorem reach_elems {elems spare : List (DataW H)} (h : Reach Try.prog 30 (.slice elems spare)) : (elems.length + spare.length) * 32 ≤ reachBytes ∧ ∀ d ∈ elems, Reach Try.prog 99 d := by
  refine ⟨h _ ?_, fun d hd n hn => h n ?_⟩
  · simp only [DataW.weights, Try.underlying30, b99]
    exact List.mem_cons_self
  · simp only [DataW.weights, Try.underlying30]
    refine List.mem_cons_of_mem _ (List.mem_append_left _ ?_)
    clear h
    induction elems with
    | nil => cases hd
    | cons a r ih =>
      rw [DataW.weightsAll]
      rcases List.mem_cons.1 hd with e | e
      · subst e
        exact List.mem_append_left _ hn
      · exact List.mem_append_right _ (ih e)

instance : Inhabited Ent := ⟨⟨⟨#[]⟩, 0, 0⟩⟩
theorem open_ents {l : List Value} {x : DataW H × List MemPlace} (h : DataW.trod enc Try.prog w base sp hd fuel 30 l = some x) (hr : Reach Try.prog 30 x.1) :
    ∃ (es : List Ent) (A : Option Addr) (c : Nat), l = [.slice A es.length c] ∧ es.length ≤ c ∧ (∀ e ∈ es, Siz e.name ∧ U64 e.ino ∧ U64 e.cookie) ∧ es.length + 2 < 4398046511104 ∧ EntsR w A es ∧ (es = [] ∨ A.isSome = true) := by
  rcases Go.Deep.open_slice Try.underlying30 h with ⟨rfl, rfl⟩ | ⟨a, len, cap, m, n, D, Pl, rfl, hb, hlc, hm, hmm, rfl, hx⟩
  · exact ⟨[], none, 0, rfl, Nat.le_refl _, (fun e h => by cases h), (by decide), (fun i e h => by simp at h), .inl rfl⟩
  · have hml : len ≤ m := by rw [hmm]; split <;> omega
    obtain ⟨hr1, hr2⟩ := reach_elems hr
    have hrl : reachBytes = 140737488351232 := rfl
    have hl2 : len + 2 < 4398046511104 := by
      rw [List.length_map, List.length_range] at hr1
      omega
    obtain ⟨V, hV⟩ := Go.Deep.choose_lt (α := Ent) (n := len) (p := fun i e => w.cells? base (a.add (i * Try.prog.cellsOf 99)) (Try.prog.cellsOf 99) = some e.vs ∧ Siz e.name ∧ U64 e.ino ∧ U64 e.cookie) (fun i hi => by
      obtain ⟨cs', q1, q2⟩ := hx i (by omega)
      obtain ⟨_, ql, _⟩ := World.cells?_some q1
      rw [c99] at ql
      obtain ⟨e, rfl, z⟩ := open_ent q2 (hr2 _ (List.mem_map.2 ⟨i, List.mem_range.2 hi, rfl⟩)) ql
      exact ⟨e, q1, z⟩)
    refine ⟨(List.range len).map V, some a, cap, by rw [List.length_map, List.length_range], by rw [List.length_map, List.length_range]; exact hlc, ?_, by rw [List.length_map, List.length_range]; exact hl2, ?_, .inr rfl⟩
    · intro e he
      obtain ⟨i, hi, rfl⟩ := List.mem_map.1 he
      exact (hV i (List.mem_range.1 hi)).2
    · intro i e he
      have hi : i < len := by
        have := (List.getElem?_eq_some_iff.1 he).1
        rwa [List.length_map, List.length_range] at this
      have hev : e = V i := by simpa [hi] using he.symm
      subst hev
      obtain ⟨q1, _⟩ := hV i hi
      rw [c99] at q1
      obtain ⟨_, _, qc⟩ := World.cells?_some q1
      obtain ⟨b, o, spot⟩ := a
      have q0 := qc 0 (by omega)
      have hspot : spot = none := by
        obtain ⟨p1, _⟩ := hV 0 (by omega)
        rw [c99] at p1
        obtain ⟨_, _, pc⟩ := World.cells?_some p1
        have q0' : w.cell? ((Addr.add ⟨b, o, spot⟩ (0 * 3)).add 0) = some (.string (V 0).name) := pc 0 (by omega)
        have := World.cell?_spot q0'
        simpa [Addr.add] using this
      subst hspot
      have z1 := qc 1 (by omega)
      have z2 := qc 2 (by omega)
      rw [addr_plus] at q0 z1 z2
      rw [addr_plus] at q0 z1 z2
      exact ⟨b, o, rfl, q0, z1, z2⟩

theorem open_ans {l : List Value} {x : DataW H × List MemPlace} (h : DataW.trod enc Try.prog w base sp hd fuel 32 l = some x) (hr : Reach Try.prog 32 x.1) (hlen : l.length = 13) :
    ∃ (status : Int) (g : Hd) (ak lk sz cg : Int) (data : ByteArray) (eof : Bool) (num : Int) (es : List Ent) (A : Option Addr) (c : Nat),
      l = [.int .i64 status, .int .u32 g.ex, .int .u64 g.snap, .int .u64 g.ino, .int .u64 g.gen, .int .i64 ak, .int .u32 lk, .int .u64 sz, .int .u64 cg, .string data, .bool eof, .int .u64 num, .slice A es.length c] ∧
      I64 status ∧ g.Ok ∧ I64 ak ∧ U32 lk ∧ U64 sz ∧ U64 cg ∧ Siz data ∧ U64 num ∧ es.length ≤ c ∧ (∀ e ∈ es, Siz e.name ∧ U64 e.ino ∧ U64 e.cookie) ∧ es.length + 2 < 4398046511104 ∧ EntsR w A es ∧ (es = [] ∨ A.isSome = true) := by
  match l, hlen with
  | [a0, a1, a2, a3, a4, a5, a6, a7, a8, a9, a10, a11, a12], _ =>
  obtain ⟨xs, n, rfl, rfl, _, hl, hf⟩ := DataW.trod_struct Try.underlying32 h
  obtain ⟨x0, x1, x2, x3, x4, x5, x6, rfl⟩ := parts7 hl
  have h0 := fieldAt hf 0 3 0 rfl
  rw [c3] at h0
  have h1 := fieldAt hf 1 25 1 rfl
  rw [c25] at h1
  have h2 := fieldAt hf 2 29 5 rfl
  rw [c29] at h2
  have h3 := fieldAt hf 3 9 9 rfl
  rw [c9] at h3
  have h4 := fieldAt hf 4 4 10 rfl
  rw [c4] at h4
  have h5 := fieldAt hf 5 23 11 rfl
  rw [c8] at h5
  have h6 := fieldAt hf 6 30 12 rfl
  rw [c30s] at h6
  obtain ⟨v0, e0, y0, g0⟩ := DataW.trod_int Try.underlying3 (show _ = some x0 from h0)
  have f0 := i64_of g0
  have e0' := List.head_eq_of_cons_eq e0
  obtain ⟨g1, i1, i2, i3, i4, gk⟩ := open_hd (show DataW.trod enc Try.prog w base sp hd n 25 [a1, a2, a3, a4] = some x1 from h1)
  obtain ⟨k2, l2, s2, c2, j1, j2, j3, j4, w1, w2, w3, w4⟩ := open_attr (show DataW.trod enc Try.prog w base sp hd n 29 [a5, a6, a7, a8] = some x2 from h2)
  obtain ⟨v3, e3, y3, g3⟩ := DataW.trod_string Try.underlying9 (show _ = some x3 from h3)
  have e3' := List.head_eq_of_cons_eq e3
  obtain ⟨v4, e4, y4⟩ := DataW.trod_bool Try.underlying4 (show _ = some x4 from h4)
  have e4' := List.head_eq_of_cons_eq e4
  obtain ⟨v5, e5, y5, g5⟩ := DataW.trod_int Try.underlying23 (show _ = some x5 from h5)
  have f5 := u64_of g5
  have e5' := List.head_eq_of_cons_eq e5
  obtain ⟨es, A, c, p1, p2, p3, p4, p5, p6⟩ := open_ents (show DataW.trod enc Try.prog w base sp hd n 30 [a12] = some x6 from h6) (reach_part Try.underlying32 hr 6 30 _ rfl rfl)
  have p1' := List.head_eq_of_cons_eq p1
  subst y3
  have r3 := siz_of (reach_str (reach_part Try.underlying32 hr 3 9 _ rfl rfl))
  subst e0' e3' e4' e5' i1 i2 i3 i4 j1 j2 j3 j4 p1'
  exact ⟨v0, g1, k2, l2, s2, c2, v3, v4, v5, es, A, c, rfl, f0, gk, w1, w2, w3, w4, r3, f5, p2, p3, p4, p5, p6⟩

/-- A message that is read: its cells, its entries. -/
theorem open_msg {l : List Value} {x : DataW H × List MemPlace} (h : DataW.trod enc Try.prog w base sp hd fuel 36 l = some x) (hr : Reach Try.prog 36 x.1) :
    ∃ (m : Msg) (A : Option Addr) (c : Nat), l = m.vs (.slice A m.list.length c) ∧ m.Ok ∧ m.list.length ≤ c ∧ m.list.length + 2 < 4398046511104 ∧ EntsR w A m.list ∧ (m.list = [] ∨ A.isSome = true) := by
  obtain ⟨xs, n, rfl, rfl, hlen, hl, hf⟩ := DataW.trod_struct Try.underlying36 h
  rw [c36] at hlen
  obtain ⟨a0, a1, a2, a3, a4, a5, a6, a7, a8, a9, a10, a11, a12, a13, a14, a15, a16, a17, a18, a19, a20, a21, a22, a23, a24, a25, a26, a27, a28, a29, a30, a31, a32, rfl⟩ := parts33 hlen
  obtain ⟨x0, x1, x2, x3, x4, x5, x6, rfl⟩ := parts7 hl
  have h0 := fieldAt hf 0 3 0 rfl
  rw [c3] at h0
  have h1 := fieldAt hf 1 22 1 rfl
  rw [c22] at h1
  have h2 := fieldAt hf 2 23 2 rfl
  rw [c8] at h2
  have h3 := fieldAt hf 3 27 3 rfl
  rw [c27] at h3
  have h4 := fieldAt hf 4 32 17 rfl
  rw [c32] at h4
  have h5 := fieldAt hf 5 23 30 rfl
  rw [c8] at h5
  have h6 := fieldAt hf 6 34 31 rfl
  rw [c34] at h6
  obtain ⟨v0, e0, y0, g0⟩ := DataW.trod_int Try.underlying3 (show _ = some x0 from h0)
  have f0 := i64_of g0
  have e0' := List.head_eq_of_cons_eq e0
  obtain ⟨v1, e1, y1, g1⟩ := DataW.trod_int Try.underlying22 (show _ = some x1 from h1)
  have f1 := u32_of g1
  have e1' := List.head_eq_of_cons_eq e1
  obtain ⟨v2, e2, y2, g2⟩ := DataW.trod_int Try.underlying23 (show _ = some x2 from h2)
  have f2 := u64_of g2
  have e2' := List.head_eq_of_cons_eq e2
  obtain ⟨op, g, g2, name, name2, off, num, data, o1, o2, o3, o4, o5, o6, o7, o8, o9⟩ := open_ask (show DataW.trod enc Try.prog w base sp hd n 27 [a3, a4, a5, a6, a7, a8, a9, a10, a11, a12, a13, a14, a15, a16] = some x3 from h3) (reach_part Try.underlying36 hr 3 27 _ rfl rfl) rfl
  obtain ⟨status, ag, ak, lk, sz, cg, adata, eof, anum, es, A, c, q0, q1, q2, q3, q4, q5, q6, q7, q8, q9, q10, q11, q12, q13⟩ := open_ans (show DataW.trod enc Try.prog w base sp hd n 32 [a17, a18, a19, a20, a21, a22, a23, a24, a25, a26, a27, a28, a29] = some x4 from h4) (reach_part Try.underlying36 hr 4 32 _ rfl rfl) rfl
  obtain ⟨v5, e5, y5, g5⟩ := DataW.trod_int Try.underlying23 (show _ = some x5 from h5)
  have f5 := u64_of g5
  have e5' := List.head_eq_of_cons_eq e5
  obtain ⟨gb, gn, s1, s2, s3, s4⟩ := open_stamp (show DataW.trod enc Try.prog w base sp hd n 34 [a31, a32] = some x6 from h6)
  simp only [List.cons.injEq, and_true] at o1 q0
  obtain ⟨o10, o11, o12, o13, o14, o15, o16, o17, o18, o19, o20, o21, o22, o23⟩ := o1
  obtain ⟨r0, r1, r2, r3, r4, r5, r6, r7, r8, r9, r10, r11, r12⟩ := q0
  subst e0' e1' e2' e5' s1 s2 o10 o11 o12 o13 o14 o15 o16 o17 o18 o19 o20 o21 o22 o23 r0 r1 r2 r3 r4 r5 r6 r7 r8 r9 r10 r11 r12
  exact ⟨⟨v0, v1, v2, op, g, g2, name, name2, off, num, data, status, ag, ak, lk, sz, cg, adata, eof, anum, es, v5, gb, gn⟩, A, c, rfl,
    ⟨f0, f1, f2, o2, o3, o4, o5, o6, o7, o8, o9, q1, q2, q3, q4, q5, q6, q7, q8, q10, by show es.length ≤ 4398046511104; omega, f5, s3, s4⟩, q9, q11, q12, q13⟩

end

theorem agg_of_cells {v : Value} {l : List Value} (h : v.cells.toList = l) (hl : l.length = 33) : v = .agg l.toArray := by
  subst h
  cases v with
  | agg cs => rfl
  | _ => exact absurd hl (by simp [Value.cells])

end Go.Proofs.Ytibcadfpengacaa

-- EncodesRow
set_option linter.unusedVariables false
namespace Go.Proofs.Ytibcadfpengacaa.wireEncodes
open Go.ChangeShapes Go.WideShapes Go.ChangeAt Go.RowKit
open Go.ChangeMaps (open_string shut_string)

theorem own : ownKnob Try.prog.godebug = none := by kernel_rfl
theorem laid : laidOutB Try.prog = true := by kernel_rfl
theorem readable : Try.prog.readableRec 36 = true := by kernel_rfl
theorem rowed : 36 < Try.prog.types.size := of_decide_eq_true (by kernel_rfl)
set_option maxRecDepth 100000 in
theorem lifted (os : Os) (started : os.Started) (H : Type) (enc : TypeId × Value → H) :
    ReturnsInHanded {} Try.checked os 3 .any (Rows.wireEncodesSpec.pre6 enc Try.prog Try.f3 Rows.wireEncodesRow.domain false) (Rows.wireEncodesSpec.post enc Try.prog Try.f3 false true false false) := by
  refine returnsInHanded_of_change_sized (C := Try.checked) own started (by kernel_rfl) Try.func3
    (ChangeSpec.witness6 (enc := enc) (C := Try.checked) false ⟨#[], #[.agg zcs.toArray], []⟩ 8 (by kernel_rfl) (by kernel_rfl) (by kernel_rfl) (by kernel_rfl)) ?_
  intro W base args ds gs before hval0 hW hcnd hsz0 _
  have hsz : (DataW.weightsEach Try.prog (Try.f3.params.toList ++ Rows.wireEncodesSpec.plain.varTypes Try.prog) (ds ++ gs)).all (· ≤ reachBytes) = true := hsz0
  have hW' := hW
  obtain ⟨p, q, hA0, hV, rfl, hfz, hnd⟩ := hW
  have hA : DataW.TrodAll enc Try.prog W 0 (fun _ => true) true Try.f3.params.toList args.toList ds p := hA0
  rw [Try.params3] at hA hsz
  obtain ⟨v0, vs0, d0, ds0, p0, q0, hargs, rfl, rfl, h0, r0⟩ := trodAll_cons hA
  obtain ⟨rfl, rfl, rfl⟩ := trodAll_nil r0
  obtain rfl : args = #[v0] := by cases args; simp_all
  obtain ⟨rfl, rfl⟩ := trodVars_none hV
  obtain ⟨fuel, ht⟩ := h0
  have hreach : Reach Try.prog 36 d0 := fun n hn => by
    have := List.all_eq_true.1 hsz n (DataW.weights_mem_each (j := 0) (t := 36) (d := d0) rfl rfl n hn)
    simpa using this
  obtain ⟨m, A, c, hcs, hk, hcap, hlen, hR, hnil⟩ := open_msg ht hreach
  have hv := agg_of_cells hcs rfl
  clear hA0 hval0 hsz0 hsz hargs hreach
  rw [hv]
  refine (encodes_walk m A c hk hcap hlen hnil W hR).mono fun e W' ⟨he, bel⟩ => ?_
  subst he
  rw [← hv]
  exact ⟨_, rfl, _, _, _, [], _, [], hW', trodAll_mk1 (shut_bool Try.underlying4 _), (trodAll_cons_mk (p := p0) ⟨fuel, DataW.trod_stays (kids_book laid readable) (book_sized readable) (fun h => by cases h) ⟨rowed, book_self _⟩ ht (fun x hx => bel.same (DataW.trod_lt _ _ _ _ ht x hx)) (fun x hx => decide_eq_true (DataW.trod_lt _ _ _ _ ht x hx))⟩ trodAll_mk0), rfl, bel.frame _, fun h => by cases h⟩
theorem over : Rows.wireEncodesRow.holds Try.pinned (OpenSpec.ofChange Rows.wireEncodesSpec) :=
  OpenClaim.holds_of_wide 3 Try.f3 rfl rfl rfl rfl rfl rfl rfl ⟨rfl, rfl, rfl, rfl, rfl⟩ rfl rfl rfl rfl rfl (by kernel_rfl) Try.func3 (by kernel_rfl)
    (of_decide_eq_true (by kernel_rfl)) (by unfold Func.isWrapper; first | (rw [if_pos (by decide +kernel)]; kernel_rfl) | (rw [if_neg (by decide +kernel)]; exact ⟨rfl, rfl⟩))
    (fun os started H enc _ => lifted os started H enc)
end Go.Proofs.Ytibcadfpengacaa.wireEncodes
namespace Go.Proofs.Ytibcadfpengacaa
theorem wireEncodes_holds : Rows.WireEncodesSaid := wireEncodes.over
#print axioms wireEncodes_holds
end Go.Proofs.Ytibcadfpengacaa
