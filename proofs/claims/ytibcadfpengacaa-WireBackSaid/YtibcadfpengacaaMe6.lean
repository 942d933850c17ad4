/- holtlaw22's WireEncodes walked: it answers true at every message. Condition: the message's numbers and texts are what their types let be; the list's entries are read. A message that is handed to a statement, opened: its cells, its entries. No condition. The plain law of a text that is read as a message: it is that message's bytes, and the message may be. No condition. holtlaw22's WireBack walked: it answers true at every message and cut. Condition: the message's numbers and texts are what their types let be; the list's entries are read. WireBack: for every message m and number cut the law returns true, and both read as before: there and back is the same, no beginning and nothing longer is a message. No condition. -/
import Derived.Test.YtibcadfpengacaaMe5
import Derived.Deep.Slices
import Derived.ChangeStays
import Derived.OpenVars
import Derived.SizedLaws
import Derived.Test.YtibcadfpengacaaRows
import Derived.WalkKit
import Derived.ProofKit
import Derived.OpenShut
import Derived.ShutString
import Derived.ChangeOld
import Derived.Below
-- Encodes
set_option linter.unusedVariables false
set_option linter.unusedSimpArgs false
namespace Go.Proofs.Ytibcadfpengacaa
open Go.RowKit Go.Lib Go.Proofs.YtibcadfpengacaaW.PrintWords Go.Proofs.YtibcadfpengacaaW.PrintMore Go.Proofs.YtibcadfpengacaaW.PrintLast

theorem Wr.put_l (σ : Wr) (l : List UInt8) : (σ.put l).bs.length = σ.bs.length + l.length := by simp [Wr.put]
theorem Wr.fields_len (m : Msg) : (Wr.fields ⟨0, []⟩ m).bs.length ≤ 1000000 := by
  have n := fun σ x k => Wr.num_len σ x k
  have tl := fun σ s => Wr.text_len σ s
  have p := fun σ (h : Hd) => (Wr.put_l σ h.lay).trans (by rw [lay_length])
  have e := fun σ => Wr.ents_len m.list σ
  have hz : (⟨0, []⟩ : Wr).bs.length = 0 := rfl
  unfold Wr.fields
  split
  · unfold Wr.call Wr.ask
    have h1 := n ⟨0, []⟩ (u64of m.kind) 1
    generalize (Wr.num ⟨0, []⟩ (u64of m.kind) 1) = σ1 at *
    have h2 := n σ1 m.client.toNat 4
    generalize (σ1.num m.client.toNat 4) = σ2 at *
    have h3 := n σ2 m.xid.toNat 8
    generalize (σ2.num m.xid.toNat 8) = σ3 at *
    have h4 := n σ3 (u64of m.op) 1
    generalize (σ3.num (u64of m.op) 1) = σ4 at *
    have h5 := p σ4 m.h
    generalize σ4.put m.h.lay = σ5 at *
    have h6 := p σ5 m.h2
    generalize σ5.put m.h2.lay = σ6 at *
    have h7 := tl σ6 m.name
    generalize σ6.text m.name = σ7 at *
    have h8 := tl σ7 m.name2
    generalize σ7.text m.name2 = σ8 at *
    have h9 := n σ8 m.off.toNat 8
    generalize σ8.num m.off.toNat 8 = σ9 at *
    have h10 := n σ9 m.num.toNat 8
    generalize σ9.num m.num.toNat 8 = σ10 at *
    have h11 := tl σ10 m.data
    omega
  split
  · split
    · rename_i h64
      unfold Wr.reply Wr.stamp
      have h1 := n ⟨0, []⟩ (u64of m.kind) 1
      generalize (Wr.num ⟨0, []⟩ (u64of m.kind) 1) = σ1 at *
      have h2 := n σ1 m.client.toNat 4
      generalize (σ1.num m.client.toNat 4) = σ2 at *
      have h3 := n σ2 m.xid.toNat 8
      generalize (σ2.num m.xid.toNat 8) = σ3 at *
      have h4 := n σ3 (u64of m.status) 1
      generalize (σ3.num (u64of m.status) 1) = σ4 at *
      have h5 := p σ4 m.ah
      generalize σ4.put m.ah.lay = σ5 at *
      have h6 := n σ5 (u64of m.akind) 1
      generalize (σ5.num (u64of m.akind) 1) = σ6 at *
      have h7 := n σ6 m.links.toNat 4
      generalize (σ6.num m.links.toNat 4) = σ7 at *
      have h8 := n σ7 m.size.toNat 8
      generalize (σ7.num m.size.toNat 8) = σ8 at *
      have h9 := n σ8 m.change.toNat 8
      generalize (σ8.num m.change.toNat 8) = σ9 at *
      have h10 := tl σ9 m.adata
      generalize (σ9.text m.adata) = σ10 at *
      have h11 := n σ10 m.eof.toNat 1
      generalize (σ10.num m.eof.toNat 1) = σ11 at *
      have h12 := n σ11 m.anum.toNat 8
      generalize (σ11.num m.anum.toNat 8) = σ12 at *
      have h13 := n σ12 m.list.length 4
      generalize (σ12.num m.list.length 4) = σ13 at *
      have h14 := e σ13
      generalize (σ13.ents m.list) = σ14 at *
      have h15 := n σ14 m.boot.toNat 8
      generalize (σ14.num m.boot.toNat 8) = σ15 at *
      have h16 := n σ15 m.gb.toNat 8
      generalize (σ15.num m.gb.toNat 8) = σ16 at *
      have h17 := n σ16 m.gn.toNat 8
      omega
    · unfold Wr.replyLong
      have h1 := n ⟨0, []⟩ (u64of m.kind) 1
      generalize (Wr.num ⟨0, []⟩ (u64of m.kind) 1) = σ1 at *
      have h2 := n σ1 m.client.toNat 4
      generalize (σ1.num m.client.toNat 4) = σ2 at *
      have h3 := n σ2 m.xid.toNat 8
      generalize (σ2.num m.xid.toNat 8) = σ3 at *
      have h4 := n σ3 (u64of m.status) 1
      generalize (σ3.num (u64of m.status) 1) = σ4 at *
      have h5 := p σ4 m.ah
      generalize σ4.put m.ah.lay = σ5 at *
      have h6 := n σ5 (u64of m.akind) 1
      generalize (σ5.num (u64of m.akind) 1) = σ6 at *
      have h7 := n σ6 m.links.toNat 4
      generalize (σ6.num m.links.toNat 4) = σ7 at *
      have h8 := n σ7 m.size.toNat 8
      generalize (σ7.num m.size.toNat 8) = σ8 at *
      have h9 := n σ8 m.change.toNat 8
      generalize (σ8.num m.change.toNat 8) = σ9 at *
      have h10 := tl σ9 m.adata
      generalize (σ9.text m.adata) = σ10 at *
      have h11 := n σ10 m.eof.toNat 1
      generalize (σ10.num m.eof.toNat 1) = σ11 at *
      have h12 := n σ11 m.anum.toNat 8
      generalize (σ11.num m.anum.toNat 8) = σ12 at *
      have h13 := n σ12 m.list.length 4
      omega
  split
  · unfold Wr.back Wr.stamp
    have h1 := n ⟨0, []⟩ (u64of m.kind) 1
    generalize (Wr.num ⟨0, []⟩ (u64of m.kind) 1) = σ1 at *
    have h2 := n σ1 m.client.toNat 4
    generalize (σ1.num m.client.toNat 4) = σ2 at *
    have h3 := n σ2 m.xid.toNat 8
    generalize (σ2.num m.xid.toNat 8) = σ3 at *
    have h5 := p σ3 m.h
    generalize σ3.put m.h.lay = σ5 at *
    have h15 := n σ5 m.boot.toNat 8
    generalize (σ5.num m.boot.toNat 8) = σ15 at *
    have h16 := n σ15 m.gb.toNat 8
    generalize (σ15.num m.gb.toNat 8) = σ16 at *
    have h17 := n σ16 m.gn.toNat 8
    omega
  · unfold Wr.head
    have h1 := n ⟨0, []⟩ (u64of m.kind) 1
    generalize (Wr.num ⟨0, []⟩ (u64of m.kind) 1) = σ1 at *
    have h2 := n σ1 m.client.toNat 4
    generalize (σ1.num m.client.toNat 4) = σ2 at *
    have h3 := n σ2 m.xid.toNat 8
    omega

theorem encode_ref (m : Msg) (A : Option Addr) (cap : Nat) (hk : m.Ok) (hcap : m.list.length ≤ cap) (hnil : m.list = [] ∨ A.isSome = true) (w : World) (hA : EntsR w A m.list) :
    Calls Try.prog 9 #[.agg (m.vs (.slice A m.list.length cap)).toArray] w fun e w' => e = .returned (.tuple #[.string m.refE.1, .int .i64 m.refE.2]) ∧ Below w.heap.size w w' := by
  have h := encode_any m A cap hk hcap hnil (Nat.le_trans (Wr.fields_len m) (by decide)) w hA
  rw [enc_eq m hk] at h
  exact h

set_option maxHeartbeats 4000000 in
set_option maxRecDepth 100000 in
theorem encodes_walk (m : Msg) (A : Option Addr) (c : Nat) (hk : m.Ok) (hcap : m.list.length ≤ c) (hlen : m.list.length + 2 < 4398046511104) (hnil : m.list = [] ∨ A.isSome = true) (w : World) (hA : EntsR w A m.list) :
    Calls Try.prog 3 #[.agg (m.vs (.slice A m.list.length c)).toArray] w fun e w' => e = .returned (.bool true) ∧ Below w.heap.size w w' := by
  have hat := MsgAt.of m A c
  have hL := fun w1 (h : EntsR w1 A m.list) => lendMessage_any m A c hlen hcap w1 h
  have hR := fun w1 (h : EntsR w1 A m.list) => refEncode_any m A c hk hcap w1 h
  have hE := fun L cc w1 (hc : m.list.length ≤ cc) (h : EntsR w1 (some ⟨L, 0, none⟩) m.list) => encode_ref m (some ⟨L, 0, none⟩) cc hk hc (.inr rfl) w1 h
  have Hl := Lib.hid hlen
  have Hat := Lib.hid hat; have HL := Lib.hid hL; have HR := Lib.hid hR; have HE := Lib.hid hE; have HA := Lib.hid hA
  clear hat hL hR hE hk hcap hlen hnil hA
  unfold MLendPost at HL
  generalize hx : m.vs (.slice A m.list.length c) = x at *
  clear hx
  generalize m.refE.1 = s at *
  generalize m.refE.2 = ec at *
  go_enter Try.func3, Try.ntmps3
  go_wp2_with (first
    | ((with_reducible refine gate_dst (N := 1) rfl ?_); refine box_event rfl (N := 1) rfl (run_box _ _ _ 36 _ x.toArray rfl rfl _) ?_; intro g1 hg1 v1 hbox hbel; have B1 := Lib.hid (show Blk v1 g1 36 x from hbox); have BLg1 := Lib.hid hbel; have Hg1 := Lib.hid hg1; clear hbox hbel hg1; have KB1 := Lib.hid BLg1.out; have HA1 := Lib.hid (HA.out.below BLg1.out); clear BLg1 Hg1 HA)
    | ((with_reducible refine gate_dst (N := 8) rfl ?_); refine wpList_load_mid rfl 36 _ rfl g1 0 rfl x _ ?hc Try.underlying36 rfl ?hi ?_; (case hc => exact B1.out.range); (case hi => rw [Hat.out.len]; exact infoMsg)))
  refine (HL.out v1 HA1.out).mono ?_
  rintro e v2 ⟨L, cc, rfl, hL1, hL2, hL3, hb⟩
  have B2 := Lib.hid (B1.out.below hb)
  have KB2 := Lib.hid (KB1.out.trans (hb.mono KB1.out.size))
  have HA2 := Lib.hid (HA1.out.below hb)
  have HLc := Lib.hid hL2
  have HLE := Lib.hid hL3
  have Hyt := Lib.hid (MsgAt.of m (some ⟨L, 0, none⟩) cc)
  have HE2 := Lib.hid (fun w1 h => HE.out L cc w1 (by have := HLc.out; omega) h)
  clear hb hL1 hL2 hL3 B1 KB1 HA1 HE HL
  generalize hy : m.vs (.slice (some ⟨L, 0, none⟩) m.list.length cc) = y at *
  clear hy
  go_wp2_with (first
    | ((with_reducible refine gate_dst (N := 3) rfl ?_); refine box_event rfl (N := 3) rfl (run_allocM _ _ rfl _) ?_; intro g3 hg3 v3 hbox hbel; have Bg3 := Lib.hid (show Blk v3 g3 36 zcs from hbox); have BLg3 := Lib.hid hbel; have Hg3 := Lib.hid hg3; clear hbox hbel hg3)
    | ((with_reducible refine gate_store (t := 36) (p := 3) rfl ?_); refine wpList_store_mid rfl 36 _ _ rfl g3 0 y.toArray rfl rfl ?ht ?hi ?h1 ?_; (case ht => exact Bg3.out.there _ (by rw [List.size_toArray, Hyt.out.len]; exact Nat.le_refl 33)); (case hi => rw [List.size_toArray, Hyt.out.len]; exact infoMsg); (case h1 => exact all_oneCell_toArray Hyt.out.one); have B2g3 := Lib.hid (Bg3.out.setAll y (by rw [Hyt.out.len]; rfl)); have Kg3 := Lib.hid (Keeps.setCells (S := fun k => k = g3) y 0 v3 (Keeps.refl _ _) (fun _ => rfl)); change wpList _ _ _ _ _ (v3.setCells g3 0 y); generalize v3.setCells g3 0 y = v4 at B2g3 Kg3 ⊢; have BMg3 := Lib.hid (BLg3.out.trans (Kg3.out.below BLg3.out.size (fun k hk => by show ¬ k = g3; have := Hg3.out; omega))); clear Bg3 BLg3 Kg3 Hg3; have B4 := Lib.hid (B2.out.below BMg3.out); have KB4 := Lib.hid (KB2.out.trans (BMg3.out.mono KB2.out.size)); have HA4 := Lib.hid (HA2.out.below BMg3.out); have HLE4 := Lib.hid (HLE.out.below BMg3.out); have C4 := B2g3; clear B2 KB2 HA2 BMg3 HLE B2g3)
    | ((with_reducible refine gate_dst (N := 11) rfl ?_); refine wpList_load_mid rfl 36 _ rfl g3 0 rfl y _ ?hc Try.underlying36 rfl ?hi ?_; (case hc => exact C4.out.range); (case hi => rw [Hyt.out.len]; exact infoMsg)))
  refine (HE2.out v4 (HLE4.out.reads.take)).mono ?_
  rintro e v5 ⟨rfl, hb⟩
  have B5 := Lib.hid (B4.out.below hb)
  have C5 := Lib.hid (C4.out.below hb)
  have KB5 := Lib.hid (KB4.out.trans (hb.mono KB4.out.size))
  have HA5 := Lib.hid (HA4.out.below hb)
  have HLE5 := Lib.hid (HLE4.out.below hb)
  clear hb B4 C4 KB4 HA4 HLE4 HE2
  go_wp2_with (first
    | ((with_reducible refine gate_dst (N := 16) rfl ?_); refine wpList_load_mid rfl 36 _ rfl g1 0 rfl x _ ?hc Try.underlying36 rfl ?hi ?_; (case hc => exact B5.out.range); (case hi => rw [Hat.out.len]; exact infoMsg)))
  refine (HR.out v5 HA5.out).mono ?_
  rintro e v6 ⟨rfl, hb⟩
  have B6 := Lib.hid (B5.out.below hb)
  have C6 := Lib.hid (C5.out.below hb)
  have KB6 := Lib.hid (KB5.out.trans (hb.mono KB5.out.size))
  have HA6 := Lib.hid (HA5.out.below hb)
  have HLE6 := Lib.hid (HLE5.out.below hb)
  clear hb B5 C5 KB5 HA5 HLE5 HR
  have hse : (s.toList == s.toList) = true := beq_self_eq_true _
  have hee : (ec == ec) = true := beq_self_eq_true _
  go_wp2_with (first
    | (go_at_call 11; refine (num_any _ _).mono ?_; rintro e w' ⟨rfl, rfl⟩)
    | ((with_reducible refine gate_dst (N := 30) rfl ?_); refine gate_guard (by rfl) ?_; refine wpList_load_mid rfl 36 _ rfl g3 0 rfl y _ ?hc Try.underlying36 rfl ?hi ?_; (case hc => exact C6.out.range); (case hi => rw [Hyt.out.len]; exact infoMsg))
    | ((with_reducible refine gate_dst (N := 31) rfl ?_); refine gate_guard (by rfl) ?_; refine wpList_load_mid rfl 36 _ rfl g1 0 rfl x _ ?hc Try.underlying36 rfl ?hi ?_; (case hc => exact B6.out.range); (case hi => rw [Hat.out.len]; exact infoMsg))
    | (go_at_call 12; refine (kept_raw m L A cc c y x Hyt.out Hat.out (by have := Hl.out; omega) HLc.out _ HLE6.out.reads HA6.out).mono ?_; rintro e v7 ⟨rfl, hb⟩; have KB7 := Lib.hid (KB6.out.trans (hb.mono KB6.out.size)); clear hb)
    | (go_at_call 13; refine (awake22_any _).mono ?_; rintro e v8 ⟨rfl, hb⟩; have KB8 := Lib.hid (KB7.out.trans (hb.mono KB7.out.size)); clear hb))
  go_ret
  exact ⟨rfl, KB8.out⟩

end Go.Proofs.Ytibcadfpengacaa

-- Open
set_option linter.unusedVariables false
set_option linter.unusedSimpArgs false
namespace Go.Proofs.Ytibcadfpengacaa
open Go.RowKit Go.Lib Go.ChangeShapes Go.WideShapes

theorem c8 : Try.prog.cellsOf 23 = 1 := by kernel_rfl
theorem c3 : Try.prog.cellsOf 3 = 1 := by kernel_rfl
theorem c4 : Try.prog.cellsOf 4 = 1 := by kernel_rfl
theorem c22 : Try.prog.cellsOf 22 = 1 := by kernel_rfl
theorem c9 : Try.prog.cellsOf 9 = 1 := by kernel_rfl
theorem c25 : Try.prog.cellsOf 25 = 4 := by kernel_rfl
theorem c29 : Try.prog.cellsOf 29 = 4 := by kernel_rfl
theorem c34 : Try.prog.cellsOf 34 = 2 := by kernel_rfl
theorem c27 : Try.prog.cellsOf 27 = 14 := by kernel_rfl
theorem c32 : Try.prog.cellsOf 32 = 13 := by kernel_rfl
theorem c36 : Try.prog.cellsOf 36 = 33 := by kernel_rfl
theorem c99 : Try.prog.cellsOf 99 = 3 := by kernel_rfl
theorem c30s : Try.prog.cellsOf 30 = 1 := by kernel_rfl
theorem b99 : Try.prog.bytesOf 99 = 32 := by kernel_rfl

theorem u64_of {v : Int} (h : (Lit.int .u64 v).wf = true) : U64 v := by
  simp [Lit.wf, IntKind.min, IntKind.max, IntKind.signed, IntKind.bits] at h
  unfold U64
  omega
theorem u32_of {v : Int} (h : (Lit.int .u32 v).wf = true) : U32 v := by
  simp [Lit.wf, IntKind.min, IntKind.max, IntKind.signed, IntKind.bits] at h
  unfold U32
  omega
theorem i64_of {v : Int} (h : (Lit.int .i64 v).wf = true) : I64 v := by
  simp [Lit.wf, IntKind.min, IntKind.max, IntKind.signed, IntKind.bits] at h
  unfold I64
  omega

section
variable {H : Type} {enc : TypeId × Value → H} {w : World} {base : Nat} {sp : Nat → Bool} {hd : Bool} {fuel : Nat}

/-- The parts of a struct that is read: one for each field. -/
theorem parts2 {α : Type} {xs : List α} (h : xs.length = 2) : ∃ x0 x1, xs = [x0, x1] := by
  match xs, h with
  | [x0, x1], _ => exact ⟨x0, x1, rfl⟩
theorem parts3 {α : Type} {xs : List α} (h : xs.length = 3) : ∃ x0 x1 x2, xs = [x0, x1, x2] := by
  match xs, h with
  | [x0, x1, x2], _ => exact ⟨x0, x1, x2, rfl⟩
theorem parts4 {α : Type} {xs : List α} (h : xs.length = 4) : ∃ x0 x1 x2 x3, xs = [x0, x1, x2, x3] := by
  match xs, h with
  | [x0, x1, x2, x3], _ => exact ⟨x0, x1, x2, x3, rfl⟩
theorem parts7 {α : Type} {xs : List α} (h : xs.length = 7) : ∃ x0 x1 x2 x3 x4 x5 x6, xs = [x0, x1, x2, x3, x4, x5, x6] := by
  match xs, h with
  | [x0, x1, x2, x3, x4, x5, x6], _ => exact ⟨x0, x1, x2, x3, x4, x5, x6, rfl⟩
theorem parts8 {α : Type} {xs : List α} (h : xs.length = 8) : ∃ x0 x1 x2 x3 x4 x5 x6 x7, xs = [x0, x1, x2, x3, x4, x5, x6, x7] := by
  match xs, h with
  | [x0, x1, x2, x3, x4, x5, x6, x7], _ => exact ⟨x0, x1, x2, x3, x4, x5, x6, x7, rfl⟩

theorem fieldAt {fs : Array Field} {n : Nat} {cs : List Value} {xs : List (DataW H × List MemPlace)} (hf : ∀ (i : Nat) (f : Field), fs[i]? = some f → DataW.trod enc Try.prog w base sp hd n f.type ((cs.drop f.offset).take (Try.prog.cellsOf f.type)) = xs[i]?)
    (i : Nat) (ty : TypeId) (off : Nat) (h : (fs[i]?).map (fun f => (f.type, f.offset)) = some (ty, off)) : DataW.trod enc Try.prog w base sp hd n ty ((cs.drop off).take (Try.prog.cellsOf ty)) = xs[i]? := by
  cases hi : fs[i]? with
  | none => rw [hi] at h; cases h
  | some f =>
    rw [hi] at h
    have h2 : f.type = ty ∧ f.offset = off := by simpa using h
    have := hf i f hi
    rw [h2.1, h2.2] at this
    exact this

theorem parts33 {α : Type} {xs : List α} (h : xs.length = 33) : ∃ a0 a1 a2 a3 a4 a5 a6 a7 a8 a9 a10 a11 a12 a13 a14 a15 a16 a17 a18 a19 a20 a21 a22 a23 a24 a25 a26 a27 a28 a29 a30 a31 a32, xs = [a0, a1, a2, a3, a4, a5, a6, a7, a8, a9, a10, a11, a12, a13, a14, a15, a16, a17, a18, a19, a20, a21, a22, a23, a24, a25, a26, a27, a28, a29, a30, a31, a32] := by
  rcases xs with _ | ⟨a0, _ | ⟨a1, _ | ⟨a2, _ | ⟨a3, _ | ⟨a4, _ | ⟨a5, _ | ⟨a6, _ | ⟨a7, _ | ⟨a8, _ | ⟨a9, _ | ⟨a10, _ | ⟨a11, _ | ⟨a12, _ | ⟨a13, _ | ⟨a14, _ | ⟨a15, _ | ⟨a16, _ | ⟨a17, _ | ⟨a18, _ | ⟨a19, _ | ⟨a20, _ | ⟨a21, _ | ⟨a22, _ | ⟨a23, _ | ⟨a24, _ | ⟨a25, _ | ⟨a26, _ | ⟨a27, _ | ⟨a28, _ | ⟨a29, _ | ⟨a30, _ | ⟨a31, _ | ⟨a32, xs⟩⟩⟩⟩⟩⟩⟩⟩⟩⟩⟩⟩⟩⟩⟩⟩⟩⟩⟩⟩⟩⟩⟩⟩⟩⟩⟩⟩⟩⟩⟩⟩⟩
  all_goals first | (simp at h; done) | skip
  cases xs with
  | nil => exact ⟨_, _, _, _, _, _, _, _, _, _, _, _, _, _, _, _, _, _, _, _, _, _, _, _, _, _, _, _, _, _, _, _, _, rfl⟩
  | cons a b => simp at h
theorem open_hd {a b c d : Value} {x : DataW H × List MemPlace} (h : DataW.trod enc Try.prog w base sp hd fuel 25 [a, b, c, d] = some x) :
    ∃ g : Hd, a = .int .u32 g.ex ∧ b = .int .u64 g.snap ∧ c = .int .u64 g.ino ∧ d = .int .u64 g.gen ∧ g.Ok := by
  obtain ⟨xs, n, rfl, rfl, _, hl, hf⟩ := DataW.trod_struct Try.underlying25 h
  obtain ⟨x0, x1, x2, x3, rfl⟩ := parts4 hl
  have h0 := fieldAt hf 0 22 0 rfl
  rw [c22] at h0
  have h1 := fieldAt hf 1 23 1 rfl
  rw [c8] at h1
  have h2 := fieldAt hf 2 23 2 rfl
  rw [c8] at h2
  have h3 := fieldAt hf 3 23 3 rfl
  rw [c8] at h3
  obtain ⟨v0, e0, y0, g0⟩ := DataW.trod_int Try.underlying22 (show _ = some x0 from h0)
  have f0 := u32_of g0
  have e0' := List.head_eq_of_cons_eq e0
  obtain ⟨v1, e1, y1, g1⟩ := DataW.trod_int Try.underlying23 (show _ = some x1 from h1)
  have f1 := u64_of g1
  have e1' := List.head_eq_of_cons_eq e1
  obtain ⟨v2, e2, y2, g2⟩ := DataW.trod_int Try.underlying23 (show _ = some x2 from h2)
  have f2 := u64_of g2
  have e2' := List.head_eq_of_cons_eq e2
  obtain ⟨v3, e3, y3, g3⟩ := DataW.trod_int Try.underlying23 (show _ = some x3 from h3)
  have f3 := u64_of g3
  have e3' := List.head_eq_of_cons_eq e3
  exact ⟨⟨v0, v1, v2, v3⟩, e0', e1', e2', e3', ⟨f0.1, f0.2, f1.1, f1.2, f2.1, f2.2, f3.1, f3.2⟩⟩
theorem open_attr {a b c d : Value} {x : DataW H × List MemPlace} (h : DataW.trod enc Try.prog w base sp hd fuel 29 [a, b, c, d] = some x) :
    ∃ k l s g : Int, a = .int .i64 k ∧ b = .int .u32 l ∧ c = .int .u64 s ∧ d = .int .u64 g ∧ I64 k ∧ U32 l ∧ U64 s ∧ U64 g := by
  obtain ⟨xs, n, rfl, rfl, _, hl, hf⟩ := DataW.trod_struct Try.underlying29 h
  obtain ⟨x0, x1, x2, x3, rfl⟩ := parts4 hl
  have h0 := fieldAt hf 0 3 0 rfl
  rw [c3] at h0
  have h1 := fieldAt hf 1 22 1 rfl
  rw [c22] at h1
  have h2 := fieldAt hf 2 23 2 rfl
  rw [c8] at h2
  have h3 := fieldAt hf 3 23 3 rfl
  rw [c8] at h3
  obtain ⟨v0, e0, y0, g0⟩ := DataW.trod_int Try.underlying3 (show _ = some x0 from h0)
  have f0 := i64_of g0
  have e0' := List.head_eq_of_cons_eq e0
  obtain ⟨v1, e1, y1, g1⟩ := DataW.trod_int Try.underlying22 (show _ = some x1 from h1)
  have f1 := u32_of g1
  have e1' := List.head_eq_of_cons_eq e1
  obtain ⟨v2, e2, y2, g2⟩ := DataW.trod_int Try.underlying23 (show _ = some x2 from h2)
  have f2 := u64_of g2
  have e2' := List.head_eq_of_cons_eq e2
  obtain ⟨v3, e3, y3, g3⟩ := DataW.trod_int Try.underlying23 (show _ = some x3 from h3)
  have f3 := u64_of g3
  have e3' := List.head_eq_of_cons_eq e3
  exact ⟨v0, v1, v2, v3, e0', e1', e2', e3', f0, f1, f2, f3⟩
theorem open_stamp {a b : Value} {x : DataW H × List MemPlace} (h : DataW.trod enc Try.prog w base sp hd fuel 34 [a, b] = some x) :
    ∃ k l : Int, a = .int .u64 k ∧ b = .int .u64 l ∧ U64 k ∧ U64 l := by
  obtain ⟨xs, n, rfl, rfl, _, hl, hf⟩ := DataW.trod_struct Try.underlying34 h
  obtain ⟨x0, x1, rfl⟩ := parts2 hl
  have h0 := fieldAt hf 0 23 0 rfl
  rw [c8] at h0
  have h1 := fieldAt hf 1 23 1 rfl
  rw [c8] at h1
  obtain ⟨v0, e0, y0, g0⟩ := DataW.trod_int Try.underlying23 (show _ = some x0 from h0)
  have f0 := u64_of g0
  have e0' := List.head_eq_of_cons_eq e0
  obtain ⟨v1, e1, y1, g1⟩ := DataW.trod_int Try.underlying23 (show _ = some x1 from h1)
  have f1 := u64_of g1
  have e1' := List.head_eq_of_cons_eq e1
  exact ⟨v0, v1, e0', e1', f0, f1⟩

/-- A string's weight stands in what is read. -/
def Reach (P : Program) (t : TypeId) (d : DataW H) : Prop := ∀ n ∈ d.weights P t, n ≤ reachBytes
theorem reach_str {l : List UInt8} (h : Reach Try.prog 9 (.lit (.string l) : DataW H)) : l.length ≤ reachBytes := h _ (by simp [DataW.weights])
theorem reach_part {fs : Array Field} {t : TypeId} {ds : List (DataW H)} (hu : Try.prog.underlying t = some (.struct fs)) (h : Reach Try.prog t (.agg ds)) (j : Nat) (ty : TypeId) (d : DataW H) (ht : (fs[j]?).map (·.type) = some ty) (hd : ds[j]? = some d) : Reach Try.prog ty d := fun n hn => h n (by
  simp only [DataW.weights, hu]
  refine DataW.weights_mem_each (j := j) (t := ty) ?_ hd n hn
  rw [List.getElem?_map, Array.getElem?_toList]
  exact ht)
theorem siz_of {s : ByteArray} (h : s.data.toList.length ≤ reachBytes) : Siz s := by
  have e : s.data.toList.length = s.size := by rw [Array.length_toList]; rfl
  unfold Siz
  have : reachBytes = 140737488351232 := rfl
  omega

theorem open_ask {l : List Value} {x : DataW H × List MemPlace} (h : DataW.trod enc Try.prog w base sp hd fuel 27 l = some x) (hr : Reach Try.prog 27 x.1) (hlen : l.length = 14) :
    ∃ (op : Int) (g g2 : Hd) (name name2 : ByteArray) (off num : Int) (data : ByteArray), l = [.int .i64 op, .int .u32 g.ex, .int .u64 g.snap, .int .u64 g.ino, .int .u64 g.gen, .int .u32 g2.ex, .int .u64 g2.snap, .int .u64 g2.ino, .int .u64 g2.gen, .string name, .string name2, .int .u64 off, .int .u64 num, .string data] ∧
      I64 op ∧ g.Ok ∧ g2.Ok ∧ Siz name ∧ Siz name2 ∧ U64 off ∧ U64 num ∧ Siz data := by
  match l, hlen with
  | [a0, a1, a2, a3, a4, a5, a6, a7, a8, a9, a10, a11, a12, a13], _ =>
  obtain ⟨xs, n, rfl, rfl, _, hl, hf⟩ := DataW.trod_struct Try.underlying27 h
  obtain ⟨x0, x1, x2, x3, x4, x5, x6, x7, rfl⟩ := parts8 hl
  have h0 := fieldAt hf 0 3 0 rfl
  rw [c3] at h0
  have h1 := fieldAt hf 1 25 1 rfl
  rw [c25] at h1
  have h2 := fieldAt hf 2 25 5 rfl
  rw [c25] at h2
  have h3 := fieldAt hf 3 9 9 rfl
  rw [c9] at h3
  have h4 := fieldAt hf 4 9 10 rfl
  rw [c9] at h4
  have h5 := fieldAt hf 5 23 11 rfl
  rw [c8] at h5
  have h6 := fieldAt hf 6 23 12 rfl
  rw [c8] at h6
  have h7 := fieldAt hf 7 9 13 rfl
  rw [c9] at h7
  obtain ⟨v0, e0, y0, g0⟩ := DataW.trod_int Try.underlying3 (show _ = some x0 from h0)
  have f0 := i64_of g0
  have e0' := List.head_eq_of_cons_eq e0
  obtain ⟨g1, i1, i2, i3, i4, gk⟩ := open_hd (show DataW.trod enc Try.prog w base sp hd n 25 [a1, a2, a3, a4] = some x1 from h1)
  obtain ⟨g2, j1, j2, j3, j4, gk2⟩ := open_hd (show DataW.trod enc Try.prog w base sp hd n 25 [a5, a6, a7, a8] = some x2 from h2)
  obtain ⟨v3, e3, y3, g3⟩ := DataW.trod_string Try.underlying9 (show _ = some x3 from h3)
  have e3' := List.head_eq_of_cons_eq e3
  obtain ⟨v4, e4, y4, g4⟩ := DataW.trod_string Try.underlying9 (show _ = some x4 from h4)
  have e4' := List.head_eq_of_cons_eq e4
  obtain ⟨v5, e5, y5, g5⟩ := DataW.trod_int Try.underlying23 (show _ = some x5 from h5)
  have f5 := u64_of g5
  have e5' := List.head_eq_of_cons_eq e5
  obtain ⟨v6, e6, y6, g6⟩ := DataW.trod_int Try.underlying23 (show _ = some x6 from h6)
  have f6 := u64_of g6
  have e6' := List.head_eq_of_cons_eq e6
  obtain ⟨v7, e7, y7, g7⟩ := DataW.trod_string Try.underlying9 (show _ = some x7 from h7)
  have e7' := List.head_eq_of_cons_eq e7
  subst y3 y4 y7
  have r3 := siz_of (reach_str (reach_part Try.underlying27 hr 3 9 _ rfl rfl))
  have r4 := siz_of (reach_str (reach_part Try.underlying27 hr 4 9 _ rfl rfl))
  have r7 := siz_of (reach_str (reach_part Try.underlying27 hr 7 9 _ rfl rfl))
  subst e0' e3' e4' e5' e6' e7' i1 i2 i3 i4 j1 j2 j3 j4
  exact ⟨v0, g1, g2, v3, v4, v5, v6, v7, rfl, f0, gk, gk2, r3, r4, f5, f6, r7⟩

theorem open_ent {l : List Value} {x : DataW H × List MemPlace} (h : DataW.trod enc Try.prog w base sp hd fuel 99 l = some x) (hr : Reach Try.prog 99 x.1) (hlen : l.length = 3) :
    ∃ e : Ent, l = e.vs ∧ Siz e.name ∧ U64 e.ino ∧ U64 e.cookie := by
  match l, hlen with
  | [a0, a1, a2], _ =>
  obtain ⟨xs, n, rfl, rfl, _, hl, hf⟩ := DataW.trod_struct Try.underlying99 h
  obtain ⟨x0, x1, x2, rfl⟩ := parts3 hl
  have h0 := fieldAt hf 0 9 0 rfl
  rw [c9] at h0
  have h1 := fieldAt hf 1 23 1 rfl
  rw [c8] at h1
  have h2 := fieldAt hf 2 23 2 rfl
  rw [c8] at h2
  obtain ⟨v0, e0, y0, g0⟩ := DataW.trod_string Try.underlying9 (show _ = some x0 from h0)
  have e0' := List.head_eq_of_cons_eq e0
  obtain ⟨v1, e1, y1, g1⟩ := DataW.trod_int Try.underlying23 (show _ = some x1 from h1)
  have f1 := u64_of g1
  have e1' := List.head_eq_of_cons_eq e1
  obtain ⟨v2, e2, y2, g2⟩ := DataW.trod_int Try.underlying23 (show _ = some x2 from h2)
  have f2 := u64_of g2
  have e2' := List.head_eq_of_cons_eq e2
  subst y0
  have r0 := siz_of (reach_str (reach_part Try.underlying99 hr 0 9 _ rfl rfl))
  subst e0' e1' e2'
  exact ⟨⟨v0, v1, v2⟩, rfl, r0, f1, f2⟩

theorem reach_elems {elems spare : List (DataW H)} (h : Reach Try.prog 30 (.slice elems spare)) : (elems.length + spare.length) * 32 ≤ reachBytes ∧ ∀ d ∈ elems, Reach Try.prog 99 d := by
  refine ⟨h _ ?_, fun d hd n hn => h n ?_⟩
  · simp only [DataW.weights, Try.underlying30, b99]
    exact List.mem_cons_self
  · simp only [DataW.weights, Try.underlying30]
    refine List.mem_cons_of_mem _ (List.mem_append_left _ ?_)
    clear h
    induction elems with
    | nil => cases hd
    | cons a r ih =>
      rw [DataW.weightsAll]
      rcases List.mem_cons.1 hd with e | e
      · subst e
        exact List.mem_append_left _ hn
      · exact List.mem_append_right _ (ih e)

instance : Inhabited Ent := ⟨⟨⟨#[]⟩, 0, 0⟩⟩
theorem open_ents {l : List Value} {x : DataW H × List MemPlace} (h : DataW.trod enc Try.prog w base sp hd fuel 30 l = some x) (hr : Reach Try.prog 30 x.1) :
    ∃ (es : List Ent) (A : Option Addr) (c : Nat), l = [.slice A es.length c] ∧ es.length ≤ c ∧ (∀ e ∈ es, Siz e.name ∧ U64 e.ino ∧ U64 e.cookie) ∧ es.length + 2 < 4398046511104 ∧ EntsR w A es ∧ (es = [] ∨ A.isSome = true) := by
  rcases Go.Deep.open_slice Try.underlying30 h with ⟨rfl, rfl⟩ | ⟨a, len, cap, m, n, D, Pl, rfl, hb, hlc, hm, hmm, rfl, hx⟩
  · exact ⟨[], none, 0, rfl, Nat.le_refl _, (fun e h => by cases h), (by decide), (fun i e h => by simp at h), .inl rfl⟩
  · have hml : len ≤ m := by rw [hmm]; split <;> omega
    obtain ⟨hr1, hr2⟩ := reach_elems hr
    have hrl : reachBytes = 140737488351232 := rfl
    have hl2 : len + 2 < 4398046511104 := by
      rw [List.length_map, List.length_range] at hr1
      omega
    obtain ⟨V, hV⟩ := Go.Deep.choose_lt (α := Ent) (n := len) (p := fun i e => w.cells? base (a.add (i * Try.prog.cellsOf 99)) (Try.prog.cellsOf 99) = some e.vs ∧ Siz e.name ∧ U64 e.ino ∧ U64 e.cookie) (fun i hi => by
      obtain ⟨cs', q1, q2⟩ := hx i (by omega)
      obtain ⟨_, ql, _⟩ := World.cells?_some q1
      rw [c99] at ql
      obtain ⟨e, rfl, z⟩ := open_ent q2 (hr2 _ (List.mem_map.2 ⟨i, List.mem_range.2 hi, rfl⟩)) ql
      exact ⟨e, q1, z⟩)
    refine ⟨(List.range len).map V, some a, cap, by rw [List.length_map, List.length_range], by rw [List.length_map, List.length_range]; exact hlc, ?_, by rw [List.length_map, List.length_range]; exact hl2, ?_, .inr rfl⟩
    · intro e he
      obtain ⟨i, hi, rfl⟩ := List.mem_map.1 he
      exact (hV i (List.mem_range.1 hi)).2
    · intro i e he
      have hi : i < len := by
        have := (List.getElem?_eq_some_iff.1 he).1
        rwa [List.length_map, List.length_range] at this
      have hev : e = V i := by simpa [hi] using he.symm
      subst hev
      obtain ⟨q1, _⟩ := hV i hi
      rw [c99] at q1
      obtain ⟨_, _, qc⟩ := World.cells?_some q1
      obtain ⟨b, o, spot⟩ := a
      have q0 := qc 0 (by omega)
      have hspot : spot = none := by
        obtain ⟨p1, _⟩ := hV 0 (by omega)
        rw [c99] at p1
        obtain ⟨_, _, pc⟩ := World.cells?_some p1
        have q0' : w.cell? ((Addr.add ⟨b, o, spot⟩ (0 * 3)).add 0) = some (.string (V 0).name) := pc 0 (by omega)
        have := World.cell?_spot q0'
        simpa [Addr.add] using this
      subst hspot
      have z1 := qc 1 (by omega)
      have z2 := qc 2 (by omega)
      rw [addr_plus] at q0 z1 z2
      rw [addr_plus] at q0 z1 z2
      exact ⟨b, o, rfl, q0, z1, z2⟩

theorem open_ans {l : List Value} {x : DataW H × List MemPlace} (h : DataW.trod enc Try.prog w base sp hd fuel 32 l = some x) (hr : Reach Try.prog 32 x.1) (hlen : l.length = 13) :
    ∃ (status : Int) (g : Hd) (ak lk sz cg : Int) (data : ByteArray) (eof : Bool) (num : Int) (es : List Ent) (A : Option Addr) (c : Nat),
      l = [.int .i64 status, .int .u32 g.ex, .int .u64 g.snap, .int .u64 g.ino, .int .u64 g.gen, .int .i64 ak, .int .u32 lk, .int .u64 sz, .int .u64 cg, .string data, .bool eof, .int .u64 num, .slice A es.length c] ∧
      I64 status ∧ g.Ok ∧ I64 ak ∧ U32 lk ∧ U64 sz ∧ U64 cg ∧ Siz data ∧ U64 num ∧ es.length ≤ c ∧ (∀ e ∈ es, Siz e.name ∧ U64 e.ino ∧ U64 e.cookie) ∧ es.length + 2 < 4398046511104 ∧ EntsR w A es ∧ (es = [] ∨ A.isSome = true) := by
  match l, hlen with
  | [a0, a1, a2, a3, a4, a5, a6, a7, a8, a9, a10, a11, a12], _ =>
  obtain ⟨xs, n, rfl, rfl, _, hl, hf⟩ := DataW.trod_struct Try.underlying32 h
  obtain ⟨x0, x1, x2, x3, x4, x5, x6, rfl⟩ := parts7 hl
  have h0 := fieldAt hf 0 3 0 rfl
  rw [c3] at h0
  have h1 := fieldAt hf 1 25 1 rfl
  rw [c25] at h1
  have h2 := fieldAt hf 2 29 5 rfl
  rw [c29] at h2
  have h3 := fieldAt hf 3 9 9 rfl
  rw [c9] at h3
  have h4 := fieldAt hf 4 4 10 rfl
  rw [c4] at h4
  have h5 := fieldAt hf 5 23 11 rfl
  rw [c8] at h5
  have h6 := fieldAt hf 6 30 12 rfl
  rw [c30s] at h6
  obtain ⟨v0, e0, y0, g0⟩ := DataW.trod_int Try.underlying3 (show _ = some x0 from h0)
  have f0 := i64_of g0
  have e0' := List.head_eq_of_cons_eq e0
  obtain ⟨g1, i1, i2, i3, i4, gk⟩ := open_hd (show DataW.trod enc Try.prog w base sp hd n 25 [a1, a2, a3, a4] = some x1 from h1)
  obtain ⟨k2, l2, s2, c2, j1, j2, j3, j4, w1, w2, w3, w4⟩ := open_attr (show DataW.trod enc Try.prog w base sp hd n 29 [a5, a6, a7, a8] = some x2 from h2)
  obtain ⟨v3, e3, y3, g3⟩ := DataW.trod_string Try.underlying9 (show _ = some x3 from h3)
  have e3' := List.head_eq_of_cons_eq e3
  obtain ⟨v4, e4, y4⟩ := DataW.trod_bool Try.underlying4 (show _ = some x4 from h4)
  have e4' := List.head_eq_of_cons_eq e4
  obtain ⟨v5, e5, y5, g5⟩ := DataW.trod_int Try.underlying23 (show _ = some x5 from h5)
  have f5 := u64_of g5
  have e5' := List.head_eq_of_cons_eq e5
  obtain ⟨es, A, c, p1, p2, p3, p4, p5, p6⟩ := open_ents (show DataW.trod enc Try.prog w base sp hd n 30 [a12] = some x6 from h6) (reach_part Try.underlying32 hr 6 30 _ rfl rfl)
  have p1' := List.head_eq_of_cons_eq p1
  subst y3
  have r3 := siz_of (reach_str (reach_part Try.underlying32 hr 3 9 _ rfl rfl))
  subst e0' e3' e4' e5' i1 i2 i3 i4 j1 j2 j3 j4 p1'
  exact ⟨v0, g1, k2, l2, s2, c2, v3, v4, v5, es, A, c, rfl, f0, gk, w1, w2, w3, w4, r3, f5, p2, p3, p4, p5, p6⟩

/-- A message that is read: its cells, its entries. -/
theorem open_msg {l : List Value} {x : DataW H × List MemPlace} (h : DataW.trod enc Try.prog w base sp hd fuel 36 l = some x) (hr : Reach Try.prog 36 x.1) :
    ∃ (m : Msg) (A : Option Addr) (c : Nat), l = m.vs (.slice A m.list.length c) ∧ m.Ok ∧ m.list.length ≤ c ∧ m.list.length + 2 < 4398046511104 ∧ EntsR w A m.list ∧ (m.list = [] ∨ A.isSome = true) := by
  obtain ⟨xs, n, rfl, rfl, hlen, hl, hf⟩ := DataW.trod_struct Try.underlying36 h
  rw [c36] at hlen
  obtain ⟨a0, a1, a2, a3, a4, a5, a6, a7, a8, a9, a10, a11, a12, a13, a14, a15, a16, a17, a18, a19, a20, a21, a22, a23, a24, a25, a26, a27, a28, a29, a30, a31, a32, rfl⟩ := parts33 hlen
  obtain ⟨x0, x1, x2, x3, x4, x5, x6, rfl⟩ := parts7 hl
  have h0 := fieldAt hf 0 3 0 rfl
  rw [c3] at h0
  have h1 := fieldAt hf 1 22 1 rfl
  rw [c22] at h1
  have h2 := fieldAt hf 2 23 2 rfl
  rw [c8] at h2
  have h3 := fieldAt hf 3 27 3 rfl
  rw [c27] at h3
  have h4 := fieldAt hf 4 32 17 rfl
  rw [c32] at h4
  have h5 := fieldAt hf 5 23 30 rfl
  rw [c8] at h5
  have h6 := fieldAt hf 6 34 31 rfl
  rw [c34] at h6
  obtain ⟨v0, e0, y0, g0⟩ := DataW.trod_int Try.underlying3 (show _ = some x0 from h0)
  have f0 := i64_of g0
  have e0' := List.head_eq_of_cons_eq e0
  obtain ⟨v1, e1, y1, g1⟩ := DataW.trod_int Try.underlying22 (show _ = some x1 from h1)
  have f1 := u32_of g1
  have e1' := List.head_eq_of_cons_eq e1
  obtain ⟨v2, e2, y2, g2⟩ := DataW.trod_int Try.underlying23 (show _ = some x2 from h2)
  have f2 := u64_of g2
  have e2' := List.head_eq_of_cons_eq e2
  obtain ⟨op, g, g2, name, name2, off, num, data, o1, o2, o3, o4, o5, o6, o7, o8, o9⟩ := open_ask (show DataW.trod enc Try.prog w base sp hd n 27 [a3, a4, a5, a6, a7, a8, a9, a10, a11, a12, a13, a14, a15, a16] = some x3 from h3) (reach_part Try.underlying36 hr 3 27 _ rfl rfl) rfl
  obtain ⟨status, ag, ak, lk, sz, cg, adata, eof, anum, es, A, c, q0, q1, q2, q3, q4, q5, q6, q7, q8, q9, q10, q11, q12, q13⟩ := open_ans (show DataW.trod enc Try.prog w base sp hd n 32 [a17, a18, a19, a20, a21, a22, a23, a24, a25, a26, a27, a28, a29] = some x4 from h4) (reach_part Try.underlying36 hr 4 32 _ rfl rfl) rfl
  obtain ⟨v5, e5, y5, g5⟩ := DataW.trod_int Try.underlying23 (show _ = some x5 from h5)
  have f5 := u64_of g5
  have e5' := List.head_eq_of_cons_eq e5
  obtain ⟨gb, gn, s1, s2, s3, s4⟩ := open_stamp (show DataW.trod enc Try.prog w base sp hd n 34 [a31, a32] = some x6 from h6)
  simp only [List.cons.injEq, and_true] at o1 q0
  obtain ⟨o10, o11, o12, o13, o14, o15, o16, o17, o18, o19, o20, o21, o22, o23⟩ := o1
  obtain ⟨r0, r1, r2, r3, r4, r5, r6, r7, r8, r9, r10, r11, r12⟩ := q0
  subst e0' e1' e2' e5' s1 s2 o10 o11 o12 o13 o14 o15 o16 o17 o18 o19 o20 o21 o22 o23 r0 r1 r2 r3 r4 r5 r6 r7 r8 r9 r10 r11 r12
  exact ⟨⟨v0, v1, v2, op, g, g2, name, name2, off, num, data, status, ag, ak, lk, sz, cg, adata, eof, anum, es, v5, gb, gn⟩, A, c, rfl,
    ⟨f0, f1, f2, o2, o3, o4, o5, o6, o7, o8, o9, q1, q2, q3, q4, q5, q6, q7, q8, q10, by show es.length ≤ 4398046511104; omega, f5, s3, s4⟩, q9, q11, q12, q13⟩

end

theorem agg_of_cells {v : Value} {l : List Value} (h : v.cells.toList = l) (hl : l.length = 33) : v = .agg l.toArray := by
  subst h
  cases v with
  | agg cs => rfl
  | _ => exact absurd hl (by simp [Value.cells])

end Go.Proofs.Ytibcadfpengacaa

-- PlainI
set_option linter.unusedVariables false
set_option linter.unusedSimpArgs false
namespace Go.Proofs.Ytibcadfpengacaa
open Go.RowKit Go.Lib

def Rd.L (ρ : Rd) : List UInt8 := ρ.s.data.toList
theorem size_L (s : ByteArray) : s.data.toList.length = s.size := by rw [Array.length_toList]; rfl
theorem inv_left (ρ : Rd) (n : Nat) (h : (ρ.left n).c = 0) : ρ.c = 0 ∧ (ρ.took n).size = n ∧ ρ.L = (ρ.took n).data.toList ++ (ρ.left n).L := by
  unfold Rd.left at h ⊢
  unfold Rd.took Rd.L
  by_cases hn : ρ.s.size < n
  · rw [if_pos hn] at h
    unfold Rd.fail at h
    dsimp only at h
    split at h
    · exact absurd h (by decide)
    · rename_i h0
      exact absurd h h0
  · rw [if_neg hn] at h
    rw [if_neg hn, if_neg hn]
    dsimp only at h ⊢
    have hl := size_L ρ.s
    refine ⟨h, ?_, ?_⟩
    · rw [← size_L, extract_data, List.drop_zero, List.length_take]
      omega
    · rw [extract_data, extract_data, List.drop_zero, List.take_of_length_le (l := ρ.s.data.toList.drop n) (by rw [List.length_drop]; omega)]
      exact (List.take_append_drop n _).symm
theorem inv_num (ρ : Rd) (n : Nat) (h1 : 1 ≤ n) (h8 : n ≤ 8) (h : (ρ.left n).c = 0) : ρ.c = 0 ∧ ρ.L = leB (ρ.num n) n ++ (ρ.left n).L ∧ ρ.num n < 256 ^ n := by
  obtain ⟨a, b, c⟩ := inv_left ρ n h
  have hn : ρ.num n = ofLe (ρ.took n).data.toList := by
    unfold Rd.num ofS
    rw [if_pos ⟨by omega, by omega⟩]
  have hl : (ρ.took n).data.toList.length = n := by rw [size_L, b]
  have h2 := leB_ofLe (ρ.took n).data.toList
  have h3 := ofLe_lt (ρ.took n).data.toList
  rw [hl] at h2 h3
  refine ⟨a, ?_, ?_⟩
  · rw [hn, h2]
    exact c
  · rw [hn]
    exact h3
theorem ofS_lay (l : List UInt8) (n : Nat) (h1 : 1 ≤ n) (h8 : n ≤ 8) (hl : l.length = n) : leB (ofS ⟨l.toArray⟩) n = l ∧ ofS ⟨l.toArray⟩ < 256 ^ n := by
  have hs : (⟨l.toArray⟩ : ByteArray).size = n := by
    show l.toArray.size = n
    rw [List.size_toArray, hl]
  have h2 := leB_ofLe l
  have h3 := ofLe_lt l
  unfold ofS
  rw [if_pos ⟨by omega, by omega⟩]
  show leB (ofLe l) n = l ∧ ofLe l < 256 ^ n
  rw [hl] at h2 h3
  exact ⟨h2, h3⟩
theorem inv_hd (ρ : Rd) (h : (ρ.left 28).c = 0) : ρ.c = 0 ∧ ρ.L = (decH (ρ.took 28)).lay ++ (ρ.left 28).L ∧ (decH (ρ.took 28)).Ok := by
  obtain ⟨a, b, c⟩ := inv_left ρ 28 h
  generalize ρ.took 28 = t at *
  have hl : t.data.toList.length = 28 := by rw [size_L, b]
  have e1 := ofS_lay ((t.data.toList.drop 0).take (4 - 0)) 4 (by omega) (by omega) (by rw [List.length_take, List.length_drop]; omega)
  have e2 := ofS_lay ((t.data.toList.drop 4).take (12 - 4)) 8 (by omega) (by omega) (by rw [List.length_take, List.length_drop]; omega)
  have e3 := ofS_lay ((t.data.toList.drop 12).take (20 - 12)) 8 (by omega) (by omega) (by rw [List.length_take, List.length_drop]; omega)
  have e4 := ofS_lay ((t.data.toList.drop 20).take (28 - 20)) 8 (by omega) (by omega) (by rw [List.length_take, List.length_drop]; omega)
  have f1 : (256 : Nat) ^ 4 = 4294967296 := by decide
  have f2 : (256 : Nat) ^ 8 = 18446744073709551616 := by decide
  have hd : decH t = ⟨ofS (t.extract 0 4), ofS (t.extract 4 12), ofS (t.extract 12 20), ofS (t.extract 20 28)⟩ := by
    unfold decH
    rw [if_pos b]
  rw [hd]
  simp only [extract_eq] at *
  have g1 := e1.2; have g2 := e2.2; have g3 := e3.2; have g4 := e4.2
  refine ⟨a, ?_, ⟨Int.natCast_nonneg _, ?_, Int.natCast_nonneg _, ?_, Int.natCast_nonneg _, ?_, Int.natCast_nonneg _, ?_⟩⟩
  · rw [c]
    unfold Hd.lay
    simp only [Int.toNat_natCast]
    rw [e1.1, e2.1, e3.1, e4.1]
    congr 1
    have s1 : t.data.toList = t.data.toList.take 4 ++ ((t.data.toList.drop 4).take 8 ++ ((t.data.toList.drop 12).take 8 ++ (t.data.toList.drop 20).take 8)) := by
      have d1 := (List.take_append_drop 4 t.data.toList).symm
      have d2 := (List.take_append_drop 8 (t.data.toList.drop 4)).symm
      have d3 := (List.take_append_drop 8 (t.data.toList.drop 12)).symm
      have d4 : (t.data.toList.drop 20).take 8 = t.data.toList.drop 20 := List.take_of_length_le (by rw [List.length_drop]; omega)
      rw [List.drop_drop] at d2 d3
      rw [d4, ← d3, ← d2]
      exact d1
    simp only [List.drop_zero, List.append_assoc]
    exact s1
  · show ((ofS _ : Nat) : Int) < _
    omega
  · show ((ofS _ : Nat) : Int) < _
    omega
  · show ((ofS _ : Nat) : Int) < _
    omega
  · show ((ofS _ : Nat) : Int) < _
    omega
theorem allZ_rep {s : ByteArray} (h : allZ s = true) : s.data.toList = List.replicate s.size 0 := by
  unfold allZ at h
  rw [List.all_eq_true] at h
  rw [← size_L]
  exact List.eq_replicate_iff.2 ⟨rfl, fun b hb => by simpa using h b hb⟩
theorem fail_c (ρ : Rd) : ρ.fail.c ≠ 0 := by
  unfold Rd.fail
  dsimp only
  split
  · decide
  · assumption
theorem inv_text (ρ : Rd) (old : ByteArray) (h : ρ.textR.c = 0) : ρ.c = 0 ∧ ρ.L = txt (ρ.textS old) ++ ρ.textR.L ∧ (ρ.textS old).size ≤ 4096 := by
  unfold Rd.textR at h ⊢
  unfold Rd.textS
  by_cases h1 : 4096 < ρ.num 4
  · rw [if_pos h1] at h
    exact absurd h (fail_c _)
  rw [if_neg h1] at h
  rw [if_neg h1, if_neg h1]
  by_cases h2 : allZ (((ρ.left 4).left (ρ.num 4)).took (padN (ρ.num 4))) = true
  · rw [if_pos h2] at h
    rw [if_pos h2]
    obtain ⟨a1, a2, a3⟩ := inv_left _ _ h
    obtain ⟨b1, b2, b3⟩ := inv_left _ _ a1
    obtain ⟨c1, c2, c3⟩ := inv_num ρ 4 (by omega) (by omega) b1
    refine ⟨c1, ?_, by rw [b2]; omega⟩
    rw [c2, b3, a3, allZ_rep h2, a2]
    unfold txt
    rw [b2]
    simp only [List.append_assoc]
  · rw [if_neg h2] at h
    exact absurd h (fail_c _)
theorem inv_ents (ρ : Rd) : ∀ k, ((ρ.ents k).2).c = 0 → ρ.c = 0 ∧ ρ.L = (ρ.ents k).1.flatMap entL ++ ((ρ.ents k).2).L ∧ ∀ e ∈ (ρ.ents k).1, e.name.size ≤ 4096 ∧ U64 e.ino ∧ U64 e.cookie := by
  intro k
  have f2 : (256 : Nat) ^ 8 = 18446744073709551616 := by decide
  induction k with
  | zero => intro h; exact ⟨h, by simp [Rd.ents], fun e he => by simp [Rd.ents] at he⟩
  | succ k ih =>
    intro h
    rw [Rd.ents] at h ⊢
    dsimp only at h ⊢
    generalize (ρ.ents k).1 = es at *
    generalize (ρ.ents k).2 = σ at *
    unfold Rd.entR at h
    obtain ⟨a1, a2, a3⟩ := inv_num _ 8 (by omega) (by omega) h
    obtain ⟨b1, b2, b3⟩ := inv_num _ 8 (by omega) (by omega) a1
    obtain ⟨c1, c2, c3⟩ := inv_text σ ⟨#[]⟩ b1
    obtain ⟨d1, d2, d3⟩ := ih c1
    refine ⟨d1, ?_, fun e he => ?_⟩
    · rw [d2, c2, b2, a2, List.flatMap_append]
      unfold Rd.entV Rd.entR
      simp only [List.flatMap_cons, List.flatMap_nil, List.append_nil, entL, Int.toNat_natCast, List.append_assoc]
    · rcases List.mem_append.1 he with h1 | h1
      · exact d3 e h1
      · have : e = σ.entV := by simpa using h1
        subst this
        exact ⟨c3, ⟨by show (0 : Int) ≤ (_ : Nat); omega, by show ((_ : Nat) : Int) < _; omega⟩, ⟨by show (0 : Int) ≤ (_ : Nat); omega, by show ((_ : Nat) : Int) < _; omega⟩⟩

theorem u64_nat {n : Nat} (h : n < 256 ^ 8) : U64 (n : Int) := by
  have f2 : (256 : Nat) ^ 8 = 18446744073709551616 := by decide
  exact ⟨by omega, by omega⟩
theorem u32_nat {n : Nat} (h : n < 256 ^ 4) : U32 (n : Int) := by
  have f2 : (256 : Nat) ^ 4 = 4294967296 := by decide
  exact ⟨by omega, by omega⟩
theorem i64_nat {n : Nat} (h : n < 256 ^ 1) : I64 (n : Int) := by
  have f2 : (256 : Nat) ^ 1 = 256 := by decide
  exact ⟨by omega, by omega⟩
theorem small_nat {n : Nat} (h : n < 256 ^ 1) : smallB (n : Int) = true := by
  have f2 : (256 : Nat) ^ 1 = 256 := by decide
  exact smallB_of (by omega) (by omega)
theorem one1_nat {n : Nat} (h : n < 256 ^ 1) : one1 (n : Int) = leB n 1 := by
  have f2 : (256 : Nat) ^ 1 = 256 := by decide
  unfold one1
  congr 1
  omega
theorem siz_small {s : ByteArray} (h : s.size ≤ 4096) : Siz s := by unfold Siz; omega
theorem hz_ok : Hd.zero.Ok := ⟨by decide, by decide, by decide, by decide, by decide, by decide, by decide, by decide⟩
theorem u80 : U64 0 := ⟨by decide, by decide⟩
theorem u40 : U32 0 := ⟨by decide, by decide⟩
theorem i80 : I64 0 := ⟨by decide, by decide⟩
theorem sz0 : Siz ⟨#[]⟩ := show 0 ≤ 140737488351232 from by decide
theorem noAns_zeros : noAns 0 0 0 0 0 0 0 0 0 ⟨#[]⟩ false 0 0 = true := by
  unfold noAns
  rw [nil_toList]
  rfl
theorem sz_nil : (⟨#[]⟩ : ByteArray).size = 0 := rfl

theorem layL_call (m : Msg) (h : m.kind = 1) : m.layL = m.headL ++ one1 m.op ++ m.h.lay ++ m.h2.lay ++ txt m.name ++ txt m.name2 ++ leB m.off.toNat 8 ++ leB m.num.toNat 8 ++ txt m.data := by
  unfold Msg.layL
  rw [if_pos h]
theorem layL_reply (m : Msg) (h : m.kind = 2) : m.layL = m.headL ++ one1 m.status ++ m.ah.lay ++ one1 m.akind ++ leB m.links.toNat 4 ++ leB m.size.toNat 8 ++ leB m.change.toNat 8 ++ txt m.adata ++ leB m.eof.toNat 1 ++ leB m.anum.toNat 8 ++ leB m.list.length 4 ++ m.list.flatMap entL ++ tailL m := by
  unfold Msg.layL
  rw [if_neg (by omega), if_pos h]
theorem layL_back (m : Msg) (h1 : ¬ m.kind = 1) (h2 : ¬ m.kind = 2) : m.layL = m.headL ++ m.h.lay ++ tailL m := by
  unfold Msg.layL
  rw [if_neg h1, if_neg h2]
theorem mayB_call (m : Msg) (h : m.kind = 1) : m.mayB = (smallB m.op && m.noAns && (m.boot == 0) && stampEq m.gb m.gn 0 0) := by
  unfold Msg.mayB
  rw [if_pos h]
theorem mayB_reply (m : Msg) (h : m.kind = 2) : m.mayB = (askEq m.op m.h.ex m.h.snap m.h.ino m.h.gen m.h2.ex m.h2.snap m.h2.ino m.h2.gen m.name m.name2 m.off m.num m.data 0 0 0 0 0 0 0 0 0 ⟨#[]⟩ ⟨#[]⟩ 0 0 ⟨#[]⟩ && smallB m.status && smallB m.akind) := by
  unfold Msg.mayB
  rw [if_neg (by omega), if_pos h]
theorem mayB_back (m : Msg) (h1 : ¬ m.kind = 1) (h2 : ¬ m.kind = 2) (h3 : m.kind = 3 ∨ m.kind = 4) : m.mayB = (askEq m.op m.h.ex m.h.snap m.h.ino m.h.gen m.h2.ex m.h2.snap m.h2.ino m.h2.gen m.name m.name2 m.off m.num m.data 0 m.h.ex m.h.snap m.h.ino m.h.gen 0 0 0 0 ⟨#[]⟩ ⟨#[]⟩ 0 0 ⟨#[]⟩ && m.noAns) := by
  unfold Msg.mayB
  rw [if_neg h1, if_neg h2, if_pos h3]
attribute [local irreducible] decH Rd.left Rd.textS Rd.textR Rd.num Rd.took Rd.ents leB txt
theorem inv_call (s : ByteArray) (hk : (⟨0, s⟩ : Rd).num 1 = 1) (h : (callR ⟨0, s⟩).c = 0) (hz : (callR ⟨0, s⟩).L = []) : (callM ⟨0, s⟩).layL = s.data.toList ∧ (callM ⟨0, s⟩).Val := by
  have hL : (⟨0, s⟩ : Rd).L = s.data.toList := rfl
  unfold callM callR askM askR at *
  obtain ⟨a1, a2, a3⟩ := inv_text _ ⟨#[]⟩ h
  obtain ⟨b1, b2, b3⟩ := inv_num _ 8 (by omega) (by omega) a1
  obtain ⟨c1, c2, c3⟩ := inv_num _ 8 (by omega) (by omega) b1
  obtain ⟨d1, d2, d3⟩ := inv_text _ ⟨#[]⟩ c1
  obtain ⟨e1, e2, e3⟩ := inv_text _ ⟨#[]⟩ d1
  obtain ⟨f1, f2, f3⟩ := inv_hd _ e1
  obtain ⟨g1, g2, g3⟩ := inv_hd _ f1
  obtain ⟨h1, h2, h3⟩ := inv_num _ 1 (by omega) (by omega) g1
  obtain ⟨i1, i2, i3⟩ := inv_num _ 8 (by omega) (by omega) h1
  obtain ⟨j1, j2, j3⟩ := inv_num _ 4 (by omega) (by omega) i1
  obtain ⟨k1, k2, k3⟩ := inv_num _ 1 (by omega) (by omega) j1
  rw [hL] at k2
  rw [a2, hz] at b2
  rw [hk] at k3
  rw [k2, j2, i2, h2, g2, f2, e2, d2, c2, b2, hk]
  simp only [Msg.setKind, Msg.setClient, Msg.setXid, Msg.setOp, Msg.setH, Msg.setH2, Msg.setName, Msg.setName2, Msg.setOff, Msg.setNum, Msg.setData, Msg.setStatus, Msg.setAh, Msg.setAkind, Msg.setLinks, Msg.setSize, Msg.setChange, Msg.setAdata, Msg.setEof, Msg.setAnum, Msg.setList, Msg.setBoot, Msg.setGb, Msg.setGn, Msg.zero]
  constructor
  · refine (layL_call _ rfl).trans ?_
    unfold Msg.headL
    simp only [Int.toNat_natCast]
    rw [one1_nat h3]
    simp only [List.append_assoc, List.append_nil]
    rfl
  · refine ⟨⟨i64_nat k3, u32_nat j3, u64_nat i3, i64_nat h3, g3, f3, siz_small e3, siz_small d3, u64_nat c3, u64_nat b3, siz_small a3, i80, hz_ok, i80, u40, u80, u80, sz0, u80, (fun e he => (by cases he)), Nat.zero_le _, u80, u80, u80⟩, ?_, ?_⟩
    · unfold Msg.long
      rw [decide_eq_false (Nat.not_lt.2 e3), decide_eq_false (Nat.not_lt.2 d3), decide_eq_false (Nat.not_lt.2 a3)]
      rfl
    · refine (mayB_call _ rfl).trans ?_
      unfold Msg.noAns
      rw [small_nat h3]
      show (true && noAns 0 0 0 0 0 0 0 0 0 ⟨#[]⟩ false 0 0 && ((0 : Int) == 0) && stampEq 0 0 0 0) = true
      rw [noAns_zeros]
      rfl

theorem inv_back (s : ByteArray) (hk : (⟨0, s⟩ : Rd).num 1 = 3 ∨ (⟨0, s⟩ : Rd).num 1 = 4) (h : (backR ⟨0, s⟩).c = 0) (hz : (backR ⟨0, s⟩).L = []) : (backM ⟨0, s⟩).layL = s.data.toList ∧ (backM ⟨0, s⟩).Val := by
  have hL : (⟨0, s⟩ : Rd).L = s.data.toList := rfl
  unfold backM backR stampM stampR at *
  obtain ⟨a1, a2, a3⟩ := inv_num _ 8 (by omega) (by omega) h
  obtain ⟨b1, b2, b3⟩ := inv_num _ 8 (by omega) (by omega) a1
  obtain ⟨c1, c2, c3⟩ := inv_num _ 8 (by omega) (by omega) b1
  obtain ⟨f1, f2, f3⟩ := inv_hd _ c1
  obtain ⟨i1, i2, i3⟩ := inv_num _ 8 (by omega) (by omega) f1
  obtain ⟨j1, j2, j3⟩ := inv_num _ 4 (by omega) (by omega) i1
  obtain ⟨k1, k2, k3⟩ := inv_num _ 1 (by omega) (by omega) j1
  rw [hL] at k2
  rw [hz] at a2
  have n1 : ¬ (((⟨0, s⟩ : Rd).num 1 : Nat) : Int) = 1 := by omega
  have n2 : ¬ (((⟨0, s⟩ : Rd).num 1 : Nat) : Int) = 2 := by omega
  have n3 : (((⟨0, s⟩ : Rd).num 1 : Nat) : Int) = 3 ∨ (((⟨0, s⟩ : Rd).num 1 : Nat) : Int) = 4 := by omega
  rw [k2, j2, i2, f2, c2, b2, a2]
  generalize (⟨0, s⟩ : Rd).num 1 = kd at *
  simp only [Msg.setKind, Msg.setClient, Msg.setXid, Msg.setOp, Msg.setH, Msg.setH2, Msg.setName, Msg.setName2, Msg.setOff, Msg.setNum, Msg.setData, Msg.setStatus, Msg.setAh, Msg.setAkind, Msg.setLinks, Msg.setSize, Msg.setChange, Msg.setAdata, Msg.setEof, Msg.setAnum, Msg.setList, Msg.setBoot, Msg.setGb, Msg.setGn, Msg.zero]
  constructor
  · refine (layL_back _ n1 n2).trans ?_
    unfold Msg.headL tailL
    simp only [Int.toNat_natCast]
    rw [one1_nat k3]
    simp only [List.append_assoc, List.append_nil]
  · refine ⟨⟨i64_nat k3, u32_nat j3, u64_nat i3, i80, f3, hz_ok, sz0, sz0, u80, u80, sz0, i80, hz_ok, i80, u40, u80, u80, sz0, u80, (fun e he => (by cases he)), Nat.zero_le _, u64_nat c3, u64_nat b3, u64_nat a3⟩, rfl, ?_⟩
    · refine (mayB_back _ n1 n2 n3).trans ?_
      unfold Msg.noAns
      rw [Bool.and_eq_true]
      refine ⟨?_, noAns_zeros⟩
      show askEq 0 _ _ _ _ 0 0 0 0 ⟨#[]⟩ ⟨#[]⟩ 0 0 ⟨#[]⟩ 0 _ _ _ _ 0 0 0 0 ⟨#[]⟩ ⟨#[]⟩ 0 0 ⟨#[]⟩ = true
      exact askEq_self _ _ _ _ _ _ _ _ _ _ _ _ _ _

theorem inv_reply (s : ByteArray) (hk : (⟨0, s⟩ : Rd).num 1 = 2) (h64 : (repR ⟨0, s⟩).num 4 ≤ 64) (hf : ((flR ⟨0, s⟩).num 1 : Int) < 2) (h : (stampR (rdL ⟨0, s⟩).2).c = 0) (hz : (stampR (rdL ⟨0, s⟩).2).L = []) :
    (stampM (rdL ⟨0, s⟩).2 ((repM ⟨0, s⟩).setList (rdL ⟨0, s⟩).1)).layL = s.data.toList ∧ (stampM (rdL ⟨0, s⟩).2 ((repM ⟨0, s⟩).setList (rdL ⟨0, s⟩).1)).Val := by
  have hL : (⟨0, s⟩ : Rd).L = s.data.toList := rfl
  unfold stampM stampR at *
  obtain ⟨a1, a2, a3⟩ := inv_num _ 8 (by omega) (by omega) h
  obtain ⟨b1, b2, b3⟩ := inv_num _ 8 (by omega) (by omega) a1
  obtain ⟨c1, c2, c3⟩ := inv_num _ 8 (by omega) (by omega) b1
  have hlen : (rdL ⟨0, s⟩).1.length = (repR ⟨0, s⟩).num 4 := Rd.ents_length _ _
  unfold rdL at c1 c2 hlen a2 b2 a3 b3 c3 hz ⊢
  obtain ⟨d1, d2, d3⟩ := inv_ents _ _ c1
  generalize hE : (((repR ⟨0, s⟩).left 4).ents ((repR ⟨0, s⟩).num 4)).1 = es at *
  generalize (((repR ⟨0, s⟩).left 4).ents ((repR ⟨0, s⟩).num 4)).2 = σ at *
  obtain ⟨e1, e2, e3⟩ := inv_num _ 4 (by omega) (by omega) d1
  unfold repR flR repM at *
  obtain ⟨f1, f2, f3⟩ := inv_num _ 8 (by omega) (by omega) e1
  obtain ⟨g1, g2, g3⟩ := inv_num _ 1 (by omega) (by omega) f1
  obtain ⟨i1, i2, i3⟩ := inv_text _ ⟨#[]⟩ g1
  obtain ⟨j1, j2, j3⟩ := inv_num _ 8 (by omega) (by omega) i1
  obtain ⟨k1, k2, k3⟩ := inv_num _ 8 (by omega) (by omega) j1
  obtain ⟨l1, l2, l3⟩ := inv_num _ 4 (by omega) (by omega) k1
  obtain ⟨m1, m2, m3⟩ := inv_num _ 1 (by omega) (by omega) l1
  obtain ⟨n1, n2, n3⟩ := inv_hd _ m1
  obtain ⟨o1, o2, o3⟩ := inv_num _ 1 (by omega) (by omega) n1
  obtain ⟨p1, p2, p3⟩ := inv_num _ 8 (by omega) (by omega) o1
  obtain ⟨q1, q2, q3⟩ := inv_num _ 4 (by omega) (by omega) p1
  obtain ⟨r1, r2, r3⟩ := inv_num _ 1 (by omega) (by omega) q1
  rw [hL] at r2
  rw [hz] at a2
  have hflag : ∀ y : Nat, (y : Int) < 2 → ((y : Int) == 1).toNat = y := fun y hy => by
    match y, hy with
    | 0, _ => rfl
    | 1, _ => rfl
    | y + 2, h => exact absurd h (by omega)
  rw [r2, q2, p2, o2, n2, m2, l2, k2, j2, i2, g2, f2, e2, d2, c2, b2, a2, hk]
  rw [hk] at r3
  rw [← hlen] at h64 ⊢
  simp only [Msg.setKind, Msg.setClient, Msg.setXid, Msg.setOp, Msg.setH, Msg.setH2, Msg.setName, Msg.setName2, Msg.setOff, Msg.setNum, Msg.setData, Msg.setStatus, Msg.setAh, Msg.setAkind, Msg.setLinks, Msg.setSize, Msg.setChange, Msg.setAdata, Msg.setEof, Msg.setAnum, Msg.setList, Msg.setBoot, Msg.setGb, Msg.setGn, Msg.zero]
  constructor
  · refine (layL_reply _ rfl).trans ?_
    unfold Msg.headL tailL
    simp only [Int.toNat_natCast]
    rw [one1_nat o3, one1_nat m3, one1_nat r3, hflag _ hf]
    simp only [List.append_assoc, List.append_nil]
  · refine ⟨⟨i64_nat r3, u32_nat q3, u64_nat p3, i80, hz_ok, hz_ok, sz0, sz0, u80, u80, sz0, i64_nat o3, n3, i64_nat m3, u32_nat l3, u64_nat k3, u64_nat j3, siz_small i3, u64_nat f3, (fun e he => ⟨siz_small (d3 e he).1, (d3 e he).2⟩), Nat.le_trans h64 (by decide), u64_nat c3, u64_nat b3, u64_nat a3⟩, ?_, ?_⟩
    · unfold Msg.long
      dsimp only
      have ha : es.any (fun e => decide (4096 < e.name.size)) = false := by
        rw [List.any_eq_false]
        intro e he
        have := (d3 e he).1
        simp
        omega
      rw [decide_eq_false (Nat.not_lt.2 i3), ha, decide_eq_false (Nat.not_lt.2 h64)]
      rfl
    · refine (mayB_reply _ rfl).trans ?_
      dsimp only
      rw [small_nat o3, small_nat m3]
      show (askEq 0 0 0 0 0 0 0 0 0 ⟨#[]⟩ ⟨#[]⟩ 0 0 ⟨#[]⟩ 0 0 0 0 0 0 0 0 0 ⟨#[]⟩ ⟨#[]⟩ 0 0 ⟨#[]⟩ && true && true) = true
      rw [askEq_self]
      rfl

theorem inv_dec (s : ByteArray) (h : decOk s = true) : (rdM ⟨0, s⟩).layL = s.data.toList ∧ (rdM ⟨0, s⟩).Val := by
  unfold decOk at h
  obtain ⟨h1, h2, h3, h4⟩ := of_decide_eq_true h
  have hz : (rdR ⟨0, s⟩).L = [] := List.eq_nil_of_length_eq_zero (by unfold Rd.L; rw [size_L]; exact h2)
  unfold rdFine at h3
  unfold rdShort at h4
  unfold rdR at h1 hz
  unfold rdM
  by_cases k1 : (⟨0, s⟩ : Rd).num 1 = 1
  · rw [if_pos k1] at h1 hz
    rw [if_pos k1]
    exact inv_call s k1 h1 hz
  by_cases k2 : (⟨0, s⟩ : Rd).num 1 = 2
  · have h64 := of_decide_eq_true h4 k2
    rw [if_neg k1, if_pos k2, if_pos h64] at h1 hz
    rw [if_pos k2] at h3
    rw [if_neg k1, if_pos k2, if_pos h64]
    exact inv_reply s k2 h64 (of_decide_eq_true h3) h1 hz
  by_cases k3 : (⟨0, s⟩ : Rd).num 1 = 3 ∨ (⟨0, s⟩ : Rd).num 1 = 4
  · rw [if_neg k1, if_neg k2, if_pos k3] at h1 hz
    rw [if_neg k1, if_neg k2, if_pos k3]
    exact inv_back s k3 h1 hz
  · rw [if_neg k2] at h3
    have := of_decide_eq_true h3
    omega

end Go.Proofs.Ytibcadfpengacaa

-- Back
set_option linter.unusedVariables false
set_option linter.unusedSimpArgs false
namespace Go.Proofs.Ytibcadfpengacaa
open Go.RowKit Go.Lib Go.Proofs.YtibcadfpengacaaW.PrintWords Go.Proofs.YtibcadfpengacaaW.PrintMore Go.Proofs.YtibcadfpengacaaW.PrintLast

theorem layS_small (m : Msg) (hv : m.Val) : m.layS.size ≤ 1000000 ∧ 1 ≤ m.layS.size := by
  have h1 := enc_val m hv
  have h2 := Wr.fields_len m
  have h3 : m.enc.1 = m.layL := by rw [h1]
  have h4 := Wr.head_pos m hv.ok
  have h5 := Wr.fields_ge m ⟨0, []⟩
  have h6 : m.enc.1 = (Wr.fields ⟨0, []⟩ m).bs ∨ m.enc.1 = [] := by
    unfold Msg.enc encV
    split
    · right; rfl
    · split
      · right; rfl
      · left; rfl
  have h7 : m.layS.size = m.layL.length := by rw [layS_eq]; show m.layL.toArray.size = _; simp
  have h8 : 1 ≤ m.layL.length := by
    unfold Msg.layL Msg.headL one1
    split
    · simp [leB_length] <;> omega
    · split
      · simp [leB_length] <;> omega
      · simp [leB_length] <;> omega
  rw [h7]
  refine ⟨?_, h8⟩
  rw [← h3]
  rcases h6 with h | h
  · rw [h]; exact h2
  · rw [h]; simp

/-- No proper beginning of a message's bytes is a message. -/
theorem dec_begin (m : Msg) (hv : m.Val) (j : Nat) (hj : j < m.layS.size) : decM (m.layS.extract 0 j) = Msg.zero ∧ decC (m.layS.extract 0 j) = 2200 := by
  have hno : ¬ decOk (m.layS.extract 0 j) = true := fun h => by
    obtain ⟨q1, q2⟩ := inv_dec _ h
    have hb := dec_lay (rdM ⟨0, m.layS.extract 0 j⟩) q2 (m.layL.drop j)
    rw [q1, extract_data, List.drop_zero, layS_data, Nat.sub_zero, List.take_append_drop] at hb
    have ha := dec_lay m hv []
    rw [List.append_nil] at ha
    have := ha.2.1.symm.trans hb.2.1
    have h2 := congrArg Rd.L this
    unfold mk Rd.L at h2
    simp at h2
    have h7 : m.layS.size = m.layL.length := by rw [layS_eq]; show m.layL.toArray.size = _; simp
    omega
  unfold decM decC
  rw [if_neg hno, if_neg hno]
  exact ⟨rfl, rfl⟩
theorem dec_more (m : Msg) (hv : m.Val) (j : Nat) (hj : j < m.layS.size) : decM (m.layS ++ m.layS.extract 0 (1 + j)) = Msg.zero ∧ decC (m.layS ++ m.layS.extract 0 (1 + j)) = 2200 := by
  have h7 : m.layS.size = m.layL.length := by rw [layS_eq]; show m.layL.toArray.size = _; simp
  have e : m.layS ++ m.layS.extract 0 (1 + j) = ⟨(m.layL ++ m.layL.take (1 + j)).toArray⟩ := by
    refine ByteArray.ext (Array.toList_inj.1 ?_)
    rw [ByteArray.data_append, Array.toList_append, extract_data, layS_data]
    simp
  rw [e]
  refine (dec_text m hv _).2.2 ?_
  intro h
  have := congrArg List.length h
  rw [List.length_take, List.length_nil] at this
  omega

theorem refE_val (m : Msg) (hv : m.Val) : m.refE = (m.layS, 0) := by
  unfold Msg.refE
  rw [hv.short, hv.may, if_neg (by decide), if_neg (by decide)]
theorem refE_not (m : Msg) (hk : m.Ok) (hv : ¬ m.Val) : m.refE.1 = ⟨#[]⟩ ∧ (m.refE.2 = 2201 ∨ m.refE.2 = 2200) := by
  unfold Msg.refE
  by_cases hl : m.long = true
  · rw [if_pos hl]
    exact ⟨rfl, .inl rfl⟩
  · rw [if_neg hl]
    by_cases hm : m.mayB = false
    · rw [if_pos hm]
      exact ⟨rfl, .inr rfl⟩
    · exact absurd ⟨hk, by simpa using hl, by simpa using hm⟩ hv

set_option maxHeartbeats 4000000 in
set_option maxRecDepth 100000 in
theorem back_not (m : Msg) (A : Option Addr) (c : Nat) (cut : Int) (hk : m.Ok) (hcap : m.list.length ≤ c) (hlen : m.list.length + 2 < 4398046511104) (w : World) (hA : EntsR w A m.list) (hv : ¬ m.Val) :
    Calls Try.prog 5 #[.agg (m.vs (.slice A m.list.length c)).toArray, .int .i64 cut] w fun e w' => e = .returned (.bool true) ∧ Below w.heap.size w w' := by
  have hat := MsgAt.of m A c
  have hC := fun w1 (h : EntsR w1 A m.list) => copyMessage_any m A c (by omega) hcap w1 h
  have hE := fun A' cc w1 (hc : m.list.length ≤ cc) (hn : m.list = [] ∨ A'.isSome = true) (h : EntsR w1 A' m.list) => encode_ref m A' cc hk hc hn w1 h
  obtain ⟨r1, r2⟩ := refE_not m hk hv
  have Hat := Lib.hid hat; have HC := Lib.hid hC; have HE := Lib.hid hE; have HA := Lib.hid hA
  have hc0 : (m.refE.2 == 0) = false := by rcases r2 with h | h <;> (rw [h]; rfl)
  have hc1 : (m.refE.2 != 0) = true := by rcases r2 with h | h <;> (rw [h]; rfl)
  have hse : m.refE.1.toList.isEmpty = true := by rw [r1, nil_toList]; rfl
  clear hat hC hE hk hcap hlen hA hv r1 r2
  unfold MCopyPost at HC
  generalize hx : m.vs (.slice A m.list.length c) = x at *
  clear hx
  generalize m.refE.1 = s at *
  generalize m.refE.2 = ec at *
  go_enter Try.func5, Try.ntmps5
  go_wp2_with (first
    | ((with_reducible refine gate_dst (N := 2) rfl ?_); refine box_event rfl (N := 2) rfl (run_box _ _ _ 36 _ x.toArray rfl rfl _) ?_; intro g2 hg2 v1 hbox hbel; have B1 := Lib.hid (show Blk v1 g2 36 x from hbox); have BLg2 := Lib.hid hbel; have Hg2 := Lib.hid hg2; clear hbox hbel hg2; have KB1 := Lib.hid BLg2.out; have HA1 := Lib.hid (HA.out.below BLg2.out); clear BLg2 Hg2 HA)
    | (go_at_call 13; refine (awake22_any _).mono ?_; rintro e v2 ⟨rfl, hb⟩; have KB2 := Lib.hid (KB1.out.trans (hb.mono KB1.out.size)); have B2 := Lib.hid (B1.out.below hb); have HA2 := Lib.hid (HA1.out.below hb); clear hb KB1 B1 HA1)
    | ((with_reducible refine gate_dst (N := 18) rfl ?_); refine wpList_load_mid rfl 36 _ rfl g2 0 rfl x _ ?hc Try.underlying36 rfl ?hi ?_; (case hc => exact B2.out.range); (case hi => rw [Hat.out.len]; exact infoMsg)))
  refine (HC.out v2 HA2.out).mono ?_
  rintro e v3 ⟨A', cc, rfl, hL, hb⟩
  have KB3 := Lib.hid (KB2.out.trans (hb.mono KB2.out.size))
  have hE2 : ∀ w1, EntsR w1 A' m.list → Calls Try.prog 9 #[.agg (m.vs (.slice A' m.list.length cc)).toArray] w1 fun e w' => e = .returned (.tuple #[.string s, .int .i64 ec]) ∧ Below w1.heap.size w1 w' := fun w1 h => by
    refine HE.out A' cc w1 ?_ ?_ h
    · rcases hL with ⟨_, _, h3⟩ | ⟨L, _, _, h3, _⟩
      · rw [h3]; exact Nat.zero_le _
      · exact h3
    · rcases hL with ⟨_, _, h3⟩ | ⟨L, h3, _⟩
      · exact .inl h3
      · right; rw [h3]; rfl
  have hR3 : EntsR v3 A' m.list := by
    rcases hL with ⟨h1, h2, h3⟩ | ⟨L, h1, h2, h3, h4⟩
    · rw [h3]; intro i e h; simp at h
    · rw [h1]; exact h4.reads
  have HE2 := Lib.hid hE2; have HR3 := Lib.hid hR3
  clear hb hL hE2 hR3 HC HE KB2 B2 HA2
  go_wp2_with fail
  refine (HE2.out v3 HR3.out).mono ?_
  rintro e v4 ⟨rfl, hb⟩
  have KB4 := Lib.hid (KB3.out.trans (hb.mono KB3.out.size))
  clear hb HE2 HR3
  go_wp2_with (first
    | (go_at_call 11; refine (num_any _ _).mono ?_; rintro e w' ⟨rfl, rfl⟩))
  go_ret
  exact ⟨by first | rfl | simp [hse], KB4.out⟩

set_option maxHeartbeats 8000000 in
set_option maxRecDepth 100000 in
theorem back_val (m : Msg) (A : Option Addr) (c : Nat) (cut : Int) (hcut : I64 cut) (hcap : m.list.length ≤ c) (hlen : m.list.length + 2 < 4398046511104) (w : World) (hA : EntsR w A m.list) (hv : m.Val) :
    Calls Try.prog 5 #[.agg (m.vs (.slice A m.list.length c)).toArray, .int .i64 cut] w fun e w' => e = .returned (.bool true) ∧ Below w.heap.size w w' := by
  have hat := MsgAt.of m A c
  have hC := fun w1 (h : EntsR w1 A m.list) => copyMessage_any m A c (by omega) hcap w1 h
  have hE := fun A' cc w1 (hc : m.list.length ≤ cc) (hn : m.list = [] ∨ A'.isSome = true) (h : EntsR w1 A' m.list) => encode_ref m A' cc hv.ok hc hn w1 h
  rw [refE_val m hv] at hE
  dsimp only at hE
  have hd1 := dec_layS m hv
  obtain ⟨hz1, hz2⟩ := layS_small m hv
  have D1 := fun w => decode_any m.layS (Nat.le_trans hz1 (by decide)) w
  have D2 := fun (j : Nat) (hj : j < m.layS.size) w => decode_any (m.layS.extract 0 j) (by rw [ByteArray.size_extract]; omega) w
  have D3 := fun (j : Nat) (hj : j < m.layS.size) w => decode_any (m.layS ++ m.layS.extract 0 (1 + j)) (by rw [ByteArray.size_append, ByteArray.size_extract]; omega) w
  unfold DecPost at D1 D2 D3
  rw [hd1.1, hd1.2] at D1
  have D2' : ∀ (j : Nat) (hj : j < m.layS.size) w, _ := fun j hj w => by
    have := D2 j hj w
    rw [(dec_begin m hv j hj).1, (dec_begin m hv j hj).2] at this
    exact this
  have D3' : ∀ (j : Nat) (hj : j < m.layS.size) w, _ := fun j hj w => by
    have := D3 j hj w
    rw [(dec_more m hv j hj).1, (dec_more m hv j hj).2] at this
    exact this
  have Hat := Lib.hid hat; have HC := Lib.hid hC; have HE := Lib.hid hE; have HA := Lib.hid hA; have HD1 := Lib.hid D1; have HD2 := Lib.hid D2'; have HD3 := Lib.hid D3'
  have Hl := Lib.hid hlen
  clear hat hC hE hcap hlen hA hv hd1 D1 D2 D3 D2' D3'
  unfold MCopyPost at HC
  generalize hx : m.vs (.slice A m.list.length c) = x at *
  clear hx
  generalize m.layS = s at *
  have Hz := Lib.hid (show s.size ≤ 1000000 ∧ 1 ≤ s.size from ⟨hz1, hz2⟩)
  have Hcut := Lib.hid hcut
  clear hz1 hz2 hcut
  go_enter Try.func5, Try.ntmps5
  go_wp2_with (first
    | ((with_reducible refine gate_dst (N := 2) rfl ?_); refine box_event rfl (N := 2) rfl (run_box _ _ _ 36 _ x.toArray rfl rfl _) ?_; intro g2 hg2 v1 hbox hbel; have B1 := Lib.hid (show Blk v1 g2 36 x from hbox); have BLg2 := Lib.hid hbel; have Hg2 := Lib.hid hg2; clear hbox hbel hg2; have KB1 := Lib.hid BLg2.out; have HA1 := Lib.hid (HA.out.below BLg2.out); clear BLg2 Hg2 HA)
    | (go_at_call 13; refine (awake22_any _).mono ?_; rintro e v2 ⟨rfl, hb⟩; have KB2 := Lib.hid (KB1.out.trans (hb.mono KB1.out.size)); have B2 := Lib.hid (B1.out.below hb); have HA2 := Lib.hid (HA1.out.below hb); clear hb KB1 B1 HA1)
    | ((with_reducible refine gate_dst (N := 18) rfl ?_); refine wpList_load_mid rfl 36 _ rfl g2 0 rfl x _ ?hc Try.underlying36 rfl ?hi ?_; (case hc => exact B2.out.range); (case hi => rw [Hat.out.len]; exact infoMsg)))
  refine (HC.out v2 HA2.out).mono ?_
  rintro e v3 ⟨A', cc, rfl, hL, hb⟩
  have KB3 := Lib.hid (KB2.out.trans (hb.mono KB2.out.size))
  have B3 := Lib.hid (B2.out.below hb)
  have HA3 := Lib.hid (HA2.out.below hb)
  have hE2 : ∀ w1, EntsR w1 A' m.list → Calls Try.prog 9 #[.agg (m.vs (.slice A' m.list.length cc)).toArray] w1 fun e w' => e = .returned (.tuple #[.string s, .int .i64 0]) ∧ Below w1.heap.size w1 w' := fun w1 h => by
    refine HE.out A' cc w1 ?_ ?_ h
    · rcases hL with ⟨_, _, h3⟩ | ⟨L, _, _, h3, _⟩
      · rw [h3]; exact Nat.zero_le _
      · exact h3
    · rcases hL with ⟨_, _, h3⟩ | ⟨L, h3, _⟩
      · exact .inl h3
      · right; rw [h3]; rfl
  have hR3 : EntsR v3 A' m.list := by
    rcases hL with ⟨h1, h2, h3⟩ | ⟨L, h1, h2, h3, h4⟩
    · rw [h3]; intro i e h; simp at h
    · rw [h1]; exact h4.reads
  have HE2 := Lib.hid hE2; have HR3 := Lib.hid hR3
  clear hb hL hE2 hR3 HC KB2 B2 HA2
  go_wp2_with fail
  refine (HE2.out v3 HR3.out).mono ?_
  rintro e v4 ⟨rfl, hb⟩
  have KB4 := Lib.hid (KB3.out.trans (hb.mono KB3.out.size))
  have B4 := Lib.hid (B3.out.below hb)
  have HA4 := Lib.hid (HA3.out.below hb)
  clear hb HE2 HR3 KB3 B3 HA3
  go_wp2_with (first
    | (go_at_call 11; refine (num_any _ _).mono ?_; rintro e w' ⟨rfl, rfl⟩))
  refine (HD1.out v4).mono ?_
  rintro e v5 ⟨A2, c2, rfl, ho, hb⟩
  have KB5 := Lib.hid (KB4.out.trans (hb.mono KB4.out.size))
  have B5 := Lib.hid (B4.out.below hb)
  have HA5 := Lib.hid (HA4.out.below hb)
  have hE5 : ∀ w1, EntsR w1 A2 m.list → Calls Try.prog 9 #[.agg (m.vs (.slice A2 m.list.length c2)).toArray] w1 fun e w' => e = .returned (.tuple #[.string s, .int .i64 0]) ∧ Below w1.heap.size w1 w' := fun w1 h => by
    refine HE.out A2 c2 w1 ?_ ?_ h
    · rcases ho with ⟨h3, _, _⟩ | ⟨L, _, _, h3, _⟩
      · rw [h3]; exact Nat.zero_le _
      · rw [h3]; exact Nat.le_refl _
    · rcases ho with ⟨h3, _, _⟩ | ⟨L, _, h3, _⟩
      · exact .inl h3
      · right; rw [h3]; rfl
  have HE5 := Lib.hid hE5
  have HR5 := Lib.hid ho.reads
  have Hyt := Lib.hid (MsgAt.of m A2 c2)
  clear hb ho hE5 HE KB4 B4 HA4 HD1
  generalize hy : m.vs (.slice A2 m.list.length c2) = y at *
  clear hy
  go_wp2_with (first
    | ((with_reducible refine gate_dst (N := 7) rfl ?_); refine box_event rfl (N := 7) rfl (run_allocM _ _ rfl _) ?_; intro g7 hg7 v6 hbox hbel; have Bg7 := Lib.hid (show Blk v6 g7 36 zcs from hbox); have BLg7 := Lib.hid hbel; have Hg7 := Lib.hid hg7; clear hbox hbel hg7)
    | ((with_reducible refine gate_store (t := 36) (p := 7) rfl ?_); refine wpList_store_mid rfl 36 _ _ rfl g7 0 y.toArray rfl rfl ?ht ?hi ?h1 ?_; (case ht => exact Bg7.out.there _ (by rw [List.size_toArray, Hyt.out.len]; exact Nat.le_refl 33)); (case hi => rw [List.size_toArray, Hyt.out.len]; exact infoMsg); (case h1 => exact all_oneCell_toArray Hyt.out.one); have B2g7 := Lib.hid (Bg7.out.setAll y (by rw [Hyt.out.len]; rfl)); have Kg7 := Lib.hid (Keeps.setCells (S := fun k => k = g7) y 0 v6 (Keeps.refl _ _) (fun _ => rfl)); change wpList _ _ _ _ _ (v6.setCells g7 0 y); generalize v6.setCells g7 0 y = v7 at B2g7 Kg7 ⊢; have BMg7 := Lib.hid (BLg7.out.trans (Kg7.out.below BLg7.out.size (fun k hk => by show ¬ k = g7; have := Hg7.out; omega))); clear Bg7 BLg7 Kg7 Hg7; have B7 := Lib.hid (B5.out.below BMg7.out); have KB7 := Lib.hid (KB5.out.trans (BMg7.out.mono KB5.out.size)); have HA7 := Lib.hid (HA5.out.below BMg7.out); have HR7 := Lib.hid (HR5.out.below BMg7.out); have C7 := B2g7; clear B5 KB5 HA5 HR5 BMg7 B2g7)
    | ((with_reducible refine gate_dst (N := 34) rfl ?_); refine wpList_load_mid rfl 36 _ rfl g7 0 rfl y _ ?hc Try.underlying36 rfl ?hi ?_; (case hc => exact C7.out.range); (case hi => rw [Hyt.out.len]; exact infoMsg)))
  refine (HE5.out v7 HR7.out).mono ?_
  rintro e v8 ⟨rfl, hb⟩
  have KB8 := Lib.hid (KB7.out.trans (hb.mono KB7.out.size))
  have B8 := Lib.hid (B7.out.below hb)
  have C8 := Lib.hid (C7.out.below hb)
  have HA8 := Lib.hid (HA7.out.below hb)
  have HR8 := Lib.hid (HR7.out.below hb)
  clear hb HE5 KB7 B7 C7 HA7 HR7
  obtain ⟨j, hj, hje⟩ : ∃ j : Nat, j < s.size ∧ wrap64 ((IntKind.u64.wrap cut).tmod (s.size : Int)) = (j : Int) := by
    have h1 := Hz.out
    have h2 : 0 ≤ IntKind.u64.wrap cut := by rw [u64_wrap]; omega
    have h3 : (IntKind.u64.wrap cut).tmod (s.size : Int) = IntKind.u64.wrap cut % (s.size : Int) := Int.tmod_eq_emod_of_nonneg h2
    have h4 := Int.emod_nonneg (IntKind.u64.wrap cut) (show (s.size : Int) ≠ 0 by omega)
    have h5 := Int.emod_lt_of_pos (IntKind.u64.wrap cut) (show (0 : Int) < s.size by omega)
    rw [h3]
    generalize IntKind.u64.wrap cut % (s.size : Int) = r at *
    refine ⟨r.toNat, by omega, ?_⟩
    clear h2 h3
    unfold wrap64
    omega
  have hz1 : (0 : Int) < (s.size : Int) := by have := Hz.out; omega
  have hz2 : (s.size : Int) ≤ 1000000 := by have := Hz.out; omega
  have hj0 : (0 : Int) ≤ (j : Int) := Int.natCast_nonneg _
  have hj1 : (j : Int) ≤ (s.size : Int) := by omega
  have hj2 : (1 : Int) + (j : Int) ≤ (s.size : Int) := by omega
  have hj3 : (0 : Int) ≤ 1 + (j : Int) := by omega
  have hj4 : (1 : Int) + (j : Int) ≤ 1000000 := by have := Hz.out; omega
  have hj5 : (1 + (j : Int)).toNat = 1 + j := by omega
  have hex : (s.extract 0 (1 + j)).size = 1 + j := by rw [ByteArray.size_extract]; omega
  have hmin : min (1 + j) s.size = 1 + j := Nat.min_eq_left (by omega)
  have hf := lt_False (n := s.size + (1 + j)) (by have := Hz.out; omega)
  have Hj := Lib.hid hj
  clear hj
  go_wp2_with fail
  refine (HD2.out j Hj.out v8).mono ?_
  rintro e v9 ⟨A3, c3, rfl, ho, hb⟩
  have KB9 := Lib.hid (KB8.out.trans (hb.mono KB8.out.size))
  have B9 := Lib.hid (B8.out.below hb)
  have C9 := Lib.hid (C8.out.below hb)
  have HA9 := Lib.hid (HA8.out.below hb)
  have HR9 := Lib.hid (HR8.out.below hb)
  have H3t := Lib.hid (MsgAt.of Msg.zero A3 c3)
  clear hb ho KB8 B8 C8 HA8 HR8 HD2
  generalize hzz : Msg.zero.vs (.slice A3 Msg.zero.list.length c3) = z3 at *
  clear hzz
  go_wp2_with (first
    | ((with_reducible refine gate_dst (N := 11) rfl ?_); refine box_event rfl (N := 11) rfl (run_allocM _ _ rfl _) ?_; intro g11 hg11 v10 hbox hbel; have Bg11 := Lib.hid (show Blk v10 g11 36 zcs from hbox); have BLg11 := Lib.hid hbel; have Hg11 := Lib.hid hg11; clear hbox hbel hg11)
    | ((with_reducible refine gate_store (t := 36) (p := 11) rfl ?_); refine wpList_store_mid rfl 36 _ _ rfl g11 0 z3.toArray rfl rfl ?ht ?hi ?h1 ?_; (case ht => exact Bg11.out.there _ (by rw [List.size_toArray, H3t.out.len]; exact Nat.le_refl 33)); (case hi => rw [List.size_toArray, H3t.out.len]; exact infoMsg); (case h1 => exact all_oneCell_toArray H3t.out.one); have B2g11 := Lib.hid (Bg11.out.setAll z3 (by rw [H3t.out.len]; rfl)); have Kg11 := Lib.hid (Keeps.setCells (S := fun k => k = g11) z3 0 v10 (Keeps.refl _ _) (fun _ => rfl)); change wpList _ _ _ _ _ (v10.setCells g11 0 z3); generalize v10.setCells g11 0 z3 = v11 at B2g11 Kg11 ⊢; have BMg11 := Lib.hid (BLg11.out.trans (Kg11.out.below BLg11.out.size (fun k hk => by show ¬ k = g11; have := Hg11.out; omega))); clear Bg11 BLg11 Kg11 Hg11; have B11 := Lib.hid (B9.out.below BMg11.out); have KB11 := Lib.hid (KB9.out.trans (BMg11.out.mono KB9.out.size)); have HA11 := Lib.hid (HA9.out.below BMg11.out); have HR11 := Lib.hid (HR9.out.below BMg11.out); have C11 := Lib.hid (C9.out.below BMg11.out); clear B9 KB9 HA9 HR9 BMg11 B2g11 C9))
  refine (HD3.out j Hj.out v11).mono ?_
  rintro e v12 ⟨A4, c4, rfl, ho, hb⟩
  have KB12 := Lib.hid (KB11.out.trans (hb.mono KB11.out.size))
  have B12 := Lib.hid (B11.out.below hb)
  have C12 := Lib.hid (C11.out.below hb)
  have HA12 := Lib.hid (HA11.out.below hb)
  have HR12 := Lib.hid (HR11.out.below hb)
  have H4t := Lib.hid (MsgAt.of Msg.zero A4 c4)
  clear hb ho KB11 B11 C11 HA11 HR11 HD3
  generalize hzz : Msg.zero.vs (.slice A4 Msg.zero.list.length c4) = z4 at *
  clear hzz
  have hse : (s.toList == s.toList) = true := beq_self_eq_true _
  go_wp2_with (first
    | ((with_reducible refine gate_dst (N := 13) rfl ?_); refine box_event rfl (N := 13) rfl (run_allocM _ _ rfl _) ?_; intro g13 hg13 v13 hbox hbel; have Bg13 := Lib.hid (show Blk v13 g13 36 zcs from hbox); have BLg13 := Lib.hid hbel; have Hg13 := Lib.hid hg13; clear hbox hbel hg13)
    | ((with_reducible refine gate_store (t := 36) (p := 13) rfl ?_); refine wpList_store_mid rfl 36 _ _ rfl g13 0 z4.toArray rfl rfl ?ht ?hi ?h1 ?_; (case ht => exact Bg13.out.there _ (by rw [List.size_toArray, H4t.out.len]; exact Nat.le_refl 33)); (case hi => rw [List.size_toArray, H4t.out.len]; exact infoMsg); (case h1 => exact all_oneCell_toArray H4t.out.one); have B2g13 := Lib.hid (Bg13.out.setAll z4 (by rw [H4t.out.len]; rfl)); have Kg13 := Lib.hid (Keeps.setCells (S := fun k => k = g13) z4 0 v13 (Keeps.refl _ _) (fun _ => rfl)); change wpList _ _ _ _ _ (v13.setCells g13 0 z4); generalize v13.setCells g13 0 z4 = v14 at B2g13 Kg13 ⊢; have BMg13 := Lib.hid (BLg13.out.trans (Kg13.out.below BLg13.out.size (fun k hk => by show ¬ k = g13; have := Hg13.out; omega))); clear Bg13 BLg13 Kg13 Hg13; have B14 := Lib.hid (B12.out.below BMg13.out); have KB14 := Lib.hid (KB12.out.trans (BMg13.out.mono KB12.out.size)); have HA14 := Lib.hid (HA12.out.below BMg13.out); have HR14 := Lib.hid (HR12.out.below BMg13.out); have C14 := Lib.hid (C12.out.below BMg13.out); clear B12 KB12 HA12 HR12 BMg13 B2g13 C12)
    | (go_at_call 11; refine (num_any _ _).mono ?_; rintro e w' ⟨rfl, rfl⟩)
    | ((with_reducible refine gate_dst (N := 71) rfl ?_); refine gate_guard (by rfl) ?_; refine wpList_load_mid rfl 36 _ rfl g7 0 rfl y _ ?hc Try.underlying36 rfl ?hi ?_; (case hc => exact C14.out.range); (case hi => rw [Hyt.out.len]; exact infoMsg))
    | ((with_reducible refine gate_dst (N := 72) rfl ?_); refine gate_guard (by rfl) ?_; refine wpList_load_mid rfl 36 _ rfl g2 0 rfl x _ ?hc Try.underlying36 rfl ?hi ?_; (case hc => exact B14.out.range); (case hi => rw [Hat.out.len]; exact infoMsg))
    | (go_at_call 16; refine (same_raw m A2 A c2 c y x Hyt.out Hat.out (by have := Hl.out; omega) _ HR14.out HA14.out).mono ?_; rintro e v15 ⟨rfl, hb⟩; have KB15 := Lib.hid (KB14.out.trans (hb.mono KB14.out.size)); clear hb))
  go_ret
  exact ⟨rfl, KB15.out⟩

theorem back_walk (m : Msg) (A : Option Addr) (c : Nat) (cut : Int) (hcut : I64 cut) (hk : m.Ok) (hcap : m.list.length ≤ c) (hlen : m.list.length + 2 < 4398046511104) (w : World) (hA : EntsR w A m.list) :
    Calls Try.prog 5 #[.agg (m.vs (.slice A m.list.length c)).toArray, .int .i64 cut] w fun e w' => e = .returned (.bool true) ∧ Below w.heap.size w w' := by
  by_cases hv : m.Val
  · exact back_val m A c cut hcut hcap hlen w hA hv
  · exact back_not m A c cut hk hcap hlen w hA hv

end Go.Proofs.Ytibcadfpengacaa

-- BackRow
set_option linter.unusedVariables false
namespace Go.Proofs.Ytibcadfpengacaa.wireBack
open Go.ChangeShapes Go.WideShapes Go.ChangeAt Go.RowKit
open Go.ChangeMaps (open_string shut_string)

theorem own : ownKnob Try.prog.godebug = none := by kernel_rfl
theorem laid : laidOutB Try.prog = true := by kernel_rfl
theorem readable : Try.prog.readableRec 36 = true := by kernel_rfl
theorem rowed : 36 < Try.prog.types.size := of_decide_eq_true (by kernel_rfl)
set_option maxRecDepth 100000 in
theorem lifted (os : Os) (started : os.Started) (H : Type) (enc : TypeId × Value → H) :
    ReturnsInHanded {} Try.checked os 5 .any (Rows.wireBackSpec.pre6 enc Try.prog Try.f5 Rows.wireBackRow.domain false) (Rows.wireBackSpec.post enc Try.prog Try.f5 false true false false) := by
  refine returnsInHanded_of_change_sized (C := Try.checked) own started (by kernel_rfl) Try.func5
    (ChangeSpec.witness6 (enc := enc) (C := Try.checked) false ⟨#[], #[.agg zcs.toArray, .int .i64 0], []⟩ 8 (by kernel_rfl) (by kernel_rfl) (by kernel_rfl) (by kernel_rfl)) ?_
  intro W base args ds gs before hval0 hW hcnd hsz0 _
  have hsz : (DataW.weightsEach Try.prog (Try.f5.params.toList ++ Rows.wireBackSpec.plain.varTypes Try.prog) (ds ++ gs)).all (· ≤ reachBytes) = true := hsz0
  have hval : ∀ (j : Nat) t v, Try.f5.params[j]? = some t → args[j]? = some v → Value.okWide Try.prog W .any base t v := hval0
  have hW' := hW
  obtain ⟨p, q, hA0, hV, rfl, hfz, hnd⟩ := hW
  have hA : DataW.TrodAll enc Try.prog W 0 (fun _ => true) true Try.f5.params.toList args.toList ds p := hA0
  rw [Try.params5] at hA hval hsz
  obtain ⟨v0, vs0, d0, ds0, p0, q0, hargs, rfl, rfl, h0, r0⟩ := trodAll_cons hA
  obtain ⟨v1, vs1, d1, ds1, p1, q1, rfl, rfl, rfl, h1, r1⟩ := trodAll_cons r0
  obtain ⟨rfl, rfl, rfl⟩ := trodAll_nil r1
  obtain rfl : args = #[v0, v1] := by cases args; simp_all
  obtain ⟨rfl, rfl⟩ := trodVars_none hV
  obtain ⟨fuel, ht⟩ := h0
  have hreach : Reach Try.prog 36 d0 := fun n hn => by
    have := List.all_eq_true.1 hsz n (DataW.weights_mem_each (j := 0) (t := 36) (d := d0) rfl rfl n hn)
    simpa using this
  obtain ⟨a1, rfl, rfl, rfl, w1⟩ := open_int Try.underlying3 (hval 1 3 v1 rfl rfl) h1
  obtain ⟨m, A, c, hcs, hk, hcap, hlen, hR, hnil⟩ := open_msg ht hreach
  have hv := agg_of_cells hcs rfl
  clear hA0 hval0 hval hsz0 hsz hargs hreach
  rw [hv]
  refine (back_walk m A c a1 (i64_of w1) hk hcap hlen W hR).mono fun e W' ⟨he, bel⟩ => ?_
  subst he
  rw [← hv]
  exact ⟨_, rfl, _, _, _, [], _, [], hW', trodAll_mk1 (shut_bool Try.underlying4 _), (trodAll_cons_mk (p := p0) ⟨fuel, DataW.trod_stays (kids_book laid readable) (book_sized readable) (fun h => by cases h) ⟨rowed, book_self _⟩ ht (fun x hx => bel.same (DataW.trod_lt _ _ _ _ ht x hx)) (fun x hx => decide_eq_true (DataW.trod_lt _ _ _ _ ht x hx))⟩ (trodAll_cons_mk (shut_int Try.underlying3 w1) trodAll_mk0)), rfl, bel.frame _, fun h => by cases h⟩
theorem over : Rows.wireBackRow.holds Try.pinned (OpenSpec.ofChange Rows.wireBackSpec) :=
  OpenClaim.holds_of_wide 5 Try.f5 rfl rfl rfl rfl rfl rfl rfl ⟨rfl, rfl, rfl, rfl, rfl⟩ rfl rfl rfl rfl rfl (by kernel_rfl) Try.func5 (by kernel_rfl)
    (of_decide_eq_true (by kernel_rfl)) (by unfold Func.isWrapper; first | (rw [if_pos (by decide +kernel)]; kernel_rfl) | (rw [if_neg (by decide +kernel)]; exact ⟨rfl, rfl⟩))
    (fun os started H enc _ => lifted os started H enc)
end Go.Proofs.Ytibcadfpengacaa.wireBack
namespace Go.Proofs.Ytibcadfpengacaa
theorem wireBack_holds : Rows.WireBackSaid := wireBack.over
#print axioms wireBack_holds
end Go.Proofs.Ytibcadfpengacaa
